import Derived.Test.YtieofkhcboolkaaGreatDoorVan
import Derived.Test.YtieofkhcboolkaaGreatDoorVaf
import Derived.Test.YtieofkhcboolkaaGreatDoorVaj
import Derived.Test.YtieofkhcboolkaaGreatDoorVai
import Derived.Test.YtieofkhcboolkaaGreatDoorVak
set_option linter.unusedSimpArgs false
set_option linter.unusedVariables false
set_option maxRecDepth 100000
namespace Go.AW
open Go.Proofs.Tryz
theorem OV:∀(ts:List Tm) (l:List Int),(∀t∈ts,t.wf=true)→l.Nodup→(bT ts l).Nodup
 | [],l,_,h=>h
 | t::ts,l,hw,h=>OV ts _ (fun x hx=>hw x (by simp [hx])) ((W7 t (hw t (by simp)) l).2.1 h)
theorem E9:∀l:List Tm,(∀t∈l,t.nodes≤120)→bB Tm.nodes l≤l.length*120
 | [],_=>by simp [bB]
 | x::l,h=>by
  simp only[bB,aU]
  have:=E9 l fun y hy=>h y (by simp [hy])
  have:=h x (by simp)
  omega
abbrev F5:=zi aW (zi fJ (zi cA bR))
theorem aW7{N:Int}(l:List Tm)(hok:∀t∈l,bG N t)(hl:l.length≤1000)(st:aB):aD prog 224 [.slice (l.map Tm.av)] st (fun r st'=>r=.slice ((lB l).map Tm.av)∧st'=st):=by
 have hnd:=E9 l fun t ht=>(hok t ht).2
 have SZ:=OV l [] (fun t ht=>Tm.tZ t (hok t ht).1.2.1) oF
 have eT:=fun v=>yF (v:=v) l [] fun t ht=>(hok t ht).1.2.1
 have hvl:=AT l []
 simp only[aZ] at hvl
 refine aD.done ?_
 refine wF [1000000] 1 func224 ntmps224 rfl rfl ?_
 intro _
 simp only[aA,seval,F5]
 refine oW (σ:=Unit) [1000000] [0,2] l 1 3 (fun i _=>(bT (l.take i) []).map iv) (fun _ _=>True) (fun i _=>[(4,.int .i64 i)]) (fun _ _=>st) (fun i _ _ e he=>by simp only[cB] at he;obtain⟨t,_,rfl⟩:=he;exact⟨rfl,rfl⟩) (by decide +kernel) ⟨(),0,trivial,fun h=>absurd rfl h,aO.mk (by simp only[iV,jA,bT,aY,aA,↓aS,seval])⟩ (fun i x s b hx hlt bL hdr hinv hb=>?_) (fun s b hge hinv=>?_)
 case refine_1=>
  have hw:=bF (n:=(i:Int)+1)
  have hat:=bH (av:=Tm.av) bQ hx (aN x)
  have hst:=JM Tm.nodes hx
  have hvl:=AT (l.take i) []
  simp only[aZ,gZ] at hvl
  have htk:x.vars (bT (l.take i) [])=bT (l.take (i+1)) []:=by
   rw[dY,hx,WU]
   try rfl
  simp only[bL,aF,hat,a7,aN,aA,seval,F5]
  refine(HN x (bT (l.take i) []) b st (Tm.tZ x (hok x (cH hx)).1.2.1) hb (by omega)).mono ?_
  rintro _ _ ⟨b',rfl,rfl,hb'⟩
  rw[htk] at hb' ⊢
  simp only[aA,seval]
  exact⟨(),b',hb',aO.mk (by simp only[hw,aA,seval])⟩
 simp only[hge,eW,iO,nS,kJ,dS,aF,aA,seval,F5]
 have hR:lB l=l.map fun t=>t.aM fun v=>vr (eC v (bT l []) 0):=rfl
 rw[hR]
 generalize bT l []=vars at *
 refine oW (σ:=Unit) [1000000] [0,2,3] l 4 5 (fun i _=>((l.take i).map fun t=>t.aM fun v=>vr (eC v vars 0)).map Tm.av) (fun _ _=>True) (fun i _=>[(6,.int .i64 i)]) (fun _ _=>st) (fun i _ _ e he=>by simp only[cB] at he;obtain⟨t,_,rfl⟩:=he;exact⟨cP _,aN _⟩) (by decide +kernel) ⟨(),0,trivial,fun h=>absurd rfl h,aO.mk (by simp only[iV,jA,aY,aA,↓aS,seval])⟩ (fun i x s b hx hlt bL hdr hinv hb=>?_) (fun s b hge hinv=>?_)
 case refine_2=>
  simp only[hge,eW,iO,kJ,dS,aF,aA,seval,F5]
  exact⟨rfl,aL.refl _⟩
 have hw:=bF (n:=(i:Int)+1)
 have hat:=bH (av:=Tm.av) bQ hx (aN x)
 have hxm:=cH hx
 have cM:(((l.take i).map fun t=>t.aM fun v=>vr (eC v vars 0)).map Tm.av).length=i:=by simp only[aF,c7];omega
 simp only[bL,aF,hat,a7,aN,aA,seval,F5]
 refine(ZV vars SZ (by omega) x _ (hok x hxm).1.small (hok x hxm).1.2.1 (fun v hv=>(eT v).2 (.inr ⟨x,hxm,hv⟩))).to ?_
 simp only[a7,aN,cP,aA,seval,F5]
 refine eO bQ jE jF rfl rfl (fQ (aN _) (cI _)) (gO _) hb (by simp only[cM,aU,aZ];omega) (by simp only[cM,aU,aZ];omega) (fun b' hb'=>?_)
 rw[show(((l.take i).map fun t=>t.aM fun v=>vr (eC v vars 0)).map Tm.av)++ [(x.aM fun v=>vr (eC v vars 0)).av]=((l.take (i+1)).map fun t=>t.aM fun v=>vr (eC v vars 0)).map Tm.av by rw[dY,hx];simp] at hb' ⊢
 simp only[aA,seval]
 exact⟨(),b',hb',aO.mk (by simp only[hw,aA,seval])⟩
abbrev aQR:=zi aW (zi cF (zi cA bR))
theorem aWY(l:List Tm)(st:aB):aD prog 72 [.slice (l.map Tm.av)] st (fun r st'=>r=.bool (l.all Tm.valid)∧st'=st):=by
 refine wF [1000000] 1 func72 ntmps72 rfl rfl ?_
 simp only[eM,AV.fits,eS,aF]
 intro ⟨hl,_⟩
 simp only[aA,seval]
 refine dX (σ:=Unit) [1000000] [0] l (fun i _=>((l.drop i).all Tm.valid)=(l.all Tm.valid)) (fun i _=>[(3,.int .i64 i)]) (fun _ _=>st) (by decide +kernel) ⟨(),rfl,aO.mk (by simp only[aA,↓aS,seval])⟩ (fun i x _ hx hlt bL hdr hinv=>?_) (fun _ hge hinv=>?_)
 case refine_2=>
  simp only[hge,aF,aA,seval,aQR]
  rw[←hinv,kB]
  try rfl
 have hw:=bF (n:=(i:Int)+1)
 rw[hdr,kY] at hinv
 simp only[bL,aF,bH (av:=Tm.av) bQ hx (aN x),a7,aN,aA,seval,aQR]
 refine(Q5 x _).to ?_
 simp only[aA,seval]
 refine aP (fun h2=>?_) (fun h2=>?_)
 · simp only[aA,seval]
   simp only[lJ] at h2
   rw[←hinv,h2]
   try rfl
 · simp only[tH] at h2
   rw[h2,dU] at hinv
   simp only[aA,seval]
   exact⟨(),hinv,aO.mk (by simp only[hw,aA,seval])⟩
theorem aNE(v:Int):∀(l:List Int) (i:Int),v∈l→i≤eC v l i∧eC v l i<i+l.length
 | [],i,h=>by cases h
 | x::l,i,h=>by
  simp only[eC,aU]
  split
  · omega
  · rename_i e
    have h':v∈l:=by
     rcases cY.1 h with h | h
     · exact absurd h e
     · exact h
    have:=aNE v l (i+1) h'
    omega
theorem aO2{N:Int}{l:List Tm}(hok:∀t∈l,bG N t)(hf:l.all eQ=true):(lB l).all Tm.valid=decide ((bT l []).length≤26):=by
 have eT:=fun v=>yF (v:=v) l [] fun t ht=>(hok t ht).1.2.1
 have SZ:=OV l [] (fun t ht=>Tm.tZ t (hok t ht).1.2.1) oF
 have hro:∀t∈l,cJ (bT l []).length (t.aM fun v=>vr (eC v (bT l []) 0)):=fun t ht=>
  (hok t ht).1.aM fun v hv=>by
   have:=aNE v (bT l []) 0 ((eT v).2 (.inr ⟨t,ht,hv⟩))
   exact I4 (by omega) (by omega)
 have eR:∀t∈l,eQ (t.aM fun v=>vr (eC v (bT l []) 0))=true:=fun t ht=>by
  have:=dW.1 hf t ht
  unfold eQ at this ⊢
  rw[show(t.aM fun v=>vr (eC v (bT l []) 0))=b9 (fun v=>eC v (bT l []) 0) t from rfl,UY _ (hok t ht).1.2.1,NS _ (hok t ht).1.2.1]
  exact this
 rw[wK,dW,bK]
 constructor
 · intro h
   refine yL fun hn=>?_
   obtain⟨w,hw⟩:∃w,(bT l [])[26]?=some w:=⟨_,d4 (by omega)⟩
   rcases (eT w).1 (cH hw) with h1 | ⟨t,ht,hv⟩
   · cases h1
   · have E3:=h _ (cB.2 ⟨t,ht,rfl⟩)
     have hin:=(Tm.KG E3).2.2 26 ((AY t).2 ⟨w,hv,by rw[TO SZ hw 0,AZ];simp⟩)
     omega
 · intro h x hx
   obtain⟨t,ht,rfl⟩:=cB.1 hx
   have h1:=aOJ.2 ((hro t ht).mono (show((bT l []).length:Int)≤26 by omega))
   rw[Tm.aSA h1]
   exact eR t ht
theorem a9I{N:Int}{l:List Tm}(hok:∀t∈l,bG N t):(lB l).length=l.length:=by unfold lB;rw[aF]
abbrev yD:=zi aW (zi cF (zi fJ (zi cA (zi tD bR))))
theorem aXY{N:Nat}{σ:Sub}(hg:cQ σ)(ho:cX (bG N) σ)(vars:List Int)(hv:∀v∈vars,0≤v∧v<(N:Int))(hl:vars.length≤1000)(st:aB) :
 aD prog 135 [.slice (vars.map iv),.slice (cZ N σ)] st (fun r st'=>st'=st∧∃a,r=.tup [bU a,.bool (jD σ vars).isSome]∧∀x,jD σ vars=some x→a=x):=by
 obtain⟨rk,B,G⟩:=hg.rs
 refine aD.nR (aD.soft ?_)
 refine wF [1000000] 2 func135 ntmps135 rfl rfl ?_
 intro _
 simp only[aA,seval,yD]
 intro b4 h4
 refine oW (σ:=Unit) [1000000] [0,1,4] vars 4 6 (fun i _=>((vars.take i).map (rs σ)).map Tm.av) (fun i _=>((vars.take i).map (rs σ)).all eQ=true) (fun i _=>[(5,.bool false),(7,.int .i64 i)]) (fun _ _=>st.aC b4 (.cells [.fslice []])) (fun i _ _ e he=>by simp only[cB] at he;obtain⟨t,_,rfl⟩:=he;exact⟨cP _,aN _⟩) (by decide +kernel) ⟨(),0,rfl,fun h=>absurd rfl h,aO.mk (by simp only[iV,jA,aY,aA,↓aS,seval])⟩ (fun i x s b hx hlt bL hdr hinv hb=>?_) (fun s b hge hinv=>?_)
 · have hw:=bF (n:=(i:Int)+1)
   have hxm:=cH hx
   obtain⟨hx0,hx1⟩:=hv x hxm
   have hvr:bG N (vr x):=⟨I4 hx0 hx1,by rw[vr,Tm.gJ];simp [bB]⟩
   have hat:c8 prog 26 (.slice (vars.map iv)) (.int .i64 (i:Int))=some (.pptr (.int .i64 x)):=bH (av:=iv) fO hx rfl
   have cM:(((vars.take i).map (rs σ)).map Tm.av).length=i:=by simp only[aF,c7];omega
   have dV:((vars.take (i+1)).map (rs σ)).all eQ=eQ (rs σ x):=by
    rw[dY,hx]
    simp only[DL,o7,bA,aY,DF,hinv,kY,List.all_nil,wJ,dU]
   simp only[bL,aF,hat,aA,seval,yD]
   refine(ZY x _).to ?_
   simp only[aA,seval]
   refine(aAC hg ho (vr x) hvr _).mono ?_
   rintro _ _ ⟨rfl,y,rfl,hy⟩
   rw[uL] at hy ⊢
   simp only[aN,cI,cP,aA,↓aS,seval,yD]
   refine aP (fun h=>?_) (fun h=>?_)
   · have h':eQ (rs σ x)=false:=by simpa using h
     have rF:jD σ vars=none:=by
      unfold jD
      rw[aE]
      rintro⟨h1,_⟩
      have:=dW.1 h1 _ (cB.2 ⟨x,hxm,rfl⟩)
      rw[h'] at this;cases this
     have hbo:∀l,(l≠[]→st b=none)→(l≠[]→b≠b4)→(bE (st.aC b4 (.cells [.fslice []])) b l) b4=some (.cells [.fslice []]):=fun l _ h2=>by
      cases l with
      | nil=>exact aB.aJ _ _ _
      | cons e l=>simp only[bE];rw[aB.aH _ _ (c9 (h2 (by simp)))];exact aB.aJ _ _ _
     have hnb:((vars.take i).map (rs σ)).map Tm.av≠[]→b≠b4:=fun h=>by rintro rfl;have:=hb h;rw[aB.aJ] at this;cases this
     have a5D:((vars.take i).map (rs σ)).map Tm.av≠[]→st b=none:=fun h=>by have:=hb h;rw[aB.aH _ _ (hnb h)] at this;exact this
     have e1:=hbo _ a5D hnb
     simp only[aK,e1,aA,seval,yD]
     rw[rF]
     refine⟨st,?_,rfl,[],rfl,fun x h=>by cases h⟩
     intro z
     by_cases hz:z=b4
     · subst hz;simp [aB.aC,h4]
     · rw[aB.aH _ _ hz]
       exact((aL.bE (aL.refl _) hb).trans ((aL.refl st).aC h4)) z
   · have h':eQ (rs σ x)=true:=by simpa using h
     obtain rfl:=hy h'
     simp only[a7,aN,cP,aA,seval,yD]
     refine eO bQ jE jF rfl rfl (fQ (aN _) (cI _)) (gO _) hb (by simp only[cM,aU,aZ];omega) (by simp only[cM,aU,aZ];omega) (fun b' hb'=>?_)
     rw[show(((vars.take i).map (rs σ)).map Tm.av)++ [(rs σ x).av]=((vars.take (i+1)).map (rs σ)).map Tm.av by rw[dY,hx];simp] at hb' ⊢
     simp only[hw,aA,seval]
     exact⟨(),b',by rw[dV];exact h',hb',aO.mk (by simp only[aA,seval])⟩
 · rw[dS] at hinv
   have hok:∀t∈vars.map (rs σ),bG N t:=fun t ht=>by
    obtain⟨v,h,rfl⟩:=cB.1 ht
    obtain⟨h0,h1⟩:=hv v h
    have hf:=dW.1 hinv _ ht
    unfold eQ at hf
    simp only[bV,bK] at hf
    exact⟨G.mN ho.mN v h0 h1,hf.2⟩
   have E3:=aO2 hok hinv
   have rF:jD σ vars=if(bT (vars.map (rs σ)) []).length≤26 then some (lB (vars.map (rs σ))) else none:=by
    unfold jD
    simp only[hinv,uX]
   have a5Q:=fun st=>aW7 _ hok (by rw[aF];exact hl) st
   have dV:=fun st=>aWY (lB (vars.map (rs σ))) st
   rw[E3] at dV
   generalize lB (vars.map (rs σ))=R at *
   generalize (bT (vars.map (rs σ)) []).length=m at *
   simp only[hge,eW,rB,iO,H1,kJ,dS,xF,aF,aA,seval,yD]
   refine(a5Q _).to ?_
   simp only[aA,↓aS,seval,yD]
   refine wP [(1,1),(0,2),(2,2),(3,2),(4,0),(5,1)] [1,0,2,3,5] mixed ?_
   simp only[aA,seval,yD]
   refine gP (dV _) ?_
   simp only[aK,aA,seval,yD]
   refine⟨st,(aL.refl _).aC h4,rfl,R,?_,fun x h=>?_⟩
   · rw[rF]
     simp only[iF,jJ,rU,nE,bA,aY]
     by_cases h:m≤26
     · simp [h]
     · simp [h]
   · rw[rF] at h
     split at h
     · cases h;rfl
     · cases h
theorem UW(k n:Int)(s:ByteArray)(ts:List Tm)(rest:List RG)(left:List Nat)(σ:Sub)(N:Nat):fT ⟨.mk k n s ts,rest,left,σ,N⟩=.agg [.int .i64 k,.int .i64 n,.str s,.slice (ts.map Tm.av),.slice (rest.map eN),.slice (left.map nv),.slice (cZ N σ)]:=rfl
structure yS (p:List Cl) (c:RC):Prop where
 gY:cQ c.σ
 ok:cX (bG c.N) c.σ
 xD:∀n,¬(0≤n∧n<(c.N:Int))→c.σ n=none
 goal:bG c.N c.goal
 rest:∀g∈c.rest,bG c.N g.t∧g.t.k=3
 left:∀i∈c.left,i<p.length
 len:c.rest.length≤524288
 a66:c.left.length≤1048576
structure qW (p:List Cl) (B:Nat) (s:RS):Prop where
 gY:cQ s.σ
 ok:cX (bG s.N) s.σ
 xD:∀n,¬(0≤n∧n<(s.N:Int))→s.σ n=none
 goals:∀g∈s.goals,bG s.N g.t∧g.t.k=3
 pos:0<s.N
 hN:s.N≤B
 gl:s.goals.length≤B
 p5:s.chs.length≤B
 chs:∀c∈s.chs,yS p c∧c.N+26≤B∧c.rest.length+26≤B∧0<c.N
theorem cX.upN{N M:Nat}{σ:Sub}(h:cX (bG N) σ)(hm:N≤M):cX (bG M) σ:=h.imp fun t ht=>ht.mono (by omega)
theorem aT5{N k:Nat}{σ:Sub}(hd:∀n,¬(0≤n∧n<(N:Int))→σ n=none):cZ N σ++List.replicate k zt=cZ (N+k) σ:=by
 apply DH
 intro i
 have hl:=vJ N σ
 by_cases hi:i<N
 · rw[XK (by omega),BL N σ hi,BL (N+k) σ (by omega)]
 · rw[XL (by omega),hl]
   by_cases h2:i<N+k
   · rw[BL (N+k) σ h2,hd (i:Int) (fun h=>hi (by omega)),List.getElem?_replicate,aG (by omega)]
     try rfl
   · rw[wN (by simp;omega),wN (by rw[vJ];omega)]
theorem aTZ{N k b:Nat}{σ:Sub}(hd:∀n,¬(0≤n∧n<(N:Int))→σ n=none)(hN:N+k≤1048576){st:aB}{K:AV→aB→Prop}(hb:st b=none)
 (hK:∀b',st b'=none→K (.mslice b' 0 (N+k) 4) (st.aC b' (.cells ((cZ (N+k) σ).flatMap AV.cells)))) :
 tP prog 34 3 (st.aC b (.cells ((cZ N σ).flatMap AV.cells))) (.mslice b 0 N 4) (.int .i64 (k:Int)) K:=by
 have hu:prog.underlying 3=some (.int .i64):=by kernel_rfl
 have hl:((cZ N σ).flatMap AV.cells).length=N*4:=by rw[mI (fun e he=>(YW N σ e he).1),vJ]
 have jT:((cZ N σ).flatMap AV.cells).take (N*4)++j5 [AV.int .i64 0,.int .i64 0,.str ⟨#[]⟩,.fslice []] k=(cZ (N+k) σ).flatMap AV.cells:=by
  rw[←hl,dS,aNS _ (by simp),←aT5 hd,tL,List.flatMap_replicate]
  try rfl
 unfold tP
 simp only[bQ,jE,jF,hu,aB.aJ,jO]
 refine⟨rfl,by omega,rfl,by omega,trivial,by omega,by omega,by omega,?_,fun b' hb'=>?_⟩
 · rw[jT,dO]
   exact hK b hb
 · rw[jT,aB.BU st b _ hb]
   refine hK b' ?_
   by_cases h:b'=b
   · subst h;exact hb
   · rwa [aB.aH _ _ h] at hb'
theorem aRZ{st s2 V:aB}{o' o6:AO}{b6 b11 b13 b14 b:Nat}{L A:List AV}(hD:aL s2 st)(hA:s2 b11=some (.cells (A.flatMap AV.cells)))(h11:st b11=none)(h6:st b6=none)(h62:s2 b6≠none)(aL0:b6≠b11)(h13:s2 b13=none)(h14:s2 b14=none)
 (hV:∀q,q≠b13→q≠b14→V q=s2 q) (MO:V b13≠none) (EL:V b14≠none) (hb:L≠[]→V b=none) (hne:A≠[]) :
 aL (((bE V b L).aC b13 o').aC b6 o6) (bE (bE st b11 A) b L)∧(L≠[]→(bE st b11 A) b=none):=by
 have aMB:b13≠b11:=by rintro rfl;rw[h13] at hA;cases hA
 have a3Z:b14≠b11:=by rintro rfl;rw[h14] at hA;cases hA
 have ML:b13≠b6:=by rintro rfl;exact h62 h13
 have n13:st b13=none:=(hD b13).1 h13
 have n14:st b14=none:=(hD b14).1 h14
 rw[kS hne]
 have hbb:L≠[]→b≠b13∧b≠b11∧b≠b6∧b≠b14∧s2 b=none:=fun h=>by
  have h0:=hb h
  have e13:b≠b13:=by rintro rfl;exact MO h0
  have e14:b≠b14:=by rintro rfl;exact EL h0
  rw[hV b e13 e14] at h0
  exact⟨e13,(by rintro rfl;rw[h0] at hA;cases hA),(by rintro rfl;exact h62 h0),e14,h0⟩
 refine⟨fun q=>?_,fun h=>?_⟩
 · by_cases q6:q=b6
   · subst q6
     have:bE (st.aC b11 (.cells (A.flatMap AV.cells))) b L q=none:=by
      by_cases hL:L= []
      · subst hL;simp only[bE];rw[aB.aH _ _ aL0,h6]
      · obtain⟨_,_,e6,_⟩:=hbb hL
        rw[kS hL,aB.aH _ _ (c9 e6),aB.aH _ _ aL0,h6]
     rw[this];simp
   rw[aB.aH _ _ q6]
   by_cases q13:q=b13
   · subst q13
     have:bE (st.aC b11 (.cells (A.flatMap AV.cells))) b L q=none:=by
      by_cases hL:L= []
      · subst hL;simp only[bE];rw[aB.aH _ _ aMB,n13]
      · obtain⟨e13,_⟩:=hbb hL
        rw[kS hL,aB.aH _ _ (c9 e13),aB.aH _ _ aMB,n13]
     rw[this];simp
   rw[aB.aH _ _ q13]
   have rest:q≠b∨L= []→(V q=none→st.aC b11 (.cells (A.flatMap AV.cells)) q=none)∧∀o,st.aC b11 (.cells (A.flatMap AV.cells)) q=some o→V q=some o:=fun _=>by
    by_cases q14:q=b14
    · subst q14
      rw[aB.aH _ _ a3Z,n14]
      simp
    rw[hV q q13 q14]
    by_cases q11:q=b11
    · subst q11;rw[aB.aJ,hA];simp
    rw[aB.aH _ _ q11]
    exact hD q
   by_cases hL:L= []
   · subst hL
     exact rest (.inr rfl)
   · rw[kS hL,kS hL]
     by_cases qb:q=b
     · subst qb;rw[aB.aJ,aB.aJ];simp
     rw[aB.aH _ _ qb,aB.aH _ _ qb]
     exact rest (.inl qb)
 · obtain⟨e13,e11,e6,e14,h0⟩:=hbb h
   rw[aB.aH _ _ e11]
   exact(hD b).1 h0
theorem BI{st:aB}{b q:Nat}{l:List AV}{o:AO}(hb:l≠[]→st b=none)(h:st q=some o):bE st b l q=some o:=by
 cases l with
 | nil=>exact h
 | cons x l=>
  rw[kS (by simp),aB.aH _ _ (by rintro rfl;rw[hb (by simp)] at h;cases h)]
  exact h
theorem aLK{b b' o n w:Nat}{l:List AV}(h:l≠[]→b'≠b):(AV.mslice b' o n w).fin b l=.mslice b' o n w:=by
 unfold AV.fin
 cases l with
 | nil=>rfl
 | cons x l=>
  simp only[List.isEmpty_cons,fX,dT]
  cases o with
  | zero=>simp only[AV.fz];rw[aE (fun e=>h (by simp) e.1)];try rfl
  | succ o=>rfl
theorem MF{b N:Nat}{σ:Sub}(h0:0<N):(AV.mslice b 0 N 4).fin b (cZ N σ)=.slice (cZ N σ):=by
 have hl:=vJ N σ
 have h:cZ N σ≠[]:=by intro e;rw[e] at hl;simp at hl;omega
 have:bS 4 b (cZ N σ)=.mslice b 0 N 4:=by rw[pW h,hl]
 rw[←this,oI]
theorem a87(l:List RC):∀e∈l.map fT,e.cD=false:=by intro e he;simp only[cB] at he;obtain⟨t,_,rfl⟩:=he;exact a85 t
theorem a88(l:List RC):∀e∈l.map fT,e.width=7:=by intro e he;simp only[cB] at he;obtain⟨t,_,rfl⟩:=he;exact NR t
theorem aPP{φ:AF}{d i:Nat}{l:List Nat}(hi:i+1<l.length)(h:φ d=.int .i64 ((i:Int)+1)):eV prog φ 26 (.slice (l.map nv)) (some (.tmp d)) none none=some (.slice ((l.drop (i+1)).map nv)):=by
 have he:φ.eval (.tmp d)=.int .i64 ((i:Int)+1):=h
 have hb:dC φ (some (.tmp d)) 0 l.length=some (i+1):=by
  simp only[dC,he]
  rw[aG (by omega)]
  congr 1
 have hwo:wI (l.map nv) (i+1) 1=true:=by
  unfold wI
  rw[mA,d4 hi]
  try rfl
 unfold eV
 rw[aE (by simp [nV])]
 simp only[mG,fO]
 rw[aE (by simp)]
 simp only[dC] at hb ⊢
 have ht:List.take l.length (l.map nv)=l.map nv:=lM (by simp)
 simp only[aF,hb,hwo,or_true,eX,ht]
 simp [BA]
abbrev s9:=zi aW (zi cF (zi fJ (zi jM (zi cA (zi bR (zi J2 (zi WM (zi J3 (zi mT WO)))))))))
theorem aAD(p:List Cl)(hp:∀c∈p,gD c∧c.2.length≤6)(gs0:List RG)(σ0:List AV)(cs:List RC)(c:RC)(hc:yS p c)(h0:0<c.N)(hN:c.N≤524288)(hcl:cs.length≤524288)(st:aB) :
 aD prog 228 [.slice (p.map bY),.agg [.slice (gs0.map eN),.slice σ0,.slice (cs.map fT)],fT c] st (fun r st'=>st'=st∧r=match iZ p cs c.goal c.rest c.σ c.N c.left with
  | some s=>.tup [pN s,.bool true]
  | none=>.tup [.agg [.slice (gs0.map eN),.slice σ0,.slice (cs.map fT)],.bool false]):=by
 obtain⟨goal,rest,left,σ,N⟩:=c
 obtain⟨hg,ho,hd,hgo,hr,hle,hrl,hll⟩:=hc
 simp only at hg ho hd hgo hr hle hrl hll h0 hN
 obtain⟨gk,gn,gs',gts⟩:=goal
 rw[UW]
 refine aD.fin (aD.fin (aD.nR ?_))
 refine wF [1000000,13] 3 func228 ntmps228 rfl rfl ?_
 intro _
 simp only[aA,seval,s9]
 intro b6 h6
 generalize hW:st.aC b6 (.cells [.fslice [],.fslice [],.fslice []])=W
 have hW6:W b6=some (.cells [.fslice [],.fslice [],.fslice []]):=by rw[←hW];exact aB.aJ _ _ _
 have hDW:aL W st:=by rw[←hW];exact(aL.refl _).aC h6
 refine dX (σ:=Unit) [1000000] [0,4,5,6] left (fun i _=>iZ p cs (.mk gk gn gs' gts) rest σ N (left.drop i)=iZ p cs (.mk gk gn gs' gts) rest σ N left) (fun i _=>[(7,.bool false),(8,.int .i64 i)]) (fun _ _=>W) (by decide +kernel) ⟨(),rfl,aO.mk (by simp only[aA,↓aS,seval])⟩ (fun i x _ hx hlt bL hdr hinv=>?_) (fun _ hge hinv=>?_)
 case refine_2=>
  simp only[hge,aK,hW6,aF,aA,seval,s9]
  refine⟨st,?_,0,[],st,rfl,by simp,by simp,⟨0,by simp⟩,0,[],st,rfl,by simp,by simp,⟨0,by simp⟩,rfl,?_⟩
  · intro z
    have:=hDW z
    by_cases hz:z=b6
    · subst hz;simp [aB.aC,h6]
    · rw[aB.aH _ _ hz];exact this
  · rw[←hinv,kB]
    simp only[iX,jS,rB,iO,bA,aY,iZ]
 have hw:=bF (n:=(i:Int)+1)
 have hxl:=hle x (cH hx)
 obtain⟨cl,hcx⟩:∃cl,p[x]?=some cl:=⟨_,d4 hxl⟩
 obtain⟨uF,rJ⟩:=hp cl (cH hcx)
 rw[hdr,iZ.eq_def] at hinv
 simp only[hcx] at hinv
 have hat:c8 prog 26 (.slice (left.map nv)) (.int .i64 (i:Int))=some (.pptr (.int .i64 (x:Int))):=bH (av:=nv) fO hx rfl
 have B1:=bH (av:=bY) (P:=prog) rA hcx (k8 cl)
 have hcf:=aX0 cl uF rJ
 obtain⟨⟨k,n,s',ts⟩,bd⟩:=cl
 rw[iW] at B1 hcf
 simp only at hinv
 simp only[bL,aF,vJ,hat,B1,aA,↓aS,seval,s9]
 refine wX [(0,1),(1,1),(2,1),(4,1),(3,0),(5,0),(6,0),(7,1)] [0,1,2,4,7] d9 mixed rfl fH ?_
 simp only[aA,seval,s9]
 have hfr:=uF.fr.1
 have hHd:=uF.dG N (.mk k n s' ts) (by simp)
 have hBd:=fun t ht=>(uF.FD t (PM _ ht))
 refine QF h0 (by omega) σ fun b hb hA0=>?_
 simp only[aA,seval]
 refine⟨fH,?_⟩
 refine(hcf _).to ?_
 simp only[aA,seval]
 refine⟨fH,?_⟩
 refine aTZ hd (by omega) hb fun b11 h11=>?_
 simp only[aA,seval]
 refine⟨fH,?_⟩
 have hA:=(show fL (N+pD (.mk k n s' ts,bd)) (W.aC b11 (.cells ((cZ (N+pD (.mk k n s' ts,bd)) σ).flatMap AV.cells))) b11 σ from aB.aJ _ _ _)
 have hDT:aL (W.aC b11 (.cells ((cZ (N+pD (.mk k n s' ts,bd)) σ).flatMap AV.cells))) W:=(aL.refl _).aC h11
 have hh:=uF.head
 generalize pD (.mk k n s' ts,bd)=fr at *
 generalize W.aC b11 (.cells ((cZ (N+fr) σ).flatMap AV.cells))=T at *
 have hsh:Tm.sh (N:Int) (.mk k n s' ts)=dG N (.mk k n s' ts):=aPG N (by omega) _ hh.1
 have hcs:=QX (N:Int) (.mk k n s' ts)
 rw[hsh] at hcs
 have hun:=HK (N:=N+fr) (by omega) hg (ho.upN (by omega)) (.mk gk gn gs' gts) (dG N (.mk k n s' ts)) (hgo.mono (by omega)) hHd b11
 generalize dG N (.mk k n s' ts)=y at *
 obtain⟨yk,yn,ys,yt⟩:=y
 refine wX [(0,1),(1,1),(2,1),(3,1),(4,1),(6,1),(5,0),(7,0),(8,1)] [0,1,2,3,4,6,8] d9 mixed rfl fH ?_
 simp only[aA,seval,s9]
 have hsm:=hh.1.small
 simp only[aX] at hun hcs ⊢
 refine(hcs _ hsm).to ?_
 simp only[aA,seval]
 refine⟨fH,?_⟩
 refine(hun _ hA).mono ?_
 rintro _ s2 ⟨rfl,hA2,hk2⟩
 simp only[aA,seval]
 refine⟨fH,?_⟩
 generalize jN σ (.mk gk gn gs' gts) (.mk yk yn ys yt)=u at *
 obtain⟨r,σ',tr⟩:=u
 simp only at hinv hA2 ⊢
 have MP:W b11=none:=h11
 have hDs:aL s2 W:=by
  intro q
  have key:∀o,W q=some o→s2 q=some o:=fun o h=>hk2 q o ((hDT q).2 o h) (by rintro rfl;rw[MP] at h;cases h)
  refine⟨fun h=>?_,key⟩
  cases hq:W q with
  | none=>rfl
  | some o=>rw[key o hq] at h;cases h
 refine aP (fun h=>?_) (fun h=>?_)
 · have hr:r=false:=by simpa using h
   rw[aE (by rw[hr];simp)] at hinv
   simp only[hw,aA,seval]
   exact⟨(),hinv,aO.drop hDs (by simp only[aA,seval])⟩
 have hr':r=true:=by simpa using h
 rw[aG hr'] at hinv
 have hg9:=aAB bd N cs.length rest hBd rJ (by omega) (by omega)
 generalize hgs:bd.map (fun t=>(⟨dG N t,cs.length⟩:RG))++rest=gs2 at *
 simp only[aF,aA,seval,s9]
 refine wP [(0,1),(1,1),(3,1),(5,1),(6,1),(7,1),(2,2),(4,2),(8,2),(9,1),(10,1),(11,0),(12,0)] [0,1,3,5,6,7,2,4,8,9,10] mixed ?_
 simp only[aA,seval,s9]
 refine Q8 hg9 ?_
 simp only[aK,aF,hw,aA,seval,s9]
 intro b13 h13
 have a3K:b13≠b11:=by rintro rfl;rw[fL,h13] at hA2;cases hA2
 have h62:s2 b6≠none:=by rw[(hDs b6).2 _ hW6];simp
 have ML:b6≠b13:=by rintro rfl;exact h62 h13
 have aLZ:b6≠b11:=by rintro rfl;rw[hW6] at MP;cases MP
 have M3:st b11=none:=(hDW b11).1 MP
 have aL4:=(hDs b6).2 _ hW6
 have hNf:0<N+fr:=by omega
 have pE:cZ (N+fr) σ'≠[]:=by intro e;have:=vJ (N+fr) σ';rw[e] at this;simp at this;omega
 refine aP (fun h=>?_) (fun h=>?_)
 · have h':i+1<left.length:=by simp at h;omega
   have hsl:=fun(φ:AF) (d:Nat) (h:φ d=.int .i64 ((i:Int)+1))=>aPP h' h
   simp only[aA,seval]
   refine wP [(0,1),(2,1),(4,1),(6,1),(7,1),(9,1),(1,2),(3,2),(5,2),(8,1),(10,2),(11,1),(12,0),(13,0)] [0,2,4,6,7,9,1,3,5,8,10,11] mixed ?_
   simp only[aK,hsl,hw,aA,seval,s9]
   intro b14 h14
   have aMW:b14≠b13:=by rintro rfl;rw[aB.aJ] at h14;cases h14
   have SG:s2 b14=none:=by rw[aB.aH _ _ aMW] at h14;exact h14
   have a3L:b6≠b14:=by rintro rfl;exact h62 SG
   generalize hV:(s2.aC b13 (AO.cells [AV.slice (gs2.map eN),AV.mslice b11 0 (N+fr) 4,AV.slice (cs.map fT)])).aC b14 (.cells [.int .i64 gk,.int .i64 gn,.str gs',.slice (gts.map Tm.av),.slice (rest.map eN),.slice ((left.drop (i+1)).map nv),.slice (cZ N σ)])=V
   have EL:V b14=some (.cells [.int .i64 gk,.int .i64 gn,.str gs',.slice (gts.map Tm.av),.slice (rest.map eN),.slice ((left.drop (i+1)).map nv),.slice (cZ N σ)]):=by rw[←hV];exact aB.aJ _ _ _
   have MO:V b13=some (AO.cells [AV.slice (gs2.map eN),AV.mslice b11 0 (N+fr) 4,AV.slice (cs.map fT)]):=by rw[←hV,aB.aH _ _ (c9 aMW)];exact aB.aJ _ _ _
   have hV6:V b6=some (.cells [.fslice [],.fslice [],.fslice []]):=by rw[←hV,aB.aH _ _ a3L,aB.aH _ _ ML];exact aL4
   have hVq:∀q,q≠b13→q≠b14→V q=s2 q:=fun q e1 e2=>by rw[←hV,aB.aH _ _ e2,aB.aH _ _ e1]
   refine wX [(0,1),(1,1),(2,1),(4,1),(5,1),(3,0),(6,0),(7,1),(8,2)] [0,1,2,4,5,7] (one b14 (.cells [.int .i64 gk,.int .i64 gn,.str gs',.slice (gts.map Tm.av),.slice (rest.map eN),.slice ((left.drop (i+1)).map nv),.slice (cZ N σ)])) mixed rfl (fP EL) ?_
   simp only[uM,aA,seval,s9]
   have hlc:(cs.map fT).length=cs.length:=aF _
   refine eO (P:=prog) (b:=0) (l:=[]) (xs:=cs.map fT) EC RQ RT rfl rfl (by intro e he;simp only[cB] at he;obtain⟨t,_,rfl⟩:=he;exact⟨NR t,a86 t⟩) (by simp) (by simp) (by simp only[aZ,hlc];omega) (by simp only[aZ,hlc];omega) (fun b15 h15=>?_)
   rw[fB] at h15 ⊢
   simp only[aA,seval]
   refine⟨fP (BI h15 EL),?_⟩
   refine eO (P:=prog) (b:=b15) (l:=cs.map fT) (xs:=[fT ⟨.mk gk gn gs' gts,rest,left.drop (i+1),σ,N⟩]) EC RQ RT rfl rfl (fQ rfl rfl) (by intro e he;simp only[cB] at he;obtain⟨t,_,rfl⟩:=he;exact NR t) h15 (by simp only[aU,aZ,hlc];omega) (by simp only[aU,aZ,hlc];omega) (fun b16 h16=>?_)
   rw[show(cs.map fT)++ [fT ⟨.mk gk gn gs' gts,rest,left.drop (i+1),σ,N⟩]=(cs++ [(⟨.mk gk gn gs' gts,rest,left.drop (i+1),σ,N⟩:RC)]).map fT by simp] at h16 ⊢
   have g13:=BI h16 MO
   have g14:=BI h16 EL
   have g6:=BI h16 hV6
   have hdn:left.drop (i+1)≠[]:=by intro e;have:=eA List.length e;simp at this;omega
   rw[aE hdn] at hinv
   generalize hLL:cs++ [(⟨.mk gk gn gs' gts,rest,left.drop (i+1),σ,N⟩:RC)]=LL at *
   have E:=aRZ (o':=.cells [AV.slice (gs2.map eN),AV.mslice b11 0 (N+fr) 4,bS 7 b16 (LL.map fT)]) (o6:=.cells [AV.slice (gs2.map eN),AV.mslice b11 0 (N+fr) 4,bS 7 b16 (LL.map fT)]) (hDs.trans hDW) hA2 M3 h6 h62 aLZ h13 SG hVq (by rw[MO];simp) (by rw[EL];simp) h16 pE
   simp only[aK,ML,g13,g6,kF,qZ,aA,seval,s9]
   have hms:LL.map fT≠[]→b11≠b16:=by rintro h rfl;have:=h16 h;rw[hVq b11 (c9 a3K) (by rintro rfl;rw[fL,SG] at hA2;cases hA2),hA2] at this;cases this
   refine⟨fP g14,_,E.1,b16,LL.map fT,_,rfl,fun h=>E.2 (by simpa using h),a87 LL,⟨7,a88 LL⟩,b11,cZ (N+fr) σ',st,rfl,fun _=>M3,HI _ _,⟨4,D0 _ _⟩,rfl,?_⟩
   rw[←hinv]
   simp only[iX,jS,rB,iO,kJ,bA,aY,aLK hms,MF hNf]
   rfl
 · have h':left.drop (i+1)= []:=A6 (by simp at h;omega)
   have E:=aRZ (o6:=.cells [AV.slice (gs2.map eN),AV.mslice b11 0 (N+fr) 4,AV.slice (cs.map fT)]) (o':=.cells [AV.slice (gs2.map eN),AV.mslice b11 0 (N+fr) 4,AV.slice (cs.map fT)]) (b:=0) (L:=[]) (hDs.trans hDW) hA2 M3 h6 h62 aLZ h13 h13 (fun q h _=>aB.aH s2 (.cells [AV.slice (gs2.map eN),AV.mslice b11 0 (N+fr) 4,AV.slice (cs.map fT)]) h) (by rw[aB.aJ];simp) (by rw[aB.aJ];simp) (by simp) pE
   simp only[aK,ML,aL4,aB.aJ,aA,seval,s9]
   rw[aG h'] at hinv
   have E1:=E.1
   simp only[bE,dO] at E1
   refine⟨_,E1,0,[],_,rfl,by simp,by simp,⟨0,by simp⟩,b11,cZ (N+fr) σ',st,rfl,fun _=>M3,HI _ _,⟨4,D0 _ _⟩,rfl,?_⟩
   rw[←hinv]
   simp only[iX,jS,rB,iO,bA,aY,aLK (l:=[]) (fun h=>absurd rfl h),MF hNf]
   rfl
theorem UU{p:List Cl}(hp:∀c∈p,gD c∧c.2.length≤6){B:Nat}(hB:B≤524288){cs:List RC}{goal:Tm}{rest:List RG}{σ:Sub}{N:Nat}(hg:cQ σ)(ho:cX (bG N) σ)(hd:∀n,¬(0≤n∧n<(N:Int))→σ n=none)
 (hgo:bG N goal) (hr:∀g∈rest,bG N g.t∧g.t.k=3) (h0:0<N) (hN:N+26≤B) (hrl:rest.length+26≤B) (hcl:cs.length+1≤B) (hcs:∀c∈cs,yS p c∧c.N+26≤B∧c.rest.length+26≤B∧0<c.N) :
 ∀(left:List Nat),(∀i∈left,i<p.length)→left.length≤1048576→∀s,iZ p cs goal rest σ N left=some s→qW p B s
 | [],_,_,s,h=>by simp [iZ] at h
 | i::l,hle,hll,s,h=>by
  have hil:=hle i (by simp)
  obtain⟨x,hx⟩:∃x,p[i]?=some x:=⟨_,d4 hil⟩
  obtain⟨hX,h6⟩:=hp x (cH hx)
  have hl':∀j∈l,j<p.length:=fun j hj=>hle j (by simp [hj])
  rw[iZ.eq_def] at h
  simp only[hx] at h
  split at h
  case isFalse=>exact UU hp hB hg ho hd hgo hr h0 hN hrl hcl hcs l hl' (by simp at hll;omega) s h
  cases h
  have hfr:=hX.fr.1
  have hsh:=hX.dG N
  obtain⟨r,σ',tr,U⟩:=uZ (N:=N+pD x) hg (ho.upN (by omega)) (hgo.mono (by omega)) (hsh x.1 (by simp))
  rw[U.eq]
  have S:=U.x7
  refine⟨S.gY,S.ok,fun n hn=>?_,?_,by simp only;omega,by simp only;omega,?_,?_,?_⟩
  · simp only at hn ⊢
    rw[S.aV n (fun h=>hn (S.gB n h))]
    exact hd n (fun h=>hn (by omega))
  · intro g hg'
    simp only[eH,cB] at hg'
    rcases hg' with ⟨t,ht,rfl⟩ | hg'
    · exact⟨hsh t (PM _ ht),by rw[aPI];exact(hX.body t ht).2⟩
    · exact⟨(hr g hg').1.mono (by simp only;omega),(hr g hg').2⟩
  · simp only[dN,aF];omega
  · simp only
    split
    · omega
    · simp only[dN,aU,aZ];omega
  · simp only
    split
    · exact hcs
    · intro c hc
      rcases eH.1 hc with hc | hc
      · exact hcs c hc
      · simp only[cY,dK,dQ] at hc
        subst hc
        exact⟨⟨hg,ho,hd,hgo,hr,hl',by simp only;omega,by simp only;simp at hll;omega⟩,hN,hrl,h0⟩
theorem a80(p:List Cl)(chs:List RC):fS p chs.length chs=match chs.getLast? with
 | none=>none
 | some c=>match iZ p chs.dropLast c.goal c.rest c.σ c.N c.left with
  | some s=>some s
  | none=>fS p chs.dropLast.length chs.dropLast:=by
 cases chs with
 | nil=>rfl
 | cons c l=>
  rw[aU,fS]
  have:(c::l).dropLast.length=l.length:=by simp
  rw[this]
  try rfl
theorem aOY{p:List Cl}(hp:∀c∈p,gD c∧c.2.length≤6){B:Nat}(hB:B≤524288):∀(n:Nat) (chs:List RC),chs.length≤B→(∀c∈chs,yS p c∧c.N+26≤B∧c.rest.length+26≤B∧0<c.N)→∀s,fS p n chs=some s→qW p B s
 | 0,_,_,_,s,h=>by simp [fS] at h
 | n+1,chs,hl,hc,s,h=>by
  rw[fS] at h
  split at h
  · cases h
  · rename_i c vU
    have hm:=PN vU
    have hne:chs≠[]:=by rintro rfl;simp at hm
    have hdl:chs.dropLast.length+1=chs.length:=by
     have:=PK.2 hne
     simp;omega
    have hcd:∀c∈chs.dropLast,yS p c∧c.N+26≤B∧c.rest.length+26≤B∧0<c.N:=fun c h=>hc c (PH _ h)
    obtain⟨k,h1,h2,h3⟩:=hc c hm
    split at h
    · rename_i s' hs
      cases h
      exact UU hp hB k.gY k.ok k.xD k.goal k.rest h3 h1 h2 (by omega) hcd c.left k.left k.a66 s hs
    · exact aOY hp hB n _ (by omega) hcd s h
theorem qW.up{p:List Cl}{B C:Nat}{s:RS}(h:qW p B s)(hC:B≤C):qW p C s:=
 ⟨h.gY,h.ok,h.xD,h.goals,h.pos,by have:=h.hN;omega,by have:=h.gl;omega,by have:=h.p5;omega,fun c hc=>by
  obtain⟨h1,h2,h3,h4⟩:=h.chs c hc
  exact⟨h1,by omega,by omega,h4⟩⟩
theorem qW.back{p:List Cl}(hp:∀c∈p,gD c∧c.2.length≤6){B:Nat}(hB:B≤524288){s s':RS}(h:qW p B s)(e:fS p s.chs.length s.chs=some s'):qW p B s':=
 aOY hp hB _ _ h.p5 h.chs s' e
theorem MH{N:Nat}{σ:Sub}(hg:cQ σ)(ho:cX (bG N) σ){t:Tm}(ht:bG N t)(hf:eQ (t.aM (rs σ))=true):bG N (t.aM (rs σ)):=by
 obtain⟨rk,B,G⟩:=hg.rs
 unfold eQ at hf
 simp only[bV,bK] at hf
 exact⟨ht.1.aM fun v hv=>G.mN ho.mN v (ht.1.2.2 v hv).1 (ht.1.2.2 v hv).2,hf.2⟩
theorem qW.step{p:List Cl}(hp:∀c∈p,gD c∧c.2.length≤6)(hpl:p.length≤1048576){B:Nat}(hB:B+26≤524288){cnd:Tm→List Nat→List Nat}(hc:∀t l,(∀i∈cnd t l,i∈l)∧(cnd t l).length≤l.length){s s':RS}{g:RG}{rest:List RG}(hgs:s.goals=g::rest)(h:qW p B s)
 (e:iY p cnd s g rest=.go s'):qW p (B+26) s':=by
 have hgm:g∈s.goals:=by rw[hgs];simp
 have hrm:∀x∈rest,x∈s.goals:=fun x hx=>by rw[hgs];simp [hx]
 have hgl:=h.gl
 rw[hgs,aU] at hgl
 have hU:=h.up (C:=B+26) (by omega)
 unfold iY at e
 split at e
 · cases e
 rename_i eR
 have S6:eQ (g.t.aM (rs s.σ))=true:=by simpa using eR
 have hok:=MH h.gY h.ok (h.goals g hgm).1 S6
 generalize g.t.aM (rs s.σ)=t at *
 split at e
 · cases e
   exact⟨hU.gY,hU.ok,hU.xD,fun x hx=>hU.goals x (hrm x hx),hU.pos,hU.hN,by simp only;omega,by simp only[c7];have:=hU.p5;omega,fun c hc=>hU.chs c (mC hc)⟩
 split at e
 · split at e
   · cases e
     have S:=NW h.gY h.ok t.s t.ts fun x hx=>by
      obtain⟨k,n,s',ts⟩:=t
      by_cases hk:k=1
      · obtain⟨_,_,_,h2⟩:=(show cJ s.N (.mk 1 n s' ts) from hk▸hok.1).var
        simp only[Tm.ts] at hx
        rw[h2] at hx;cases hx
      · exact rP _ (.mk k n s' ts) hk hok x hx
     exact⟨S.gY,S.ok,fun n hn=>by simp only at hn ⊢;rw[S.aV n (fun h=>hn (S.gB n h))];exact hU.xD n hn,fun x hx=>hU.goals x (hrm x hx),hU.pos,hU.hN,by simp only;omega,hU.p5,hU.chs⟩
   · split at e<;>cases e
 split at e
 · cases e
 split at e
 case h_2=>cases e
 rename_i s2 hs
 cases e
 obtain⟨c1,c2⟩:=hc t (eJ p t)
 have hfl:(eJ p t).length≤p.length:=by rw[MI];exact MJ p t p.length
 refine UU hp (by omega) h.gY h.ok h.xD hok (fun x hx=>h.goals x (hrm x hx)) h.pos (by have:=h.hN;omega) (by omega) (by have:=h.p5;omega) hU.chs _ (fun i hi=>?_) (by omega) s' hs
 have:=c1 i hi
 unfold eJ at this
 have:=(List.mem_filter.1 this).1
 exact wO.1 this
def oE(n:Nat)(l:List RG):Prop:=l.Pairwise (fun a b=>b.aV≤a.aV)∧∀g∈l,g.aV≤n
theorem oE.up{n m:Nat}{l:List RG}(h:oE n l)(hm:n≤m):oE m l:=⟨h.1,fun g hg=>kQ (h.2 g hg) hm⟩
theorem oE.tail{n:Nat}{g:RG}{l:List RG}(h:oE n (g::l)):oE n l∧oE g.aV l:=by
 obtain⟨h1,h2⟩:=h
 rw[List.pairwise_cons] at h1
 exact⟨⟨h1.2,fun x hx=>h2 x (by simp [hx])⟩,h1.2,h1.1⟩
theorem oE.body{n:Nat}{l:List RG}(h:oE n l)(f:Tm→Tm)(bd:List Tm):oE n (bd.map (fun t=>(⟨f t,n⟩:RG))++l):=by
 refine⟨List.pairwise_append.2 ⟨?_,h.1,fun a ha b hb=>?_⟩,fun g hg=>?_⟩
 · rw[List.pairwise_map]
   exact List.pairwise_of_forall fun _ _=>cU _
 · obtain⟨t,_,rfl⟩:=cB.1 ha
   exact h.2 b hb
 · rcases eH.1 hg with hg | hg
   · obtain⟨t,_,rfl⟩:=cB.1 hg
     exact cU _
   · exact h.2 g hg
structure BB (s:RS):Prop where
 goals:oE s.chs.length s.goals
 chs:∀i c,s.chs[i]?=some c→oE i c.rest
theorem US{p:List Cl}{cs:List RC}{goal:Tm}{rest:List RG}{σ:Sub}{N:Nat}(hr:oE cs.length rest)(hc:∀i c,cs[i]?=some c→oE i c.rest) :
 ∀(left:List Nat) s,iZ p cs goal rest σ N left=some s→BB s
 | [],s,h=>by simp [iZ] at h
 | i::l,s,h=>by
  rw[iZ.eq_def] at h
  simp only at h
  split at h
  · cases h
  rename_i x hx
  split at h
  case isFalse=>exact US hr hc l s h
  cases h
  have hb:=hr.body (dG N) x.2
  refine⟨?_,?_⟩
  · simp only
    split
    · exact hb
    · exact hb.up (by simp)
  · simp only
    intro j c hj
    split at hj
    · exact hc j c hj
    · rw[List.getElem?_append] at hj
      split at hj
      · exact hc j c hj
      · rename_i hlt
        have hj0:j - cs.length=0:=by
         have:=(fA.1 hj).1
         simp at this;omega
        rw[hj0] at hj
        simp only[A8,Option.some.injEq] at hj
        subst hj
        exact hr.up (by omega)
theorem aOW{p:List Cl}:∀(n:Nat) (chs:List RC),(∀i c,chs[i]?=some c→oE i c.rest)→∀s,fS p n chs=some s→BB s
 | 0,_,_,s,h=>by simp [fS] at h
 | n+1,chs,hc,s,h=>by
  rw[fS] at h
  split at h
  · cases h
  · rename_i c vU
    have hd:∀i c,chs.dropLast[i]?=some c→oE i c.rest:=fun i c hi=>hc i c (by
     rw[List.dropLast_eq_take,List.getElem?_take] at hi
     split at hi
     · exact hi
     · cases hi)
    rw[XM] at vU
    have hk:=hc _ _ vU
    split at h
    · rename_i s' hs
      cases h
      exact US (by rw[List.length_dropLast];exact hk) hd _ s hs
    · exact aOW n _ hd s h
theorem BB.step{p:List Cl}{cnd:Tm→List Nat→List Nat}{s s':RS}{g:RG}{rest:List RG}(hgs:s.goals=g::rest)(h:BB s)(e:iY p cnd s g rest=.go s'):BB s':=by
 have hg:=h.goals
 rw[hgs] at hg
 obtain⟨h1,h2⟩:=hg.tail
 have h3:=hg.2 g (by simp)
 unfold iY at e
 split at e
 · cases e
 split at e
 · cases e
   refine⟨?_,fun i c hi=>?_⟩
   · simp only[c7]
     exact h2.up (by omega)
   · simp only[List.getElem?_take] at hi
     split at hi
     · exact h.chs i c hi
     · cases hi
 split at e
 · split at e
   · cases e
     exact⟨h1,h.chs⟩
   · split at e<;>cases e
 split at e
 · cases e
 split at e
 case h_2=>cases e
 rename_i s2 hs
 cases e
 exact US h1 h.chs _ s' hs
def DM(s:RS):Prop:=26≤s.N∧∀c∈s.chs,26≤c.N
theorem UT{p:List Cl}{cs:List RC}{goal:Tm}{rest:List RG}{σ:Sub}{N:Nat}(hN:26≤N)(hc:∀c∈cs,26≤c.N) :
 ∀(left:List Nat) s,iZ p cs goal rest σ N left=some s→DM s
 | [],s,h=>by simp [iZ] at h
 | i::l,s,h=>by
  rw[iZ.eq_def] at h
  simp only at h
  split at h
  · cases h
  rename_i x hx
  split at h
  case isFalse=>exact UT hN hc l s h
  cases h
  refine⟨by simp only;omega,?_⟩
  simp only
  split
  · exact hc
  · intro c h
    rcases eH.1 h with h | h
    · exact hc c h
    · simp only[cY,dK,dQ] at h
      subst h;exact hN
theorem aOX{p:List Cl}:∀(n:Nat) (chs:List RC),(∀c∈chs,26≤c.N)→∀s,fS p n chs=some s→DM s
 | 0,_,_,s,h=>by simp [fS] at h
 | n+1,chs,hc,s,h=>by
  rw[fS] at h
  split at h
  · cases h
  · rename_i c vU
    have hd:∀c∈chs.dropLast,26≤c.N:=fun c h=>hc c (PH _ h)
    split at h
    · rename_i s' hs
      cases h
      exact UT (hc c (PN vU)) hd _ s hs
    · exact aOX n _ hd s h
theorem DM.step{p:List Cl}{cnd:Tm→List Nat→List Nat}{s s':RS}{g:RG}{rest:List RG}(h:DM s)(e:iY p cnd s g rest=.go s'):DM s':=by
 unfold iY at e
 split at e
 · cases e
 split at e
 · cases e
   exact⟨h.1,fun c hc=>h.2 c (mC hc)⟩
 split at e
 · split at e
   · cases e
     exact h
   · split at e<;>cases e
 split at e
 · cases e
 split at e
 case h_2=>cases e
 rename_i s2 hs
 cases e
 exact UT h.1 h.2 _ s' hs
structure mE (p:List Cl) (B:Nat) (s:RS):Prop where
 a:qW p B s
 k:BB s
 l:DM s
theorem mE.step{p:List Cl}(hp:∀c∈p,gD c∧c.2.length≤6)(hpl:p.length≤1048576){B:Nat}(hB:B+26≤524288){cnd:Tm→List Nat→List Nat}(hc:∀t l,(∀i∈cnd t l,i∈l)∧(cnd t l).length≤l.length){s s':RS}{g:RG}{rest:List RG}(hgs:s.goals=g::rest)(h:mE p B s)
 (e:iY p cnd s g rest=.go s'):mE p (B+26) s':=⟨h.a.step hp hpl hB hc hgs e,h.k.step hgs e,h.l.step e⟩
theorem mE.back{p:List Cl}(hp:∀c∈p,gD c∧c.2.length≤6){B:Nat}(hB:B≤524288){s s':RS}(h:mE p B s)(e:fS p s.chs.length s.chs=some s'):mE p B s':=
 ⟨h.a.back hp hB e,aOW _ _ h.k.chs s' e,aOX _ _ h.l.2 s' e⟩
theorem mE.up{p:List Cl}{B C:Nat}{s:RS}(h:mE p B s)(hC:B≤C):mE p C s:=⟨h.a.up hC,h.k,h.l⟩
theorem mE.start{p:List Cl}{q:List Tm}(hq:∀t∈q,bG 26 t∧t.k=3)(h6:q.length≤6):mE p 26 (lU q):=by
 refine⟨⟨cQ.none,fun n u h=>(by cases h),fun n _=>rfl,?_,(by show 0<26;omega),cU _,?_,iU _,fun c hc=>(by cases hc)⟩,⟨⟨?_,?_⟩,fun i c hi=>(by cases hi)⟩,⟨cU _,fun c hc=>(by cases hc)⟩⟩
 · intro g hg
   simp only[lU,cB] at hg
   obtain⟨t,ht,rfl⟩:=hg
   exact hq t ht
 · simp only[lU,aF];omega
 · simp only[lU,List.pairwise_map]
   exact List.pairwise_of_forall fun _ _=>cU _
 · intro g hg
   simp only[lU,cB] at hg
   obtain⟨t,ht,rfl⟩:=hg
   exact iU _
theorem aPO{φ:AF}{t:TypeId}{ag:Bool}{w d k:Nat}{es:List AV}(hI:eI prog t=some (ag,w))(h:φ d=.int .i64 (k:Int))(hk:k≤es.length):eV prog φ t (.slice es) none (some (.tmp d)) none=some (.slice (es.take k)):=by
 have he:φ.eval (.tmp d)=.int .i64 (k:Int):=h
 unfold eV
 rw[aE (by simp [nV])]
 simp only[mG,hI]
 rw[aE (by simp)]
 simp only[dC,he]
 rw[aG (by omega)]
 simp
def KT(a:AV):Prop:=(∃l,a=.slice l)∨a=.fslice []
theorem KT.facts{a:AV}(h:KT a):a.isAgg=false∧a.width=1∧a.cD=false∧a.cells= [a]∧a.storable=true∧∃l,a.soft=.slice l:=by
 rcases h with ⟨l,rfl⟩ | rfl
 · exact⟨rfl,rfl,rfl,rfl,rfl,l,rfl⟩
 · exact⟨rfl,rfl,rfl,rfl,rfl,[],rfl⟩
abbrev wC:=zi aW (zi cF (zi jM (zi WM (zi J3 WO))))
theorem Z9{p:List Cl}(hp:∀c∈p,gD c∧c.2.length≤6){B:Nat}(hB:B≤524288)(gs0:List RG)(σ0:List AV)(chs:List RC)(hl:chs.length≤B)(hc:∀c∈chs,yS p c∧c.N+26≤B∧c.rest.length+26≤B∧0<c.N)(st:aB) :
 aD prog 137 [.slice (p.map bY),.agg [.slice (gs0.map eN),.slice σ0,.slice (chs.map fT)]] st (fun r st'=>st'=st∧match fS p chs.length chs with
  | some s=>r=.tup [pN s,.bool true]
  | none=>∃l1 l2 l3,r=.tup [.agg [.slice l1,.slice l2,.slice l3],.bool false]):=by
 refine aD.nR (aD.soft ?_)
 refine wF [1000000,3] 2 func137 ntmps137 rfl rfl ?_
 intro _
 simp only[aA,seval,wC]
 intro b3 h3 b4 h4
 have hne:b4≠b3:=by rintro rfl;rw[aB.aJ] at h4;cases h4
 have TH:st b4=none:=by rw[aB.aH _ _ hne] at h4;exact h4
 rw[aB.lZ _ _ _ (c9 hne)]
 generalize hW:st.aC b4 (.cells [.fslice [],.fslice [],.fslice []])=W
 have hW4:W b4=some (.cells [.fslice [],.fslice [],.fslice []]):=by rw[←hW];exact aB.aJ _ _ _
 have hW3:W b3=none:=by rw[←hW,aB.aH _ _ (c9 hne)];exact h3
 have hDW:∀o o',aL ((W.aC b3 o).aC b4 o') st:=fun o o' q=>by
  by_cases q4:q=b4
  · subst q4;rw[aB.aJ,TH];simp
  rw[aB.aH _ _ q4]
  by_cases q3:q=b3
  · subst q3;rw[aB.aJ,h3];simp
  rw[aB.aH _ _ q3,←hW,aB.aH _ _ q4]
  simp
 have aMV:b3≠b4:=c9 hne
 refine iJ (σ:=List RC×AV×AV) [1000000,3] [0,3,4] (fun s=>s.1.length≤B∧(∀c∈s.1,yS p c∧c.N+26≤B∧c.rest.length+26≤B∧0<c.N)∧KT s.2.1∧KT s.2.2∧fS p s.1.length s.1=fS p chs.length chs) (fun s=>[(5,.bool false)]) (fun s=>W.aC b3 (.cells [s.2.1,s.2.2,.slice (s.1.map fT)])) (fun s=>s.1.length) (by decide +kernel) ⟨(chs,.slice (gs0.map eN),.slice σ0),⟨hl,hc,.inl ⟨_,rfl⟩,.inl ⟨_,rfl⟩,rfl⟩,aO.mk (by simp only[aA,seval])⟩ ?_
 rintro⟨l,a,b⟩ ⟨hl1,hlc,ha,hb,hinv⟩
 simp only at hl1 hlc ha hb hinv
 obtain⟨a1,a2,a3,a4,a5,la,a6⟩:=ha.facts
 obtain⟨b1,b2,b3',b4',b5,lb,b6⟩:=hb.facts
 simp only
 rw[a80] at hinv
 by_cases B3:l= []
 · subst B3
   simp only[List.getLast?_nil] at hinv
   simp only[aB.aJ,xE,List.contains,List.elem,tG,g9,sub,↓reduceIte,reduceCtorEq,Nat.reduceEqDiff,wC]
   refine aP (fun h=>absurd h (by decide)) (fun h=>?_)
   simp only[aK,hne,aB.aJ,hW4,a5,b5,aA,seval,wC]
   rw[←hinv]
   exact⟨st,hDW _ _,rfl,la,lb,[],by simp only[iF,jJ,rU,nE,bA,aY,a6,b6]⟩
 obtain⟨c,vU⟩:∃c,l.getLast?=some c:=by
  cases h:l.getLast? with
  | none=>exact absurd (List.getLast?_eq_none_iff.1 h) B3
  | some c=>exact⟨c,rfl⟩
 have hlp:=PK.2 B3
 have hcm:=PN vU
 obtain⟨a38,hcN,hcr,hc0⟩:=hlc c hcm
 rw[vU] at hinv
 simp only at hinv
 have hat:=bH (av:=fT) (P:=prog) (l:=l) (i:=l.length - 1) (x:=c) EC (by rw[←XM];exact vU) (NR c)
 rw[show(((l.length - 1:Nat):Int))=(l.length:Int) - 1 by omega] at hat
 have hw:=bF (n:=(l.length:Int) - 1)
 have hdl:l.dropLast=l.take (l.length - 1):=List.dropLast_eq_take
 have bET:l.dropLast.length+1=l.length:=by simp;omega
 have hct:=aAD p hp [] [] l.dropLast c a38 hc0 (by omega) (by omega)
 have hcs:=fun(φ:AF) (d:Nat) (h:φ d=.int .i64 ((l.length:Int) - 1))=>aPO (es:=l.map fT) (k:=l.length - 1) EC (h.trans (by congr 1;omega)) (by simp)
 rw[←GS,←hdl] at hcs
 generalize hx:iZ p l.dropLast c.goal c.rest c.σ c.N c.left=x at hinv hct
 obtain⟨⟨ck,cn,cs',cts⟩,aA4,aA3,cσ,cN⟩:=c
 rw[UW] at hct hat
 simp only[aY] at hct
 simp only[aF,aB.aJ,aA,seval,wC]
 refine aP (fun h=>?_) (fun h=>absurd hlp (by simpa using h))
 simp only[aF,aB.aJ,hw,hat,aA,↓aS,seval,wC]
 cases x with
 | none=>
  have MY:∀st,aD prog 228 [.slice (p.map bY),.agg [.fslice [],.fslice [],.slice (l.dropLast.map fT)],.agg [.int .i64 ck,.int .i64 cn,.str cs',.slice (cts.map Tm.av),.slice (aA4.map eN),.slice (aA3.map nv),.slice (cZ cN cσ)]] st (fun r st'=>r=.tup [.agg [.slice [],.slice [],.slice (l.dropLast.map fT)],.bool false]∧st'=st):=fun st=>
   aD.rT ((hct st).mono fun _ _ h=>⟨h.2,h.1⟩)
  simp only at hinv
  refine wP [(0,1),(1,1),(3,1),(2,2),(4,1),(5,1),(6,2),(7,1),(8,1),(9,1),(10,1),(11,0),(12,0),(13,1)] [0,1,3,2,4,5,6,7,8,9,10,13] mixed ?_
  simp only[aB.aJ,hcs,aA,seval,wC]
  refine Q8 MY ?_
  simp only[aK,aB.aJ,aA,seval,wC]
  intro b8 h8
  have h83:b8≠b3:=by rintro rfl;rw[aB.aJ] at h8;cases h8
  rw[aB.aH _ _ h83] at h8
  have h84:b8≠b4:=by rintro rfl;rw[hW4] at h8;cases h8
  have hs8:st b8=none:=by rw[←hW,aB.aH _ _ h84] at h8;exact h8
  have h38:=c9 h83
  have h48:=c9 h84
  simp only[aK,h38,aB.aJ,hcs,aA,seval,wC]
  refine⟨(l.dropLast,.fslice [],.fslice []),by simp only;omega,⟨by simp only;omega,fun c h=>hlc c (PH _ h),.inr rfl,.inr rfl,hinv⟩,aO.drop (fun q=>?_) (by simp only[aA,seval])⟩
  by_cases q3:q=b3
  · subst q3;rw[aB.aJ,aB.aJ];simp
  rw[aB.aH _ _ q3,aB.aH _ _ q3]
  by_cases q8:q=b8
  · subst q8;rw[aB.aJ,h8];simp
  rw[aB.aH _ _ q8,aB.aH _ _ q3]
  simp
 | some s=>
  have MY:∀st,aD prog 228 [.slice (p.map bY),.agg [.fslice [],.fslice [],.slice (l.dropLast.map fT)],.agg [.int .i64 ck,.int .i64 cn,.str cs',.slice (cts.map Tm.av),.slice (aA4.map eN),.slice (aA3.map nv),.slice (cZ cN cσ)]] st (fun r st'=>r=.tup [pN s,.bool true]∧st'=st):=fun st=>
   aD.rT ((hct st).mono fun _ _ h=>⟨h.2,h.1⟩)
  simp only at hinv
  simp only[pN] at MY
  refine wP [(0,1),(1,1),(3,1),(2,2),(4,1),(5,1),(6,2),(7,1),(8,1),(9,1),(10,1),(11,0),(12,0),(13,1)] [0,1,3,2,4,5,6,7,8,9,10,13] mixed ?_
  simp only[aB.aJ,hcs,aA,seval,wC]
  refine Q8 MY ?_
  simp only[aK,aB.aJ,aA,seval,wC]
  intro b8 h8
  have h83:b8≠b3:=by rintro rfl;rw[aB.aJ] at h8;cases h8
  rw[aB.aH _ _ h83] at h8
  have h84:b8≠b4:=by rintro rfl;rw[hW4] at h8;cases h8
  have hs8:st b8=none:=by rw[←hW,aB.aH _ _ h84] at h8;exact h8
  have h38:=c9 h83
  have h48:=c9 h84
  simp only[hne,h48,hW4,aA,seval]
  refine⟨st,?_,rfl,?_⟩
  · have d1:aL W st:=by rw[←hW];exact(aL.refl _).aC TH
    exact((d1.aC h3).aC hs8).aC TH
  · rw[←hinv]
    simp only[iF,jJ,rU,nE,bA,aY]
    rfl
theorem bAB{φ:AF}{t:TypeId}{ag:Bool}{w:Nat}{y:Operand}{e:AV}{es:List AV}(hI:eI prog t=some (ag,w))(h:φ.eval y=.int .i64 1)(hw:∀x∈es,x.width=w):eV prog φ t (.slice (e::es)) (some y) none none=some (.slice es):=by
 have hwo:wI (e::es) 1 w=true:=by
  unfold wI
  rw[A7]
  split
  · rename_i x hx
    simp [hw x (cH hx)]
  · rfl
 unfold eV
 rw[aE (by simp [nV])]
 simp only[mG,hI]
 rw[aE (by simp)]
 simp only[dC,h]
 rw[aG (by constructor<;>simp<;>omega)]
 simp [hwo]
theorem aXZ(c:Int)(st:aB):aD prog 227 [.int .i64 c] st (fun r st'=>r=.int .i64 (p6 c)∧st'=st):=by
 refine aD.done ?_
 refine wF [1000000] 1 func227 ntmps227 rfl rfl ?_
 intro _
 simp only[aA,seval]
 unfold p6
 refine aP (fun h=>?_) (fun h=>?_)
 · simp only[aA,seval]
   have h':c=2:=by simpa using h
   exact⟨by rw[aG h'];try rfl,aL.refl _⟩
 rw[aE (show ¬c=2 by simpa using h)]
 simp only[aA,seval]
 refine aP (fun h=>?_) (fun h=>?_)
 · simp only[aA,seval]
   have h':c=3:=by simpa using h
   exact⟨by rw[aG h'];try rfl,aL.refl _⟩
 rw[aE (show ¬c=3 by simpa using h)]
 simp only[aA,seval]
 refine aP (fun h=>?_) (fun h=>?_)
 · simp only[aA,seval]
   have h':c=4:=by simpa using h
   exact⟨by rw[aG h'];try rfl,aL.refl _⟩
 rw[aE (show ¬c=4 by simpa using h)]
 simp only[aA,seval]
 exact⟨rfl,aL.refl _⟩
def vF(s0:RS)(x:RO)(r:AV):Prop:=match x with
 | .go s=>r=.tup [pN s,.int .i64 (-1)]
 | .fail=>r=.tup [pN s0,.int .i64 (-2)]
 | .stop e=>0≤e∧∃l1 l2 l3,r=.tup [.agg [.slice l1,.slice l2,.slice l3],.int .i64 e]
abbrev n9:=zi OI (zi aW (zi cF (zi cW (zi fJ (zi jM (zi cA (zi bR (zi J2 (zi WM (zi J3 (zi aRE WO)))))))))))
theorem aX7{p:List Cl}(hp:∀c∈p,gD c∧c.2.length≤6)(hpl:p.length≤1048576){B:Nat}(hB:B+26≤524288)(goals:List RG)(σ:Sub)(N:Nat)(chs:List RC)(g:RG)(rest:List RG)(hgs:goals=g::rest)(h:qW p B ⟨goals,σ,N,chs⟩)(hK:BB ⟨goals,σ,N,chs⟩)(st:aB) :
 aD prog 136 [.slice (p.map bY),.agg [.slice (goals.map eN),.slice (cZ N σ),.slice (chs.map fT)]] st (fun r st'=>st'=st∧vF ⟨goals,σ,N,chs⟩ (iY p (fun _ l=>l) ⟨goals,σ,N,chs⟩ g rest) r):=by
 subst hgs
 obtain⟨hg,ho,hd,hgo,h0,hN,hgl,hcl,hch⟩:=h
 simp only at hg ho hd hgo h0 hN hgl hcl hch
 obtain⟨hgx,hg3⟩:=hgo g (by simp)
 have EX:∀x∈rest,bG N x.t∧x.t.k=3:=fun x hx=>hgo x (by simp [hx])
 have hkp:=hK.goals.2 g (by simp)
 simp only at hkp
 have hsm:=aAC hg ho g.t hgx
 have hyk:(g.t.aM (rs σ)).k=3:=by rw[Tm.rO _ (by omega)];exact hg3
 have hfo:=MH hg ho hgx
 generalize hR:iY p (fun _ l=>l) ⟨g::rest,σ,N,chs⟩ g rest=R
 unfold iY at hR
 dsimp only at hR
 obtain⟨⟨gk,gn,gs',gts⟩,aV⟩:=g
 simp only at hgx hg3 hkp hsm hyk hfo
 dsimp only at hR
 generalize (Tm.mk gk gn gs' gts).aM (rs σ)=y at *
 obtain⟨yk,yn,ys,yts⟩:=y
 obtain rfl:yk=3:=hyk
 have hat:c8 prog 158 (.slice ((⟨.mk gk gn gs' gts,aV⟩::rest).map eN)) (.int .i64 0)=some (.pptr (eN ⟨.mk gk gn gs' gts,aV⟩)):=bH (av:=eN) (l:=⟨.mk gk gn gs' gts,aV⟩::rest) (i:=0) HX rfl (FR _)
 have hs1:=fun(φ:AF) (y:Operand) (h:φ.eval y=.int .i64 1)=>bAB (e:=eN ⟨.mk gk gn gs' gts,aV⟩) (es:=rest.map eN) HX h (by intro e he;simp only[cB] at he;obtain⟨t,_,rfl⟩:=he;exact FR t)
 rw[bA,CO] at hat
 rw[CO] at hs1
 rw[bA,CO]
 simp only[aX] at hsm
 refine aD.fin (aD.nR ?_)
 refine wF [1000000] 2 func136 ntmps136 rfl rfl ?_
 intro _
 simp only[aU,hat,hs1,aA,↓aS,seval,n9]
 intro b4 h4
 refine(hsm _).mono ?_
 rintro _ _ ⟨rfl,x,rfl,hx⟩
 generalize eR:eQ (.mk 3 yn ys yts)=fit at *
 have BV:∀(o:AO) (r:AV) (x:RO),vF ⟨⟨.mk gk gn gs' gts,aV⟩::rest,σ,N,chs⟩ x (r.fin 0 [])→∃s2,aL (st.aC b4 o) s2∧∃b l s0,s2=bE s0 b l∧(l≠[]→s0 b=none)∧(∀e∈l,e.cD=false)∧iT l∧s0=st∧vF ⟨⟨.mk gk gn gs' gts,aV⟩::rest,σ,N,chs⟩ x (r.fin b l):=fun o r x hr=>
  ⟨st,(aL.refl _).aC h4,0,[],st,rfl,by simp,by simp,⟨0,by simp⟩,rfl,hr⟩
 simp only[aU,aN,cI,cP,aA,↓aS,seval,n9]
 refine aP (fun h=>?_) (fun h=>?_)
 · have h':fit=false:=by simpa using h
   subst h'
   rw[aG rfl] at hR
   subst hR
   simp only[aK,aU,aA,seval,n9]
   exact BV _ _ _ ⟨by decide,_,_,_,by simp only[iX,jS,eW,iO,bA,aY];rfl⟩
 obtain rfl:fit=true:=by simpa using h
 obtain rfl:=hx rfl
 simp only[aX]
 have hyo:=hfo rfl
 rw[aE (by simp)] at hR
 have zP:∀st,aD prog 225 [.agg [.int .i64 3,.int .i64 yn,.str ys,.slice (yts.map Tm.av)]] st (fun r st'=>r=.bool (sM (.mk 3 yn ys yts))∧st'=st):=fun st=>by
  have:=Z5 3 yn ys yts st
  rw[aX] at this
  exact this
 have hbi:=fun st=>Q3 ys (yts.length:Int) st
 have aMM:=fun st=>aXN p (.mk 3 yn ys yts) hpl st
 have aM5:=fun hb=>aU9 (N:=N) h0 (by omega) hg ho yn ys yts hb (rP N (.mk 3 yn ys yts) (by show(3:Int)≠1;decide) hyo)
 have htr:=aAD p hp
 simp only[aX] at aMM aM5
 replace hR:(if sM (.mk 3 yn ys yts)=true then RO.go ⟨rest,σ,N,chs.take aV⟩ else if isBuiltin ys (yts.length:Int)=true then(if(dE σ ys yts).1=0 then RO.go ⟨rest,(dE σ ys yts).2.1,N,chs⟩ else if(dE σ ys yts).1=1 then RO.fail else RO.stop (p6 (dE σ ys yts).1)) else if eJ p (.mk 3 yn ys yts)= [] then RO.stop 8 else match iZ p chs (.mk 3 yn ys yts) rest σ N (eJ p (.mk 3 yn ys yts)) with | some s'=>RO.go s' | none=>RO.fail)=R:=hR
 generalize hcu:sM (.mk 3 yn ys yts)=cu at *
 have hs2:=fun(φ:AF) (d:Nat) (h:φ d=.int .i64 (aV:Int))=>aPO (es:=chs.map fT) (k:=aV) EC h (by simpa using hkp)
 rw[←GS] at hs2
 refine(zP _).to ?_
 simp only[aA,seval]
 refine aP (fun h=>?_) (fun h=>?_)
 · rw[aG h] at hR
   subst h hR
   simp only[aA,seval]
   refine wP [(0,1),(1,1),(3,1),(5,1),(2,2),(4,2),(6,2),(7,1),(8,1),(9,0),(10,1)] [0,1,3,5,2,4,6,7,8,10] mixed ?_
   simp only[aK,aU,hs2,aA,seval,n9]
   exact BV _ _ _ (by simp only[iX,jS,eW,iO,bA,aY];rfl)
 rw[aE (by rw[h];simp)] at hR
 subst h
 simp only[aF,aA,seval,n9]
 refine(hbi _).to ?_
 simp only[aA,seval]
 refine aP (fun h=>?_) (fun h=>?_)
 · have EY:=aM5 h
   rw[aG h] at hR
   simp only[aA,seval,n9]
   refine QF h0 (by omega) σ fun b hb hA0=>?_
   have hst:=aL.aC (aL.refl st) (o:=.cells [.fslice [],.fslice [],.fslice []]) h4
   generalize hW:st.aC b4 (.cells [.fslice [],.fslice [],.fslice []])=W at *
   have hW4:W b4=some (.cells [.fslice [],.fslice [],.fslice []]):=by rw[←hW];exact aB.aJ _ _ _
   have hT:aL (W.aC b (.cells ((cZ N σ).flatMap AV.cells))) W:=(aL.refl _).aC hb
   generalize W.aC b (.cells ((cZ N σ).flatMap AV.cells))=T at *
   have hb4:b≠b4:=by rintro rfl;rw[hW4] at hb;cases hb
   simp only[aU,aA,seval,n9]
   refine(EY b _ hA0).mono ?_
   rintro _ s2 ⟨rfl,hA,hk2⟩
   have a36:=bAI σ ys yts
   generalize dE σ ys yts=S at *
   obtain⟨c,σ',tr⟩:=S
   simp only at hA a36 ⊢
   dsimp only at hR
   have hDs:aL s2 W:=by
    intro q
    have key:∀o,W q=some o→s2 q=some o:=fun o h=>hk2 q o ((hT q).2 o h) (by rintro rfl;rw[hb] at h;cases h)
    refine⟨fun h=>?_,key⟩
    cases hq:W q with
    | none=>rfl
    | some o=>rw[key o hq] at h;cases h
   have TG:=(hDs b4).2 _ hW4
   have a5U:st b=none:=by rw[←hW,aB.aH _ _ hb4] at hb;exact hb
   have aLJ:∀(o:AO) (r:AV) (x:RO),vF ⟨⟨.mk gk gn gs' gts,aV⟩::rest,σ,N,chs⟩ x (r.fin 0 [])→∃s3,aL (s2.aC b4 o) s3∧∃b l s0,s3=bE s0 b l∧(l≠[]→s0 b=none)∧(∀e∈l,e.cD=false)∧iT l∧s0=st∧vF ⟨⟨.mk gk gn gs' gts,aV⟩::rest,σ,N,chs⟩ x (r.fin b l):=fun o r x hr=>
    ⟨st,(hDs.trans hst).aC h4,0,[],st,rfl,by simp,by simp,⟨0,by simp⟩,rfl,hr⟩
   simp only[aA,seval]
   refine aP (fun h=>?_) (fun h=>?_)
   · have hc0:c=0:=by simpa using h
     subst hc0
     rw[aG rfl] at hR
     subst hR
     simp only[aK,aU,TG,aA,seval,n9]
     have pE:cZ N σ'≠[]:=by intro e;have:=vJ N σ';rw[e] at this;simp at this;omega
     refine⟨st.aC b (.cells ((cZ N σ').flatMap AV.cells)),fun q=>?_,b,cZ N σ',st,by rw[kS pE],fun _=>a5U,HI _ _,⟨4,D0 _ _⟩,rfl,?_⟩
     · by_cases q4:q=b4
       · subst q4;rw[aB.aJ,aB.aH _ _ (c9 hb4),h4];simp
       rw[aB.aH _ _ q4]
       by_cases qb:q=b
       · subst qb;rw[aB.aJ,show s2 q=_ from hA];simp
       rw[aB.aH _ _ qb]
       exact(hDs.trans hst) q
     · simp only[iX,jS,eW,iO,bA,aY,MF h0]
       rfl
   have hc0:c≠0:=by simpa using h
   rw[aE hc0] at hR
   simp only[aA,seval]
   refine aP (fun h=>?_) (fun h=>?_)
   · have hc1:c=1:=by simpa using h
     subst hc1
     rw[aG rfl] at hR
     subst hR
     simp only[aK,aU,TG,aA,seval,n9]
     exact aLJ _ _ _ (by simp only[vF,pN,bA,CO];simp only[iX,jS,eW,iO,bA,aY])
   have hc1:c≠1:=by simpa using h
   rw[aE hc1] at hR
   subst hR
   have vS:0≤p6 c:=by unfold p6;split;omega;split;omega;split;omega;omega
   simp only[aA,seval]
   refine wP [(1,1),(0,2),(2,2),(3,0),(4,1)] [1,0,2,4] mixed ?_
   simp only[aU,aA,seval,n9]
   refine gP (aXZ c _) ?_
   simp only[aK,aU,TG,aA,seval,n9]
   exact aLJ _ _ _ ⟨vS,_,_,_,by simp only[iX,jS,eW,iO,bA,aY];rfl⟩
 rw[aE (by rw[h];simp)] at hR
 simp only[aU,aA,seval,n9]
 refine(aMM _).to ?_
 have hcx:yS p ⟨.mk 3 yn ys yts,rest,eJ p (.mk 3 yn ys yts),σ,N⟩:=⟨hg,ho,hd,hyo,EX,fun i hi=>by
  unfold eJ at hi
  exact wO.1 (List.mem_filter.1 hi).1,by simp only;simp only[aU] at hgl;omega,by
  have:=MJ p (.mk 3 yn ys yts) p.length
  rw[←MI] at this
  simp only;omega⟩
 have E0:=fun st=>htr (⟨.mk gk gn gs' gts,aV⟩::rest) (cZ N σ) chs _ hcx h0 (by simp only;omega) (by omega) st
 rw[bA,CO,UW] at E0
 simp only at E0
 generalize eJ p (.mk 3 yn ys yts)=left at *
 simp only[aF,aA,seval,n9]
 refine aP (fun h=>?_) (fun h=>?_)
 · have h':left= []:=by
    have:(left.length:Int)=0:=by simpa using h
    exact o0 (by omega)
   rw[aG h'] at hR
   subst hR
   simp only[aK,aU,aA,seval,n9]
   exact BV _ _ _ ⟨by decide,_,_,_,by simp only[iX,jS,eW,iO,bA,aY];rfl⟩
 have h':left≠[]:=by
  rintro rfl
  simp at h
 rw[aE h'] at hR
 generalize iZ p chs (.mk 3 yn ys yts) rest σ N left=x at *
 simp only[aU,aA,seval,n9]
 cases x with
 | none=>
  simp only at hR E0
  subst hR
  refine(E0 _).mono ?_
  rintro _ _ ⟨rfl,rfl⟩
  simp only[aK,aU,aA,↓aS,seval,n9]
  exact BV _ _ _ (by simp only[vF,pN,bA,CO];simp only[iX,jS,eW,iO,bA,aY])
 | some s=>
  simp only[pN] at hR E0
  subst hR
  refine(E0 _).mono ?_
  rintro _ _ ⟨rfl,rfl⟩
  simp only[aK,aU,aA,↓aS,seval,n9]
  exact BV _ _ _ (by simp only[iX,jS,eW,iO,bA,aY];rfl)
theorem a93{N:Int}{t:Tm}(h:cJ N t):dG 0 t=t:=by
 have h1:dG 0 t=t.aM vr:=by
  unfold dG b9
  congr 1
  funext v
  congr 1
  simp
 rw[h1,I0 t h.2.1]
theorem YX(N:Nat):cZ N Sub.none=List.replicate N zt:=by
 apply DH
 intro i
 by_cases h:i<N
 · rw[BL N _ h,List.getElem?_replicate,aG h];try rfl
 · rw[wN (by rw[vJ];omega),wN (by simp;omega)]
abbrev VZ:=zi aW (zi cA (zi J2 J3))
theorem aX6(q:List Tm)(hq:∀t∈q,bG 26 t)(h6:q.length≤6)(st:aB):aD prog 134 [.slice (q.map Tm.av)] st (fun r st'=>r=pN (lU q)∧st'=st):=by
 have hgo:∀st,aD prog 222 [.slice (q.map Tm.av),.int .i64 0,.int .i64 0,.fslice []] st (fun r st'=>r=.slice ((lU q).goals.map eN)∧st'=st):=fun st=>
  aD.rT ((aAB q 0 0 [] hq h6 (by omega) (by simp) st).mono fun _ _ h=>⟨by
   rw[h.1]
   unfold lU
   rw[gM]
   congr 2
   exact qU fun t ht=>by rw[a93 (hq t ht).1],h.2⟩)
 refine aD.m8 (aD.fin (aD.nR ?_))
 refine wF [1000000,3] 1 func134 ntmps134 rfl rfl ?_
 intro _
 simp only[aA,seval,VZ]
 intro b2 h2
 simp only[yX,aK,xE,↓MA,↓KM,List.contains,List.elem,A0,qQ,r7,↓reduceIte,reduceCtorEq,Nat.reduceEqDiff,Nat.reduceAdd,Nat.reduceLT,Nat.reduceBEq,VZ]
 refine⟨by omega,by omega,by omega,fun bb hbb=>?_⟩
 rw[show Int.toNat 26=26 from rfl,aNS _ (by simp)]
 have hb2:bb≠b2:=by rintro rfl;rw[aB.aJ] at hbb;cases hbb
 have MX:(List.replicate 26 [AV.int .i64 0,.int .i64 0,.str ⟨#[]⟩,.fslice []]).flatten=(cZ 26 Sub.none).flatMap AV.cells:=by
  rw[YX];try rfl
 rw[MX]
 have h22:(st.aC b2 (AO.cells [AV.fslice [],AV.fslice [],AV.fslice []])) b2=some (AO.cells [AV.fslice [],AV.fslice [],AV.fslice []]):=aB.aJ _ _ _
 have hD2:aL (st.aC b2 (AO.cells [AV.fslice [],AV.fslice [],AV.fslice []])) st:=(aL.refl _).aC h2
 intro b3 h3
 have h3b:b3≠bb:=by rintro rfl;rw[aB.aJ] at h3;cases h3
 rw[aB.aH _ _ h3b] at h3
 have h32:b3≠b2:=by rintro rfl;rw[aB.aJ] at h3;cases h3
 have hs3:st b3=none:=by rw[aB.aH _ _ h32] at h3;exact h3
 have hsb:st bb=none:=by rw[aB.aH _ _ hb2] at hbb;exact hbb
 refine(hgo _).to ?_
 have e1:=c9 h3b
 have e2:=c9 h32
 have e3:=c9 hb2
 simp only[aK,e2,e3,aB.aJ,aA,seval,VZ]
 have pE:cZ 26 Sub.none≠[]:=by rw[YX];simp
 refine⟨st.aC bb (.cells ((cZ 26 Sub.none).flatMap AV.cells)),fun q'=>?_,bb,cZ 26 Sub.none,st,by rw[kS pE],fun _=>hsb,HI _ _,⟨4,D0 _ _⟩,?_,aL.refl _⟩
 · by_cases q2:q'=b2
   · subst q2;rw[aB.aJ,aB.aH _ _ e3,h2];simp
   rw[aB.aH _ _ q2]
   by_cases q3:q'=b3
   · subst q3;rw[aB.aJ,aB.aH _ _ h3b,hs3];simp
   simp only[aB.aH _ _ q3]
   by_cases qb:q'=bb
   · subst qb;rw[aB.aJ,aB.aJ];simp
   rw[aB.aH _ _ qb,aB.aH _ _ qb,aB.aH _ _ q2]
   simp
 · simp only[iX,iO,nS,bA,aY,MF (show 0<26 by omega)]
   rfl
theorem QB{S:aB}{b c:Nat}{l:List AV}{o:AO}(h:l≠[]→b≠c):(bE S b l).aC c o=bE (S.aC c o) b l:=by
 cases l with
 | nil=>rfl
 | cons x l=>rw[kS (by simp),kS (by simp),aB.lZ _ _ _ (h (by simp))]
theorem uO{p:List Cl}{cnd:Tm→List Nat→List Nat}{vars:List Int}{most fuel:Nat}{s:RS}(hg:s.goals= []):iP p cnd vars most fuel s=if most=0 then([],1) else match jD s.σ vars with
 | none=>([],3)
 | some a=>match fS p s.chs.length s.chs with
  | none=>([a],0)
  | some s'=>(a::(iP p cnd vars (most - 1) fuel s').1,(iP p cnd vars (most - 1) fuel s').2):=by
 rw[iP.eq_def,hg]
 simp only
 split<;>rfl
theorem rS{p:List Cl}{cnd:Tm→List Nat→List Nat}{vars:List Int}{most fuel:Nat}{s:RS}{g:RG}{rest:List RG}(hg:s.goals=g::rest):iP p cnd vars most fuel s=if fuel=0 then([],2) else match iY p cnd s g rest with
 | .stop e=>([],e)
 | .go s'=>iP p cnd vars most (fuel - 1) s'
 | .fail=>match fS p s.chs.length s.chs with
  | none=>([],0)
  | some s'=>iP p cnd vars most (fuel - 1) s':=by
 rw[iP.eq_def,hg]
 simp only
 split<;>rfl
structure XT (p:List Cl) (vars:List Int) (most fuel:Nat) (T:List (List Tm)×Int) (s:RS) (out:List (List Tm)) (f B:Nat):Prop where
 tot:T=(out++(iP p (fun _ l=>l) vars (most - out.length) f s).1,(iP p (fun _ l=>l) vars (most - out.length) f s).2)
 len:out.length≤most
 ok:mE p B s
 bd:B+26*f≤8000
abbrev nG:=zi OI (zi aW (zi cF (zi fJ (zi nH (zi jM (zi cA (zi tD (zi J2 J3))))))))
theorem aX5{p:List Cl}(hp:∀c∈p,gD c∧c.2.length≤6)(hpl:p.length≤20){q:List Tm}(hq:∀t∈q,bG 26 t∧t.k=3)(h6:q.length≤6){most fuel:Nat}(hm:most≤20)(hf:fuel≤300)(st:aB) :
 aD prog 59 [.slice (p.map bY),.slice (q.map Tm.av),.int .i64 (most:Int),.int .i64 (fuel:Int)] st (fun r st'=>r=.tup [.slice ((wA p (fun _ l=>l) q most fuel).1.map bU),.int .i64 (wA p (fun _ l=>l) q most fuel).2]∧st'=st):=by
 have hnd:bB Tm.nodes q≤1099511627776:=by
  have:=E9 q fun t ht=>(hq t ht).1.2
  omega
 have hva:=fun st=>aAE q st (fun t ht=>Tm.tZ t (hq t ht).1.1.2.1) hnd
 have IR:=fun st=>aX6 q (fun t ht=>(hq t ht).1) h6 st
 have hv:∀v∈bT q [],0≤v∧v<26:=fun v hv=>by
  rcases (yF q [] fun t ht=>(hq t ht).1.1.2.1).1 hv with h | ⟨t,ht,h⟩
  · cases h
  · exact(hq t ht).1.1.2.2 v h
 have hvl:(bT q []).length≤1000:=by
  have h1:=AT q []
  have h2:=E9 q fun t ht=>(hq t ht).1.2
  simp only[aZ] at h1
  omega
 have M4:=mE.start (p:=p) hq h6
 generalize hT:wA p (fun _ l=>l) q most fuel=T
 unfold wA at hT
 generalize bT q []=vars at *
 have hI0:XT p vars most fuel T (lU q) [] fuel 26:=⟨by rw[←hT];try rfl,iU _,M4,by omega⟩
 generalize lU q=s0 at *
 simp only[pN] at IR
 refine aD.m8 (aD.fin (aD.nR ?_))
 refine wF [1000000,12] 4 func59 ntmps59 rfl rfl ?_
 intro _
 simp only[aA,seval,nG]
 refine(hva _).to ?_
 simp only[aA,seval]
 refine(IR _).to ?_
 simp only[aK,aA,↓aS,seval,nG]
 intro b12 h12
 refine iJ (σ:=RS×List (List Tm)×Nat×Nat×Nat) [1000000,12] [0,2,11,12] (fun x=>XT p vars most fuel T x.1 x.2.1 x.2.2.1 x.2.2.2.1∧(x.2.1.map bU≠[]→(st.aC b12 (.cells [.slice (x.1.goals.map eN),.slice (cZ x.1.N x.1.σ),.slice (x.1.chs.map fT)])) x.2.2.2.2=none))
  (fun x=>[(3,.int .i64 (x.2.2.1:Int)),(8,.fslice []),(9,.int .i64 0),(10,bS 1 x.2.2.2.2 (x.2.1.map bU))])
  (fun x=>bE (st.aC b12 (.cells [.slice (x.1.goals.map eN),.slice (cZ x.1.N x.1.σ),.slice (x.1.chs.map fT)])) x.2.2.2.2 (x.2.1.map bU))
  (fun x=>(most - x.2.1.length)+x.2.2.1) (by decide +kernel) ⟨(s0,[],fuel,26,0),⟨hI0,by simp⟩,aO.mk (by simp only[iV,aY,aA,seval])⟩ ?_
 rintro⟨s,out,f,B,b⟩ ⟨⟨tot,hlen,hok,hbd⟩,hb⟩
 simp only at tot hlen hok hbd hb
 simp only
 have hbc:out.map bU≠[]→b≠b12:=fun h=>by rintro rfl;have:=hb h;rw[aB.aJ] at this;cases this
 have rE:=BI hb (aB.aJ st b12 (.cells [.slice (s.goals.map eN),.slice (cZ s.N s.σ),.slice (s.chs.map fT)]))
 have hlo:(out.map bU).length=out.length:=aF _
 have a4X:∀l:List (List Tm),∀e∈l.map bU,e.cD=false:=fun l e he=>by simp only[cB] at he;obtain⟨t,_,rfl⟩:=he;rfl
 have M5:∀l:List (List Tm),∀e∈l.map bU,e.width=1:=fun l e he=>by simp only[cB] at he;obtain⟨t,_,rfl⟩:=he;rfl
 have fin:∀(S:aB) (b:Nat) (l:List (List Tm)) (e:Int),(l.map bU≠[]→S b=none)→aL S st→T=(l,e)→∃s2,aL (bE S b (l.map bU)) s2∧∃b' l' s0,s2=bE s0 b' l'∧(l'≠[]→s0 b'=none)∧(∀e∈l',e.cD=false)∧iT l'∧(AV.tup [bS 1 b (l.map bU),.int .i64 e]).fin b' l'=.tup [.slice (T.1.map bU),.int .i64 T.2]∧aL s0 st:=fun S b l e h1 h2 h3=>
  ⟨_,aL.refl _,b,l.map bU,S,rfl,h1,a4X l,⟨1,M5 l⟩,by subst h3;simp only[jS,eW,kJ,bA,aY],h2⟩
 have hSD:∀o,aL (st.aC b12 o) st:=fun o=>(aL.refl _).aC h12
 generalize hX:(AO.cells [.slice (s.goals.map eN),.slice (cZ s.N s.σ),.slice (s.chs.map fT)])=X at rE hb
 have rE:=rE.trans (eA some hX.symm)
 have hun:prog.underlying 27=some (.slice 38):=by kernel_rfl
 have vV:=BJ (w:=1) (b:=b) (l:=out.map bU) hun
 rw[hlo] at vV
 cases hgs:s.goals with
 | nil=>
  rw[hgs] at hX rE
  simp only[aY] at hX rE
  rw[uO hgs] at tot
  simp only[aZ,vV,rE,aA,seval,nG]
  refine aP (fun h=>?_) (fun h=>?_)
  · have h':out.length=most:=by simp at h;omega
    rw[aG (by omega)] at tot
    simp only[mZ,aA,seval]
    exact fin _ b out 1 hb (hSD _) (by rw[tot,gM])
  have h':out.length<most:=by simp at h;omega
  rw[aE (by omega)] at tot
  simp only[rE,aA,seval,nG]
  refine(aXY (N:=s.N) hok.a.gY hok.a.ok vars (fun v h=>⟨(hv v h).1,by have:=(hv v h).2;have:=hok.l.1;omega⟩) hvl _).mono ?_
  rintro _ _ ⟨rfl,a,rfl,ha⟩
  cases rF:jD s.σ vars with
  | none=>
   rw[rF] at tot
   simp only[Option.isSome_none,bU]
   simp only[aZ,aU,mZ,aA,↓aS,seval,nG]
   exact fin _ b out 3 hb (hSD _) (by rw[tot,gM])
  | some x=>
   obtain rfl:=ha x rF
   rw[rF] at tot
   simp only[Option.isSome_some,bU] at tot ⊢
   simp only[aZ,aU,aA,↓aS,seval,nG]
   refine eO (P:=prog) (b:=b) (l:=out.map bU) (xs:=[bU a]) oN HW H0 rfl rfl (fQ rfl rfl) (M5 out) hb (by simp only[aU,aZ,hlo];omega) (by simp only[aU,aZ,hlo];omega) (fun b' hb'=>?_)
   rw[show(out.map bU)++ [bU a]=(out++ [a]).map bU by simp] at hb' ⊢
   have aL3:=(BI hb' (aB.aJ st b12 X)).trans (eA some hX.symm)
   simp only[aZ,aU,aL3,aA,seval,nG]
   have MW:(f:Int)=(f:Int):=rfl
   refine(Z9 hp (B:=B) (by omega) [] (cZ s.N s.σ) s.chs hok.a.p5 hok.a.chs _).mono ?_
   rintro r _ ⟨rfl,hr⟩
   cases hbk:fS p s.chs.length s.chs with
   | none=>
    rw[hbk] at hr tot
    simp only at hr tot
    obtain⟨l1,l2,l3,rfl⟩:=hr
    simp only[aZ,aU,mZ,aA,↓aS,seval,nG]
    exact fin _ b' (out++ [a]) 0 hb' (hSD _) (by rw[tot];try rw[gM])
   | some s'=>
    rw[hbk] at hr tot
    simp only[pN] at hr tot
    subst hr
    simp only[aK,aZ,aU,aL3,aA,↓aS,seval,nG]
    rw[QB (fun h=>by rintro rfl;have:=hb' h;rw[aB.aJ] at this;cases this),dO]
    have hne:(out++ [a]).map bU≠[]→b'≠b12:=fun h=>by rintro rfl;have:=hb' h;rw[aB.aJ] at this;cases this
    refine⟨(s',out++ [a],f,B,b'),by simp only[dN,aU,aZ];omega,⟨⟨by rw[tot];try simp only[lL,gV,fB,dN,aU,aZ,Nat.sub_sub];try rfl,by simp only[dN,aU,aZ];omega,hok.back hp (by omega) hbk,by simp only;omega⟩,fun h=>by rw[aB.aH _ _ (hne h)];have:=hb' h;rwa [aB.aH _ _ (hne h)] at this⟩,aO.mk (by simp only[aA,seval])⟩
 | cons g rest=>
  rw[hgs] at hX rE
  rw[rS hgs] at tot
  simp only[aF,aU,rE,aA,seval,nG]
  refine aP (fun h=>absurd h (by simp;omega)) (fun h=>?_)
  simp only[aA,seval]
  refine aP (fun h=>?_) (fun h=>?_)
  · have h':f=0:=by simp at h;omega
    rw[aG h'] at tot
    simp only[mZ,aA,seval]
    exact fin _ b out 2 hb (hSD _) (by rw[tot,gM])
  have h':f≠0:=by simp at h;omega
  rw[aE h'] at tot
  have hw:=bF (n:=(f:Int) - 1)
  simp only[hw,aZ,aU,rE,aA,seval,nG]
  have hst:=aX7 hp (by omega) (B:=B) (by omega) s.goals s.σ s.N s.chs g rest hgs hok.a hok.k
  rw[hgs,bA] at hst
  refine(hst _).mono ?_
  rintro r _ ⟨rfl,hr⟩
  have hse:(⟨g::rest,s.σ,s.N,s.chs⟩:RS)=s:=by rw[←hgs]
  rw[hse] at hr
  cases g7:iY p (fun _ l=>l) s g rest with
  | go s'=>
   rw[g7] at hr tot
   simp only[vF,pN] at hr tot
   subst hr
   simp only[aZ,aU,xE,↓MA,List.contains,List.elem,DA,↓reduceIte,Nat.reduceEqDiff,Nat.reduceAdd,Nat.reduceBEq,nG]
   refine aP (fun h=>absurd h (by decide)) (fun h=>?_)
   simp only[aK,aZ,aU,rE,aA,seval,nG]
   rw[QB hbc,dO]
   have MW:((f - 1:Nat):Int)=(f:Int) - 1:=by omega
   refine⟨(s',out,f - 1,B+26,b),by simp only;omega,⟨⟨tot,hlen,hok.step hp (by omega) (by omega) (cnd:=fun _ l=>l) (fun _ _=>⟨fun _ h=>h,cU _⟩) hgs g7,by simp only;omega⟩,fun h=>by rw[aB.aH _ _ (hbc h)];have:=hb h;rwa [aB.aH _ _ (hbc h)] at this⟩,aO.mk (by simp only[MW,aA,seval])⟩
  | fail=>
   rw[g7] at hr tot
   simp only[vF,pN] at hr tot
   subst hr
   simp only[aZ,aU,xE,↓MA,List.contains,List.elem,DA,↓reduceIte,Nat.reduceEqDiff,Nat.reduceAdd,Nat.reduceBEq,nG]
   refine aP (fun h=>absurd h (by decide)) (fun h=>?_)
   simp only[aZ,aU,rE,aA,seval,nG]
   have MW:((f - 1:Nat):Int)=(f:Int) - 1:=by omega
   refine(Z9 hp (B:=B) (by omega) (g::rest) (cZ s.N s.σ) s.chs hok.a.p5 hok.a.chs _).mono ?_
   rintro r _ ⟨rfl,hr⟩
   cases hbk:fS p s.chs.length s.chs with
   | none=>
    rw[hbk] at hr tot
    simp only at hr tot
    obtain⟨l1,l2,l3,rfl⟩:=hr
    simp only[aZ,aU,mZ,aA,↓aS,seval,nG]
    exact fin _ b (out) 0 hb (hSD _) (by rw[tot];try rw[gM])
   | some s'=>
    rw[hbk] at hr tot
    simp only[pN] at hr tot
    subst hr
    simp only[aK,aZ,aU,rE,aA,↓aS,seval,nG]
    rw[QB (fun h=>by rintro rfl;have:=hb h;rw[aB.aJ] at this;cases this),dO]
    have hne:(out).map bU≠[]→b≠b12:=fun h=>by rintro rfl;have:=hb h;rw[aB.aJ] at this;cases this
    refine⟨(s',out,f - 1,B,b),by simp only[];omega,⟨⟨by rw[tot];try simp only[lL,gV,fB,dN,aU,aZ,Nat.sub_sub];try rfl,by simp only[];omega,hok.back hp (by omega) hbk,by simp only;omega⟩,fun h=>by rw[aB.aH _ _ (hne h)];have:=hb h;rwa [aB.aH _ _ (hne h)] at this⟩,aO.mk (by simp only[MW,aA,seval])⟩
  | stop e=>
   rw[g7] at hr tot
   simp only[vF] at hr tot
   obtain⟨he0,l1,l2,l3,rfl⟩:=hr
   simp only[aZ,aU,aA,↓aS,seval,nG]
   refine aP (fun h=>?_) (fun h=>absurd he0 (by simpa using h))
   simp only[mZ,aA,seval]
   exact fin _ b out e hb (hSD _) (by rw[tot,gM])
end Go.AW
namespace Go.AW
def yQ(st:aB)(xs:List AV)(r:AV)(st':aB):Prop:=∃(os:List AV) (bs:List Nat),r=.tup os∧bs.Nodup∧(∀b∈bs,st b=none)∧bO st' xs os bs∧∀b,b∉bs→st' b=st b
theorem bO.aSG{h:bJ}{st s0:aB}(S:cS h st)(D:aL st s0):∀(xs os:List AV) (bs:List Nat) (vs:List Value),bO st xs os bs→(∀b∈bs,s0 b=none)→dP h st os vs→dP h s0 xs vs
 | [],os,bs,vs,x,_,y=>by simp only[bO] at x;rw[x.1] at y;exact y
 | a::xs,os,bs,vs,x,hb,y=>by
  simp only[bO] at x
  obtain⟨o,os',b1,b2,rfl,rfl,x1,x2⟩:=x
  simp only[dP] at y ⊢
  obtain⟨v,r,e,⟨y0,y1⟩,y2⟩:=y
  exact⟨v,r,e,⟨x1.shape.1.symm.trans y0,cG.view S D a o b1 _ x1 (fun q hq=>hb q (by simp [hq])) y1⟩,bO.aSG S D xs os' b2 r x2 (fun q hq=>hb q (by simp [hq])) y2⟩
theorem aD.aNU{P:Program}{g:FuncId}{args:List AV}{st:aB}{xs:List AV}(x:aD P g args st (yQ st xs)):aD P g args st (fun r st'=>r=.tup xs∧st'=st):=
 x.l7 fun r st' ⟨os,bs,hr,_,h2,h3,h4⟩=>by
  have D:aL st' st:=fun b=>⟨fun e=>by
   by_cases hb:b∈bs
   · exact h2 b hb
   · rw[←h4 b hb];exact e,fun o e=>by
   by_cases hb:b∈bs
   · rw[h2 b hb] at e;cases e
   · rw[h4 b hb];exact e⟩
  refine⟨.tup xs,st,D.u9,fun h v S y=>?_,rfl,rfl⟩
  subst hr
  obtain⟨y0,y1⟩:=y
  refine⟨y0,?_⟩
  unfold VC at y1 ⊢
  obtain⟨vs,e,y2⟩:=y1
  exact⟨vs,e,bO.aSG S D xs os bs vs h3 h2 y2⟩
theorem cG.I5{st:aB}{es:List AV}{q:AV}{bs:List Nat}(h:cG st (.slice es) q bs):q.cells= [q]∧q.storable=true∧q.isAgg=false∧q.width=1∧q.cD=false:=by
 simp only[cG] at h
 rcases h with ⟨_,rfl,_⟩ | ⟨_,_,_,_,rfl,_⟩<;>exact⟨rfl,rfl,rfl,rfl,rfl⟩
theorem aON{s:aB}{x o:AV}{bs:List Nat}:cG s (.agg [x]) o bs↔∃q,o=.agg [q]∧cG s x q bs:=by
 simp only[cG,bO]
 constructor
 · rintro⟨os,rfl,o1,os1,b1,b2,rfl,rfl,h,rfl,rfl⟩
   exact⟨o1,rfl,by simpa using h⟩
 · rintro⟨q,rfl,h⟩
   exact⟨_,rfl,q,[],bs,[],rfl,by simp,h,rfl,rfl⟩
theorem a8F{s:aB}{x y:AV}{os:List AV}{bs:List Nat}:bO s [x,y] os bs↔∃o1 o2 b1 b2,os= [o1,o2]∧bs=b1++b2∧cG s x o1 b1∧cG s y o2 b2:=by
 simp only[bO]
 constructor
 · rintro⟨o1,os1,b1,b1',rfl,rfl,h1,o2,os2,b2,b2',rfl,rfl,h2,rfl,rfl⟩
   exact⟨o1,o2,b1,b2,rfl,by simp,h1,h2⟩
 · rintro⟨o1,o2,b1,b2,rfl,rfl,h1,h2⟩
   exact⟨o1,[o2],b1,b2,rfl,rfl,h1,o2,[],b2,[],rfl,by simp,h2,rfl,rfl⟩
end Go.AW
namespace Go.AW
open Go.Proofs.Tryz
abbrev aA2 (c:Cl):Prop:=c.1.small=true∧c.2.length≤1048576∧∀x∈c.2,x.small=true
def opens(p:List Cl)(q:List Tm)(k:Int):Bool:=nB p&&g8 q&&(decide (0≤k)&&decide (k≤300))
def uP(p:List Cl)(q:List Tm)(k:Int):Ss:=if opens p q k=true then⟨p,q,k,0,0,-1⟩ else⟨[],[],0,0,0,0⟩
theorem aOS{p:List Cl}(h:nB p=true):p.length≤20∧∀c∈p,aA2 c:=by
 simp only[nB,bV,bK,dW] at h
 refine⟨h.1,fun c hc=>?_⟩
 have:=h.2 c hc
 simp only[lS,bV,bK,dW] at this
 refine⟨Tm.O7 this.1.1,by omega,fun x hx=>?_⟩
 have hg:=this.2.2 x hx
 cases x
 simp only[Tm.goal,bV] at hg
 exact Tm.O7 hg.1
theorem aOU{q:List Tm}(h:g8 q=true):q.length≤6∧∀t∈q,t.small=true:=by
 simp only[g8,bV,bK,dW] at h
 refine⟨h.1,fun x hx=>?_⟩
 have hg:=h.2 x hx
 cases x
 simp only[Tm.goal,bV] at hg
 exact Tm.O7 hg.1
abbrev CU:=zi aW (zi cF (zi jM (zi cA lG)))
theorem aYO(p:List Cl)(q:List Tm)(k:Int)(st:aB):aD prog 115 [.slice (p.map bY),.slice (q.map Tm.av),.int .i64 k] st (fun r st'=>r=.tup [aT (uP p q k),.bool (opens p q k)]∧st'=st):=by
 refine aD.done ?_
 refine wF [1000000] 3 func115 ntmps115 rfl rfl ?_
 intro _
 simp only[aA,seval,CU]
 intro b hb
 have kL:opens p q k=false→∀o,(AV.tup [.agg [.fslice [],.fslice [],.int .i64 0,.int .i64 0,.int .i64 0,.int .i64 0],.bool false]).soft=.tup [aT (uP p q k),.bool (opens p q k)]∧aL (st.aC b o) st:=fun h o=>by
  refine⟨?_,(aL.refl _).aC hb⟩
  unfold uP
  rw[h]
  simp only[aT,iF,jJ,iG,rU,lV,bA,aY,fX,dT]
 refine(aAO p _).to ?_
 simp only[aA,seval]
 refine cT (fun h=>?_) (fun h=>?_)
 case refine_2=>
  simp only[h,aK,aA,seval,CU]
  exact kL (by simp at h;simp [opens,h]) _
 simp only[tH] at h
 simp only[h,aA,seval]
 refine(Q4 q _).to ?_
 simp only[aA,seval]
 refine cT (fun h2=>?_) (fun h2=>?_)
 case refine_2=>
  simp only[h2,aK,aA,seval,CU]
  exact kL (by simp at h2;simp [opens,h2]) _
 have hq:g8 q=true:=by simpa using h2
 simp only[h2,aA,seval]
 refine cT (fun h3=>?_) (fun h3=>?_)
 case refine_2=>
  simp only[h3,aK,aA,seval,CU]
  exact kL (by simp at h3;simp only[opens,h,hq,dU];rw[show decide (0≤k)=false from d5 (by omega)];try rfl) _
 simp only[h3,aA,seval]
 refine aP (fun h4=>?_) (fun h4=>?_)
 · simp only[aK,aA,seval,CU]
   exact kL (by simp at h4;simp only[opens,h,hq,dU];rw[show decide (k≤300)=false from d5 (by omega)];simp) _
 simp only[aA,seval,CU]
 have hok:opens p q k=true:=by
  have h3':0≤k:=by simp at h3;omega
  have h4':k≤300:=by simp at h4;omega
  simp [opens,h,hq,h3',h4']
 have hss:uP p q k=⟨p,q,k,0,0,-1⟩:=by unfold uP;rw[aG hok]
 obtain⟨p1,p2⟩:=aOS h
 obtain⟨q1,q2⟩:=aOU hq
 have hc:=fun st=>LM ⟨p,q,k,0,0,-1⟩ (by simp only;omega) p2 (by simp only;omega) q2 st
 simp only[aT] at hc
 refine(hc _).to ?_
 simp only[aK,aA,seval,CU]
 rw[hss,hok]
 exact⟨by simp only[aT,iF,jJ,iG,rU,nE,bA,aY],(aL.refl _).aC hb⟩
def jK(p:List Cl)(q:List Tm)(most fuel:Int):Bool:=nB p&&(g8 q&&(decide (0≤most)&&(decide (most≤20)&&(decide (0≤fuel)&&decide (fuel≤300)))))
noncomputable def fV(p:List Cl)(cnd:Tm→List Nat→List Nat)(q:List Tm)(most fuel:Int):List (List Tm)×Int:=if jK p q most fuel=true then wA p cnd q most.toNat fuel.toNat else([],9)
theorem NO{p:List Cl}(h:nB p=true):p.length≤20∧∀c∈p,gD c∧c.2.length≤6:=by
 simp only[nB,bV,bK,dW] at h
 refine⟨h.1,fun c hc=>⟨aZH (h.2 c hc),?_⟩⟩
 have:=h.2 c hc
 simp only[lS,bV,bK,dW] at this
 exact this.2.1
theorem FN{q:List Tm}(h:g8 q=true):q.length≤6∧∀t∈q,bG 26 t∧t.k=3:=by
 simp only[g8,bV,bK,dW] at h
 refine⟨h.1,fun t ht=>?_⟩
 have hg:=h.2 t ht
 have hk:t.valid=true∧t.k=3:=by
  obtain⟨k,n,s,ts⟩:=t
  simp only[Tm.goal,bV] at hg
  refine⟨hg.1,?_⟩
  have:=hg.2
  simp only[zL,rR,oZ,bV,bK] at this
  simp only[Tm.k]
  rcases this with (h | h) | h<;>first | exact h.1 | exact h.1.1 | exact h.1.1.1
 exact⟨⟨Tm.KG hk.1,Tm.C8 hk.1⟩,hk.2⟩
theorem aD2{α:Type}{P:Program}{t:TypeId}{ag:Bool}{w:Nat}{av:α→AV}{l:List α}{i:Nat}{x:α}(hI:eI P t=some (ag,w))(h:l[i]?=some x)(hw:(av x).width=w):c8 P t (.fslice (l.map av)) (.int .i64 (i:Int))=some (.pptr (av x)):=by
 simp only[c8,hI,jO,mA,h,oG,hw]
 simp
def aLV(l:List ByteArray):AV:=.fslice (l.map AV.str)
abbrev I8 (q:List Tm):Prop:=q.length≤6∧∀t∈q,Dn t
theorem aOV(s:ByteArray):∃q:List Tm,(I8 q∧g8 q=true)∧∃f,G1 (nY (sb s))=.tup [.slice (q.map Tm.av),.bool f]:=by
 cases h:nY (sb s) with
 | none=>exact⟨[],⟨⟨by simp,by simp⟩,rfl⟩,false,rfl⟩
 | some q=>
  obtain⟨h1,h2⟩:=a8K h
  exact⟨q,⟨⟨(FN h1).1,h2⟩,h1⟩,true,rfl⟩
theorem a8P{s:ByteArray}(h:UI s=true):s.size≤200∧∃l:List Cl,z8 (sb s)=some l∧2≤l.length∧l.length≤20∧∀c∈l,vM c:=by
 unfold UI at h
 rw[bV,bK] at h
 refine⟨h.1,?_⟩
 have h2:=h.2
 cases hp:z8 (sb s) with
 | none=>rw[hp] at h2;simp at h2
 | some l=>
  rw[hp] at h2
  simp only[bV,bK] at h2
  refine⟨l,rfl,h2.1,h2.2,fun c hc=>?_⟩
  unfold z8 at hp
  simp only at hp
  split at hp
  · cases hp
  · exact((aA1 _ [] l (by simp) hp).1 c hc).1
abbrev aRB:=zi aW (zi cW (zi cA (zi yE pP)))
theorem aX4(bs:List Bt)(c p:Nat)(st:aB)(hp:p+10≤1099511627776)(hR:gW st c bs p):aD prog 131 [.ptr c 0] st (Dr bs c p 10 st (fun r=>∃q:List Tm,(I8 q∧g8 q=true)∧r=.slice (q.map Tm.av))):=by
 refine wF [1000000] 1 func131 ntmps131 rfl rfl ?_
 intro _
 simp only[aA,seval]
 refine(aX3 _).to ?_
 simp only[aF,aA,seval,aRB]
 refine(y9 bs c p (by omega) W2.length (by decide) (by decide) _ hR).mono ?_
 rintro _ _ ⟨k,hk,rfl,rfl⟩
 obtain⟨x,hx⟩:∃x,W2[k]?=some x:=⟨_,d4 hk⟩
 have hat:=bH (av:=AV.str) sO hx rfl
 simp only[hat,aA,seval,aRB]
 refine(ZG x _).to ?_
 obtain⟨q,hq,f,hf⟩:=aOV x
 rw[hf]
 simp only[aA,seval]
 exact⟨p+1,by omega,by omega,rfl,q,hq,rfl⟩
abbrev J1:=zi aW (zi lH (zi cW (zi jM (zi cA (zi yE (zi pP bBU))))))
set_option maxHeartbeats 1000000 in
theorem aX2(bs:List Bt)(c p:Nat)(st:aB)(hp:p+100≤1099511627776)(hR:gW st c bs p) :
 aD prog 58 [.ptr c 0] st (Dr bs c p 100 st (fun r=>∃(l:List Cl) (q:List Tm),((2≤l.length∧l.length≤20∧∀x∈l,vM x)∧nB l=true)∧(I8 q∧g8 q=true)∧r=.tup [.slice (l.map bY),.slice (q.map Tm.av)])):=by
 refine wF [1000000] 1 func58 ntmps58 rfl rfl ?_
 intro _
 simp only[aA,seval]
 refine(aXQ _).to ?_
 simp only[aF,aA,seval,J1]
 refine(y9 bs c p (by omega) KE.length (by decide) (by decide) _ hR).mono ?_
 rintro _ _ ⟨k,hk,rfl,rfl⟩
 obtain⟨x,hx⟩:∃x,KE[k]?=some x:=⟨_,d4 hk⟩
 have hat:=bH (av:=AV.str) sO hx rfl
 have hk2:k<GH.length:=hk
 obtain⟨y,hy⟩:∃y,GH[k]?=some y:=⟨_,d4 hk2⟩
 obtain⟨hxs,l,hl1,hl2,hl3,hl4⟩:=a8P (dW.1 bB8 x (cH hx))
 have hpv:=dW.1 bB9 x (cH hx)
 rw[hl1] at hpv
 have hyo:=dW.1 bB6 y (cH hy)
 simp only[bV,bK] at hyo
 have aL7:=aD2 (P:=prog) (av:=aLV) aBF hy rfl
 simp only[GH,aLV,bA,aY] at aL7
 have hpp:=fun st=>aVR x (by omega) st
 rw[hl1] at hpp
 simp only[hat,aA,seval,J1]
 refine(hpp _).mono ?_
 rintro _ _ ⟨rfl,rfl⟩
 simp only[aL7,aA,seval,J1]
 refine(y9 bs c (p+1) (by omega) 5 (by omega) (by omega) _ gW.new).mono ?_
 rintro _ _ ⟨j,hj,rfl,rfl⟩
 rw[dO]
 simp only[aA,seval]
 refine aP (fun h0=>?_) (fun h0=>?_)
 · simp only[aA,seval]
   refine(aX4 bs c (p+1+1) _ (by omega) gW.new).mono ?_
   rintro _ _ ⟨p2,r1,r2,rfl,q,hq,rfl⟩
   rw[dO]
   simp only[aA,seval]
   exact⟨p2,by omega,by omega,rfl,l,q,⟨⟨hl2,hl3,hl4⟩,hpv⟩,hq,rfl⟩
 simp only[aF,aA,seval,J1]
 refine(y9 bs c (p+1+1) (by omega) y.length (by omega) (by have:=bB7 y (cH hy);omega) _ gW.new).mono ?_
 rintro _ _ ⟨i,hi,rfl,rfl⟩
 rw[dO]
 obtain⟨z,hz⟩:∃z,y[i]?=some z:=⟨_,d4 hi⟩
 have xM:=aD2 (P:=prog) (av:=AV.str) sO hz rfl
 simp only[xM,aA,seval,J1]
 refine(ZG z _).to ?_
 obtain⟨q,hq,f,hf⟩:=aOV z
 rw[hf]
 simp only[aA,seval]
 exact⟨p+1+1+1,by omega,by omega,rfl,l,q,⟨⟨hl2,hl3,hl4⟩,hpv⟩,hq,rfl⟩
theorem aX1(bs:List Bt)(c p:Nat)(st:aB)(hp:p+100≤1099511627776)(hR:gW st c bs p) :
 aD prog 58 [.ptr c 0] st (Dr bs c p 100 st (fun r=>∃(l:List Cl) (q:List Tm),(2≤l.length∧l.length≤20∧∀x∈l,vM x)∧I8 q∧r=.tup [.slice (l.map bY),.slice (q.map Tm.av)])):=
 (aX2 bs c p st hp hR).mono fun _ _ ⟨p',h1,h2,h3,l,q,h4,h5,h6⟩=>⟨p',h1,h2,h3,l,q,h4.1,h5.1,h6⟩
end Go.AW
namespace Go.AW
def qI(l:List IC):Nat:=(l.map fun c=>c.list.length).sum
theorem TT(l m:List IC):qI (l++m)=qI l+qI m:=by simp [qI]
theorem aNQ(c:IC):qI [c]=c.list.length:=by simp [qI]
theorem aNR(l:List IC)(k:Nat):qI (l.take k)≤qI l:=by
 have:=TT (l.take k) (l.drop k)
 rw[pT] at this
 omega
structure IX (p:List Cl) (M:Nat) (i:IS):Prop where
 tnd:i.tr.Nodup
 tin:∀n∈i.tr,(0≤n∧n<(i.fresh:Int))∧i.σ n≠none
 phi:i.fresh+26*qI i.chs≤M
 ch:∀c∈i.chs,c.node<c.taken∧c.taken≤i.nn∧c.eY≤i.tr.length∧∀x∈c.list,x<p.length
 mono:i.chs.Pairwise (fun c d=>c.taken≤d.taken∧c.eY≤d.eY)
theorem IX.up{p:List Cl}{M M':Nat}{i:IS}(h:IX p M i)(hM:M≤M'):IX p M' i:=⟨h.tnd,h.tin,kQ h.phi hM,h.ch,h.mono⟩
theorem IX.WX{p:List Cl}{M:Nat}{i:IS}(h:IX p M i):i.tr.length≤i.fresh:=FA h.tnd fun n hn=>(h.tin n hn).1
theorem M6{p:List Cl}(hp:∀c∈p,gD c){M:Nat}{goal:Tm}{at':Nat}{rest:List IG}:∀(l:List Nat) (s:IS),(∀x∈l,x<p.length)→at'<s.nn→s.fresh+26*qI s.chs+26*l.length≤M→IX p M s→cQ s.σ→cX (bG s.fresh) s.σ→bG s.fresh goal →
 IX p M (fR p goal at' rest l s).2
 | [],s,_,_,_,h,_,_,_=>by unfold fR;exact h
 | j::l,s,hl,ha,hM,h,hg,ho,hgo=>by
  obtain⟨x,hx⟩:∃x,p[j]?=some x:=⟨_,d4 (hl j (by simp))⟩
  have hX:=hp x (cH hx)
  have hl':∀x∈l,x<p.length:=fun x h=>hl x (by simp [h])
  simp only[aU] at hM
  unfold fR
  simp only[hx]
  split
  · have hhd:bG ((s.fresh+26:Nat):Int) (dG s.fresh x.1):=(hX.dG s.fresh x.1 (by simp)).mono (by have:=hX.fr.1;omega)
    obtain⟨r,σ',add,U⟩:=uZ (N:=s.fresh+26) hg (fun n u e=>(ho n u e).mono (by omega)) (hgo.mono (by omega)) hhd
    rw[U.eq]
    have S:=U.x7
    refine⟨?_,?_,?_,?_,?_⟩
    · simp only
      refine pS.2 ⟨h.tnd,S.nodup,fun a ha b hb e=>?_⟩
      subst e
      exact(h.tin a ha).2 (S.new a hb).1
    · intro n hn
      simp only[eH] at hn ⊢
      rcases hn with hn | hn
      · have h1:=h.tin n hn
        have hna:n∉add:=fun ha=>h1.2 (S.new n ha).1
        exact⟨⟨h1.1.1,by have:=h1.1.2;omega⟩,by rw[S.aV n hna];exact h1.2⟩
      · have:=S.gB n hn
        exact⟨⟨this.1,by omega⟩,(S.new n hn).2⟩
    · simp only
      split
      · omega
      · rw[TT,aNQ];simp only;omega
    · intro c hc
      have key:∀c∈s.chs,c.node<c.taken∧c.taken≤s.nn∧c.eY≤(s.tr++add).length∧∀x∈c.list,x<p.length:=fun c hc=>by
       obtain⟨h1,h2,h3,h4⟩:=h.ch c hc
       exact⟨h1,h2,by rw[dN];omega,h4⟩
      simp only at hc ⊢
      split at hc
      · exact key c hc
      · rcases eH.1 hc with hc | hc
        · exact key c hc
        · simp only[cY,dK,dQ] at hc
          subst hc
          exact⟨ha,cU _,by rw[dN];simp only;omega,hl'⟩
    · simp only
      split
      · exact h.mono
      · refine List.pairwise_append.2 ⟨h.mono,List.pairwise_singleton _ _,fun a ha b hb=>?_⟩
        simp only[cY,dK,dQ] at hb
        subst hb
        obtain⟨h1,h2,h3,h4⟩:=h.ch a ha
        exact⟨h2,h3⟩
  · refine M6 hp l { s with fresh:=s.fresh+26 } hl' ha (by simp only;omega) ⟨h.tnd,fun n hn=>?_,by simp only;omega,h.ch,h.mono⟩ hg (fun n u e=>(ho n u e).mono (by simp only;omega)) (hgo.mono (by simp only;omega))
    have:=h.tin n hn
    exact⟨⟨this.1.1,by simp only;omega⟩,this.2⟩
theorem IX.pop{p:List Cl}{M:Nat}{gl:List IG}{τ:Sub}{tr:List Int}{ds:List IC}{d:IC}{F nn:Nat}(h:IX p M ⟨gl,τ,tr,ds++ [d],F,nn⟩) :
 IX p M ⟨gl,τ.out (tr.drop d.eY),tr.take d.eY,ds,F,d.taken⟩∧F+26*qI ds+26*d.list.length≤M∧d.node<d.taken∧d.taken≤nn∧d.eY≤tr.length∧∀x∈d.list,x<p.length:=by
 obtain⟨h1,h2,h3,h4⟩:=h.ch d (by simp)
 have a5N:=h.phi
 simp only[TT,aNQ] at a5N
 have hm:=List.pairwise_append.1 h.mono
 have hnd:=h.tnd
 simp only at hnd h2 h3
 have hsp:tr.take d.eY++tr.drop d.eY=tr:=pT _ _
 rw[←hsp,pS] at hnd
 refine⟨⟨hnd.1,fun n hn=>?_,by simp only;omega,fun c hc=>?_,hm.1⟩,by omega,h1,h2,h3,h4⟩
 · have:=h.tin n (mC hn)
   refine⟨this.1,?_⟩
   simp only
   unfold Sub.out
   rw[aE (fun hd=>hnd.2.2 n hn n hd rfl)]
   exact this.2
 · obtain⟨g1,g2,g3,g4⟩:=h.ch c (by simp [hc])
   have:=hm.2.2 c hc d (by simp)
   exact⟨g1,this.1,by simp only[c7];simp only at g3;omega,g4⟩
theorem aNA{p:List Cl}(hp:∀c∈p,gD c){M:Nat}:∀(n:Nat) (cs:List RC) (i:IS),iS i.fresh cs i.chs i.σ i.tr→IX p M i→∀i',gS p n i=some i'→IX p M i'
 | 0,_,_,_,_,i',h=>by simp [gS] at h
 | n+1,cs,i,C,h,i',e=>by
  obtain⟨gl,τ,tr,ds,F,nn⟩:=i
  simp only at C
  cases C with
  | nil=>simp only[gS,List.getLast?_nil] at e;cases e
  | @snoc cs ds c d _ _ C h1 h2=>
   obtain⟨hP,hM,hnt,htn,htr,hli⟩:=h.pop
   have e3:(IS.pop ⟨gl,τ,tr,ds++ [d],F,nn⟩ d)=⟨gl,τ.out (tr.drop d.eY),tr.take d.eY,ds,F,d.taken⟩:=by simp only[IS.pop,PG]
   simp only[gS,List.getLast?_append,List.getLast?_singleton,Option.some_or,e3] at e
   obtain⟨ρ,S,e1,hok,hG,e2⟩:=h1
   have hX:=M6 hp (rest:=d.rest) d.list _ hli (at':=d.node) (by simp only;exact hnt) (by simp only;exact hM) hP S.g2 S.o2 (e1▸S.CN hok)
   split at e
   · cases e
     exact hX
   · rename_i hf
     have key:=O0 hp (cs:=cs) (nn:=d.taken) (at':=d.node) (tr:=tr.take d.eY) hok hG c.left F gl S C
     rw[←e1,←e2] at key
     cases ht:iZ p cs c.goal c.rest c.σ c.N c.left with
     | some s=>
      rw[e2,ht] at key
      obtain⟨i2,k1,_⟩:=key
      rw[←e2] at k1
      rw[k1] at hf
      simp at hf
     | none=>
      rw[e2,ht] at key
      obtain⟨F',hF,k1⟩:=key
      rw[←e2] at k1
      rw[k1] at e hX
      exact aNA hp n cs _ (C.mono hF) hX i' e
end Go.AW
namespace Go.AW
open Go.Proofs.Tryz
def eK:List IG→AV
 | []=>.nilptr
 | ⟨.mk k n s ts,cut,up⟩::l=>.pptr (.agg [.int .i64 k,.int .i64 n,.str s,.slice (ts.map Tm.av),.int .i64 (cut:Int),.int .i64 up,eK l])
theorem uB(k n:Int)(s:ByteArray)(ts:List Tm)(cut:Nat)(up:Int)(l:List IG):eK (⟨.mk k n s ts,cut,up⟩::l)=.pptr (.agg [.int .i64 k,.int .i64 n,.str s,.slice (ts.map Tm.av),.int .i64 (cut:Int),.int .i64 up,eK l]):=by rw[eK]
theorem p7(l:List IG):(eK l).isAgg=false∧(eK l).width=1∧(eK l).cD=false∧(eK l).cells= [eK l]∧(eK l).storable=true∧(eK l).soft=eK l:=by
 cases l with
 | nil=>rw[eK];exact⟨rfl,rfl,rfl,rfl,rfl,rfl⟩
 | cons g l=>obtain⟨⟨k,n,s,ts⟩,cut,up⟩:=g;rw[uB];exact⟨rfl,rfl,rfl,rfl,rfl,rfl⟩
abbrev aQZ:=zi aW (zi cA (zi bR (zi GC aRF)))
theorem Q1(bd:List Tm)(cut:Nat)(up:Int)(rest:List IG)(hl:bd.length≤1048576)(st:aB) :
 aD prog 244 [.slice (bd.map Tm.av),.int .i64 (cut:Int),.int .i64 up,eK rest] st (fun r st'=>r=eK (bd.map (fun t=>(⟨t,cut,up⟩:IG))++rest)∧st'=st):=by
 obtain⟨r1,r2,r3,r4,r5,r6⟩:=p7 rest
 refine aD.done ?_
 refine wF [1000000] 4 func244 ntmps244 rfl rfl ?_
 intro _
 have hw0:=bF (n:=(bd.length:Int) - 1)
 simp only[aF,hw0,aA,seval,aQZ]
 refine iJ (σ:=Nat) [1000000] [0,1,2,8] (fun j=>j≤bd.length) (fun j=>[(3,eK ((bd.drop j).map (fun t=>(⟨t,cut,up⟩:IG))++rest)),(9,.int .i64 ((j:Int) - 1))]) (fun _=>st) (fun j=>j) (by decide +kernel) ⟨bd.length,cU _,aO.mk (by simp only[kB,aY,fB,aA,seval])⟩ ?_
 intro j hj
 cases j with
 | zero=>
  rw[r8]
  obtain⟨s1,s2,s3,s4,s5,s6⟩:=p7 (bd.map (fun t=>(⟨t,cut,up⟩:IG))++rest)
  simp only[xE,↓KM,List.contains,List.elem,↓reduceIte,reduceCtorEq,Nat.reduceEqDiff]
  refine aP (fun h=>absurd h (by simp)) (fun h=>?_)
  simp only[aA,seval]
  exact⟨s6,aL.refl _⟩
 | succ j=>
 obtain⟨s1,s2,s3,s4,s5,s6⟩:=p7 ((bd.drop (j+1)).map (fun t=>(⟨t,cut,up⟩:IG))++rest)
 obtain⟨x,hx⟩:∃x,bd[j]?=some x:=⟨_,d4 (by omega)⟩
 have hat:=bH (av:=Tm.av) (P:=prog) bQ hx (aN x)
 have hdr:bd.drop j=x::bd.drop (j+1):=by
  obtain⟨h1,h2⟩:=fA.1 hx
  rw[qS h1,h2]
 have hc:((j+1:Nat):Int) - 1=(j:Int):=by omega
 have hw:=bF (n:=(j:Int) - 1)
 have hnx:eK ((bd.drop j).map (fun t=>(⟨t,cut,up⟩:IG))++rest)=.pptr (.agg (x.av.cells++ [.int .i64 (cut:Int),.int .i64 up,eK ((bd.drop (j+1)).map (fun t=>(⟨t,cut,up⟩:IG))++rest)])):=by
  rw[hdr]
  obtain⟨k,n,s,ts⟩:=x
  rw[bA,gV,uB,aX]
  try rfl
 generalize eK ((bd.drop (j+1)).map (fun t=>(⟨t,cut,up⟩:IG))++rest)=A at *
 obtain⟨k,n,s,ts⟩:=x
 simp only[aX] at hat hnx
 rw[hc]
 simp only[aA,seval]
 refine aP (fun h=>?_) (fun h=>absurd h (by simp))
 simp only[s3,s4,hat,hw,aA,seval,aQZ]
 trace_state
 refine⟨j,by omega,by omega,aO.mk (by rw[hnx];simp only[aA,seval])⟩
theorem aV4(c:Int)(st:aB):aD prog 307 [.int .i64 c] st (fun r st'=>r=.int .i64 (p6 c)∧st'=st):=by
 refine aD.done ?_
 refine wF [1000000] 1 func307 ntmps307 rfl rfl ?_
 intro _
 simp only[aA,seval]
 unfold p6
 refine aP (fun h=>?_) (fun h=>?_)
 · simp only[aA,seval]
   have h':c=2:=by simpa using h
   exact⟨by rw[aG h'];try rfl,aL.refl _⟩
 rw[aE (show ¬c=2 by simpa using h)]
 simp only[aA,seval]
 refine aP (fun h=>?_) (fun h=>?_)
 · simp only[aA,seval]
   have h':c=3:=by simpa using h
   exact⟨by rw[aG h'];try rfl,aL.refl _⟩
 rw[aE (show ¬c=3 by simpa using h)]
 simp only[aA,seval]
 refine aP (fun h=>?_) (fun h=>?_)
 · simp only[aA,seval]
   have h':c=4:=by simpa using h
   exact⟨by rw[aG h'];try rfl,aL.refl _⟩
 rw[aE (show ¬c=4 by simpa using h)]
 simp only[aA,seval]
 exact⟨rfl,aL.refl _⟩
abbrev bBK:=zi cW (zi cA (zi bR WN))
theorem aAH(k n:Int)(s:ByteArray)(ts:List Tm)(st:aB):aD prog 165 [(Tm.mk k n s ts).av] st (fun r st'=>r=.agg [.str s,.int .i64 (ts.length:Int)]∧st'=st):=by
 refine aD.done ?_
 simp only[aX]
 refine wF [1000000] 1 func165 ntmps165 rfl rfl ?_
 intro _
 simp only[aK,aF,aA,seval,bBK]
 intro b2 h2
 exact⟨by simp only[iF,iG,mR,bA,aY],(aL.refl _).aC h2⟩
abbrev JT:=zi aW (zi fJ (zi jM (zi bR (zi mT WN))))
theorem aVY(p:List Cl)(t:Tm)(hp:p.length≤1048576)(st:aB):aD prog 164 [.slice (p.map bY),.agg [.str t.s,.int .i64 (t.ts.length:Int)]] st (fun r st'=>r=.slice ((eJ p t).map nv)∧st'=st):=by
 rw[MI]
 refine aD.done ?_
 obtain⟨tk,tn,ts',tts⟩:=t
 simp only[Tm.s,Tm.ts]
 refine wF [1000000] 2 func164 ntmps164 rfl rfl ?_
 intro _
 simp only[aF,aA,seval,JT]
 refine oW (σ:=Unit) [1000000] [3,4,8,9] p 1 5 (fun i _=>((List.range i).filter (rD p (.mk tk tn ts' tts))).map nv) (fun _ _=>True) (fun i _=>[(10,.int .i64 i)]) (fun _ _=>st) (fun i _ _ e he=>by simp only[cB] at he;obtain⟨t,_,rfl⟩:=he;exact⟨rfl,rfl⟩) (by decide +kernel) ⟨(),0,trivial,fun h=>absurd rfl h,aO.mk (by simp only[iV,List.range_zero,List.filter_nil,aY,aA,↓aS,seval])⟩ (fun i x _ b hx hlt bL hdr hinv hb=>?_) (fun _ b hge hinv=>?_)
 case refine_2=>
  simp only[hge,eW,iO,nS,zJ,kJ,aA,seval]
  exact⟨rfl,aL.refl _⟩
 have hw:=bF (n:=(i:Int)+1)
 have hst:=aLR p (.mk tk tn ts' tts) i
 have hln:=MJ p (.mk tk tn ts' tts) i
 have hat:=bH (av:=bY) (P:=prog) rA hx (k8 x)
 obtain⟨⟨k,n,s',ts⟩,bd⟩:=x
 rw[iW] at hat
 have hP:rD p (.mk tk tn ts' tts) i=(decide (s'=ts')&&decide ((ts.length:Int)=(tts.length:Int))):=by unfold rD;rw[hx];try rfl
 rw[hP] at hst
 have hpr:=fun st=>aAH k n s' ts st
 have a4L:d6 prog .eql 191 (.agg [.str s',.int .i64 (ts.length:Int)]) (.agg [.str ts',.int .i64 (tts.length:Int)])=some (.bool (decide (s'=ts')&&decide ((ts.length:Int)=(tts.length:Int)))):=by
  have h:L9 prog 191=true:=by kernel_rfl
  simp only[d6,h,and_self,eX]
 simp only[aX] at hpr
 simp only[bL,hat,aA,↓aS,seval,JT]
 refine wP [(0,1),(1,2),(2,2),(3,2),(4,1)] [0,1,2,3,4] mixed ?_
 simp only[aA,seval,JT]
 refine gP (hpr _) ?_
 simp only[a4L,aA,seval,JT]
 refine aP (fun h2=>?_) (fun h2=>?_)
 · rw[aG h2] at hst
   simp only[aA,seval,JT]
   refine eO fO t7 sQ rfl rfl (fQ rfl rfl) (T9 _) hb (by simp only[aF,aU,aZ];omega) (by simp only[aF,aU,aZ];omega) (fun b' hb'=>?_)
   rw[show ∀l:List Nat,l.map nv++ [AV.int .i64 (i:Int)]=(l++ [i]).map nv from fun l=>by simp [nv],←hst] at hb' ⊢
   simp only[hw,aA,seval]
   exact⟨(),b',hb',aO.mk (by simp only[aA,seval])⟩
 · rw[aE (by rw[h2];simp),gM] at hst
   rw[←hst] at hb ⊢
   simp only[hw,aA,seval]
   exact⟨(),b,hb,aO.mk (by simp only[aA,seval])⟩
end Go.AW
