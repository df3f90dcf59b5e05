import Derived.Test.YthigelfjekcbmaaGreatDoorUzj
import Derived.Test.YthigelfjekcbmaaGreatDoorUzk
import Derived.Test.YthigelfjekcbmaaGreatDoorUzf
import Derived.Test.YthigelfjekcbmaaGreatDoorUzi
set_option linter.unusedSimpArgs false
set_option linter.unusedVariables false
set_option maxRecDepth 100000
namespace Go.AW
open Go.Proofs.Tryz
def dE(N:Nat)(σ:Sub):List AV:=(List.range N).map fun i:Nat=>cellOf (σ (i:Int))
theorem EV(N:Nat)(σ:Sub):∀e∈dE N σ,e.width=4:=by intro e h;simp only[dE,cY] at h;obtain⟨i,_,rfl⟩:=h;exact MQ _
theorem B0(N:Nat)(σ:Sub){i:Nat}(h:i<N):(dE N σ)[i]?=some (cellOf (σ (i:Int))):=by
 simp only[dE,oX,List.getElem?_range h,pN]
theorem aUR(N:Nat)(σ:Sub){i:Nat}(h:i<N)(u:Tm):(dE N σ).set i u.av=dE N (σ.set (i:Int) u):=by
 apply LM
 intro j
 by_cases hj:j<N
 · rw[B0 N _ hj,List.getElem?_set]
   by_cases e:i=j
   · subst e
     simp [dE,hj,Sub.set,cellOf]
   · rw[aE e,B0 N _ hj]
     simp only[Sub.set]
     rw[aE (by omega)]
 · rw[yU (by simp [dE];omega),yU (by simp [dE];omega)]
def gB(N:Nat)(st:aB)(b:Nat)(σ:Sub):Prop:=st b=some (.cells ((dE N σ).flatMap AV.cells))
theorem gB.mid{N:Nat}{st:aB}{b:Nat}{σ:Sub}(h:gB N st b σ){i:Nat}(hi:i<N) :
 ∃A B,st b=some (.cells (A++(cellOf (σ (i:Int))).cells++B))∧A.length=i*4∧∀(u:Tm),gB N (st.aC b (.cells (A++u.av.cells++B))) b (σ.set (i:Int) u):=by
 obtain⟨A,B,h1,h2,h3⟩:=a0N (EV N σ) (B0 N σ hi)
 refine⟨A,B,by rw[←h1];exact h,h2,fun u=>?_⟩
 unfold gB
 rw[aB.aJ,←aUR N σ hi,h3]
theorem gB.aC{N:Nat}{st:aB}{b x:Nat}{σ:Sub}{o:AO}(h:gB N st b σ)(hx:x≠b):gB N (st.aC x o) b σ:=by
 unfold gB
 rw[aB.aG _ _ (dG hx)]
 exact h
theorem gB.none{N:Nat}{st:aB}{b:Nat}{σ:Sub}(h:gB N st b σ){i:Nat}(hi:i<N)(hn:σ (i:Int)=Option.none) :
 ∃D,st b=some (.cells D)∧D[i*4+0]?=some (.int .i64 0)∧i*4+4≤D.length:=by
 obtain⟨A,B,e1,e2,_⟩:=h.mid hi
 rw[hn] at e1
 obtain⟨r1,r2,r3⟩:=ZK (B:=B) (C:=(cellOf Option.none).cells) e2 rfl
 exact⟨_,e1,r3,r1⟩
theorem gB.some{N:Nat}{st:aB}{b:Nat}{σ:Sub}(h:gB N st b σ){i:Nat}(hi:i<N){k n:Int}{s:ByteArray}{ts:List Tm}(hn:σ (i:Int)=Option.some (.mk k n s ts)) :
 ∃D,st b=Option.some (.cells D)∧D[i*4+0]?=Option.some (.int .i64 k)∧i*4+4≤D.length∧List.take 4 (List.drop (i*4) D)= [.int .i64 k,.int .i64 n,.str s,.slice (ts.map Tm.av)]:=by
 obtain⟨A,B,e1,e2,_⟩:=h.mid hi
 rw[hn] at e1
 simp only[cellOf,a8,AV.cells] at e1
 obtain⟨r1,r2,r3⟩:=ZK (B:=B) (C:=[.int .i64 k,.int .i64 n,.str s,.slice (ts.map Tm.av)]) e2 rfl
 exact⟨_,e1,r3,r1,r2⟩
theorem gB.set{N:Nat}{st:aB}{b:Nat}{σ:Sub}(h:gB N st b σ){i:Nat}(hi:i<N)(u:Tm) :
 ∃D D',st b=Option.some (.cells D)∧i*4+4≤D.length∧aK D (i*4) u.av.cells=D'∧gB N (st.aC b (.cells D')) b (σ.set (i:Int) u):=by
 obtain⟨A,B,e1,e2,e3⟩:=h.mid hi
 obtain⟨p1,p2⟩:=a43 (B:=B) (C:=(cellOf (σ (i:Int))).cells) (x:=u.av.cells) e2 (aYU _) (b9 u)
 exact⟨_,_,e1,p2,p1,e3 u⟩
abbrev GT:=zi tI_3 (zi zI_3 (zi aU (zi tI_28 (zi zI_28 (zi aO (zi bF (zi bG (zi bZ (zi tI_52 (zi zI_52 (zi bU (zi bV (zi bX (zi bY bT))))))))))))))
theorem Z5{N:Nat}{σ:Sub}(hok:c9 (cO N) σ){f:Nat}{t u:Tm}(hw:gR σ f t u)(ht:cO N t)(b:Nat)(st:aB)(hS:gB N st b σ):aD prog 241 [t.av,.mslice b 0 N 4] st (fun r st'=>r=u.av∧st'=st):=by
 refine aD.done ?_
 refine wF [1000000,2] 2 func241 ntmps241 rfl rfl ?_
 intro _
 simp -implicitDefEqProofs only[aA,seval,GT]
 intro b2 h2 b4 h4
 have hne:b4≠b2:=by rintro rfl;rw[aB.aJ] at h4;cases h4
 have hn4:st b4=none:=by rw[aB.aG st _ hne] at h4;exact h4
 have hb2:b2≠b:=by rintro rfl;rw[gB,h2] at hS;cases hS
 have hb4:b4≠b:=by rintro rfl;rw[gB,hn4] at hS;cases hS
 refine iT (σ:=Nat×Tm) [1000000,2] [1,2,4] (fun p=>gR σ p.1 p.2 u∧cO N p.2) (fun p=>[]) (fun p=>(st.aC b2 (.cells p.2.av.cells)).aC b4 (.cells [.int .i64 0,.int .i64 0,.str ⟨#[]⟩,.fslice []])) (fun p=>p.1) (by decide +kernel) ⟨(f,t),⟨hw,ht⟩,aP.mk (by simp -implicitDefEqProofs only[aA,seval])⟩ ?_
 rintro⟨g,t⟩ ⟨hw,ht⟩
 obtain⟨k,n,s,ts⟩:=t
 simp only at hw ht
 simp only[a8]
 have lD:k≠1∨σ n=none→u=.mk k n s ts:=fun h=>by
  cases hw with
  | stop _=>rfl
  | go h1 h2 _=>
   simp only[Tm.k] at h1
   rcases h with h | h
   · exact absurd h1 h
   · rw[show σ n=some _ from h2] at h;cases h
 simp -implicitDefEqProofs only[hne.symm,aA,seval,GT]
 refine cU (fun h=>?_) (fun h=>?_)
 case refine_2=>
  simp -implicitDefEqProofs only[h,aK,hne.symm,aA,seval,GT]
  simp only[pM,dL] at h
  rw[lD (.inl h),←a8]
  exact⟨Tm.soft _,((aL.refl _).aC h2).aC hn4⟩
 simp only[bK] at h
 subst h
 obtain⟨hn0,hn1,_⟩:=ht.var
 obtain⟨i,rfl⟩:∃i:Nat,n=i:=⟨n.toNat,by omega⟩
 have hi:i<N:=by omega
 have hi':decide ((i:Int)<(N:Int))=true:=by simp;omega
 simp -implicitDefEqProofs only[bE,hi',dX,hne.symm,aA,seval,GT]
 have hat:=CW (P:=prog) (b:=b) (len:=N) aO hi
 cases hw with
 | stop hs=>
  obtain⟨D,e1,e2,_⟩:=hS.none hi (hs rfl)
  simp -implicitDefEqProofs only[hat,e1,e2,bE,aK,hne.symm,hb2.symm,hb4.symm,aA,seval,GT]
  exact⟨by rw[←a8,Tm.soft],((aL.refl _).aC h2).aC hn4⟩
 | go h1 h2' h3=>
  simp only[Tm.n] at h2'
  have ho:=hok _ _ h2'
  rename_i g' u'
  obtain⟨k',n',s',ts'⟩:=u'
  have hk':¬k'=0:=by have:=ho.kind.1;omega
  obtain⟨D,e1,e2,e3,e4⟩:=hS.some hi h2'
  have e5:i*4+0+4≤D.length:=e3
  simp -implicitDefEqProofs only[hat,e1,e2,e3,e4,hk',bM,aK,hne.symm,hb2.symm,hb4.symm,aA,seval,GT]
  rw[aB.yM hne,aB.nD _ _ _ hne]
  refine⟨(g',.mk k' n' s' ts'),LP _,⟨h3,ho⟩,?_⟩
  simp only[a8]
  exact aP.mk (by simp -implicitDefEqProofs only[aA,seval])
theorem gB.acc{N:Nat}{st:aB}{b bW:Nat}{σ:Sub}{l:List AV}(h:gB N st b σ)(hb:l≠[]→st bW=Option.none):gB N (aV st bW l) b σ:=by
 cases l with
 | nil=>exact h
 | cons x l=>exact h.aC (by rintro rfl;rw[gB,hb (by simp)] at h;cases h)
abbrev KN:=zi tI_3 (zi zI_3 (zi aU (zi tI_4 (zi zI_4 (zi cI (zi tI_28 (zi zI_28 (zi aO (zi bF (zi bG (zi bZ (zi tI_40 (zi zI_40 (zi dT (zi fJ (zi fK (zi fU (zi tI_52 (zi zI_52 (zi bU (zi bV (zi bX (zi bY bT)))))))))))))))))))))))
theorem aU9{N:Nat}{σ:Sub}{R:Int→Tm}{rk:Int→Nat}{B:Nat}(G:Good σ R rk B)(hok:c9 (bP N) σ)(hN:N≤1048576){n:Int}(hn:σ n=none)(t:Tm)(ht:bP N t)(b:Nat)(st:aB)(hS:gB N st b σ) :
 aD prog 242 [.int .i64 n,t.av,.mslice b 0 N 4] st (fun r st'=>r=.bool (decide (n∈(t.aN R).vl))∧st'=st):=by
 refine aD.done ?_
 refine wF [1000000] 3 func242 ntmps242 rfl rfl ?_
 intro _
 simp -implicitDefEqProofs only[aA,seval,KN]
 have h0:=H7 t [] 0 st (Tm.vV t (ht.1.2.1)) (fun h=>absurd rfl h) (by have:=ht.2;simp only[aX];omega)
 simp only[aW,jV,oA] at h0
 refine h0.mono ?_
 rintro _ _ ⟨b0,rfl,rfl,hb0⟩
 obtain⟨v1,v2,_⟩:=XY t (Tm.vV t (ht.1.2.1)) []
 simp -implicitDefEqProofs only[aA,seval]
 refine iT (σ:=Nat×List Int×Nat) [1000000] [0,2]
  (fun p=>p.1≤p.2.1.length∧p.2.1.Nodup∧(∀w∈p.2.1,w∈VN N)∧(p.2.1.map iv≠[]→st p.2.2=none)∧(∀w∈p.2.1.take p.1,w≠n∧∀u,σ w=some u→∀v∈u.vl,v∈p.2.1)∧(∀w∈p.2.1,n∈(R w).vl→n∈(t.aN R).vl)∧(n∈(t.aN R).vl→∃w∈p.2.1,n∈(R w).vl))
  (fun p=>[(6,.bool false),(7,aZ 1 p.2.2 (p.2.1.map iv)),(8,.int .i64 p.1)]) (fun p=>aV st p.2.2 (p.2.1.map iv)) (fun p=>N - p.1) (by decide +kernel)
  ⟨(0,t.vars [],b0),⟨jU _,v2 mK,fun w hw=>?_,hb0,by simp,fun w hw hm=>?_,fun hm=>?_⟩,aP.mk (by simp -implicitDefEqProofs only[aA,↓aS,seval])⟩ ?_
 · rcases (v1 w).1 hw with h | h
   · cases h
   · exact xZ.2 (ht.1.2.2 w h)
 · rcases (v1 w).1 hw with h | h
   · cases h
   · exact(A6 t).2 ⟨w,h,hm⟩
 · obtain⟨w,hw,hm⟩:=(A6 t).1 hm
   exact⟨w,(v1 w).2 (.inr hw),hm⟩
 rintro⟨i,W,bW⟩ ⟨i1,i2,i3,i4,i5,i6,i7⟩
 simp only at i1 i2 i3 i4 i5 i6 i7
 have haL:=vO (w:=1) (b:=bW) (l:=W.map iv) fU
 have hWl:=FZ i2 (fun m hm=>xZ.1 (i3 m hm))
 simp -implicitDefEqProofs only[haL,aF,aA,seval]
 refine aQ (fun h=>?_) (fun h=>?_)
 case refine_2=>
  simp only[dL,n0] at h
  obtain rfl:i=W.length:=by omega
  rw[fG] at i5
  simp -implicitDefEqProofs only[aA,seval]
  have hno:n∉(t.aN R).vl:=fun hm=>by
   obtain⟨w,hw,hnw⟩:=i7 hm
   exact a8V G i5 w hw hnw
  exact⟨by simp only[hno,bM,sB],aL.aV (aL.refl _) i4⟩
 simp only[bK,n0] at h
 obtain⟨w,hx⟩:∃w,W[i]?=some w:=⟨_,fF h⟩
 have iB:=dA hx
 have hat:=Y5 (b:=bW) (l:=W.map iv) (i:=i) (x:=iv w) dT (by rw[oX,hx];try rfl)
 obtain⟨iX,z9⟩:=Y6 (st:=st) (b:=bW) hx
 have hw:=bO (n:=(i:Int)+1)
 simp -implicitDefEqProofs only[hat,iX,z9,EH,aA,seval,KN]
 refine aQ (fun h2=>?_) (fun h2=>?_)
 · simp only[bK] at h2
   subst h2
   simp -implicitDefEqProofs only[aA,seval]
   have hm:w∈(t.aN R).vl:=i6 w iB (by rw[G.free hn,A7];simp)
   exact⟨by simp only[hm,bE,sB],aL.aV (aL.refl _) i4⟩
 simp only[dL] at h2
 simp -implicitDefEqProofs only[hat,iX,z9,EH,aA,seval,KN]
 obtain⟨hw0,hw1⟩:=xZ.1 (i3 w iB)
 obtain⟨j,rfl⟩:∃j:Nat,w=j:=⟨w.toNat,by omega⟩
 have hj:j<N:=by omega
 have hj':decide ((j:Int)<(N:Int))=true:=by simp;omega
 have aNW:=CW (P:=prog) (b:=b) (len:=N) aO hj
 have hSA:=hS.acc i4
 have htk:W.take (i+1)=W.take i++ [(j:Int)]:=by rw[gC,hx];try rfl
 have step:∀W':List Int,(∀v∈W,v∈W')→(∀u,σ (j:Int)=some u→∀v∈u.vl,v∈W')→∀w∈W'.take (i+1),W'.take (i+1)=W.take (i+1)→w≠n∧∀u,σ w=some u→∀v∈u.vl,v∈W':=by
  intro W' oD kV w hw' hte
  rw[hte,htk] at hw'
  rcases eK.1 hw' with hw' | hw'
  · exact⟨(i5 w hw').1,fun u hu v hv=>oD v ((i5 w hw').2 u hu v hv)⟩
  · simp only[dB,dV,eA] at hw'
    subst hw'
    exact⟨h2,kV⟩
 cases hs:σ (j:Int) with
 | none=>
  obtain⟨D,e1,e2,_⟩:=hSA.none hj hs
  simp -implicitDefEqProofs only[hj',aNW,e1,e2,bE,dX,hat,iX,z9,EH,hw,aA,seval,KN]
  exact⟨(i+1,W,bW),by simp only;omega,⟨h,i2,i3,i4,fun w hw'=>step W (fun _ h=>h) (fun u hu=>by rw[hs] at hu;cases hu) w hw' rfl,i6,i7⟩,aP.mk (by simp -implicitDefEqProofs only[aA,seval])⟩
 | some u=>
  obtain⟨k',n',s',ts'⟩:=u
  have ho:=hok _ _ hs
  have hk':¬k'=0:=by have:=ho.1.kind.1;omega
  obtain⟨D,e1,e2,e3,e4⟩:=hSA.some hj hs
  simp -implicitDefEqProofs only[hj',aNW,e1,e2,e3,e4,hk',bM,dX,hat,iX,z9,EH,aA,seval,KN]
  have hwf:=Tm.vV _ (ho.1.2.1)
  have hc:=H7 (.mk k' n' s' ts') W bW st hwf i4 (by have:=ho.2;omega)
  obtain⟨u1,u2,m,u3⟩:=XY _ hwf W
  rw[a8] at hc
  refine hc.mono ?_
  rintro _ _ ⟨b',rfl,rfl,hb'⟩
  generalize (Tm.mk k' n' s' ts').vars W=W' at *
  have hte:W'.take (i+1)=W.take (i+1):=by rw[u3,EE (by omega)]
  have hbd:(Tm.mk k' n' s' ts').aN R=R (j:Int):=(G.bound hs).symm
  simp -implicitDefEqProofs only[hw,aA,seval]
  refine⟨(i+1,W',b'),by simp only;omega,⟨by rw[u3];simp only[dW];omega,u2 i2,fun w hw'=>?_,hb',fun w hw'=>step W' (fun v hv=>(u1 v).2 (.inl hv)) (fun u hu v hv=>?_) w hw' hte,fun w hw' hm=>?_,fun hm=>?_⟩,aP.mk (by simp -implicitDefEqProofs only[aA,seval])⟩
  · rcases (u1 w).1 hw' with h | h
    · exact i3 w h
    · exact xZ.2 (ho.1.2.2 w h)
  · rw[hs] at hu
    cases hu
    exact(u1 v).2 (.inr hv)
  · rcases (u1 w).1 hw' with h | h
    · exact i6 w h hm
    · refine i6 (j:Int) iB ?_
      rw[←hbd]
      exact(A6 _).2 ⟨w,h,hm⟩
  · obtain⟨w,h,hm⟩:=i7 hm
    exact⟨w,(u1 w).2 (.inl h),hm⟩
def AN(N b:Nat)(st:aB)(σ':Sub)(st':aB):Prop:=gB N st' b σ'∧∀x o,st x=some o→x≠b→st' x=some o
theorem AN.refl{N b:Nat}{st:aB}{σ:Sub}(h:gB N st b σ):AN N b st σ st:=⟨h,fun _ _ h _=>h⟩
theorem AN.trans{N b:Nat}{st s2 s3:aB}{σ2 σ3:Sub}(x:AN N b st σ2 s2)(y:AN N b s2 σ3 s3):AN N b st σ3 s3:=⟨y.1,fun q o h hn=>y.2 q o (x.2 q o h hn) hn⟩
def HJ(N:Nat)(f:Nat)(b:Nat)(σ:Sub)(a c:Tm)(r:Bool)(σ':Sub):Prop:=∀st,gB N st b σ→aD prog f [a.av,c.av,.mslice b 0 N 4] st (fun r' st'=>r'=.bool r∧AN N b st σ' st')
abbrev oM:=zi tI_3 (zi zI_3 (zi aU (zi tI_4 (zi zI_4 (zi cI (zi tI_9 (zi zI_9 (zi cT (zi tI_28 (zi zI_28 (zi aO (zi bF (zi bG (zi bZ (zi tI_52 (zi zI_52 (zi bU (zi bV (zi bX (zi bY bT))))))))))))))))))))
theorem aO3(N:Nat)(hN:N≤1048576)(g:Nat)(bb:Nat)(IH:∀(σ:Sub) (a b:Tm) (r:Bool) (σ':Sub) (add:List Int),cX σ→c9 (bP N) σ→bP N a→bP N b→dM g σ a b=some (r,σ',add)→HJ N 204 bb σ a b r σ')
 (σ:Sub) (a b:Tm) (r:Bool) (σ':Sub) (add:List Int) (hg:cX σ) (hok:c9 (bP N) σ) (ha0:bP N a) (hb0:bP N b) (h:dM (g+1) σ a b=some (r,σ',add))
 (aOQ:(wk σ a).k≠1→(wk σ b).k=1→HJ N 204 bb σ (wk σ b) (wk σ a) r σ'):HJ N 204 bb σ a b r σ':=by
 intro st hS
 obtain⟨rk,B,G⟩:=hg.rs
 obtain⟨fa,wa⟩:=G.wk a
 obtain⟨fb,wb⟩:=G.wk b
 have NY:c9 (cO N) σ:=fun n u hu=>(hok n u hu).1
 have hca:=fun st (hS:gB N st bb σ)=>Z5 NY wa ha0.1 bb st hS
 have hcb:=fun st (hS:gB N st bb σ)=>Z5 NY wb hb0.1 bb st hS
 have ea:=wa.end
 have eb:=wb.end
 have hsa:=wa.all (p:=bP N) hok ha0
 have hsb:=wb.all (p:=bP N) hok hb0
 replace h:=P4 h
 generalize wk σ a=a1 at *
 generalize wk σ b=b1 at *
 clear wa wb
 refine wF [1000000,3,4] 3 func204 ntmps204 rfl rfl ?_
 intro g7
 simp -implicitDefEqProofs only[aA,seval,oM]
 intro b4 h4 b5 h5
 have h54:b5≠b4:=by rintro rfl;rw[aB.aJ] at h5;cases h5
 have hn5:st b5=none:=by rw[aB.aG st _ h54] at h5;exact h5
 have h4b:b4≠bb:=by rintro rfl;rw[gB,h4] at hS;cases hS
 have h5b:b5≠bb:=by rintro rfl;rw[gB,hn5] at hS;cases hS
 have hS':∀o o',gB N ((st.aC b4 o).aC b5 o') bb σ:=fun o o'=>(hS.aC h4b).aC h5b
 have hQ:∀o o',AN N bb st σ ((st.aC b4 o).aC b5 o'):=fun o o'=>⟨hS' o o',fun x p h _=>by
  rw[aB.aG _ _ (by rintro rfl;rw[hn5] at h;cases h),aB.aG _ _ (by rintro rfl;rw[h4] at h;cases h)];exact h⟩
 simp -implicitDefEqProofs only[b9,eW (b9 a),eU (aY a),h54.symm,aA,seval]
 refine(hca _ (hS' _ _)).to ?_
 simp -implicitDefEqProofs only[b9,eW (b9 b),eU (aY b),cH,aK,h54,h54.symm,aA,seval,oM]
 rw[aB.yM h54,aB.nD _ _ _ h54]
 refine(hcb _ (hS' _ _)).to ?_
 obtain⟨ka,na,sa,tsa⟩:=a1
 obtain⟨kb,nb,sb',tsb⟩:=b1
 obtain⟨hla,aOA⟩:=Tm.rC (hsa.1.small)
 obtain⟨hlb,aOB⟩:=Tm.rC (hsb.1.small)
 have fW:∀o o',AN N bb st σ ((st.aC b4 o).aC b5 o'):=hQ
 have hka:=fun h=>(s8 N) _ h hsa
 have hkb:=fun h=>(s8 N) _ h hsb
 simp only[a8]
 simp only[Tm.k,Tm.n,Tm.ts] at h ea eb aOQ hka hkb
 simp -implicitDefEqProofs only[cK,aK,h54.symm,aA,seval,oM]
 have var:∀ {n:Int} {t:Tm},n∈VN N→σ n=none→bP N t→lA σ n t=(r,σ',add)→∀s0,gB N s0 bb σ→aD prog 242 [.int .i64 n,t.av,.mslice bb 0 N 4] s0 (fun r' st'=>r'=.bool (!r)∧st'=s0):=by
  intro n t _ hn ht hb s0 hs0
  have:=aU9 G hok hN hn t ht bb s0 hs0
  unfold lA at hb
  split at hb
  · rename_i hm
    cases hb
    simpa [hm] using this
  · rename_i hm
    cases hb
    simpa [hm] using this
 rcases h with ⟨h1,h2,h3,rfl,rfl,rfl⟩ | ⟨h1,h2,h3⟩ | ⟨h1,h2,h3⟩ | ⟨h1,h2,h3,h4⟩ | ⟨h1,h2,h3,rfl,rfl,rfl⟩
 · subst h1 h2 h3
   simp -implicitDefEqProofs only[bE,dX,h54.symm,aA,seval,oM]
   exact fW _ _
 · subst h1
   have hin:=xZ.2 (hsa.1.2.2 na (by rw[Tm.oT rfl];simp))
   obtain⟨hn0,hn1⟩:=xZ.1 hin
   have hcw:=var hin (ea rfl) hsb h3 _ (hS' (.cells [.int .i64 1,.int .i64 na,.str sa,.slice (tsa.map Tm.av)]) (.cells [.int .i64 kb,.int .i64 nb,.str sb',.slice (tsb.map Tm.av)]))
   have hna:=ea rfl
   rw[a8] at hcw
   obtain⟨i,rfl⟩:∃i:Nat,na=i:=⟨na.toNat,by omega⟩
   have hi:i<N:=by omega
   have hat:=CW (P:=prog) (b:=bb) (len:=N) aO hi
   have h6:kb=1→¬(i:Int)=nb:=fun e1 e=>h2 ⟨e1,e⟩
   have tail:∀(s0:aB),s0=((st.aC b4 (.cells [.int .i64 1,.int .i64 i,.str sa,.slice (tsa.map Tm.av)])).aC b5 (.cells [.int .i64 kb,.int .i64 nb,.str sb',.slice (tsb.map Tm.av)]))→r=true →
    ∃D D',s0 bb=some (.cells D)∧i*4+4≤D.length∧aK D (i*4) [.int .i64 kb,.int .i64 nb,.str sb',.slice (tsb.map Tm.av)]=D'∧AN N bb st σ' (s0.aC bb (.cells D')):=by
    rintro _ rfl rfl
    unfold lA at h3
    split at h3
    · cases h3
    · cases h3
      obtain⟨D,D',e1,e2,e3,e4⟩:=(hS' (.cells [.int .i64 1,.int .i64 i,.str sa,.slice (tsa.map Tm.av)]) (.cells [.int .i64 kb,.int .i64 nb,.str sb',.slice (tsb.map Tm.av)])).set hi (.mk kb nb sb' tsb)
      refine⟨D,D',e1,e2,by rw[←e3,a8];try rfl,e4,fun x o hx hxb=>?_⟩
      rw[aB.aG _ _ hxb]
      exact(hQ _ _).2 x o hx hxb
   by_cases h5:kb=1
   · subst h5
     simp -implicitDefEqProofs only[bE,h6 rfl,bM,dX,h54.symm,aA,seval,oM]
     refine hcw.to ?_
     cases r with
     | false=>
      simp -implicitDefEqProofs only[aA,seval]
      unfold lA at h3
      split at h3
      · cases h3
        exact fW _ _
      · cases h3
     | true=>
      obtain⟨D,D',e1,e2,e3,e4⟩:=tail _ rfl rfl
      simp -implicitDefEqProofs only[hat,e1,e2,aK,h54.symm,aA,seval,oM]
      rw[←e3] at e4
      exact e4
   · simp -implicitDefEqProofs only[bE,h5,bM,dX,h54.symm,aA,seval,oM]
     refine hcw.to ?_
     cases r with
     | false=>
      simp -implicitDefEqProofs only[aA,seval]
      unfold lA at h3
      split at h3
      · cases h3
        exact fW _ _
      · cases h3
     | true=>
      obtain⟨D,D',e1,e2,e3,e4⟩:=tail _ rfl rfl
      simp -implicitDefEqProofs only[hat,e1,e2,aK,h54.symm,aA,seval,oM]
      rw[←e3] at e4
      exact e4
 · subst h2
   have hsw:=aOQ h1 rfl
   simp only[HJ,a8] at hsw
   simp -implicitDefEqProofs only[bE,h1,bM,dX,h54.symm,aA,seval,oM]
   refine(hsw _ (hS' _ _)).mono ?_
   rintro _ s2 ⟨rfl,hp⟩
   simp -implicitDefEqProofs only[aA,seval]
   exact(hQ _ _).trans hp
 · rw[uK] at h3
   simp only[Tm.k,Tm.n,Tm.s,Tm.ts] at h3
   obtain⟨rfl,rfl,rfl,hlen⟩:=h3
   have c8:decide ((tsa.length:Int)=(tsb.length:Int))=true:=by simp [hlen]
   simp -implicitDefEqProofs only[bE,bM,c8,dX,h54.symm,aF,h1,aA,seval,oM]
   have hS0:=hS' (.cells [.int .i64 ka,.int .i64 na,.str sa,.slice (tsa.map Tm.av)]) (.cells [.int .i64 ka,.int .i64 na,.str sa,.slice (tsb.map Tm.av)])
   have hQ0:=hQ (.cells [.int .i64 ka,.int .i64 na,.str sa,.slice (tsa.map Tm.av)]) (.cells [.int .i64 ka,.int .i64 na,.str sa,.slice (tsb.map Tm.av)])
   have e4:((st.aC b4 (.cells [.int .i64 ka,.int .i64 na,.str sa,.slice (tsa.map Tm.av)])).aC b5 (.cells [.int .i64 ka,.int .i64 na,.str sa,.slice (tsb.map Tm.av)])) b4=some (.cells [.int .i64 ka,.int .i64 na,.str sa,.slice (tsa.map Tm.av)]):=by rw[aB.aG _ _ h54.symm,aB.aJ]
   have e5:((st.aC b4 (.cells [.int .i64 ka,.int .i64 na,.str sa,.slice (tsa.map Tm.av)])).aC b5 (.cells [.int .i64 ka,.int .i64 na,.str sa,.slice (tsb.map Tm.av)])) b5=some (.cells [.int .i64 ka,.int .i64 na,.str sa,.slice (tsb.map Tm.av)]):=aB.aJ _ _ _
   generalize (st.aC b4 (.cells [.int .i64 ka,.int .i64 na,.str sa,.slice (tsa.map Tm.av)])).aC b5 (.cells [.int .i64 ka,.int .i64 na,.str sa,.slice (tsb.map Tm.av)])=s0 at *
   refine eL (σ:=Sub×List Int×aB) [1000000,3,4] [2,3,4] tsa
    (fun i p=>cX p.1∧c9 (bP N) p.1∧AN N bb s0 p.1 p.2.2∧eJ g p.1 (tsa.drop i) (tsb.drop i)=some (r,σ',p.2.1))
    (fun i _=>[(6,.bool false),(7,.int .i64 i)]) (fun _ p=>p.2.2) (by decide +kernel)
    ⟨(σ,add,s0),⟨hg,hok,AN.refl hS0,h4⟩,aP.mk (by simp -implicitDefEqProofs only[aA,↓aS,seval])⟩ (fun i x p hx hlt bR hdr hinv=>?_) (fun p hge hinv=>?_)
   case refine_2=>
    obtain⟨σi,rest,si⟩:=p
    obtain⟨i1,i2,i3,i5⟩:=hinv
    simp only at i1 i2 i3 i5
    have f4:=i3.2 b4 _ e4 h4b
    rw[lH,hlen,lH] at i5
    simp only[eJ,Option.some.injEq,Prod.mk.injEq] at i5
    obtain⟨rfl,rfl,rfl⟩:=i5
    simp -implicitDefEqProofs only[hge,f4,aF,aA,seval,oM]
    exact hQ0.trans i3
   obtain⟨σi,rest,si⟩:=p
   obtain⟨i1,i2,i3,i5⟩:=hinv
   simp only at i1 i2 i3 i5
   obtain⟨y,hy⟩:∃y,tsb[i]?=some y:=⟨_,fF (by omega)⟩
   have CV:tsb.drop i=y::tsb.drop (i+1):=by
    obtain⟨h1,h2⟩:=gW.1 hy
    rw[rH h1,h2]
   rw[hdr,CV,eJ] at i5
   have f4:=i3.2 b4 _ e4 h4b
   have f5:=i3.2 b5 _ e5 h5b
   have hw:=bO (n:=(i:Int)+1)
   simp -implicitDefEqProofs only[bR,aF,f4,aA,seval,oM]
   refine wP [(0,1),(2,1),(5,1),(7,1),(10,1),(1,2),(3,1),(4,2),(6,2),(8,1),(9,2),(11,0),(12,1)] [0,2,5,7,10,1,3,4,6,8,9,12] mixed ?_
   simp -implicitDefEqProofs only[f4,f5,bQ (av:=Tm.av) aO hx (aM x),bQ (av:=Tm.av) aO hy (aM y),aA,seval,oM]
   cases hu:dM g σi x y with
   | none=>rw[hu] at i5;cases i5
   | some p1=>
    obtain⟨r1,σ1,tr1⟩:=p1
    rw[hu] at i5
    have hx1:bP N x:=hka h1 x (dA hx)
    have hy1:bP N y:=hkb h2 y (dA hy)
    have hU:=yL i1 hu
    have hA:=(P6 (s8 N) g).1 σi x y r1 σ1 tr1 i1 hu i2 hx1 hy1
    refine(IH σi x y r1 σ1 tr1 i1 i2 hx1 hy1 hu si i3.1).mono ?_
    rintro _ s2 ⟨rfl,hp2⟩
    cases r1 with
    | false=>
     simp only[Option.some.injEq,Prod.mk.injEq] at i5
     obtain⟨rfl,rfl,rfl⟩:=i5
     simp -implicitDefEqProofs only[aA,seval]
     exact hQ0.trans (i3.trans hp2)
    | true=>
     simp only at i5
     cases hu2:eJ g σ1 (tsa.drop (i+1)) (tsb.drop (i+1)) with
     | none=>rw[hu2] at i5;cases i5
     | some p2=>
      obtain⟨r2,σ2,tr2⟩:=p2
      rw[hu2] at i5
      simp only[Option.some.injEq,Prod.mk.injEq] at i5
      obtain⟨rfl,rfl,_⟩:=i5
      simp -implicitDefEqProofs only[aA,seval]
      exact⟨(σ1,tr2,s2),⟨hU.iR,hA,i3.trans hp2,hu2⟩,aP.mk (by simp -implicitDefEqProofs only[hw,aA,seval])⟩
 · have hd:ka=kb→na=nb→sa=sb'→¬(tsa.length:Int)=(tsb.length:Int):=by
    intro e1 e2 e3 e4
    have:v5 (Tm.mk ka na sa tsa) (Tm.mk kb nb sb' tsb)=true:=uK.2 ⟨e1,e2,e3,by simp only[Tm.ts];omega⟩
    rw[h3] at this;cases this
   by_cases e1:ka=kb
   · by_cases e2:na=nb
     · by_cases e3:sa=sb'
       · have e4:=hd e1 e2 e3
         subst e1 e2 e3
         simp -implicitDefEqProofs only[bM,bE,dX,h54.symm,h1,aF,e4,aA,seval,oM]
         exact fW _ _
       · subst e1 e2
         simp -implicitDefEqProofs only[bM,bE,dX,h54.symm,h1,e3,aA,seval,oM]
         exact fW _ _
     · subst e1
       simp -implicitDefEqProofs only[bM,bE,dX,h54.symm,h1,e2,aA,seval,oM]
       exact fW _ _
   · clear hd
     simp -implicitDefEqProofs only[bM,dX,h54.symm,h1,h2,e1,aA,seval,oM]
     exact fW _ _
theorem Z4(N:Nat)(hN:N≤1048576)(bb:Nat):∀(g:Nat) (σ:Sub) (a b:Tm) (r:Bool) (σ':Sub) (add:List Int),cX σ→c9 (bP N) σ→bP N a→bP N b→dM g σ a b=some (r,σ',add)→HJ N 204 bb σ a b r σ'
 | 0,σ,a,b,r,σ',add,hg,hok,ha,hb,h=>by simp only[dM] at h;cases h
 | g+1,σ,a,b,r,σ',add,hg,hok,ha,hb,h=>by
  refine aO3 N hN g bb (Z4 N hN bb g) σ a b r σ' add hg hok ha hb h fun h1 h2=>?_
  obtain⟨rk,B,G⟩:=hg.rs
  obtain⟨fa,wa⟩:=G.wk a
  obtain⟨fb,wb⟩:=G.wk b
  have eb:=aTC wb
  have ea:=aTC wa
  have hbn:lA σ (wk σ b).n (wk σ a)=(r,σ',add):=by
   rcases P4 h with h | h | h | h | h
   · exact absurd h.1 h1
   · exact absurd h.1 h1
   · exact h.2.2
   · exact absurd h2 h.2.1
   · exact absurd h2 h.2.1
  refine aO3 N hN 0 bb (fun σ a b r σ' add _ _ _ _ h=>by simp only[dM] at h;cases h) σ (wk σ b) (wk σ a) r σ' add hg hok (wb.all (p:=bP N) hok hb) (wa.all (p:=bP N) hok ha) ?_ fun h3=>?_
  · rw[dM,eb,ea,aE (fun h=>h1 h.2.1),aH h2,hbn]
  · rw[eb] at h3;exact absurd h2 h3
end Go.AW
namespace Go.AW
noncomputable def tN(σ:Sub)(a b:Tm):Int×Sub×List Int:=(jO (jZ σ a b).1,(jZ σ a b).2)
noncomputable def w4(σ:Sub)(x y z:Tm):Int×Sub×List Int:=
 if x.k=1∨y.k=1 then(2,σ,[]) else if x.k≠2∨y.k≠3∨y.ts.length=0 then(3,σ,[]) else match oB x y with
  | some u=>tN σ z u
  | none=>(1,σ,[])
noncomputable def dI(σ:Sub)(s:ByteArray):List Tm→Int×Sub×List Int
 | []=>(jO (decide (s=⟨#[116,114,117,101]⟩)),σ,[])
 | [x]=>(jO (uX s x),σ,[])
 | [x,y]=>if gS sR s=true then(zR s x y,σ,[]) else if s=⟨#[61]⟩ then tN σ x y else if s=⟨#[92,61]⟩ then(jO (!(jZ σ x y).1),σ,[])
  else if s=⟨#[61,61]⟩ then(jO (x.same y),σ,[]) else if y.ev.2≠0 then(y.ev.2,σ,[]) else tN σ x (pF y.ev.1)
 | [x,y,z]=>w4 σ x y z
 | _=>(0,σ,[])
structure n8 (N:Int) (σ:Sub) (σ':Sub) (add:List Int):Prop where
 iR:cX σ'
 ok:c9 (bP N) σ'
 a7:∀n,n∉add→σ' n=σ n
 new:∀n∈add,σ n=none∧σ' n≠none
 nodup:add.Nodup
 gS:∀n∈add,0≤n∧n<N
theorem n8.same{N:Int}{σ:Sub}(hg:cX σ)(ho:c9 (bP N) σ):n8 N σ σ []:=⟨hg,ho,fun _ _=>rfl,by simp,mK,by simp⟩
theorem BM.yG{N:Int}{σ:Sub}{a b:Tm}{r:Bool}{σ':Sub}{tr:List Int}(h:BM N σ a b r σ' tr):n8 N σ σ' tr:=⟨h.oS.iR,h.ok,h.oS.a7,h.oS.new,h.oS.nodup,h.gS⟩
theorem n8.oS{N:Nat}{σ:Sub}{a b:Tm}(hg:cX σ)(ho:c9 (bP N) σ)(ha:bP N a)(hb:bP N b):n8 N σ (jZ σ a b).2.1 (jZ σ a b).2.2:=by
 obtain⟨r,σ',tr,h⟩:=vD hg ho ha hb
 rw[h.eq]
 exact h.yG
theorem N6{N:Int}{n:Int}(h:kZ n):bP N (pF n):=by
 have h1:=a3T h
 have h2:=Tm.LF h1
 refine⟨⟨h2.1,h2.2.1,fun v hv=>?_⟩,Tm.LE h1⟩
 unfold pF at hv
 rw[Tm.mI (by decide)] at hv
 obtain⟨t,ht,_⟩:=hv
 cases ht
theorem ZH{N:Int}{x y u:Tm}(hy:bP N y)(hk:y.k≠1)(h:oB x y=some u):bP N u:=s8 N y hk hy u (ZG h)
theorem OY{N:Nat}{σ:Sub}(hg:cX σ)(ho:c9 (bP N) σ)(s:ByteArray)(ks:List Tm)(hv:∀x∈ks,bP N x):n8 N σ (dI σ s ks).2.1 (dI σ s ks).2.2:=by
 have hs:=n8.same hg ho
 match ks,hv with
 | [],_=>exact hs
 | [x],_=>exact hs
 | [x,y],hv=>
  have hx:=hv x (by simp)
  have hy:=hv y (by simp)
  simp only[dI]
  split
  · exact hs
  split
  · exact n8.oS hg ho hx hy
  split
  · exact hs
  split
  · exact hs
  split
  · exact hs
  · exact n8.oS hg ho hx (N6 (Tm.vY y hy.1))
 | [x,y,z],hv=>
  have hy:=hv y (by simp)
  have hz:=hv z (by simp)
  simp only[dI,w4]
  split
  · exact hs
  rename_i h1
  split
  · exact hs
  split
  · rename_i u hu
    exact n8.oS hg ho hz (ZH hy (fun h=>h1 (.inr h)) hu)
  · exact hs
 | a::b::c::d::l,_=>exact hs
theorem aZQ(ρ:Int→Int):∀t:Tm,(cC ρ t).ev=t.ev:=by
 intro t
 induction t using Tm.ind with
 | h k n s ts ih=>
  by_cases h1:k=1
  · rw[AM ρ (t:=.mk k n s ts) h1,vr,Tm.zY,Tm.zY,h1]
    simp
  rw[yD ρ h1,Tm.zY,Tm.zY,yX]
  have:ts.map (Tm.ev∘cC ρ)=ts.map Tm.ev:=sJ fun x hx=>ih x hx
  rw[this]
section
variable {ρ:Int→Int} {N:Int} {σ τ:Sub}
theorem gD.back(S:gD ρ N σ τ):∃δ:Int→Int,∀v,0≤v→v<N→δ (ρ v)=v:=by
 refine⟨fun w=>open Classical in if h:∃v,0≤v∧v<N∧ρ v=w then h.choose else 0,fun v h0 h1=>?_⟩
 have h:∃u,0≤u∧u<N∧ρ u=ρ v:=⟨v,h0,h1,rfl⟩
 simp only[dif_pos h]
 obtain⟨a,b,c⟩:=h.choose_spec
 exact S.inj _ _ a b h0 h1 c
theorem gD.a5U(S:gD ρ N σ τ){x y:Tm}(hx:cO N x)(hy:cO N y)(e:cC ρ x=cC ρ y):x=y:=by
 obtain⟨δ,hδ⟩:=S.back
 have key:∀ {t:Tm},cO N t→cC δ (cC ρ t)=t:=fun {t} ht=>by
  rw[show cC δ (cC ρ t)=t.aN fun v=>vr (δ (ρ v)) from KB ρ _ t]
  rw[r8 (g:=vr) t fun v hv=>by rw[hδ v (ht.2.2 v hv).1 (ht.2.2 v hv).2]]
  exact VI t ht.2.1
 rw[←key hx,e,key hy]
theorem gD.same(S:gD ρ N σ τ){x y:Tm}(hx:cO N x)(hy:cO N y):(cC ρ x).same (cC ρ y)=x.same y:=by
 rw[vI,Tm.DN,Tm.DN]
 exact⟨S.a5U hx hy,fun e=>by rw[e]⟩
theorem a69(ρ:Int→Int)(s:ByteArray)(x:Tm):uX s (cC ρ x)=uX s x:=by
 unfold uX
 rw[AL]
 by_cases h:x.k=1
 · rw[h];simp
 · have:(cC ρ x).ts.length=x.ts.length:=by
    rw[GG ρ h]
    simp only[Tm.ts,aF]
   rw[this]
theorem aUO(ρ:Int→Int){x y:Tm}(hx:x.k=2)(hy:y.k=3):oB (cC ρ x) (cC ρ y)=(oB x y).map (cC ρ):=by
 obtain⟨k,n,s,ts⟩:=x
 obtain⟨k',n',s',ts'⟩:=y
 simp only[Tm.k] at hx hy
 subst hx hy
 rw[yD ρ (by decide),yD ρ (by decide)]
 unfold oB
 show(if 1≤n∧n≤((ts'.map (cC ρ)).length:Int) then(ts'.map (cC ρ))[(n - 1).toNat]? else none)=Option.map (cC ρ) (if 1≤n∧n≤(ts'.length:Int) then ts'[(n - 1).toNat]? else none)
 by_cases h:1≤n∧n≤(ts'.length:Int)
 · rw[aH h,aH (by rw[aF];exact h),oX]
 · rw[aE h,aE (by rw[aF];exact h)];try rfl
def nI(ρ:Int→Int)(N:Int)(x y:Int×Sub×List Int):Prop:=y.1=x.1∧y.2.2=x.2.2.map ρ∧gD ρ N x.2.1 y.2.1
theorem nI.same(S:gD ρ N σ τ)(c:Int):nI ρ N (c,σ,[]) (c,τ,[]):=⟨rfl,rfl,S⟩
end
section
variable {ρ:Int→Int} {N:Nat} {σ τ:Sub}
theorem nI.oS(S:gD ρ N σ τ)(hg:cX σ)(hg':cX τ)(ho:c9 (bP N) σ){a b:Tm}(ha:bP N a)(hb:bP N b):nI ρ N (tN σ a b) (tN τ (cC ρ a) (cC ρ b)):=by
 obtain⟨r,σ',tr,h⟩:=vD hg ho ha hb
 obtain⟨g,hg2⟩:=h.run
 obtain⟨τ',e,S',_⟩:=S.jZ hg hg' ho.m7 ha.1 hb.1 hg2
 unfold tN
 rw[h.eq,e]
 exact⟨rfl,rfl,S'⟩
theorem a5V(ρ:Int→Int)(n:Int):cC ρ (pF n)=pF n:=yD ρ (by decide)
theorem gD.dI(S:gD ρ N σ τ)(hg:cX σ)(hg':cX τ)(ho:c9 (bP N) σ)(s:ByteArray)(ks:List Tm)(hv:∀x∈ks,bP N x):nI ρ N (AW.dI σ s ks) (AW.dI τ s (ks.map (cC ρ))):=by
 match ks,hv with
 | [],_=>exact nI.same S _
 | [x],_=>
  simp only[bB,aW,AW.dI,a69]
  exact nI.same S _
 | [x,y],hv=>
  have hx:=hv x (by simp)
  have hy:=hv y (by simp)
  have hu:=nI.oS S hg hg' ho hx hy
  simp only[bB,aW,AW.dI,zR,aZQ,S.same hx.1 hy.1]
  by_cases h1:gS sR s=true
  · rw[aH h1,aH h1];exact nI.same S _
  rw[aE h1,aE h1]
  by_cases h2:s=⟨#[61]⟩
  · rw[aH h2,aH h2];exact hu
  rw[aE h2,aE h2]
  by_cases h3:s=⟨#[92,61]⟩
  · rw[aH h3,aH h3]
    obtain⟨r,σ',tr,h⟩:=vD hg ho hx hy
    obtain⟨g,hg2⟩:=h.run
    obtain⟨τ',e,_,_⟩:=S.jZ hg hg' ho.m7 hx.1 hy.1 hg2
    rw[h.eq,e]
    exact nI.same S _
  rw[aE h3,aE h3]
  by_cases h4:s=⟨#[61,61]⟩
  · rw[aH h4,aH h4];exact nI.same S _
  rw[aE h4,aE h4]
  by_cases h5:y.ev.2≠0
  · rw[aH h5,aH h5];exact nI.same S _
  rw[aE h5,aE h5]
  have:=nI.oS S hg hg' ho hx (N6 (N:=N) (Tm.vY y hy.1))
  rw[a5V] at this
  exact this
 | [x,y,z],hv=>
  have hy:=hv y (by simp)
  have hz:=hv z (by simp)
  simp only[bB,aW,AW.dI,w4,AL]
  by_cases h1:x.k=1∨y.k=1
  · rw[aH h1,aH h1];exact nI.same S _
  rw[aE h1,aE h1]
  have hl:(cC ρ y).ts.length=y.ts.length:=by
   rw[GG ρ (t:=y) (fun h=>h1 (.inr h))]
   simp only[Tm.ts,aF]
  rw[hl]
  by_cases h2:x.k≠2∨y.k≠3∨y.ts.length=0
  · rw[aH h2,aH h2];exact nI.same S _
  rw[aE h2,aE h2]
  have kx:x.k=2:=D9 fun h=>h2 (.inl h)
  have ky:y.k=3:=D9 fun h=>h2 (.inr (.inl h))
  rw[aUO ρ kx ky]
  cases hu:oB x y with
  | none=>exact nI.same S _
  | some u=>exact nI.oS S hg hg' ho hz (ZH hy (fun h=>h1 (.inr h)) hu)
 | a::b::c::d::l,_=>
  simp only[bB,AW.dI]
  exact nI.same S _
end
theorem a6U(σ:Sub)(s:ByteArray)(ks:List Tm):0≤(dI σ s ks).1:=by
 have hc:∀b,0≤jO b:=fun b=>by unfold jO;split<;>omega
 have hr:∀n,0≤(kB n).2:=fun n=>by unfold kB;split<;>simp
 have har:∀s a b,0≤(sO s a b).2:=fun s a b=>by
  unfold sO
  split
  · exact hr _
  split
  · exact hr _
  split
  · exact hr _
  split
  · simp
  split
  · simp
  · simp
 have hb:∀(f:Int→Int→Int×Int) (x y:Int×Int),(∀a b,0≤(f a b).2)→0≤x.2→0≤y.2→0≤(both f x y).2:=fun f x y hf hx hy=>by
  unfold both
  split
  · exact hx
  split
  · exact hy
  · exact hf _ _
 have he:∀t:Tm,0≤t.ev.2:=by
  intro t
  induction t using Tm.ind with
  | h k n s ts ih=>
   rw[Tm.zY]
   split
   · simp
   split
   · simp
   split
   · match ts,ih with
     | [],_=>simp [two]
     | [x],_=>simp [two]
     | [x,y],ih=>exact hb _ _ _ (har s) (ih x (by simp)) (ih y (by simp))
     | x::y::z::l,_=>simp [two]
   · simp
 match ks with
 | []=>exact hc _
 | [x]=>exact hc _
 | [x,y]=>
  simp only[dI]
  split
  · exact hb _ _ _ (fun _ _=>hc _) (he x) (he y)
  split
  · exact hc _
  split
  · exact hc _
  split
  · exact hc _
  split
  · exact he y
  · exact hc _
 | [x,y,z]=>
  simp only[dI,w4]
  split
  · simp
  split
  · simp
  split
  · exact hc _
  · simp
 | a::b::c::d::l=>simp [dI]
end Go.AW
namespace Go.AW
open Go.Proofs.Tryz
theorem aUN(σ:Sub)(x y z:Tm):w4 σ x y z=if(sP x y).2=0 then tN σ z (sP x y).1 else((sP x y).2,σ,[]):=by
 unfold w4 sP
 split
 · simp
 split
 · simp
 cases oB x y<;>rfl
def sM(N bb:Nat)(st:aB)(x:Int×Sub×List Int)(r:AV)(st':aB):Prop:=r=.int .i64 x.1∧AN N bb st x.2.1 st'
theorem sM.same{N bb:Nat}{st:aB}{σ:Sub}{r:AV}(h:gB N st bb σ)(k:Int)(hr:r=.int .i64 k):sM N bb st (k,σ,[]) r st:=⟨hr,AN.refl h⟩
theorem H2{N:Nat}(hN:N≤1048576){σ:Sub}(hg:cX σ)(ho:c9 (bP N) σ)(a b:Tm)(ha:bP N a)(hb:bP N b)(bb:Nat)(st:aB)(hS:gB N st bb σ) :
 aD prog 204 [a.av,b.av,.mslice bb 0 N 4] st (fun r st'=>r=.bool (jZ σ a b).1∧AN N bb st (jZ σ a b).2.1 st'):=by
 obtain⟨r,σ',tr',hU⟩:=vD hg ho ha hb
 obtain⟨g,pD⟩:=hU.run
 rw[hU.eq]
 exact Z4 N hN bb g σ a b r σ' tr' hg ho ha hb pD st hS
abbrev sD:=zi tI_3 (zi zI_3 (zi aU (zi tI_4 (zi zI_4 (zi cI (zi tI_9 (zi zI_9 (zi cT (zi tI_28 (zi zI_28 (zi aO (zi bF (zi bG (zi bZ (zi tI_52 (zi zI_52 (zi bU (zi bV (zi bX (zi bY bT))))))))))))))))))))
theorem aVA{N:Nat}(hN:N≤1048576){σ:Sub}(hg:cX σ)(ho:c9 (bP N) σ)(n:Int)(s:ByteArray)(ks:List Tm)(hb:isBuiltin s (ks.length:Int)=true)(hne:s≠⟨#[92,61]⟩)(hv:∀x∈ks,bP N x)(bb:Nat)(st:aB)(hS:gB N st bb σ) :
 aD prog 165 [(Tm.mk 3 n s ks).av,.mslice bb 0 N 4] st (sM N bb st (dI σ s ks)):=by
 have hcs:=ZY hb
 have FN:=fun x y (hxy:ks= [x,y])=>aXR n s x y (hv x (by simp [hxy])).1 (hv y (by simp [hxy])).1
 have aN2:=fun x y z (hxy:ks= [x,y,z])=>aXQ n s x y z (hv y (by simp [hxy])).1
 have aN4:=fun x (hxy:ks= [x]) h=>aXW n s x h
 simp only[a8] at FN aN2 aN4 ⊢
 refine wF [1000000] 2 func165 ntmps165 rfl rfl ?_
 intro _
 simp -implicitDefEqProofs only[aA,seval,sD]
 refine aQ (fun h=>?_) (fun h=>?_)
 · have hs:s=⟨#[116,114,117,101]⟩:=by simpa using h
   have hk:=N9 (ts:=ks) (by subst hs;simpa [isBuiltin] using hb)
   subst hk
   simp -implicitDefEqProofs only[aA,seval]
   exact sM.same hS _ (by simp [jO,hs])
 have ht:s≠⟨#[116,114,117,101]⟩:=by simpa using h
 simp -implicitDefEqProofs only[aA,seval]
 refine aQ (fun h=>?_) (fun h=>?_)
 · have hs:s=⟨#[102,97,105,108]⟩:=by simpa using h
   have hk:=N9 (ts:=ks) (by subst hs;simpa [isBuiltin] using hb)
   subst hk
   simp -implicitDefEqProofs only[aA,seval]
   exact sM.same hS _ (by simp [jO,hs])
 have hf:s≠⟨#[102,97,105,108]⟩:=by simpa using h
 simp -implicitDefEqProofs only[aA,seval]
 refine aQ (fun h=>?_) (fun h=>?_)
 · have hs:s=⟨#[61]⟩:=by simpa using h
   obtain⟨x,y,rfl⟩:=wB (ts:=ks) (by subst hs;simp [isBuiltin] at hb;omega)
   have e:dI σ s [x,y]=tN σ x y:=by subst hs;rfl
   rw[e]
   have eG:dN prog 28 (.slice [x.av,y.av]) (.int .i64 0)=some (.pptr x.av):=bQ (av:=Tm.av) (l:=[x,y]) (i:=0) aO rfl (aM x)
   have fR:dN prog 28 (.slice [x.av,y.av]) (.int .i64 1)=some (.pptr y.av):=bQ (av:=Tm.av) (l:=[x,y]) (i:=1) aO rfl (aM y)
   simp -implicitDefEqProofs only[aA,seval]
   refine wX [(0,1),(1,1),(2,1),(3,1),(4,1),(5,1),(6,1),(7,1),(8,1),(9,0),(10,0),(11,1)] [0,1,2,3,4,5,6,7,8,11] dQ mixed rfl dY ?_
   simp -implicitDefEqProofs only[eG,fR,aY,aM,aA,seval,sD]
   refine(H2 hN hg ho x y (hv x (by simp)) (hv y (by simp)) bb _ hS).mono ?_
   rintro _ s2 ⟨rfl,hP⟩
   simp -implicitDefEqProofs only[aA,seval]
   refine⟨dY,?_⟩
   refine(uA _ _).to ?_
   simp -implicitDefEqProofs only[aA,seval]
   exact⟨dY,rfl,hP⟩
 have he:s≠⟨#[61]⟩:=by simpa using h
 simp -implicitDefEqProofs only[aA,seval]
 refine aQ (fun h=>absurd (by simpa using h) hne) (fun h=>?_)
 simp -implicitDefEqProofs only[aA,seval]
 refine aQ (fun h=>?_) (fun h=>?_)
 · have hs:s=⟨#[61,61]⟩:=by simpa using h
   obtain⟨x,y,rfl⟩:=wB (ts:=ks) (by subst hs;simp [isBuiltin] at hb;omega)
   have e:dI σ s [x,y]=(jO (x.same y),σ,[]):=by subst hs;rfl
   rw[e]
   have eG:dN prog 28 (.slice [x.av,y.av]) (.int .i64 0)=some (.pptr x.av):=bQ (av:=Tm.av) (l:=[x,y]) (i:=0) aO rfl (aM x)
   have fR:dN prog 28 (.slice [x.av,y.av]) (.int .i64 1)=some (.pptr y.av):=bQ (av:=Tm.av) (l:=[x,y]) (i:=1) aO rfl (aM y)
   simp -implicitDefEqProofs only[aA,seval]
   refine L8 mixed (by decide +kernel) (by decide +kernel) ?_
   simp -implicitDefEqProofs only[eG,fR,aY,aM,aA,seval,sD]
   refine j6 (H9 x y _) ?_
   simp -implicitDefEqProofs only[aA,seval]
   refine j6 (uA _ _) ?_
   simp -implicitDefEqProofs only[aA,seval]
   exact sM.same hS _ rfl
 have hee:s≠⟨#[61,61]⟩:=by simpa using h
 simp -implicitDefEqProofs only[aA,seval]
 refine aQ (fun h=>?_) (fun h=>?_)
 · have hs:s=⟨#[105,115]⟩:=by simpa using h
   obtain⟨x,y,rfl⟩:=wB (ts:=ks) (by subst hs;simp [isBuiltin] at hb;omega)
   have e:dI σ s [x,y]=if y.ev.2≠0 then(y.ev.2,σ,[]) else tN σ x (pF y.ev.1):=by subst hs;rfl
   rw[e]
   have hy:=hv y (by simp)
   have hin:=N6 (N:=N) (Tm.vY y hy.1)
   have har:=fun st=>ML y st hy.1
   generalize y.ev.1=a at *
   generalize y.ev.2=ca at *
   have eG:dN prog 28 (.slice [x.av,y.av]) (.int .i64 0)=some (.pptr x.av):=bQ (av:=Tm.av) (l:=[x,y]) (i:=0) aO rfl (aM x)
   have fR:dN prog 28 (.slice [x.av,y.av]) (.int .i64 1)=some (.pptr y.av):=bQ (av:=Tm.av) (l:=[x,y]) (i:=1) aO rfl (aM y)
   simp -implicitDefEqProofs only[fR,aY,aM,aA,seval,sD]
   refine(har _).to ?_
   simp -implicitDefEqProofs only[aA,seval]
   refine aQ (fun h4=>?_) (fun h4=>?_)
   · simp -implicitDefEqProofs only[aA,seval]
     have h4':ca≠0:=by simpa using h4
     rw[aH h4']
     exact sM.same hS _ rfl
   have h4':ca=0:=by simpa using h4
   subst h4'
   rw[aE (by simp)]
   simp -implicitDefEqProofs only[aA,seval]
   refine wX [(0,1),(1,1),(2,1),(3,1),(4,1),(6,1),(5,0),(7,0),(8,0),(9,1)] [0,1,2,3,4,6,9] dQ mixed rfl dY ?_
   simp -implicitDefEqProofs only[eG,aY,aM,aA,seval,sD]
   refine(EZ a _).to ?_
   rw[←a3S]
   simp -implicitDefEqProofs only[aA,seval]
   refine⟨dY,?_⟩
   refine(H2 hN hg ho x (pF a) (hv x (by simp)) hin bb _ hS).mono ?_
   rintro _ s2 ⟨rfl,hP⟩
   simp -implicitDefEqProofs only[aA,seval]
   refine⟨dY,?_⟩
   refine(uA _ _).to ?_
   simp -implicitDefEqProofs only[aA,seval]
   exact⟨dY,rfl,hP⟩
 have his:s≠⟨#[105,115]⟩:=by simpa using h
 simp -implicitDefEqProofs only[aA,seval]
 refine aQ (fun h=>?_) (fun h=>?_)
 · have hs:s=⟨#[97,114,103]⟩:=by simpa using h
   obtain⟨x,y,z,rfl⟩:=aO2 (ts:=ks) (by subst hs;simp [isBuiltin] at hb;omega)
   have e:dI σ s [x,y,z]=w4 σ x y z:=rfl
   rw[e,aUN]
   have hz:=hv z (by simp)
   have hy:=hv y (by simp)
   have hga:=aN2 x y z rfl
   have hgv:(sP x y).2=0→bP N (sP x y).1:=fun h=>by
    unfold sP at h ⊢
    split at h
    · cases h
    rename_i h1
    rw[aE h1]
    split at h
    · cases h
    rename_i h2
    rw[aE h2]
    cases hu:oB x y with
    | none=>rw[hu] at h;cases h
    | some u=>exact s8 N y (fun h=>h1 (.inr h)) hy u (ZG hu)
   generalize (sP x y).1=u at *
   generalize (sP x y).2=cu at *
   have qR:dN prog 28 (.slice [x.av,y.av,z.av]) (.int .i64 2)=some (.pptr z.av):=bQ (av:=Tm.av) (l:=[x,y,z]) (i:=2) aO rfl (aM z)
   simp only[bB,aW] at hga
   simp -implicitDefEqProofs only[aA,seval,sD]
   refine(hga _).to ?_
   simp -implicitDefEqProofs only[aM,cP,cH,aA,↓aS,seval,sD]
   refine aQ (fun h4=>?_) (fun h4=>?_)
   · simp -implicitDefEqProofs only[aA,seval]
     have h4':cu≠0:=by simpa using h4
     rw[aE h4']
     exact sM.same hS _ rfl
   have h4':cu=0:=by simpa using h4
   subst h4'
   rw[aH rfl]
   simp -implicitDefEqProofs only[aA,seval]
   refine wX [(0,1),(1,1),(2,1),(3,1),(4,1),(5,1),(6,0),(7,0),(8,1)] [0,1,2,3,4,5,8] dQ mixed rfl dY ?_
   simp -implicitDefEqProofs only[qR,aY,aM,aA,seval,sD]
   refine(H2 hN hg ho z u hz (hgv rfl) bb _ hS).mono ?_
   rintro _ s2 ⟨rfl,hP⟩
   simp -implicitDefEqProofs only[aA,seval]
   refine⟨dY,?_⟩
   refine(uA _ _).to ?_
   simp -implicitDefEqProofs only[aA,seval]
   exact⟨dY,rfl,hP⟩
 have aNT:s≠⟨#[97,114,103]⟩:=by simpa using h
 simp -implicitDefEqProofs only[aA,seval,sD]
 refine(aXS s _).to ?_
 simp -implicitDefEqProofs only[aA,seval]
 refine aQ (fun h=>?_) (fun h=>?_)
 · have hlen:ks.length=2:=by
    rcases hcs with ⟨h2,h3⟩ | ⟨h2,h3⟩ | ⟨h2,h3⟩ | ⟨h2,h3⟩
    · exact h2
    · simp [ht,hf] at h3
    · rcases h3 with rfl | rfl | rfl | rfl<;>exact absurd h (by decide)
    · exact absurd h3 aNT
   obtain⟨x,y,rfl⟩:=wB hlen
   have e:dI σ s [x,y]=(zR s x y,σ,[]):=by simp only[dI];rw[aH h]
   rw[e]
   have hc:=FN x y rfl
   simp only[bB,aW] at hc
   simp -implicitDefEqProofs only[aA,seval,sD]
   refine(hc _).to ?_
   simp -implicitDefEqProofs only[aA,seval]
   exact sM.same hS _ rfl
 · have hlen:ks.length=1∧(s=⟨#[118,97,114]⟩∨s=⟨#[110,111,110,118,97,114]⟩∨s=⟨#[97,116,111,109]⟩∨s=⟨#[105,110,116]⟩):=by
    rcases hcs with ⟨h2,h3⟩ | ⟨h2,h3⟩ | ⟨h2,h3⟩ | ⟨h2,h3⟩
    · simp [h,he,hne,hee,his] at h3
    · simp [ht,hf] at h3
    · exact⟨h2,h3⟩
    · exact absurd h3 aNT
   obtain⟨x,rfl⟩:=JV hlen.1
   have e:dI σ s [x]=(jO (uX s x),σ,[]):=rfl
   rw[e]
   have hc:=aN4 x rfl hlen.2
   simp only[bB,aW] at hc
   simp -implicitDefEqProofs only[aA,seval,sD]
   refine(hc _).to ?_
   simp -implicitDefEqProofs only[aA,seval]
   exact sM.same hS _ rfl
theorem ZI(N:Nat)(σ:Sub):vQ 4 (dE N σ):=by
 intro e h
 simp only[dE,cY] at h
 obtain⟨i,_,rfl⟩:=h
 refine⟨MQ _,?_⟩
 cases σ (i:Int) with
 | none=>rfl
 | some u=>exact cH u
theorem HW(N:Nat)(σ:Sub):∀e∈dE N σ,e.cJ=false:=by
 intro e h
 simp only[dE,cY] at h
 obtain⟨i,_,rfl⟩:=h
 cases σ (i:Int) with
 | none=>rfl
 | some u=>exact cP u
theorem vS(N:Nat)(σ:Sub):(dE N σ).length=N:=by simp [dE]
theorem RK{N:Nat}(h0:0<N)(hN:N≤1048576)(σ:Sub){st:aB}{K:AV→aB→Prop}(hK:∀b,st b=none→gB N (st.aC b (.cells ((dE N σ).flatMap AV.cells))) b σ→K (.mslice b 0 N 4) (st.aC b (.cells ((dE N σ).flatMap AV.cells)))) :
 kP prog 28 st (.fslice []) (.slice (dE N σ)) K:=by
 have hl:=vS N σ
 refine eE (P:=prog) (st:=st) (b:=0) (l:=[]) (xs:=dE N σ) (x:=.slice (dE N σ)) (K:=K) aO bF bG rfl rfl (ZI N σ) (by simp) (by simp) (by simp only[aX,hl];omega) (by simp only[aX,hl];omega) (fun b hb=>?_)
 have hne: []++dE N σ≠[]:=by
  rw[eD]
  intro e
  rw[e] at hl
  simp at hl
  omega
 rw[pQ hne,jD hne,eD,hl]
 exact hK b (hb hne) (aB.aJ _ _ _)
theorem aVC{N:Nat}(h0:0<N)(hN:N≤1048576){σ:Sub}(hg:cX σ)(ho:c9 (bP N) σ)(n:Int)(s:ByteArray)(x y:Tm)(hs:s=⟨#[92,61]⟩)(hx:bP N x)(hy:bP N y)(st:aB) :
 aD prog 165 [(Tm.mk 3 n s [x,y]).av,.slice (dE N σ)] st (fun r st'=>r=.int .i64 (jO (!(jZ σ x y).1))∧st'=st):=by
 have ht:s≠⟨#[116,114,117,101]⟩:=by subst hs;decide
 have hf:s≠⟨#[102,97,105,108]⟩:=by subst hs;decide
 have he:s≠⟨#[61]⟩:=by subst hs;decide
 refine aD.done ?_
 simp only[a8 3,bB,aW]
 refine wF [1000000] 2 func165 ntmps165 rfl rfl ?_
 intro _
 have eG:dN prog 28 (.slice [x.av,y.av]) (.int .i64 0)=some (.pptr x.av):=bQ (av:=Tm.av) (l:=[x,y]) (i:=0) aO rfl (aM x)
 have fR:dN prog 28 (.slice [x.av,y.av]) (.int .i64 1)=some (.pptr y.av):=bQ (av:=Tm.av) (l:=[x,y]) (i:=1) aO rfl (aM y)
 simp -implicitDefEqProofs only[aA,seval,sD]
 refine aQ (fun h=>absurd (by simpa using h) ht) (fun h=>?_)
 simp -implicitDefEqProofs only[aA,seval]
 refine aQ (fun h=>absurd (by simpa using h) hf) (fun h=>?_)
 simp -implicitDefEqProofs only[aA,seval]
 refine aQ (fun h=>absurd (by simpa using h) he) (fun h=>?_)
 simp -implicitDefEqProofs only[aA,seval]
 refine aQ (fun h=>?_) (fun h=>absurd hs (by simpa using h))
 simp -implicitDefEqProofs only[aA,seval]
 refine wX [(0,1),(1,1),(2,1),(3,1),(4,1),(5,1),(6,1),(7,1),(8,1),(9,1),(10,0),(11,0),(12,1),(13,0),(14,1)] [0,1,2,3,4,5,6,7,8,9,12,14] dQ mixed rfl dY ?_
 simp -implicitDefEqProofs only[eG,fR,aY,aM,aA,seval,sD]
 refine RK h0 hN σ fun b hb hA0=>?_
 have hD0:aL (st.aC b (.cells ((dE N σ).flatMap AV.cells))) st:=(aL.refl _).aC hb
 generalize st.aC b (.cells ((dE N σ).flatMap AV.cells))=s0 at *
 simp -implicitDefEqProofs only[aA,seval]
 refine⟨dY,?_⟩
 refine(H2 hN hg ho x y hx hy b _ hA0).mono ?_
 rintro _ s2 ⟨rfl,hA,hk⟩
 simp -implicitDefEqProofs only[aA,seval]
 refine⟨dY,?_⟩
 refine(uA _ _).to ?_
 simp -implicitDefEqProofs only[aA,seval]
 refine⟨dY,rfl,fun q=>?_⟩
 have key:∀o,st q=some o→s2 q=some o:=fun o h=>hk q o ((hD0 q).2 o h) (by rintro rfl;rw[hb] at h;cases h)
 refine⟨fun h=>?_,key⟩
 cases hq:st q with
 | none=>rfl
 | some o=>rw[key o hq] at h;cases h
theorem aVB{N:Nat}(h0:0<N)(hN:N≤1048576){σ:Sub}(hg:cX σ)(ho:c9 (bP N) σ)(n:Int)(s:ByteArray)(ks:List Tm)(hb:isBuiltin s (ks.length:Int)=true)(hv:∀x∈ks,bP N x)(bb:Nat)(st:aB)(hS:gB N st bb σ) :
 aD prog 165 [(Tm.mk 3 n s ks).av,.mslice bb 0 N 4] st (sM N bb st (dI σ s ks)):=by
 by_cases hs:s=⟨#[92,61]⟩
 · obtain⟨x,y,rfl⟩:=wB (ts:=ks) (by subst hs;simp [isBuiltin] at hb;omega)
   have e:dI σ s [x,y]=(jO (!(jZ σ x y).1),σ,[]):=by subst hs;rfl
   rw[e]
   have hc:=aVC h0 hN hg ho n s x y hs (hv x (by simp)) (hv y (by simp)) dQ
   refine(aD.aNG (args':=[(Tm.mk 3 n s [x,y]).av,.mslice bb 0 N 4]) (st:=st) rfl hc fun h vs S V=>?_).mono ?_
   · simp only[cZ] at V ⊢
     obtain⟨v,vs',rfl,V1,w,ws',rfl,V2,rfl⟩:=V
     refine⟨v,[w],rfl,V1.mono ((aL.dQ st).step h),w,[],rfl,?_,rfl⟩
     have h2:=V2.fz S hS (HW N σ) ⟨4,EV N σ⟩
     have h3:(AV.mslice bb 0 N 4).fz bb (dE N σ)=.slice (dE N σ):=by simp [AV.fz,vS]
     rw[h3] at h2
     exact h2.mono ((aL.dQ (st.erase bb)).step h)
   · rintro _ _ ⟨rfl,rfl⟩
     exact sM.same hS _ rfl
 · exact aVA hN hg ho n s ks hb hs hv bb st hS
abbrev GU:=zi tI_3 (zi zI_3 (zi aU (zi tI_28 (zi zI_28 (zi aO (zi bF (zi bG (zi bZ (zi tI_52 (zi zI_52 (zi bU (zi bV (zi bX (zi bY bT))))))))))))))
theorem aU8{N:Nat}{σ:Sub}(hok:c9 (cO N) σ){f:Nat}{t u:Tm}(hw:gR σ f t u)(ht:cO N t)(st:aB):aD prog 241 [t.av,.slice (dE N σ)] st (fun r st'=>r=u.av∧st'=st):=by
 refine aD.done ?_
 refine wF [1000000,2] 2 func241 ntmps241 rfl rfl ?_
 intro _
 have hlen:(dE N σ).length=N:=by simp [dE]
 simp -implicitDefEqProofs only[aA,seval,GU]
 intro b2 h2 b4 h4
 have hne:b4≠b2:=by rintro rfl;rw[aB.aJ] at h4;cases h4
 have hn4:st b4=none:=by rw[aB.aG st _ hne] at h4;exact h4
 refine iT (σ:=Nat×Tm) [1000000,2] [1,2,4] (fun p=>gR σ p.1 p.2 u∧cO N p.2) (fun p=>[]) (fun p=>(st.aC b2 (.cells p.2.av.cells)).aC b4 (.cells [.int .i64 0,.int .i64 0,.str ⟨#[]⟩,.fslice []])) (fun p=>p.1) (by decide +kernel) ⟨(f,t),⟨hw,ht⟩,aP.mk (by simp -implicitDefEqProofs only[aA,seval])⟩ ?_
 rintro⟨g,t⟩ ⟨hw,ht⟩
 obtain⟨k,n,s,ts⟩:=t
 simp only at hw ht
 simp only[a8]
 have lD:k≠1∨σ n=none→u=.mk k n s ts:=fun h=>by
  cases hw with
  | stop _=>rfl
  | go h1 h2 _=>
   simp only[Tm.k] at h1
   rcases h with h | h
   · exact absurd h1 h
   · rw[show σ n=some _ from h2] at h;cases h
 simp -implicitDefEqProofs only[hne.symm,aA,seval,GU]
 refine cU (fun h=>?_) (fun h=>?_)
 case refine_2=>
  simp -implicitDefEqProofs only[h,aK,hne.symm,aA,seval,GU]
  simp only[pM,dL] at h
  rw[lD (.inl h),←a8]
  exact⟨Tm.soft _,((aL.refl _).aC h2).aC hn4⟩
 simp only[bK] at h
 subst h
 obtain⟨hn0,hn1,_⟩:=ht.var
 obtain⟨i,rfl⟩:∃i:Nat,n=i:=⟨n.toNat,by omega⟩
 have hi:i<N:=by omega
 have hi':decide ((i:Int)<(N:Int))=true:=by simp;omega
 simp -implicitDefEqProofs only[bE,hi',dX,hne.symm,hlen,aA,seval,GU]
 have hat:dN prog 28 (.slice (dE N σ)) (.int .i64 (i:Int))=some (.pptr (cellOf (σ (i:Int)))):=bQ (av:=fun i:Nat=>cellOf (σ (i:Int))) aO (List.getElem?_range hi) (MQ _)
 cases hw with
 | stop hs=>
  rw[show σ (i:Int)=none from hs rfl] at hat
  simp only[cellOf] at hat
  simp -implicitDefEqProofs only[hat,bE,aK,hne.symm,aA,seval,GU]
  exact⟨by rw[←a8,Tm.soft],((aL.refl _).aC h2).aC hn4⟩
 | go h1 h2' h3=>
  simp only[Tm.n] at h2'
  have ho:=hok _ _ h2'
  rename_i g' u'
  obtain⟨k',n',s',ts'⟩:=u'
  have hk':¬k'=0:=by have:=ho.kind.1;omega
  rw[h2'] at hat
  simp only[cellOf,a8] at hat
  simp -implicitDefEqProofs only[hat,hk',bM,aK,hne.symm,aA,seval,GU]
  rw[aB.yM hne,aB.nD _ _ _ hne]
  refine⟨(g',.mk k' n' s' ts'),LP _,⟨h3,ho⟩,?_⟩
  simp only[a8]
  exact aP.mk (by simp -implicitDefEqProofs only[aA,seval])
abbrev uZ:=zi tI_3 (zi zI_3 (zi aU (zi tI_9 (zi zI_9 (zi cT (zi tI_28 (zi zI_28 (zi aO (zi bF (zi bG (zi bZ (zi tI_52 (zi zI_52 (zi bU (zi bV (zi bX (zi bY bT)))))))))))))))))
theorem Z3{N:Nat}{σ:Sub}{R:Int→Tm}{rk:Int→Nat}{B:Nat}(G:Good σ R rk B)(hok:c9 (bP N) σ) :
 ∀(room:Nat) (t:Tm) (st:aB),room≤120→bP N t→aD prog 200 [t.av,.slice (dE N σ),.int .i64 (room:Int)] st (Full (t.aN R) room st)
 | room,t,st,hr,ht=>by
  have IH:=fun(OT:Nat) (hlt:OT<room) (x:Tm) st=>Z3 G hok OT x st
  obtain⟨f,hw⟩:=G.wk t
  generalize wk σ t=u at *
  have NY:c9 (cO N) σ:=fun n u hu=>(hok n u hu).1
  have hsu:=hw.all (p:=bP N) hok ht
  have hcw:=fun st=>aU8 NY hw ht.1 st
  obtain⟨k,n,s,ts⟩:=u
  have hv:=aNM G hw (hsu.1.2.1)
  rw[hv]
  obtain⟨hlen,qV⟩:=Tm.rC (hsu.1.small)
  have bAL:=hsu.1.kind.2
  have hkn:=hsu.1.all.2
  have hkk:∀x∈ts,bP N x:=fun x hx=>by
   refine⟨hkn x hx,?_⟩
   have:=hsu.2
   rw[Tm.iS] at this
   have:=KI (f:=Tm.nodes) hx
   omega
  refine aD.kS (aD.fin ?_)
  refine wF [1000000,3,8] 3 func200 ntmps200 rfl rfl ?_
  intro _
  simp -implicitDefEqProofs only[aA,seval,uZ]
  intro b3 h3 b6 h6
  have h63:b6≠b3:=by rintro rfl;rw[aB.aJ] at h6;cases h6
  have hn6:st b6=none:=by rw[aB.aG st _ h63] at h6;exact h6
  have hwr:∀z:Int,-1≤z→z≤200→IntKind.i64.wrap z=z:=fun z h1 h2=>wrap64 (by omega) (by omega)
  have hw1:=hwr ((room:Int) - 1) (by omega) (by omega)
  refine aQ (fun h=>?_) (fun h=>?_)
  · simp only[bK] at h
    obtain rfl:room=0:=by omega
    simp -implicitDefEqProofs only[aK,aA,↓aS,seval,uZ]
    refine⟨0,[],_,rfl,by simp,by simp,⟨4,by simp⟩,st,(fun x=>by by_cases e3:x=b3<;>by_cases e6:x=b6<;>simp_all [aB.aC]),rfl,Tm.zero,-1,?_,Int.le_refl _,?_⟩
    · simp only[Tm.zero,a8,gG,kK,eS,kA,qO,bB,aW]
    · rw[aE (by rw[Tm.iS];omega)];decide
  simp only[dL] at h
  simp -implicitDefEqProofs only[h63.symm,aA,seval,uZ]
  refine(hcw _).to ?_
  simp only[a8]
  simp -implicitDefEqProofs only[aK,h63.symm,hw1,aA,↓aS,seval,uZ]
  intro b8 h8
  have h83:b8≠b3:=by rintro rfl;simp [aB.aC] at h8
  have h86:b8≠b6:=by rintro rfl;simp [aB.aC,h63] at h8
  have hn8:st b8=none:=by rw[aB.aG _ _ h83,aB.aG _ _ h86,aB.aG _ _ h83] at h8;exact h8
  rw[aB.yM h63]
  have hW6:((st.aC b6 (.cells [.int .i64 0,.int .i64 0,.str ⟨#[]⟩,.fslice []])).aC b3 (.cells [.int .i64 k,.int .i64 n,.str s,.slice (ts.map Tm.av)])) b6=some (.cells [.int .i64 0,.int .i64 0,.str ⟨#[]⟩,.fslice []]):=by rw[aB.aG _ _ h63,aB.aJ]
  have hW3:((st.aC b6 (.cells [.int .i64 0,.int .i64 0,.str ⟨#[]⟩,.fslice []])).aC b3 (.cells [.int .i64 k,.int .i64 n,.str s,.slice (ts.map Tm.av)])) b3=some (.cells [.int .i64 k,.int .i64 n,.str s,.slice (ts.map Tm.av)]):=aB.aJ _ _ _
  have hWd:∀Y Z,aL ((((st.aC b6 (.cells [.int .i64 0,.int .i64 0,.str ⟨#[]⟩,.fslice []])).aC b3 (.cells [.int .i64 k,.int .i64 n,.str s,.slice (ts.map Tm.av)])).aC b8 Z).aC b6 Y) st:=fun Y Z x=>by
   by_cases e3:x=b3<;>by_cases e6:x=b6<;>by_cases e8:x=b8<;>simp_all [aB.aC]
  generalize ((st.aC b6 (.cells [.int .i64 0,.int .i64 0,.str ⟨#[]⟩,.fslice []])).aC b3 (.cells [.int .i64 k,.int .i64 n,.str s,.slice (ts.map Tm.av)]))=W at *
  have AB:(Tm.mk k n s (ts.map (Tm.aN R))).nodes=1+bH Tm.nodes (ts.map (Tm.aN R)):=Tm.iS _ _ _ _
  refine eL (σ:=Nat×List Tm×Int) [1000000,3,8] [1,3,6,7,8] ts
   (fun i p=>(p.2.1.map Tm.av≠[]→(W.aC b8 (.cells ([.int .i64 k,.int .i64 n,.str s]++ [aZ 4 p.1 (p.2.1.map Tm.av)]))) p.1=none)∧p.2.1.length=i∧-1≤p.2.2 ∧
    (0≤p.2.2→p.2.1=(ts.take i).map (Tm.aN R)∧p.2.2=(room:Int) - 1 - bH Tm.nodes p.2.1)∧(p.2.2<0→room<1+bH Tm.nodes (ts.map (Tm.aN R))))
   (fun i p=>[(9,.int .i64 p.2.2),(10,.int .i64 i)])
   (fun i p=>fX W b8 p.1 [.int .i64 k,.int .i64 n,.str s] (p.2.1.map Tm.av)) (by decide +kernel)
   ⟨(0,[],(room:Int) - 1),⟨fun h=>absurd rfl h,rfl,by simp only;omega,fun _=>⟨by simp,by simp [bH]⟩,fun h=>by simp only at h;omega⟩,aP.mk (by simp -implicitDefEqProofs only[aA,↓aS,seval])⟩ (fun i x p hx hlt bR CV hinv=>?_) (fun p hge hinv=>?_)
  · obtain⟨b,acc,left⟩:=p
    obtain⟨i1,i2,i3,i4,i5⟩:=hinv
    simp only at i1 i2 i3 i4 i5
    have h3o:=iE i1 (x:=b3) (by rw[hW3];simp) h83.symm
    rw[hW3] at h3o
    simp -implicitDefEqProofs only[bR,bE,dX,aF,h3o,aA,seval,uZ]
    refine aQ (fun h9=>?_) (fun h9=>?_)
    case refine_2=>
     simp only[dL] at h9
     have hbo:=fA i1
     have h6o:=iE i1 (x:=b6) (by rw[hW6];simp) h86.symm
     rw[hW6] at h6o
     simp -implicitDefEqProofs only[aK,hbo,h6o,fH,aA,seval,uZ]
     obtain⟨g5,g6⟩:=lK (o:=.cells [.int .i64 k,.int .i64 n,.str s,aZ 4 b (acc.map Tm.av)]) i1 (show W b6≠none by rw[hW6];simp) h86.symm
     refine⟨b,_,_,g5,g6,jJ _,⟨4,d9 _⟩,st,hWd _ _,rfl,.mk k n s acc,left,?_,i3,?_⟩
     · simp only[kK,gG,bB,aW,eS,kA,jE,a8]
     · rw[AB]
       skip
       rw[aE (by have:=i5 (by omega);omega)]
       omega
    simp only[bK] at h9
    obtain⟨e1,e2⟩:=i4 h9
    have iB:=dA hx
    have hsl:=a65 Tm.nodes (ts.map (Tm.aN R)) (i+1)
    rw[←G9,gC,hx] at hsl
    simp only[HF,oY,bB,aW,GQ,bH,←e1] at hsl
    obtain⟨OT,rfl⟩:∃r:Nat,left=r:=⟨left.toNat,by omega⟩
    have c8:(acc.map Tm.av).length=i:=by rw[aF,i2]
    have hw:=bO (n:=(i:Int)+1)
    have hbo:=fA i1
    simp -implicitDefEqProofs only[h3o,bQ (av:=Tm.av) aO hx (aM x),aY,aM,aA,seval,uZ]
    refine(IH OT (by omega) x _ (by omega) (hkk x iB)).mono ?_
    rintro _ _ ⟨rfl,y,a3V,rfl,hl1,hl2⟩
    simp -implicitDefEqProofs only[aY,aM,cH,cP,hbo,mP,aA,↓aS,seval,uZ]
    refine eE aO bF bG rfl rfl (fL (aM _) (cH _)) (d9 _) i1 (by simp only[c8,aT,aX];omega) (by simp only[c8,aT,aX];omega) (fun b' hb'=>?_)
    rw[show acc.map Tm.av++ [y.av]=(acc++ [y]).map Tm.av by simp] at hb' ⊢
    obtain⟨g1,g2,g3⟩:=p7 hb'
    simp only[fE,eD] at g1 g3
    simp -implicitDefEqProofs only[g3,mQ,fH,g1,hw,aK,aA,seval,uZ]
    refine⟨(b',acc++ [y],a3V),⟨g2,by simp [i2],hl1,fun h=>?_,fun h=>?_⟩,aP.mk (by simp -implicitDefEqProofs only[aA,seval])⟩
    · simp only at h
      split at hl2
      · obtain⟨rfl,hl3⟩:=hl2
        refine⟨by rw[gC,hx];simp [e1],?_⟩
        simp only[GQ,bH]
        omega
      · omega
    · simp only at h
      split at hl2
      · omega
      · omega
  · obtain⟨b,acc,left⟩:=p
    obtain⟨i1,i2,i3,i4,i5⟩:=hinv
    simp only at i1 i2 i3 i4 i5
    rw[fG] at i4
    have h3o:=iE i1 (x:=b3) (by rw[hW3];simp) h83.symm
    rw[hW3] at h3o
    simp -implicitDefEqProofs only[hge,aF,h3o,aA,seval,uZ]
    have hbo:=fA i1
    have h6o:=iE i1 (x:=b6) (by rw[hW6];simp) h86.symm
    rw[hW6] at h6o
    simp -implicitDefEqProofs only[aK,hbo,h6o,fH,aA,seval,uZ]
    obtain⟨g5,g6⟩:=lK (o:=.cells [.int .i64 k,.int .i64 n,.str s,aZ 4 b (acc.map Tm.av)]) i1 (show W b6≠none by rw[hW6];simp) h86.symm
    refine⟨b,_,_,g5,g6,jJ _,⟨4,d9 _⟩,st,hWd _ _,rfl,.mk k n s acc,left,?_,i3,?_⟩
    · simp only[kK,gG,bB,aW,eS,kA,jE,a8]
    · rw[AB]
      skip
      rcases Int.lt_or_le left 0 with h9 | h9
      · rw[aE (by have:=i5 h9;omega)];exact h9
      · obtain⟨e1,e2⟩:=i4 h9
        rw[←e1] at i5 ⊢
        rw[aH (by omega)]
        exact⟨rfl,by omega⟩
termination_by room=>room
decreasing_by exact hlt
end Go.AW
namespace Go.AW
abbrev Cl:=Tm×List Tm
def a9:Cl→AV
 | (.mk k n s ts,b)=>.agg [.int .i64 k,.int .i64 n,.str s,.slice (ts.map Tm.av),.slice (b.map Tm.av)]
theorem gI(k n:Int)(s:ByteArray)(ts b:List Tm):a9 (.mk k n s ts,b)=.agg [.int .i64 k,.int .i64 n,.str s,.slice (ts.map Tm.av),.slice (b.map Tm.av)]:=rfl
theorem qL(c:Cl):(a9 c).isAgg=true:=by obtain⟨⟨k,n,s,ts⟩,b⟩:=c;rfl
theorem jN(c:Cl):(a9 c).width=5:=by obtain⟨⟨k,n,s,ts⟩,b⟩:=c;rfl
theorem IJ(c:Cl):(a9 c).cells.length=5:=by obtain⟨⟨k,n,s,ts⟩,b⟩:=c;rfl
theorem E5(c:Cl):(a9 c).cells.all AV.storable=true:=by obtain⟨⟨k,n,s,ts⟩,b⟩:=c;rfl
theorem E4(c:Cl):(a9 c).cJ=false:=by obtain⟨⟨k,n,s,ts⟩,b⟩:=c;rfl
def nP(x y:Cl):Bool:=x.1.same y.1&&jP Tm.same x.2 y.2
def VZ:Tm→Bool | .mk k _ s ts=>sA k s (ts.length:Int)
def mC(c:Cl):Bool:=c.1.valid&&VZ c.1&&(decide (c.2.length≤6)&&c.2.all Tm.goal)
def oJ(p:List Cl):Bool:=decide (p.length≤20)&&p.all mC
theorem a40{st:aB}{k n:Int}{s:ByteArray}{ts b:List Tm}{o:AV}{bs:List Nat} :
 bL st (a9 (.mk k n s ts,b)) o bs↔∃q b1 q' b2,o=.agg [.int .i64 k,.int .i64 n,.str s,q,q']∧bs=b1++b2∧bL st (.slice (ts.map Tm.av)) q b1∧bL st (.slice (b.map Tm.av)) q' b2:=by
 rw[gI]
 generalize AV.slice (ts.map Tm.av)=x
 generalize AV.slice (b.map Tm.av)=y
 simp only[bL,bA]
 constructor
 · rintro⟨os,rfl,o1,os1,b1,b1',rfl,rfl,⟨rfl,rfl⟩,o2,os2,b2,b2',rfl,rfl,⟨rfl,rfl⟩,o3,os3,b3,b3',rfl,rfl,⟨rfl,rfl⟩,o4,os4,b4,b4',rfl,rfl,h,o6,os6,b6,b6',rfl,rfl,h',rfl,rfl⟩
   exact⟨o4,b4,o6,b6,rfl,by simp,h,h'⟩
 · rintro⟨q,b1,q',b2,rfl,rfl,h,h'⟩
   exact⟨_,rfl,_,_,[],b1++b2,rfl,rfl,⟨rfl,rfl⟩,_,_,[],b1++b2,rfl,rfl,⟨rfl,rfl⟩,_,_,[],b1++b2,rfl,rfl,⟨rfl,rfl⟩,q,_,b1,b2,rfl,rfl,h,q',[],b2,[],rfl,by simp,h',rfl,rfl⟩
def I9(c:Cl):Int:=(cF (c.1::c.2) []).foldl (fun n v=>if n≤v then v+1 else n) 0
def pV(c:Cl):Nat:=(I9 c).toNat
def dK(N:Nat)(t:Tm):Tm:=cC (fun v=>v+(N:Int)) t
def eX(t:Tm):Bool:=t.flat 30&&decide (t.nodes≤120)
def pR(t:Tm):Bool:=decide (t.k=3)&&decide (t.s=⟨#[33]⟩)&&decide ((t.ts.length:Int)=0)
def JH(c:Cl)(t:Tm):Bool:=decide (c.1.s=t.s)&&decide ((c.1.ts.length:Int)=(t.ts.length:Int))
def gA(p:List Cl)(t:Tm):List Nat:=(List.range p.length).filter fun i=>match p[i]? with
 | some c=>JH c t
 | none=>false
def qN(c:Int):Int:=if c=2 then 4 else if c=3 then 5 else if c=4 then 6 else 7
noncomputable def jW(σ:Sub)(vars:List Int):Option (List Tm):=
 if((vars.map (rs σ)).all eX=true)∧(cF (vars.map (rs σ)) []).length≤26 then some (rB (vars.map (rs σ))) else none
structure RG where
 t:Tm
 a7:Nat
structure RC where
 goal:Tm
 rest:List RG
 left:List Nat
 σ:Sub
 N:Nat
structure RS where
 goals:List RG
 σ:Sub
 N:Nat
 chs:List RC
inductive RO where
 | go (s:RS)
 | fail
 | stop (e:Int)
noncomputable def iG(p:List Cl)(chs:List RC)(goal:Tm)(rest:List RG)(σ:Sub)(N:Nat):List Nat→Option RS
 | []=>none
 | i::l=>match p[i]? with
  | none=>none
  | some x=>if(jZ σ goal (dK N x.1)).1=true then
   some ⟨x.2.map (fun t=>⟨dK N t,chs.length⟩)++rest,(jZ σ goal (dK N x.1)).2.1,N+pV x,if l= [] then chs else chs++ [⟨goal,rest,l,σ,N⟩]⟩
   else iG p chs goal rest σ N l
noncomputable def fM(p:List Cl):Nat→List RC→Option RS
 | 0,_=>none
 | n+1,chs=>match chs.getLast? with
  | none=>none
  | some c=>match iG p chs.dropLast c.goal c.rest c.σ c.N c.left with
   | some s=>some s
   | none=>fM p n chs.dropLast
noncomputable def iF(p:List Cl)(cnd:Tm→List Nat→List Nat)(s:RS)(g:RG)(rest:List RG):RO:=
 if eX (g.t.aN (rs s.σ))=false then .stop 3
 else if pR (g.t.aN (rs s.σ))=true then .go ⟨rest,s.σ,s.N,s.chs.take g.a7⟩
 else if isBuiltin (g.t.aN (rs s.σ)).s ((g.t.aN (rs s.σ)).ts.length:Int)=true then
  if(dI s.σ (g.t.aN (rs s.σ)).s (g.t.aN (rs s.σ)).ts).1=0 then .go ⟨rest,(dI s.σ (g.t.aN (rs s.σ)).s (g.t.aN (rs s.σ)).ts).2.1,s.N,s.chs⟩
  else if(dI s.σ (g.t.aN (rs s.σ)).s (g.t.aN (rs s.σ)).ts).1=1 then .fail
  else .stop (qN (dI s.σ (g.t.aN (rs s.σ)).s (g.t.aN (rs s.σ)).ts).1)
 else if gA p (g.t.aN (rs s.σ))= [] then .stop 8
 else match iG p s.chs (g.t.aN (rs s.σ)) rest s.σ s.N (cnd (g.t.aN (rs s.σ)) (gA p (g.t.aN (rs s.σ)))) with
  | some s'=>.go s'
  | none=>.fail
noncomputable def iZ(p:List Cl)(cnd:Tm→List Nat→List Nat)(vars:List Int)(most fuel:Nat)(s:RS):List (List Tm)×Int:=
 match s.goals with
 | []=>if h:most=0 then([],1) else match jW s.σ vars with
  | none=>([],3)
  | some a=>match fM p s.chs.length s.chs with
   | none=>([a],0)
   | some s'=>(a::(iZ p cnd vars (most - 1) fuel s').1,(iZ p cnd vars (most - 1) fuel s').2)
 | g::rest=>if h:fuel=0 then([],2) else match iF p cnd s g rest with
  | .stop e=>([],e)
  | .go s'=>iZ p cnd vars most (fuel - 1) s'
  | .fail=>match fM p s.chs.length s.chs with
   | none=>([],0)
   | some s'=>iZ p cnd vars most (fuel - 1) s'
termination_by most+fuel
decreasing_by all_goals omega
def lL(q:List Tm):RS:=⟨q.map fun t=>⟨t,0⟩,Sub.none,26,[]⟩
noncomputable def uV(p:List Cl)(cnd:Tm→List Nat→List Nat)(q:List Tm)(most fuel:Nat):List (List Tm)×Int:=iZ p cnd (cF q []) most fuel (lL q)
structure IG where
 t:Tm
 cut:Nat
 up:Int
structure IC where
 goal:Tm
 node:Nat
 rest:List IG
 list:List Nat
 fT:Nat
 taken:Nat
structure IS where
 goals:List IG
 σ:Sub
 tr:List Int
 chs:List IC
 fresh:Nat
 nn:Nat
inductive yS where
 | go (s:IS)
 | fail (s:IS)
 | stop (e:Int)
noncomputable def iD(p:List Cl)(goal:Tm)(at':Nat)(rest:List IG):List Nat→IS→Bool×IS
 | [],s=>(false,s)
 | i::l,s=>match p[i]? with
  | none=>(false,s)
  | some x=>if(jZ s.σ goal (dK s.fresh x.1)).1=true then
   (true,⟨x.2.map (fun t=>⟨dK s.fresh t,s.chs.length,at'⟩)++rest,(jZ s.σ goal (dK s.fresh x.1)).2.1,s.tr++(jZ s.σ goal (dK s.fresh x.1)).2.2,if l= [] then s.chs else s.chs++ [⟨goal,at',rest,l,s.tr.length,s.nn⟩],s.fresh+26,s.nn⟩)
   else iD p goal at' rest l { s with fresh:=s.fresh+26 }
def IS.pop(s:IS)(c:IC):IS:={ s with chs:=s.chs.dropLast,σ:=s.σ.out (s.tr.drop c.fT),tr:=s.tr.take c.fT,nn:=c.taken }
noncomputable def iY(p:List Cl):Nat→IS→Option IS
 | 0,_=>none
 | n+1,s=>match s.chs.getLast? with
  | none=>none
  | some c=>if(iD p c.goal c.node c.rest c.list (s.pop c)).1=true then some (iD p c.goal c.node c.rest c.list (s.pop c)).2 else iY p n (iD p c.goal c.node c.rest c.list (s.pop c)).2
noncomputable def mY(p:List Cl)(cnd:Tm→List Nat→List Nat)(s:IS)(g:IG)(rest:List IG):yS:=
 if eX (g.t.aN (rs s.σ))=false then .stop 3
 else if pR (g.t.aN (rs s.σ))=true then .go { s with goals:=rest,chs:=s.chs.take g.cut,nn:=s.nn+1 }
 else if isBuiltin (g.t.aN (rs s.σ)).s ((g.t.aN (rs s.σ)).ts.length:Int)=true then
  if(dI s.σ (g.t.aN (rs s.σ)).s (g.t.aN (rs s.σ)).ts).1=0 then .go { s with goals:=rest,σ:=(dI s.σ (g.t.aN (rs s.σ)).s (g.t.aN (rs s.σ)).ts).2.1,tr:=s.tr++(dI s.σ (g.t.aN (rs s.σ)).s (g.t.aN (rs s.σ)).ts).2.2,nn:=s.nn+1 }
  else if(dI s.σ (g.t.aN (rs s.σ)).s (g.t.aN (rs s.σ)).ts).1=1 then .fail { s with σ:=(dI s.σ (g.t.aN (rs s.σ)).s (g.t.aN (rs s.σ)).ts).2.1,tr:=s.tr++(dI s.σ (g.t.aN (rs s.σ)).s (g.t.aN (rs s.σ)).ts).2.2,nn:=s.nn+1 }
  else .stop (qN (dI s.σ (g.t.aN (rs s.σ)).s (g.t.aN (rs s.σ)).ts).1)
 else if gA p (g.t.aN (rs s.σ))= [] then .stop 8
 else if(iD p (g.t.aN (rs s.σ)) s.nn rest (cnd (g.t.aN (rs s.σ)) (gA p (g.t.aN (rs s.σ)))) { s with nn:=s.nn+1 }).1=true then .go (iD p (g.t.aN (rs s.σ)) s.nn rest (cnd (g.t.aN (rs s.σ)) (gA p (g.t.aN (rs s.σ)))) { s with nn:=s.nn+1 }).2
 else .fail (iD p (g.t.aN (rs s.σ)) s.nn rest (cnd (g.t.aN (rs s.σ)) (gA p (g.t.aN (rs s.σ)))) { s with nn:=s.nn+1 }).2
noncomputable def kM(p:List Cl)(cnd:Tm→List Nat→List Nat)(vars:List Int)(most fuel:Nat)(s:IS):List (List Tm)×Int:=
 match s.goals with
 | []=>if h:most=0 then([],1) else match jW s.σ vars with
  | none=>([],3)
  | some a=>match iY p s.chs.length s with
   | none=>([a],0)
   | some s'=>(a::(kM p cnd vars (most - 1) fuel s').1,(kM p cnd vars (most - 1) fuel s').2)
 | g::rest=>if h:fuel=0 then([],2) else match mY p cnd s g rest with
  | .stop e=>([],e)
  | .go s'=>kM p cnd vars most (fuel - 1) s'
  | .fail s'=>match iY p s'.chs.length s' with
   | none=>([],0)
   | some s''=>kM p cnd vars most (fuel - 1) s''
termination_by most+fuel
decreasing_by all_goals omega
def pY(q:List Tm):IS:=⟨q.map fun t=>⟨t,0,-1⟩,Sub.none,[],[],26,0⟩
structure pO (ρ:Int→Int) (N F:Nat) (σ τ:Sub):Prop where
 sim:gD ρ N σ τ
 rng:∀v,0≤v→v<(N:Int)→0≤ρ v∧ρ v<(F:Int)
 g1:cX σ
 o1:c9 (bP N) σ
 g2:cX τ
 o2:c9 (bP F) τ
 d1:∀n,¬(0≤n∧n<(N:Int))→σ n=none
 d2:∀n,¬(0≤n∧n<(F:Int))→τ n=none
 h26:26≤N
 idn:∀v,0≤v→v<26→ρ v=v
theorem pO.mono{ρ:Int→Int}{N F F':Nat}{σ τ:Sub}(S:pO ρ N F σ τ)(h:F≤F'):pO ρ N F' σ τ:=
 ⟨S.sim,fun v h0 h1=>⟨(S.rng v h0 h1).1,by have:=(S.rng v h0 h1).2;omega⟩,S.g1,S.o1,S.g2,S.o2.imp fun t ht=>ht.mono (by omega),S.d1,fun n hn=>S.d2 n fun h'=>hn ⟨h'.1,by omega⟩,S.h26,S.idn⟩
def uE(ρ:Int→Int)(N F:Nat):Int→Int:=fun v=>if v<(N:Int) then ρ v else v - N+F
theorem vZ{ρ:Int→Int}{N F:Nat}{v:Int}(h:v<(N:Int)):uE ρ N F v=ρ v:=aH h
theorem pO.ext{ρ:Int→Int}{N F:Nat}{σ τ:Sub}(S:pO ρ N F σ τ){k:Nat}(hk:k≤26):pO (uE ρ N F) (N+k) (F+26) σ τ:=by
 have kV:∀v:Int,¬v<(N:Int)→uE ρ N F v=v - N+F:=fun v h=>aE h
 refine⟨⟨fun v w hv0 hv1 hw0 hw1 e=>?_,fun v h0 h1=>?_⟩,fun v h0 h1=>?_,S.g1,S.o1.imp fun t ht=>ht.mono (by omega),S.g2,S.o2.imp fun t ht=>ht.mono (by omega),fun n hn=>S.d1 n fun h=>hn ⟨h.1,by omega⟩,fun n hn=>S.d2 n fun h=>hn ⟨h.1,by omega⟩,by have:=S.h26;omega,fun v h0 h1=>by rw[vZ (by have:=S.h26;omega)];exact S.idn v h0 h1⟩
 · by_cases hv:v<(N:Int)<;>by_cases hw:w<(N:Int)
   · rw[vZ hv,vZ hw] at e;exact S.sim.inj v w hv0 hv hw0 hw e
   · rw[vZ hv,kV w hw] at e
     have:=S.rng v hv0 hv
     omega
   · rw[vZ hw,kV v hv] at e
     have:=S.rng w hw0 hw
     omega
   · rw[kV v hv,kV w hw] at e
     omega
 · by_cases hv:v<(N:Int)
   · rw[vZ hv,S.sim.map v h0 hv]
     cases hs:σ v with
     | none=>rfl
     | some u=>
      simp only[pN,Option.some.injEq]
      refine WG fun w hw=>?_
      rw[vZ ((S.o1 v u hs).1.2.2 w hw).2]
   · rw[kV v hv,S.d1 v (fun h=>hv h.2),S.d2 _ (fun h=>by omega)]
     try rfl
 · by_cases hv:v<(N:Int)
   · rw[vZ hv]
     have:=S.rng v h0 hv
     omega
   · rw[kV v hv];omega
theorem aNF(l:List Int):∀n:Int,n≤l.foldl (fun n v=>if n≤v then v+1 else n) n∧(∀v∈l,v<l.foldl (fun n v=>if n≤v then v+1 else n) n)∧∀m:Int,n≤m→(∀v∈l,v<m)→l.foldl (fun n v=>if n≤v then v+1 else n) n≤m:=by
 induction l with
 | nil=>intro n;exact⟨Int.le_refl _,by simp,fun m h _=>h⟩
 | cons x l ih=>
  intro n
  simp only[BG]
  obtain⟨h1,h2,h3⟩:=ih (if n≤x then x+1 else n)
  refine⟨?_,fun v hv=>?_,fun m hm hl=>h3 m ?_ fun v hv=>hl v (by simp [hv])⟩
  · split at h1<;>rename_i h<;>split<;>omega
  · rcases dB.1 hv with rfl | hv
    · split at h1<;>rename_i h<;>split<;>omega
    · exact h2 v hv
  · have:=hl x (by simp)
    split<;>omega
structure iC (c:Cl):Prop where
 head:bP 26 c.1
 body:∀t∈c.2,bP 26 t∧t.k=3
theorem iC.vars{c:Cl}(h:iC c){v:Int}:v∈cF (c.1::c.2) []↔∃t∈c.1::c.2,v∈t.vl:=by
 rw[A5]
 · simp
 · intro t ht
   rcases dB.1 ht with rfl | ht
   · exact h.head.1.2.1
   · exact(h.body t ht).1.1.2.1
theorem iC.F5{c:Cl}(h:iC c):∀t∈c.1::c.2,bP 26 t:=fun t ht=>by
 rcases dB.1 ht with rfl | ht
 · exact h.head
 · exact(h.body t ht).1
theorem iC.fr{c:Cl}(h:iC c):pV c≤26∧∀t∈c.1::c.2,∀v∈t.vl,v<(pV c:Int):=by
 obtain⟨h1,h2,h3⟩:=aNF (cF (c.1::c.2) []) 0
 have hle:=h3 26 (by omega) fun v hv=>by
  obtain⟨t,ht,hv⟩:=h.vars.1 hv
  exact((h.F5 t ht).1.2.2 v hv).2
 unfold pV I9
 refine⟨by omega,fun t ht v hv=>?_⟩
 have:=h2 v (h.vars.2 ⟨t,ht,hv⟩)
 omega
theorem iC.dK{c:Cl}(h:iC c)(N:Nat):∀t∈c.1::c.2,bP ((N+pV c:Nat):Int) (dK N t):=fun t ht=>by
 refine(h.F5 t ht).cC fun v hv=>?_
 have h1:=((h.F5 t ht).1.2.2 v hv).1
 have h2:=h.fr.2 t ht v hv
 omega
theorem WM{ρ:Int→Int}{N F:Nat}{c:Cl}(h:iC c):∀t∈c.1::c.2,cC (uE ρ N F) (dK N t)=dK F t:=fun t ht=>by
 unfold AW.dK
 rw[show cC (uE ρ N F) (cC (fun v=>v+(N:Int)) t)=t.aN fun v=>vr (uE ρ N F (v+N)) from KB _ _ t]
 refine r8 t fun v hv=>?_
 have h1:=((h.F5 t ht).1.2.2 v hv).1
 show vr (uE ρ N F (v+(N:Int)))=vr (v+(F:Int))
 unfold uE
 rw[aE (by omega)]
 congr 1
 omega
theorem aQQ{N:Nat}(t:Tm):(dK N t).k=t.k:=AL _ t
def GL(ρ:Int→Int)(N:Nat)(gs:List RG)(hs:List IG):Prop:=hs.map (fun h=>(h.t,h.cut))=gs.map (fun g=>(cC ρ g.t,g.a7))∧∀g∈gs,bP N g.t∧g.t.k=3
theorem GL.ext{ρ ρ':Int→Int}{N N':Nat}{gs:List RG}{hs:List IG}(h:GL ρ N gs hs)(hN:N≤N')(hr:∀v,0≤v→v<(N:Int)→ρ' v=ρ v):GL ρ' N' gs hs:=by
 refine⟨h.1.trans (sJ fun g hg=>?_),fun g hg=>⟨(h.2 g hg).1.mono (by omega),(h.2 g hg).2⟩⟩
 rw[WG (ρ:=ρ) (ρ':=ρ') fun v hv=>(hr v ((h.2 g hg).1.1.2.2 v hv).1 ((h.2 g hg).1.1.2.2 v hv).2).symm]
theorem GL.app{ρ:Int→Int}{N:Nat}{gs gs':List RG}{hs hs':List IG}(h:GL ρ N gs hs)(h':GL ρ N gs' hs'):GL ρ N (gs++gs') (hs++hs'):=by
 refine⟨by rw[oY,oY,h.1,h'.1],fun g hg=>?_⟩
 rcases eK.1 hg with hg | hg
 · exact h.2 g hg
 · exact h'.2 g hg
def C1(F:Nat)(c:RC)(d:IC)(τ:Sub):Prop:=∃ρ,pO ρ c.N F c.σ τ∧d.goal=cC ρ c.goal∧bP c.N c.goal∧GL ρ c.N c.rest d.rest∧d.list=c.left
inductive jS (F:Nat):List RC→List IC→Sub→List Int→Prop
 | nil {τ:Sub} {tr:List Int}:jS F [] [] τ tr
 | snoc {cs:List RC} {ds:List IC} {c:RC} {d:IC} {τ:Sub} {tr:List Int} (h:jS F cs ds (τ.out (tr.drop d.fT)) (tr.take d.fT)) (h1:C1 F c d (τ.out (tr.drop d.fT))) (h2:d.fT≤tr.length):jS F (cs++ [c]) (ds++ [d]) τ tr
theorem jS.len{F:Nat}{cs:List RC}{ds:List IC}{τ:Sub}{tr:List Int}(h:jS F cs ds τ tr):ds.length=cs.length:=by
 induction h with
 | nil=>rfl
 | snoc _ _ _ ih=>simp [ih]
theorem jS.mono{F F':Nat}(hF:F≤F'){cs:List RC}{ds:List IC}{τ:Sub}{tr:List Int}(h:jS F cs ds τ tr):jS F' cs ds τ tr:=by
 induction h with
 | nil=>exact .nil
 | snoc _ h1 h2 ih=>exact .snoc ih (by obtain⟨ρ,h3,h4⟩:=h1;exact⟨ρ,h3.mono hF,h4⟩) h2
theorem aZD(tr:List Int){a m:Nat}(h:a≤m)(n:Int):n∈tr.drop m++(tr.take m).drop a↔n∈tr.drop a:=by
 have e:tr.drop a=(tr.take m).drop a++tr.drop m:=by
  conv=>lhs;rw[←tT m tr]
  rw[List.drop_append]
  by_cases hm:m≤tr.length
  · rw[eC,mL hm,show a - m=0 by omega,vK]
  · rw[List.drop_of_length_le (show tr.length≤m by omega)]
    simp
 rw[e,eK,eK,or_comm]
theorem jS.lift{F:Nat}{cs:List RC}{ds:List IC}{τ:Sub}{tr:List Int}{m:Nat}(h:jS F cs ds (τ.out (tr.drop m)) (tr.take m))(hm:m≤tr.length):jS F cs ds τ tr:=by
 generalize hτ:τ.out (tr.drop m)=τ' at h
 generalize htr:tr.take m=tr' at h
 cases h with
 | nil=>exact .nil
 | @snoc cs ds c d _ _ h h1 h2=>
  subst hτ htr
  have hd:d.fT≤m:=by rw[eC] at h2;omega
  have e1:(τ.out (tr.drop m)).out ((tr.take m).drop d.fT)=τ.out (tr.drop d.fT):=by
   rw[Sub.a4V]
   exact Sub.a4W τ (aZD tr hd)
  have e2:(tr.take m).take d.fT=tr.take d.fT:=by rw[yZ,mL hd]
  rw[e1,e2] at h
  rw[e1] at h1
  exact .snoc h h1 (by omega)
theorem jS.more{F:Nat}{cs:List RC}{ds:List IC}{τ τ':Sub}{tr add:List Int}(h:jS F cs ds τ tr)(e:τ'.out add=τ):jS F cs ds τ' (tr++add):=by
 refine jS.lift (m:=tr.length) ?_ (by simp)
 rw[BE,HC,e]
 exact h
theorem jS.take{F:Nat}{cs:List RC}{ds:List IC}{τ:Sub}{tr:List Int}(h:jS F cs ds τ tr)(k:Nat):jS F (cs.take k) (ds.take k) τ tr:=by
 induction h with
 | nil=>simp;exact .nil
 | @snoc cs ds c d τ tr h h1 h2 ih=>
  have hl:=h.len
  by_cases hk:k≤cs.length
  · rw[EE hk,EE (by omega)]
    exact ih.lift h2
  · rw[n7 (by simp;omega),n7 (by simp;omega)]
    exact .snoc h h1 h2
def Rl(s:RS)(i:IS):Prop:=∃ρ,pO ρ s.N i.fresh s.σ i.σ∧GL ρ s.N s.goals i.goals∧jS i.fresh s.chs i.chs i.σ i.tr
theorem BM.DG{N:Int}{σ:Sub}{a b:Tm}{r:Bool}{σ':Sub}{tr:List Int}(h:BM N σ a b r σ' tr):σ'.out tr=σ:=funext fun n=>h.out n
theorem n8.DG{N:Int}{σ σ':Sub}{add:List Int}(h:n8 N σ σ' add):σ'.out add=σ:=by
 funext n
 unfold Sub.out
 split
 · rename_i hn;exact((h.new n hn).1).symm
 · rename_i hn;exact h.a7 n hn
theorem n8.xD{N:Nat}{σ σ':Sub}{add:List Int}(h:n8 N σ σ' add)(hd:∀n,¬(0≤n∧n<(N:Int))→σ n=none):∀n,¬(0≤n∧n<(N:Int))→σ' n=none:=fun n hn=>by
 rw[h.a7 n fun h'=>hn (h.gS n h')]
 exact hd n hn
theorem pO.grow{ρ:Int→Int}{N F:Nat}{σ τ σ' τ':Sub}{add aUB:List Int}(S:pO ρ N F σ τ)(h:n8 N σ σ' add)(h':n8 F τ τ' aUB)(s:gD ρ N σ' τ'):pO ρ N F σ' τ':=
 ⟨s,S.rng,h.iR,h.ok,h'.iR,h'.ok,h.xD S.d1,h'.xD S.d2,S.h26,S.idn⟩
theorem pO.DL{ρ:Int→Int}{N F:Nat}{σ τ:Sub}(S:pO ρ N F σ τ){t:Tm}(h:bP N t):bP F (cC ρ t):=h.cC fun v hv=>S.rng v (h.1.2.2 v hv).1 (h.1.2.2 v hv).2
section
variable {p:List Cl} (hp:∀c∈p,iC c)
include hp
theorem P0{cs:List RC}{goal:Tm}{rest:List RG}{σ:Sub}{N:Nat}{ρ:Int→Int}{WI:List IG}{τ:Sub}{tr:List Int}{ds:List IC}{nn at':Nat}(hg:bP N goal)(hr:GL ρ N rest WI) :
 ∀(l:List Nat) (F:Nat) (gl:List IG),pO ρ N F σ τ→jS F cs ds τ tr →
 match iG p cs goal rest σ N l with
 | none=>∃F',F≤F'∧iD p (cC ρ goal) at' WI l ⟨gl,τ,tr,ds,F,nn⟩=(false,⟨gl,τ,tr,ds,F',nn⟩)
 | some s=>∃i,iD p (cC ρ goal) at' WI l ⟨gl,τ,tr,ds,F,nn⟩=(true,i)∧Rl s i:=by
 intro l
 induction l with
 | nil=>intro F gl S C;exact⟨F,dC _,rfl⟩
 | cons j l ih=>
  intro F gl S C
  unfold iG iD
  cases hj:p[j]? with
  | none=>exact⟨F,dC _,rfl⟩
  | some x=>
   have hx:=hp x (dA hj)
   have S2:=S.ext hx.fr.1
   have hgo:cC (uE ρ N F) goal=cC ρ goal:=WG fun v hv=>vZ (hg.1.2.2 v hv).2
   have hhd:=hx.dK N x.1 (by simp)
   have hgN:bP ((N+pV x:Nat):Int) goal:=hg.mono (by omega)
   obtain⟨r,σ',add,U⟩:=vD S2.g1 S2.o1 hgN hhd
   obtain⟨g,pD⟩:=U.run
   obtain⟨τ',e,S',_⟩:=S2.sim.jZ S2.g1 S2.g2 S2.o1.m7 hgN.1 hhd.1 pD
   rw[hgo,WM hx x.1 (by simp)] at e
   have hF1:bP ((F+26:Nat):Int) (cC ρ goal):=by rw[←hgo];exact S2.DL hgN
   have hF2:bP ((F+26:Nat):Int) (dK F x.1):=by rw[←WM (ρ:=ρ) (N:=N) (F:=F) hx x.1 (by simp)];exact S2.DL hhd
   obtain⟨r2,τ2,aUC,U2⟩:=vD S2.g2 S2.o2 hF1 hF2
   have e2:=U2.eq
   rw[e] at e2
   obtain⟨rfl,rfl,rfl⟩:r=r2∧τ'=τ2∧add.map (uE ρ N F)=aUC:=by simpa using e2
   simp only[U.eq,e]
   cases r with
   | false=>
    simp only[jR,d4]
    have:=ih (F+26) gl (S.mono (by omega)) (C.mono (by omega))
    cases hq:iG p cs goal rest σ N l with
    | none=>
     rw[hq] at this
     obtain⟨F',h1,h2⟩:=this
     exact⟨F',by omega,h2⟩
    | some s=>
     rw[hq] at this
     exact this
   | true=>
    simp only[fS]
    refine⟨_,rfl,uE ρ N F,S2.grow U.yG U2.yG S',?_,?_⟩
    · refine GL.app ⟨?_,fun g hg=>?_⟩ (hr.ext (show N≤N+pV x by omega) fun v _ hv=>vZ hv)
      · simp only[yX]
        refine sJ fun t ht=>?_
        simp only[G7]
        rw[WM hx t (by simp [ht]),C.len]
      · obtain⟨t,ht,rfl⟩:=cY.1 hg
        exact⟨hx.dK N t (by simp [ht]),by rw[aQQ];exact(hx.body t ht).2⟩
    · have C2:=(C.mono (show F≤F+26 by omega)).more U2.DG
      by_cases hl:l= []
      · simp only[aH hl]
        exact C2
      · simp only[aE hl]
        refine .snoc ?_ ?_ (by simp)
        · simp only[BE,HC,U2.DG]
          exact C.mono (by omega)
        · simp only[BE,U2.DG]
          exact⟨ρ,S.mono (by omega),rfl,hg,hr,rfl⟩
theorem RQ:∀(n:Nat) (cs:List RC) (i:IS),jS i.fresh cs i.chs i.σ i.tr →
 match fM p n cs with
 | none=>iY p n i=none
 | some s=>∃i',iY p n i=some i'∧Rl s i':=by
 intro n
 induction n with
 | zero=>intro cs i C;simp only[fM,iY]
 | succ n ih=>
  intro cs i C
  obtain⟨gl,τ,tr,ds,F,nn⟩:=i
  simp only at C
  cases C with
  | nil=>simp only[fM,iY,List.getLast?_nil]
  | @snoc cs ds c d _ _ h h1 h2=>
   obtain⟨ρ,S,e1,hok,hG,e2⟩:=h1
   have key:=P0 hp (cs:=cs) (nn:=d.taken) (at':=d.node) (tr:=tr.take d.fT) hok hG c.left F gl S h
   simp only[fM,iY,List.getLast?_append,List.getLast?_singleton,Option.some_or,QJ]
   have e3:(IS.pop ⟨gl,τ,tr,ds++ [d],F,nn⟩ d)=⟨gl,τ.out (tr.drop d.fT),tr.take d.fT,ds,F,d.taken⟩:=by simp only[IS.pop,QJ]
   rw[e1,e2,e3]
   cases ht:iG p cs c.goal c.rest c.σ c.N c.left with
   | none=>
    rw[ht] at key
    obtain⟨F',hF,e⟩:=key
    simp only[e,jR,d4]
    exact ih cs _ (h.mono hF)
   | some s=>
    rw[ht] at key
    obtain⟨i',e,hR⟩:=key
    simp only[e,fS]
    exact⟨i',rfl,hR⟩
variable {cnd:Tm→List Nat→List Nat} (hc:∀(ρ:Int→Int) (t:Tm) (l:List Nat),cnd (cC ρ t) l=cnd t l)
omit hp in
theorem aQD{ρ:Int→Int}{t:Tm}(h:t.k=3):(cC ρ t).s=t.s∧(cC ρ t).ts=t.ts.map (cC ρ)∧(cC ρ t).k=3:=by
 rw[GG ρ (by omega)]
 exact⟨rfl,rfl,h⟩
omit hp in
theorem a0R{ρ:Int→Int}{t:Tm}(h:t.k=3):gA p (cC ρ t)=gA p t:=by
 obtain⟨h1,h2,_⟩:=aQD (ρ:=ρ) h
 unfold gA JH
 simp only[h1,h2,aF]
include hc
theorem aQ7{s:RS}{i:IS}{g:RG}{gs:List RG}(hR:Rl s i)(hgs:s.goals=g::gs) :
 ∃h hs,i.goals=h::hs∧match iF p cnd s g gs with
 | .stop e=>mY p cnd i h hs=.stop e
 | .go s'=>∃i',mY p cnd i h hs=.go i'∧Rl s' i'
 | .fail=>∃i',mY p cnd i h hs=.fail i'∧jS i'.fresh s.chs i'.chs i'.σ i'.tr:=by
 obtain⟨ρ,S,hG,C⟩:=hR
 rw[hgs] at hG
 obtain⟨gl,τ,tr,ds,F,nn⟩:=i
 simp only at S hG C ⊢
 cases gl with
 | nil=>exact absurd hG.1 (by simp)
 | cons h hs=>
  refine⟨h,hs,rfl,?_⟩
  have hGt:GL ρ s.N gs hs:=⟨(List.cons.inj hG.1).2,fun x hx=>hG.2 x (by simp [hx])⟩
  have he:=(List.cons.inj hG.1).1
  simp only[Prod.mk.injEq] at he
  obtain⟨e1,e2⟩:=he
  obtain⟨hgX,hg3⟩:=hG.2 g (by simp)
  have hT:=S.sim.rsT S.g1 S.g2 S.o1.m7 hgX.1
  obtain⟨rk,B,G⟩:=S.g1.rs
  have hV:=G.VR S.o1.m7 hgX.1
  unfold iF mY
  simp only[e1,hT]
  have ht3:(g.t.aN (rs s.σ)).k=3:=by rw[Tm.sX _ (by omega)];exact hg3
  generalize g.t.aN (rs s.σ)=t at *
  obtain⟨r1,r2,r3⟩:=aQD (ρ:=ρ) ht3
  have g7:eX (cC ρ t)=eX t:=by unfold eX;rw[WH ρ hV.2.1,OR ρ hV.2.1]
  have v4:pR (cC ρ t)=pR t:=by unfold pR;rw[r1,r2,r3,ht3,aF]
  simp only[g7,v4,a0R (p:=p) (ρ:=ρ) ht3,hc,r1,r2,aF]
  by_cases c1:eX t=false
  · rw[aH c1,aH c1]
  rw[aE c1,aE c1]
  have hX:bP s.N t:=⟨hV,by
   have:eX t=true:=by simpa using c1
   unfold eX at this
   simp only[cE,bK] at this
   exact this.2⟩
  by_cases c2:pR t=true
  · rw[aH c2,aH c2]
    refine⟨_,rfl,ρ,S,hGt,?_⟩
    simp only[e2]
    exact C.take g.a7
  rw[aE c2,aE c2]
  by_cases c3:isBuiltin t.s (t.ts.length:Int)=true
  · rw[aH c3,aH c3]
    have hk:∀x∈t.ts,bP s.N x:=s8 _ t (by omega) hX
    obtain⟨q1,q2,q3⟩:=S.sim.dI S.g1 S.g2 S.o1 t.s t.ts hk
    have q4:=OY S.g1 S.o1 t.s t.ts hk
    have q5:=OY S.g2 S.o2 t.s (t.ts.map (cC ρ)) (fun x hx=>by
     obtain⟨y,hy,rfl⟩:=cY.1 hx
     exact S.DL (hk y hy))
    rw[q1]
    by_cases c4:(dI s.σ t.s t.ts).1=0
    · rw[aH c4,aH c4]
      exact⟨_,rfl,ρ,S.grow q4 q5 q3,hGt,C.more q5.DG⟩
    rw[aE c4,aE c4]
    by_cases c5:(dI s.σ t.s t.ts).1=1
    · rw[aH c5,aH c5]
      exact⟨_,rfl,C.more q5.DG⟩
    rw[aE c5,aE c5]
  rw[aE c3,aE c3]
  by_cases c6:gA p t= []
  · rw[aH c6,aH c6]
  rw[aE c6,aE c6]
  have key:=P0 hp (at':=nn) (nn:=nn+1) hX hGt (cnd t (gA p t)) F (h::hs) S C
  cases hq:iG p s.chs t gs s.σ s.N (cnd t (gA p t)) with
  | none=>
   rw[hq] at key
   obtain⟨F',hF,e⟩:=key
   simp only[e,jR,d4]
   exact⟨_,rfl,C.mono hF⟩
  | some s'=>
   rw[hq] at key
   obtain⟨i',e,hR⟩:=key
   simp only[e,fS]
   exact⟨i',rfl,hR⟩
end
theorem aSP{ρ:Int→Int}{N:Int}{σ τ:Sub}(S:gD ρ N σ τ):∀(l:List Tm) (acc:List Int),(∀t∈l,cO N t)→(∀v∈acc,0≤v∧v<N)→cF (l.map (cC ρ)) (acc.map ρ)=(cF l acc).map ρ∧∀v∈cF l acc,0≤v∧v<N
 | [],acc,_,ha=>⟨rfl,ha⟩
 | t::l,acc,h,ha=>by
  obtain⟨e1,e2⟩:=a8R (D:=fun v=>0≤v∧v<N) (h:=ρ) (fun v w hv hw e=>S.inj v w hv.1 hv.2 hw.1 hw.2 e) (f:=fun v=>vr (ρ v)) (fun _ _=>rfl) t (Tm.vV t (h t (by simp)).2.1) (h t (by simp)).2.2 acc ha
  simp only[bB,cF]
  rw[show(cC ρ t).vars (acc.map ρ)=(t.vars acc).map ρ from e1]
  exact aSP S l _ (fun x hx=>h x (by simp [hx])) e2
theorem a5Y{ρ:Int→Int}{N:Int}{σ τ:Sub}(S:gD ρ N σ τ){l:List Tm}(h:∀t∈l,cO N t):rB (l.map (cC ρ))=rB l∧(cF (l.map (cC ρ)) []).length=(cF l []).length:=by
 obtain⟨e1,e2⟩:=aSP S l [] h (by simp)
 rw[aW] at e1
 refine⟨?_,by rw[e1,aF]⟩
 unfold rB
 rw[e1,yX]
 refine sJ fun t ht=>?_
 simp only[G7]
 rw[KB]
 refine r8 t fun v hv=>?_
 rw[aOX (D:=fun v=>0≤v∧v<N) (fun v w hv hw e=>S.inj v w hv.1 hv.2 hw.1 hw.2 e) v ((h t ht).2.2 v hv) _ _ e2]
theorem aUG{ρ:Int→Int}{N F:Nat}{σ τ:Sub}(S:pO ρ N F σ τ){vars:List Int}(hv:∀v∈vars,0≤v∧v<26):jW τ vars=jW σ vars:=by
 obtain⟨rk,B,G⟩:=S.g1.rs
 have hid:=S.idn
 have h26:=S.h26
 have e:vars.map (rs τ)=(vars.map (rs σ)).map (cC ρ):=by
  rw[yX]
  refine sJ fun v h=>?_
  obtain⟨h0,h1⟩:=hv v h
  have:=S.sim.rs S.g1 S.g2 S.o1.m7 v h0 (by omega)
  rw[hid v h0 h1] at this
  exact this
 have hok:∀t∈vars.map (rs σ),cO N t:=fun t ht=>by
  obtain⟨v,h,rfl⟩:=cY.1 ht
  obtain⟨h0,h1⟩:=hv v h
  exact G.m7 S.o1.m7 v h0 (by omega)
 obtain⟨e1,e2⟩:=a5Y S.sim hok
 have e3:((vars.map (rs σ)).map (cC ρ)).all eX=(vars.map (rs σ)).all eX:=by
  rw[List.all_map,vI,eM,eM]
  have:∀t∈vars.map (rs σ),eX (cC ρ t)=eX t:=fun t ht=>by unfold eX;rw[WH ρ (hok t ht).2.1,OR ρ (hok t ht).2.1]
  constructor
  · intro h t ht;rw[←this t ht];exact h t ht
  · intro h t ht;simp only[G7];rw[this t ht];exact h t ht
 unfold jW
 rw[e,e1,e2,e3]
section
variable {p:List Cl} (hp:∀c∈p,iC c) {cnd:Tm→List Nat→List Nat} (hc:∀(ρ:Int→Int) (t:Tm) (l:List Nat),cnd (cC ρ t) l=cnd t l)
include hp hc
theorem a56{vars:List Int}(hv:∀v∈vars,0≤v∧v<26):∀(n most fuel:Nat) (s:RS) (i:IS),most+fuel≤n→Rl s i→kM p cnd vars most fuel i=iZ p cnd vars most fuel s:=by
 intro n
 induction n with
 | zero=>
  intro most fuel s i hn hR
  obtain⟨rfl,rfl⟩:most=0∧fuel=0:=by omega
  obtain⟨ρ,S,hG,C⟩:=hR
  rw[kM,iZ]
  cases hgs:s.goals with
  | nil=>
   rw[hgs] at hG
   have hi:i.goals= []:=List.map_eq_nil_iff.1 hG.1
   simp [hi]
  | cons g gs=>
   rw[hgs] at hG
   cases hi:i.goals with
   | nil=>rw[hi] at hG;exact absurd hG.1 (by simp)
   | cons h hs=>simp
 | succ n ih=>
  intro most fuel s i hn hR
  cases hgs:s.goals with
  | nil=>
   obtain⟨ρ,S,hG,C⟩:=hR
   rw[hgs] at hG
   have hi:i.goals= []:=List.map_eq_nil_iff.1 hG.1
   rw[kM,iZ]
   simp only[hgs,hi]
   by_cases hm:most=0
   · simp [hm]
   simp only[hm,dif_neg,J0]
   rw[aUG S hv]
   cases jW s.σ vars with
   | none=>rfl
   | some a=>
    simp only
    have key:=RQ hp s.chs.length s.chs i C
    rw[C.len]
    cases hb:fM p s.chs.length s.chs with
    | none=>rw[hb] at key;simp only[key]
    | some s'=>
     rw[hb] at key
     obtain⟨i',e,hR'⟩:=key
     simp only[e]
     rw[ih (most - 1) fuel s' i' (by omega) hR']
  | cons g gs=>
   obtain⟨h,hs,hi,key⟩:=aQ7 hp hc hR hgs
   rw[kM,iZ]
   simp only[hgs,hi]
   by_cases hf:fuel=0
   · simp [hf]
   simp only[hf,dif_neg,J0]
   cases hq:iF p cnd s g gs with
   | stop e=>
    rw[hq] at key
    simp only[key]
   | go s'=>
    rw[hq] at key
    obtain⟨i',e,hR'⟩:=key
    simp only[e]
    exact ih most (fuel - 1) s' i' (by omega) hR'
   | fail=>
    rw[hq] at key
    obtain⟨i',e,C'⟩:=key
    simp only[e]
    have N8:=RQ hp s.chs.length s.chs i' C'
    rw[C'.len]
    cases hb:fM p s.chs.length s.chs with
    | none=>rw[hb] at N8;simp only[N8]
    | some s'=>
     rw[hb] at N8
     obtain⟨i'',e2,hR'⟩:=N8
     simp only[e2]
     exact ih most (fuel - 1) s' i'' (by omega) hR'
omit hp hc in
theorem aQ6{q:List Tm}(hq:∀t∈q,bP 26 t∧t.k=3):Rl (lL q) (pY q):=by
 refine⟨fun v=>v,⟨⟨fun v w _ _ _ _ e=>e,fun v _ _=>rfl⟩,fun v h0 h1=>⟨h0,h1⟩,cX.none,fun n u h=>(by cases h),cX.none,fun n u h=>(by cases h),fun _ _=>rfl,fun _ _=>rfl,dC _,fun _ _ _=>rfl⟩,⟨?_,fun g hg=>?_⟩,.nil⟩
 · simp only[pY,lL,yX]
   refine sJ fun t ht=>?_
   simp only[G7]
   rw[show cC (fun v=>v) t=t from VI t (hq t ht).1.1.2.1]
 · simp only[lL] at hg
   obtain⟨t,ht,rfl⟩:=cY.1 hg
   exact hq t ht
theorem a6W{q:List Tm}(hq:∀t∈q,bP 26 t∧t.k=3)(most fuel:Nat):kM p cnd (cF q []) most fuel (pY q)=uV p cnd q most fuel:=by
 refine a56 hp hc (fun v hv=>?_) _ most fuel _ _ (dC _) (aQ6 hq)
 rw[A5 _ _ fun t ht=>(hq t ht).1.1.2.1] at hv
 rcases hv with hv | ⟨t,ht,hv⟩
 · cases hv
 · exact(hq t ht).1.1.2.2 v hv
end
theorem aY0{c:Cl}(h:mC c=true):iC c:=by
 simp only[mC,cE,bK,eM] at h
 refine⟨⟨Tm.LF h.1.1,Tm.LE h.1.1⟩,fun t ht=>?_⟩
 have hg:=h.2.2 t ht
 have hk:t.valid=true∧t.k=3:=by
  obtain⟨k,n,s,ts⟩:=t
  simp only[Tm.goal,cE] at hg
  refine⟨hg.1,?_⟩
  have:=hg.2
  simp only[z8,sA,oV,cE,bK] at this
  simp only[Tm.k]
  rcases this with (h | h) | h<;>first | exact h.1 | exact h.1.1 | exact h.1.1.1
 exact⟨⟨Tm.LF hk.1,Tm.LE hk.1⟩,hk.2⟩
end Go.AW
namespace Go.AW
open Go.Proofs.Tryz
abbrev cD (l:List Tm):AV:=.agg [.slice (l.map Tm.av)]
theorem PX:∀(a b:List Tm) (l:List Int),cF (a++b) l=cF b (cF a l)
 | [],_,_=>rfl
 | t::a,b,l=>by simp only[fE,cF,PX a b]
abbrev WS:=zi tI_3 (zi zI_3 (zi aU (zi tI_28 (zi zI_28 (zi aO (zi bF (zi bG (zi bZ (zi tI_40 (zi zI_40 (zi dT (zi fJ (zi fK (zi fU (zi tI_52 (zi zI_52 (zi bU (zi bV (zi bX (zi bY bT))))))))))))))))))))
theorem aBA(q:List Tm)(st:aB)(hwf:∀t∈q,t.wf=true)(hsz:bH Tm.nodes q≤1099511627776):aD prog 127 [.slice (q.map Tm.av)] st (fun r st'=>r=.slice ((cF q []).map iv)∧st'=st):=by
 refine aD.done ?_
 refine wF [1000000] 1 func127 ntmps127 rfl rfl ?_
 simp only[eQ,AV.fits,eR,aF]
 intro ⟨hl,_⟩
 simp -implicitDefEqProofs only[aA,seval,WS]
 refine vG (σ:=Unit) [1000000] [0,2] q 1 3 (fun i _=>(cF (q.take i) []).map iv) (fun _ _=>True) (fun i _=>[(4,.int .i64 i)]) (fun _ _=>st) (fun i _ _ e he=>by simp only[cY] at he;obtain⟨t,_,rfl⟩:=he;exact⟨rfl,rfl⟩) (by decide +kernel) ⟨(),0,trivial,fun h=>absurd rfl h,aP.mk (by simp -implicitDefEqProofs only[jV,l7,cF,aW,aA,↓aS,seval])⟩ (fun i x s b hx hlt bR hdr hinv hb=>?_) (fun s b hge hinv=>?_)
 case refine_2=>
  simp -implicitDefEqProofs only[hge,eS,jF,qO,mV,fG,aF,aA,seval,WS]
  exact⟨rfl,aL.refl _⟩
 have hw:=bO (n:=(i:Int)+1)
 have hat:=bQ (av:=Tm.av) aO hx (aM x)
 have hst:=KJ Tm.nodes hx
 have hvl:=A4 (q.take i) []
 simp only[aX,iA] at hvl
 have htk:x.vars (cF (q.take i) [])=cF (q.take (i+1)) []:=by
  rw[gC,hx,PX]
  try rfl
 simp -implicitDefEqProofs only[bR,aF,hat,aA,seval,WS]
 refine(H7 x (cF (q.take i) []) b st (hwf x (dA hx)) hb (by omega)).mono ?_
 rintro _ _ ⟨b',rfl,rfl,hb'⟩
 rw[htk] at hb' ⊢
 simp -implicitDefEqProofs only[aA,seval]
 exact⟨(),b',hb',aP.mk (by simp -implicitDefEqProofs only[hw,aA,seval])⟩
end Go.AW
namespace Go.AW
theorem cL.of{h:bS}{st st':aB}(hk:∀x,st x=none→st' x=none):cL h st h st':=⟨dC _,fun x _ e=>⟨rfl,hk x e⟩,fun _ c _ _ e=>⟨c,e,rfl⟩⟩
theorem fV.aNH{φ:AF}{st:aB}{b c:Nat}{es cs:List AV}(hbc:b≠c)(h1:st b=some (.cells (es.flatMap AV.cells)))(h2:∀e∈es,e.cJ=false)(h3:iU es)(hc:st c=some (.cells cs)) :
 fV φ st φ ((st.erase b).aC c (.cells (lC b es cs))):=fun h tmps S F=>by
 have T2:cL h (st.erase b) h ((st.erase b).aC c (.cells (lC b es cs))):=cL.of fun x hx=>by
  have:x≠c:=by rintro rfl;simp [aB.erase,dG hbc,hc] at hx
  rw[aB.aG _ _ this];exact hx
 have T:cL h st h ((st.erase b).aC c (.cells (lC b es cs))):=((kJ st b).step h).trans T2
 refine⟨fun x o hx=>?_,T,fun d=>(F d).mono T⟩
 by_cases e:x=c
 · subst e
   rw[aB.aJ] at hx
   cases hx
   obtain⟨hl,c0,t,e1,e2,vs,e3,e4⟩:=S x _ hc
   refine⟨hl,c0,t,e1,?_,vs,e3,bD.mono T2 _ _ (bD.fz S h1 h2 h3 cs vs e4)⟩
   rw[CN,aF];exact e2
 · rw[aB.aG _ _ e] at hx
   have hx':st x=some o:=by
    simp only[aB.erase] at hx
    split at hx
    · cases hx
    · exact hx
   obtain⟨hl,y⟩:=S x o hx'
   exact⟨hl,mM.mono T rfl y⟩
theorem fV.a6R{φ:AF}{st:aB}{c:Nat}{cs:List AV}(hc:st c=some (.cells cs)):fV φ st φ (st.aC c (.cells (jA cs))):=fun h tmps S F=>by
 have T:cL h st h (st.aC c (.cells (jA cs))):=cL.of fun x hx=>by
  have:x≠c:=by rintro rfl;rw[hc] at hx;cases hx
  rw[aB.aG _ _ this];exact hx
 refine⟨fun x o hx=>?_,T,fun d=>(F d).mono T⟩
 by_cases e:x=c
 · subst e
   rw[aB.aJ] at hx
   cases hx
   obtain⟨hl,c0,t,e1,e2,vs,e3,e4⟩:=S x _ hc
   refine⟨hl,c0,t,e1,?_,vs,e3,bD.mono T _ _ (bD.soft cs vs e4)⟩
   rw[AS,aF];exact e2
 · rw[aB.aG _ _ e] at hx
   obtain⟨hl,y⟩:=S x o hx
   exact⟨hl,mM.mono T rfl y⟩
theorem a30{φ:AF}{S:aB}{c b:Nat}{k n:Int}{s:ByteArray}{l:List AV}(hb:l≠[]→(S.aC c (.cells ([.int .i64 k,.int .i64 n,.str s]++ [aZ 4 b l]))) b=none)(hj:∀e∈l,e.cJ=false)(hE:iU l) :
 fV φ (fX S c b [.int .i64 k,.int .i64 n,.str s] l) φ (S.aC c (.cells [.int .i64 k,.int .i64 n,.str s,.slice l])):=by
 have hcc:=fA hb
 cases l with
 | nil=>
  have:=fV.a6R (φ:=φ) hcc
  unfold fX at this ⊢
  simp only[oA,cK] at this
  exact this
 | cons y l=>
  have h0:=hb (by simp)
  have hne:b≠c:=by rintro rfl;rw[aB.aJ] at h0;cases h0
  have h1:fX S c b [.int .i64 k,.int .i64 n,.str s] (y::l) b=some (.cells ((y::l).flatMap AV.cells)):=by unfold fX;simp only[aV];exact aB.aJ _ _ _
  have:=fV.aNH (φ:=φ) hne h1 hj hE hcc
  have e:(fX S c b [.int .i64 k,.int .i64 n,.str s] (y::l)).erase b=S.aC c (.cells ([.int .i64 k,.int .i64 n,.str s]++ [aZ 4 b (y::l)])):=by unfold fX;simp only[aV];exact aB.xH _ _ _ h0
  rw[e,cK] at this
  simpa [lC,AV.fz,aZ] using this
theorem JU{S:aB}{c b:Nat}{hd hd' l:List AV}(hb:l≠[]→(S.aC c (.cells (hd++ [aZ 4 b l]))) b=none) :
 (fX S c b hd l).aC c (.cells (hd'++ [aZ 4 b l]))=fX S c b hd' l∧(l≠[]→(S.aC c (.cells (hd'++ [aZ 4 b l]))) b=none):=by
 have hne:l≠[]→c≠b:=fun h e=>by have:=hb h;rw[←e,aB.aJ] at this;cases this
 refine⟨by unfold fX;rw[lQ hne,cK],fun h=>?_⟩
 have:=hb h
 rw[aB.aG _ _ (dG (hne h))] at this ⊢
 exact this
theorem S5{s0 st:aB}{b:Nat}{l:List AV}(D:aL s0 st):aL (aV s0 b l) (aV st b l):=by
 cases l with
 | nil=>exact D
 | cons y l=>
  intro x
  simp only[aV]
  by_cases e:x=b
  · subst e;simp [aB.aJ]
  · rw[aB.aG _ _ e,aB.aG _ _ e];exact D x
end Go.AW
