import Derived.Test.YtimfffmcljmfgaaGreatDoorUuj
import Derived.Test.YtimfffmcljmfgaaGreatDoorUuk
import Derived.Test.YtimfffmcljmfgaaGreatDoorUuf
import Derived.Test.YtimfffmcljmfgaaGreatDoorUui
set_option linter.unusedSimpArgs false
set_option linter.unusedVariables false
set_option maxRecDepth 100000
namespace Go.AW
open Go.Proofs.Tryz
def c8(N:Nat)(σ:Sub):List AV:=(List.range N).map fun i:Nat=>cellOf (σ (i:Int))
theorem CF(N:Nat)(σ:Sub):∀e∈c8 N σ,e.width=4:=by intro e h;simp only[c8,cS] at h;obtain⟨i,_,rfl⟩:=h;exact J1 _
theorem zE(N:Nat)(σ:Sub){i:Nat}(h:i<N):(c8 N σ)[i]?=some (cellOf (σ (i:Int))):=by
 simp only[c8,mW,List.getElem?_range h,n0]
theorem aQK(N:Nat)(σ:Sub){i:Nat}(h:i<N)(u:Tm):(c8 N σ).set i u.av=c8 N (σ.set (i:Int) u):=by
 apply IZ
 intro j
 by_cases hj:j<N
 · rw[zE N _ hj,List.getElem?_set]
   by_cases e:i=j
   · subst e
     simp [c8,hj,Sub.set,cellOf]
   · rw[aE e,zE N _ hj]
     simp only[Sub.set]
     rw[aE (by omega)]
 · rw[wY (by simp [c8];omega),wY (by simp [c8];omega)]
def fO(N:Nat)(st:aB)(b:Nat)(σ:Sub):Prop:=st b=some (.cells ((c8 N σ).flatMap AV.cells))
theorem fO.mid{N:Nat}{st:aB}{b:Nat}{σ:Sub}(h:fO N st b σ){i:Nat}(hi:i<N) :
 ∃A B,st b=some (.cells (A++(cellOf (σ (i:Int))).cells++B))∧A.length=i*4∧∀(u:Tm),fO N (st.aC b (.cells (A++u.av.cells++B))) b (σ.set (i:Int) u):=by
 obtain⟨A,B,h1,h2,h3⟩:=aWI (CF N σ) (zE N σ hi)
 refine⟨A,B,by rw[←h1];exact h,h2,fun u=>?_⟩
 unfold fO
 rw[aB.aP,←aQK N σ hi,h3]
theorem fO.aC{N:Nat}{st:aB}{b x:Nat}{σ:Sub}{o:AO}(h:fO N st b σ)(hx:x≠b):fO N (st.aC x o) b σ:=by
 unfold fO
 rw[aB.aL _ _ (dD hx)]
 exact h
theorem fO.none{N:Nat}{st:aB}{b:Nat}{σ:Sub}(h:fO N st b σ){i:Nat}(hi:i<N)(hn:σ (i:Int)=Option.none) :
 ∃D,st b=some (.cells D)∧D[i*4+0]?=some (.int .i64 0)∧i*4+4≤D.length:=by
 obtain⟨A,B,e1,e2,_⟩:=h.mid hi
 rw[hn] at e1
 obtain⟨r1,r2,r3⟩:=VG (B:=B) (C:=(cellOf Option.none).cells) e2 rfl
 exact⟨_,e1,r3,r1⟩
theorem fO.some{N:Nat}{st:aB}{b:Nat}{σ:Sub}(h:fO N st b σ){i:Nat}(hi:i<N){k n:Int}{s:ByteArray}{ts:List Tm}(hn:σ (i:Int)=Option.some (.mk k n s ts)) :
 ∃D,st b=Option.some (.cells D)∧D[i*4+0]?=Option.some (.int .i64 k)∧i*4+4≤D.length∧List.take 4 (List.drop (i*4) D)= [.int .i64 k,.int .i64 n,.str s,.slice (ts.map Tm.av)]:=by
 obtain⟨A,B,e1,e2,_⟩:=h.mid hi
 rw[hn] at e1
 simp only[cellOf,aV,AV.cells] at e1
 obtain⟨r1,r2,r3⟩:=VG (B:=B) (C:=[.int .i64 k,.int .i64 n,.str s,.slice (ts.map Tm.av)]) e2 rfl
 exact⟨_,e1,r3,r1,r2⟩
theorem fO.set{N:Nat}{st:aB}{b:Nat}{σ:Sub}(h:fO N st b σ){i:Nat}(hi:i<N)(u:Tm) :
 ∃D D',st b=Option.some (.cells D)∧i*4+4≤D.length∧aK D (i*4) u.av.cells=D'∧fO N (st.aC b (.cells D')) b (σ.set (i:Int) u):=by
 obtain⟨A,B,e1,e2,e3⟩:=h.mid hi
 obtain⟨p1,p2⟩:=a07 (B:=B) (C:=(cellOf (σ (i:Int))).cells) (x:=u.av.cells) e2 (aUG _) (bY u)
 exact⟨_,_,e1,p2,p1,e3 u⟩
abbrev ED:=zi tI_3 (zi zI_3 (zi aX (zi tI_31 (zi zI_31 (zi aN (zi bG (zi bH (zi b9 (zi tI_66 (zi zI_66 (zi bQ (zi bR (zi bS (zi bT bP))))))))))))))
theorem VZ{N:Nat}{σ:Sub}(hok:cW (cJ N) σ){f:Nat}{t u:Tm}(hw:f0 σ f t u)(ht:cJ N t)(b:Nat)(st:aB)(hS:fO N st b σ):aD prog 354 [t.av,.mslice b 0 N 4] st (fun r st'=>r=u.av∧st'=st):=by
 refine aD.done ?_
 refine wF [1000000,2] 2 func354 ntmps354 rfl rfl ?_
 intro _
 simp -implicitDefEqProofs only[aA,seval,ED]
 intro b2 h2 b4 h4
 have hne:b4≠b2:=by rintro rfl;rw[aB.aP] at h4;cases h4
 have hn4:st b4=none:=by rw[aB.aL st _ hne] at h4;exact h4
 have hb2:b2≠b:=by rintro rfl;rw[fO,h2] at hS;cases hS
 have hb4:b4≠b:=by rintro rfl;rw[fO,hn4] at hS;cases hS
 refine iE (σ:=Nat×Tm) [1000000,2] [1,2,4] (fun p=>f0 σ p.1 p.2 u∧cJ N p.2) (fun p=>[]) (fun p=>(st.aC b2 (.cells p.2.av.cells)).aC b4 (.cells [.int .i64 0,.int .i64 0,.str ⟨#[]⟩,.fslice []])) (fun p=>p.1) (by decide +kernel) ⟨(f,t),⟨hw,ht⟩,aO.mk (by simp -implicitDefEqProofs only[aA,seval])⟩ ?_
 rintro⟨g,t⟩ ⟨hw,ht⟩
 obtain⟨k,n,s,ts⟩:=t
 simp only at hw ht
 simp only[aV]
 have jY:k≠1∨σ n=none→u=.mk k n s ts:=fun h=>by
  cases hw with
  | stop _=>rfl
  | go h1 h2 _=>
   simp only[Tm.k] at h1
   rcases h with h | h
   · exact absurd h1 h
   · rw[show σ n=some _ from h2] at h;cases h
 simp -implicitDefEqProofs only[hne.symm,aA,seval,ED]
 refine cV (fun h=>?_) (fun h=>?_)
 case refine_2=>
  simp -implicitDefEqProofs only[h,aK,hne.symm,aA,seval,ED]
  simp only[kI,dJ] at h
  rw[jY (.inl h),←aV]
  exact⟨Tm.soft _,((aM.refl _).aC h2).aC hn4⟩
 simp only[bJ] at h
 subst h
 obtain⟨hn0,hn1,_⟩:=ht.var
 obtain⟨i,rfl⟩:∃i:Nat,n=i:=⟨n.toNat,by omega⟩
 have hi:i<N:=by omega
 have hi':decide ((i:Int)<(N:Int))=true:=by simp;omega
 simp -implicitDefEqProofs only[bU,hi',fR,hne.symm,aA,seval,ED]
 have hat:=uC (P:=prog) (b:=b) (len:=N) aN hi
 cases hw with
 | stop hs=>
  obtain⟨D,e1,e2,_⟩:=hS.none hi (hs rfl)
  simp -implicitDefEqProofs only[hat,e1,e2,bU,aK,hne.symm,hb2.symm,hb4.symm,aA,seval,ED]
  exact⟨by rw[←aV,Tm.soft],((aM.refl _).aC h2).aC hn4⟩
 | go h1 h2' h3=>
  simp only[Tm.n] at h2'
  have ho:=hok _ _ h2'
  rename_i g' u'
  obtain⟨k',n',s',ts'⟩:=u'
  have hk':¬k'=0:=by have:=ho.kind.1;omega
  obtain⟨D,e1,e2,e3,e4⟩:=hS.some hi h2'
  have e5:i*4+0+4≤D.length:=e3
  simp -implicitDefEqProofs only[hat,e1,e2,e3,e4,hk',bZ,aK,hne.symm,hb2.symm,hb4.symm,aA,seval,ED]
  rw[aB.wQ hne,aB.oU _ _ _ hne]
  refine⟨(g',.mk k' n' s' ts'),I5 _,⟨h3,ho⟩,?_⟩
  simp only[aV]
  exact aO.mk (by simp -implicitDefEqProofs only[aA,seval])
theorem fO.acc{N:Nat}{st:aB}{b bW:Nat}{σ:Sub}{l:List AV}(h:fO N st b σ)(hb:l≠[]→st bW=Option.none):fO N (a7 st bW l) b σ:=by
 cases l with
 | nil=>exact h
 | cons x l=>exact h.aC (by rintro rfl;rw[fO,hb (by simp)] at h;cases h)
abbrev HZ:=zi tI_3 (zi zI_3 (zi aX (zi tI_4 (zi zI_4 (zi cE (zi tI_31 (zi zI_31 (zi aN (zi bG (zi bH (zi b9 (zi tI_46 (zi zI_46 (zi dH (zi fA (zi eX (zi fB (zi tI_66 (zi zI_66 (zi bQ (zi bR (zi bS (zi bT bP)))))))))))))))))))))))
theorem aQ3{N:Nat}{σ:Sub}{R:Int→Tm}{rk:Int→Nat}{B:Nat}(G:Good σ R rk B)(hok:cW (bB N) σ)(hN:N≤1048576){n:Int}(hn:σ n=none)(t:Tm)(ht:bB N t)(b:Nat)(st:aB)(hS:fO N st b σ) :
 aD prog 355 [.int .i64 n,t.av,.mslice b 0 N 4] st (fun r st'=>r=.bool (decide (n∈(t.aG R).vl))∧st'=st):=by
 refine aD.done ?_
 refine wF [1000000] 3 func355 ntmps355 rfl rfl ?_
 intro _
 simp -implicitDefEqProofs only[aA,seval,HZ]
 have h0:=FT t [] 0 st (Tm.sG t (ht.1.2.1)) (fun h=>absurd rfl h) (by have:=ht.2;simp only[aZ];omega)
 simp only[aW,jG,xF] at h0
 refine h0.mono ?_
 rintro _ _ ⟨b0,rfl,rfl,hb0⟩
 obtain⟨v1,v2,_⟩:=TS t (Tm.sG t (ht.1.2.1)) []
 simp -implicitDefEqProofs only[aA,seval]
 refine iE (σ:=Nat×List Int×Nat) [1000000] [0,2]
  (fun p=>p.1≤p.2.1.length∧p.2.1.Nodup∧(∀w∈p.2.1,w∈VN N)∧(p.2.1.map iv≠[]→st p.2.2=none)∧(∀w∈p.2.1.take p.1,w≠n∧∀u,σ w=some u→∀v∈u.vl,v∈p.2.1)∧(∀w∈p.2.1,n∈(R w).vl→n∈(t.aG R).vl)∧(n∈(t.aG R).vl→∃w∈p.2.1,n∈(R w).vl))
  (fun p=>[(6,.bool false),(7,bD 1 p.2.2 (p.2.1.map iv)),(8,.int .i64 p.1)]) (fun p=>a7 st p.2.2 (p.2.1.map iv)) (fun p=>N - p.1) (by decide +kernel)
  ⟨(0,t.vars [],b0),⟨jD _,v2 oW,fun w hw=>?_,hb0,by simp,fun w hw hm=>?_,fun hm=>?_⟩,aO.mk (by simp -implicitDefEqProofs only[aA,↓aU,seval])⟩ ?_
 · rcases (v1 w).1 hw with h | h
   · cases h
   · exact wA.2 (ht.1.2.2 w h)
 · rcases (v1 w).1 hw with h | h
   · cases h
   · exact(wR t).2 ⟨w,h,hm⟩
 · obtain⟨w,hw,hm⟩:=(wR t).1 hm
   exact⟨w,(v1 w).2 (.inr hw),hm⟩
 rintro⟨i,W,bW⟩ ⟨i1,i2,i3,i4,i5,i6,i7⟩
 simp only at i1 i2 i3 i4 i5 i6 i7
 have haL:=tS (w:=1) (b:=bW) (l:=W.map iv) fB
 have hWl:=DT i2 (fun m hm=>wA.1 (i3 m hm))
 simp -implicitDefEqProofs only[haL,aF,aA,seval]
 refine aQ (fun h=>?_) (fun h=>?_)
 case refine_2=>
  simp only[dJ,mV] at h
  obtain rfl:i=W.length:=by omega
  rw[eS] at i5
  simp -implicitDefEqProofs only[aA,seval]
  have hno:n∉(t.aG R).vl:=fun hm=>by
   obtain⟨w,hw,hnw⟩:=i7 hm
   exact a45 G i5 w hw hnw
  exact⟨by simp only[hno,bZ,sZ],aM.a7 (aM.refl _) i4⟩
 simp only[bJ,mV] at h
 obtain⟨w,hx⟩:∃w,W[i]?=some w:=⟨_,eE h⟩
 have gX:=cP hx
 have hat:=U0 (b:=bW) (l:=W.map iv) (i:=i) (x:=iv w) dH (by rw[mW,hx];try rfl)
 obtain⟨f9,xX⟩:=U3 (st:=st) (b:=bW) hx
 have hw:=bO (n:=(i:Int)+1)
 simp -implicitDefEqProofs only[hat,f9,xX,uV,aA,seval,HZ]
 refine aQ (fun h2=>?_) (fun h2=>?_)
 · simp only[bJ] at h2
   subst h2
   simp -implicitDefEqProofs only[aA,seval]
   have hm:w∈(t.aG R).vl:=i6 w gX (by rw[G.free hn,yO];simp)
   exact⟨by simp only[hm,bU,sZ],aM.a7 (aM.refl _) i4⟩
 simp only[dJ] at h2
 simp -implicitDefEqProofs only[hat,f9,xX,uV,aA,seval,HZ]
 obtain⟨hw0,hw1⟩:=wA.1 (i3 w gX)
 obtain⟨j,rfl⟩:∃j:Nat,w=j:=⟨w.toNat,by omega⟩
 have hj:j<N:=by omega
 have hj':decide ((j:Int)<(N:Int))=true:=by simp;omega
 have aJO:=uC (P:=prog) (b:=b) (len:=N) aN hj
 have hSA:=hS.acc i4
 have htk:W.take (i+1)=W.take i++ [(j:Int)]:=by rw[fG,hx];try rfl
 have step:∀W':List Int,(∀v∈W,v∈W')→(∀u,σ (j:Int)=some u→∀v∈u.vl,v∈W')→∀w∈W'.take (i+1),W'.take (i+1)=W.take (i+1)→w≠n∧∀u,σ w=some u→∀v∈u.vl,v∈W':=by
  intro W' AH mM w hw' hte
  rw[hte,htk] at hw'
  rcases fF.1 hw' with hw' | hw'
  · exact⟨(i5 w hw').1,fun u hu v hv=>AH v ((i5 w hw').2 u hu v hv)⟩
  · simp only[cX,dN,dV] at hw'
    subst hw'
    exact⟨h2,mM⟩
 cases hs:σ (j:Int) with
 | none=>
  obtain⟨D,e1,e2,_⟩:=hSA.none hj hs
  simp -implicitDefEqProofs only[hj',aJO,e1,e2,bU,fR,hat,f9,xX,uV,hw,aA,seval,HZ]
  exact⟨(i+1,W,bW),by simp only;omega,⟨h,i2,i3,i4,fun w hw'=>step W (fun _ h=>h) (fun u hu=>by rw[hs] at hu;cases hu) w hw' rfl,i6,i7⟩,aO.mk (by simp -implicitDefEqProofs only[aA,seval])⟩
 | some u=>
  obtain⟨k',n',s',ts'⟩:=u
  have ho:=hok _ _ hs
  have hk':¬k'=0:=by have:=ho.1.kind.1;omega
  obtain⟨D,e1,e2,e3,e4⟩:=hSA.some hj hs
  simp -implicitDefEqProofs only[hj',aJO,e1,e2,e3,e4,hk',bZ,fR,hat,f9,xX,uV,aA,seval,HZ]
  have hwf:=Tm.sG _ (ho.1.2.1)
  have hc:=FT (.mk k' n' s' ts') W bW st hwf i4 (by have:=ho.2;omega)
  obtain⟨u1,u2,m,u3⟩:=TS _ hwf W
  rw[aV] at hc
  refine hc.mono ?_
  rintro _ _ ⟨b',rfl,rfl,hb'⟩
  generalize (Tm.mk k' n' s' ts').vars W=W' at *
  have hte:W'.take (i+1)=W.take (i+1):=by rw[u3,BT (by omega)]
  have hbd:(Tm.mk k' n' s' ts').aG R=R (j:Int):=(G.bound hs).symm
  simp -implicitDefEqProofs only[hw,aA,seval]
  refine⟨(i+1,W',b'),by simp only;omega,⟨by rw[u3];simp only[dM];omega,u2 i2,fun w hw'=>?_,hb',fun w hw'=>step W' (fun v hv=>(u1 v).2 (.inl hv)) (fun u hu v hv=>?_) w hw' hte,fun w hw' hm=>?_,fun hm=>?_⟩,aO.mk (by simp -implicitDefEqProofs only[aA,seval])⟩
  · rcases (u1 w).1 hw' with h | h
    · exact i3 w h
    · exact wA.2 (ho.1.2.2 w h)
  · rw[hs] at hu
    cases hu
    exact(u1 v).2 (.inr hv)
  · rcases (u1 w).1 hw' with h | h
    · exact i6 w h hm
    · refine i6 (j:Int) gX ?_
      rw[←hbd]
      exact(wR _).2 ⟨w,h,hm⟩
  · obtain⟨w,h,hm⟩:=i7 hm
    exact⟨w,(u1 w).2 (.inl h),hm⟩
def AN(N b:Nat)(st:aB)(σ':Sub)(st':aB):Prop:=fO N st' b σ'∧∀x o,st x=some o→x≠b→st' x=some o
theorem AN.refl{N b:Nat}{st:aB}{σ:Sub}(h:fO N st b σ):AN N b st σ st:=⟨h,fun _ _ h _=>h⟩
theorem AN.trans{N b:Nat}{st s2 s3:aB}{σ2 σ3:Sub}(x:AN N b st σ2 s2)(y:AN N b s2 σ3 s3):AN N b st σ3 s3:=⟨y.1,fun q o h hn=>y.2 q o (x.2 q o h hn) hn⟩
def FA(N:Nat)(f:Nat)(b:Nat)(σ:Sub)(a c:Tm)(r:Bool)(σ':Sub):Prop:=∀st,fO N st b σ→aD prog f [a.av,c.av,.mslice b 0 N 4] st (fun r' st'=>r'=.bool r∧AN N b st σ' st')
abbrev nE:=zi tI_3 (zi zI_3 (zi aX (zi tI_4 (zi zI_4 (zi cE (zi tI_9 (zi zI_9 (zi cI (zi tI_31 (zi zI_31 (zi aN (zi bG (zi bH (zi b9 (zi tI_66 (zi zI_66 (zi bQ (zi bR (zi bS (zi bT bP))))))))))))))))))))
theorem aKT(N:Nat)(hN:N≤1048576)(g:Nat)(bb:Nat)(IH:∀(σ:Sub) (a b:Tm) (r:Bool) (σ':Sub) (add:List Int),cO σ→cW (bB N) σ→bB N a→bB N b→dI g σ a b=some (r,σ',add)→FA N 306 bb σ a b r σ')
 (σ:Sub) (a b:Tm) (r:Bool) (σ':Sub) (add:List Int) (hg:cO σ) (hok:cW (bB N) σ) (ha0:bB N a) (hb0:bB N b) (h:dI (g+1) σ a b=some (r,σ',add))
 (aKI:(wk σ a).k≠1→(wk σ b).k=1→FA N 306 bb σ (wk σ b) (wk σ a) r σ'):FA N 306 bb σ a b r σ':=by
 intro st hS
 obtain⟨rk,B,G⟩:=hg.rs
 obtain⟨fa,wa⟩:=G.wk a
 obtain⟨fb,wb⟩:=G.wk b
 have DF:cW (cJ N) σ:=fun n u hu=>(hok n u hu).1
 have hca:=fun st (hS:fO N st bb σ)=>VZ DF wa ha0.1 bb st hS
 have hcb:=fun st (hS:fO N st bb σ)=>VZ DF wb hb0.1 bb st hS
 have ea:=wa.end
 have eb:=wb.end
 have hsa:=wa.all (p:=bB N) hok ha0
 have hsb:=wb.all (p:=bB N) hok hb0
 replace h:=M3 h
 generalize wk σ a=a1 at *
 generalize wk σ b=b1 at *
 clear wa wb
 refine wF [1000000,3,4] 3 func306 ntmps306 rfl rfl ?_
 intro fD
 simp -implicitDefEqProofs only[aA,seval,nE]
 intro b4 h4 b5 h5
 have h54:b5≠b4:=by rintro rfl;rw[aB.aP] at h5;cases h5
 have hn5:st b5=none:=by rw[aB.aL st _ h54] at h5;exact h5
 have h4b:b4≠bb:=by rintro rfl;rw[fO,h4] at hS;cases hS
 have h5b:b5≠bb:=by rintro rfl;rw[fO,hn5] at hS;cases hS
 have hS':∀o o',fO N ((st.aC b4 o).aC b5 o') bb σ:=fun o o'=>(hS.aC h4b).aC h5b
 have hQ:∀o o',AN N bb st σ ((st.aC b4 o).aC b5 o'):=fun o o'=>⟨hS' o o',fun x p h _=>by
  rw[aB.aL _ _ (by rintro rfl;rw[hn5] at h;cases h),aB.aL _ _ (by rintro rfl;rw[h4] at h;cases h)];exact h⟩
 simp -implicitDefEqProofs only[bY,eO (bY a),eK (aT a),h54.symm,aA,seval]
 refine(hca _ (hS' _ _)).to ?_
 simp -implicitDefEqProofs only[bY,eO (bY b),eK (aT b),cC,aK,h54,h54.symm,aA,seval,nE]
 rw[aB.wQ h54,aB.oU _ _ _ h54]
 refine(hcb _ (hS' _ _)).to ?_
 obtain⟨ka,na,sa,tsa⟩:=a1
 obtain⟨kb,nb,sb',tsb⟩:=b1
 obtain⟨hla,aJ3⟩:=Tm.oR (hsa.1.small)
 obtain⟨hlb,aJ4⟩:=Tm.oR (hsb.1.small)
 have iB:∀o o',AN N bb st σ ((st.aC b4 o).aC b5 o'):=hQ
 have hka:=fun h=>(qJ N) _ h hsa
 have hkb:=fun h=>(qJ N) _ h hsb
 simp only[aV]
 simp only[Tm.k,Tm.n,Tm.ts] at h ea eb aKI hka hkb
 simp -implicitDefEqProofs only[dC,aK,h54.symm,aA,seval,nE]
 have var:∀ {n:Int} {t:Tm},n∈VN N→σ n=none→bB N t→jX σ n t=(r,σ',add)→∀s0,fO N s0 bb σ→aD prog 355 [.int .i64 n,t.av,.mslice bb 0 N 4] s0 (fun r' st'=>r'=.bool (!r)∧st'=s0):=by
  intro n t _ hn ht hb s0 hs0
  have:=aQ3 G hok hN hn t ht bb s0 hs0
  unfold jX at hb
  split at hb
  · rename_i hm
    cases hb
    simpa [hm] using this
  · rename_i hm
    cases hb
    simpa [hm] using this
 rcases h with ⟨h1,h2,h3,rfl,rfl,rfl⟩ | ⟨h1,h2,h3⟩ | ⟨h1,h2,h3⟩ | ⟨h1,h2,h3,h4⟩ | ⟨h1,h2,h3,rfl,rfl,rfl⟩
 · subst h1 h2 h3
   simp -implicitDefEqProofs only[bU,fR,h54.symm,aA,seval,nE]
   exact iB _ _
 · subst h1
   have hin:=wA.2 (hsa.1.2.2 na (by rw[Tm.mS rfl];simp))
   obtain⟨hn0,hn1⟩:=wA.1 hin
   have hcw:=var hin (ea rfl) hsb h3 _ (hS' (.cells [.int .i64 1,.int .i64 na,.str sa,.slice (tsa.map Tm.av)]) (.cells [.int .i64 kb,.int .i64 nb,.str sb',.slice (tsb.map Tm.av)]))
   have hna:=ea rfl
   rw[aV] at hcw
   obtain⟨i,rfl⟩:∃i:Nat,na=i:=⟨na.toNat,by omega⟩
   have hi:i<N:=by omega
   have hat:=uC (P:=prog) (b:=bb) (len:=N) aN hi
   have h6:kb=1→¬(i:Int)=nb:=fun e1 e=>h2 ⟨e1,e⟩
   have tail:∀(s0:aB),s0=((st.aC b4 (.cells [.int .i64 1,.int .i64 i,.str sa,.slice (tsa.map Tm.av)])).aC b5 (.cells [.int .i64 kb,.int .i64 nb,.str sb',.slice (tsb.map Tm.av)]))→r=true →
    ∃D D',s0 bb=some (.cells D)∧i*4+4≤D.length∧aK D (i*4) [.int .i64 kb,.int .i64 nb,.str sb',.slice (tsb.map Tm.av)]=D'∧AN N bb st σ' (s0.aC bb (.cells D')):=by
    rintro _ rfl rfl
    unfold jX at h3
    split at h3
    · cases h3
    · cases h3
      obtain⟨D,D',e1,e2,e3,e4⟩:=(hS' (.cells [.int .i64 1,.int .i64 i,.str sa,.slice (tsa.map Tm.av)]) (.cells [.int .i64 kb,.int .i64 nb,.str sb',.slice (tsb.map Tm.av)])).set hi (.mk kb nb sb' tsb)
      refine⟨D,D',e1,e2,by rw[←e3,aV];try rfl,e4,fun x o hx hxb=>?_⟩
      rw[aB.aL _ _ hxb]
      exact(hQ _ _).2 x o hx hxb
   by_cases h5:kb=1
   · subst h5
     simp -implicitDefEqProofs only[bU,h6 rfl,bZ,fR,h54.symm,aA,seval,nE]
     refine hcw.to ?_
     cases r with
     | false=>
      simp -implicitDefEqProofs only[aA,seval]
      unfold jX at h3
      split at h3
      · cases h3
        exact iB _ _
      · cases h3
     | true=>
      obtain⟨D,D',e1,e2,e3,e4⟩:=tail _ rfl rfl
      simp -implicitDefEqProofs only[hat,e1,e2,aK,h54.symm,aA,seval,nE]
      rw[←e3] at e4
      exact e4
   · simp -implicitDefEqProofs only[bU,h5,bZ,fR,h54.symm,aA,seval,nE]
     refine hcw.to ?_
     cases r with
     | false=>
      simp -implicitDefEqProofs only[aA,seval]
      unfold jX at h3
      split at h3
      · cases h3
        exact iB _ _
      · cases h3
     | true=>
      obtain⟨D,D',e1,e2,e3,e4⟩:=tail _ rfl rfl
      simp -implicitDefEqProofs only[hat,e1,e2,aK,h54.symm,aA,seval,nE]
      rw[←e3] at e4
      exact e4
 · subst h2
   have hsw:=aKI h1 rfl
   simp only[FA,aV] at hsw
   simp -implicitDefEqProofs only[bU,h1,bZ,fR,h54.symm,aA,seval,nE]
   refine(hsw _ (hS' _ _)).mono ?_
   rintro _ s2 ⟨rfl,hp⟩
   simp -implicitDefEqProofs only[aA,seval]
   exact(hQ _ _).trans hp
 · rw[sP] at h3
   simp only[Tm.k,Tm.n,Tm.s,Tm.ts] at h3
   obtain⟨rfl,rfl,rfl,hlen⟩:=h3
   have cZ:decide ((tsa.length:Int)=(tsb.length:Int))=true:=by simp [hlen]
   simp -implicitDefEqProofs only[bU,bZ,cZ,fR,h54.symm,aF,h1,aA,seval,nE]
   have hS0:=hS' (.cells [.int .i64 ka,.int .i64 na,.str sa,.slice (tsa.map Tm.av)]) (.cells [.int .i64 ka,.int .i64 na,.str sa,.slice (tsb.map Tm.av)])
   have hQ0:=hQ (.cells [.int .i64 ka,.int .i64 na,.str sa,.slice (tsa.map Tm.av)]) (.cells [.int .i64 ka,.int .i64 na,.str sa,.slice (tsb.map Tm.av)])
   have e4:((st.aC b4 (.cells [.int .i64 ka,.int .i64 na,.str sa,.slice (tsa.map Tm.av)])).aC b5 (.cells [.int .i64 ka,.int .i64 na,.str sa,.slice (tsb.map Tm.av)])) b4=some (.cells [.int .i64 ka,.int .i64 na,.str sa,.slice (tsa.map Tm.av)]):=by rw[aB.aL _ _ h54.symm,aB.aP]
   have e5:((st.aC b4 (.cells [.int .i64 ka,.int .i64 na,.str sa,.slice (tsa.map Tm.av)])).aC b5 (.cells [.int .i64 ka,.int .i64 na,.str sa,.slice (tsb.map Tm.av)])) b5=some (.cells [.int .i64 ka,.int .i64 na,.str sa,.slice (tsb.map Tm.av)]):=aB.aP _ _ _
   generalize (st.aC b4 (.cells [.int .i64 ka,.int .i64 na,.str sa,.slice (tsa.map Tm.av)])).aC b5 (.cells [.int .i64 ka,.int .i64 na,.str sa,.slice (tsb.map Tm.av)])=s0 at *
   refine eP (σ:=Sub×List Int×aB) [1000000,3,4] [2,3,4] tsa
    (fun i p=>cO p.1∧cW (bB N) p.1∧AN N bb s0 p.1 p.2.2∧d7 g p.1 (tsa.drop i) (tsb.drop i)=some (r,σ',p.2.1))
    (fun i _=>[(6,.bool false),(7,.int .i64 i)]) (fun _ p=>p.2.2) (by decide +kernel)
    ⟨(σ,add,s0),⟨hg,hok,AN.refl hS0,h4⟩,aO.mk (by simp -implicitDefEqProofs only[aA,↓aU,seval])⟩ (fun i x p hx hlt bV hdr hinv=>?_) (fun p hge hinv=>?_)
   case refine_2=>
    obtain⟨σi,rest,si⟩:=p
    obtain⟨i1,i2,i3,i5⟩:=hinv
    simp only at i1 i2 i3 i5
    have f4:=i3.2 b4 _ e4 h4b
    rw[kK,hlen,kK] at i5
    simp only[d7,Option.some.injEq,Prod.mk.injEq] at i5
    obtain⟨rfl,rfl,rfl⟩:=i5
    simp -implicitDefEqProofs only[hge,f4,aF,aA,seval,nE]
    exact hQ0.trans i3
   obtain⟨σi,rest,si⟩:=p
   obtain⟨i1,i2,i3,i5⟩:=hinv
   simp only at i1 i2 i3 i5
   obtain⟨y,hy⟩:∃y,tsb[i]?=some y:=⟨_,eE (by omega)⟩
   have AB:tsb.drop i=y::tsb.drop (i+1):=by
    obtain⟨h1,h2⟩:=gP.1 hy
    rw[qS h1,h2]
   rw[hdr,AB,d7] at i5
   have f4:=i3.2 b4 _ e4 h4b
   have f5:=i3.2 b5 _ e5 h5b
   have hw:=bO (n:=(i:Int)+1)
   simp -implicitDefEqProofs only[bV,aF,f4,aA,seval,nE]
   refine wP [(0,1),(2,1),(5,1),(7,1),(10,1),(1,2),(3,1),(4,2),(6,2),(8,1),(9,2),(11,0),(12,1)] [0,2,5,7,10,1,3,4,6,8,9,12] mixed ?_
   simp -implicitDefEqProofs only[f4,f5,bM (av:=Tm.av) aN hx (aJ x),bM (av:=Tm.av) aN hy (aJ y),aA,seval,nE]
   cases hu:dI g σi x y with
   | none=>rw[hu] at i5;cases i5
   | some p1=>
    obtain⟨r1,σ1,tr1⟩:=p1
    rw[hu] at i5
    have hx1:bB N x:=hka h1 x (cP hx)
    have hy1:bB N y:=hkb h2 y (cP hy)
    have hU:=wO i1 hu
    have hA:=(M5 (qJ N) g).1 σi x y r1 σ1 tr1 i1 hu i2 hx1 hy1
    refine(IH σi x y r1 σ1 tr1 i1 i2 hx1 hy1 hu si i3.1).mono ?_
    rintro _ s2 ⟨rfl,hp2⟩
    cases r1 with
    | false=>
     simp only[Option.some.injEq,Prod.mk.injEq] at i5
     obtain⟨rfl,rfl,rfl⟩:=i5
     simp -implicitDefEqProofs only[aA,seval]
     exact hQ0.trans (i3.trans hp2)
    | true=>
     simp only at i5
     cases hu2:d7 g σ1 (tsa.drop (i+1)) (tsb.drop (i+1)) with
     | none=>rw[hu2] at i5;cases i5
     | some p2=>
      obtain⟨r2,σ2,tr2⟩:=p2
      rw[hu2] at i5
      simp only[Option.some.injEq,Prod.mk.injEq] at i5
      obtain⟨rfl,rfl,_⟩:=i5
      simp -implicitDefEqProofs only[aA,seval]
      exact⟨(σ1,tr2,s2),⟨hU.gQ,hA,i3.trans hp2,hu2⟩,aO.mk (by simp -implicitDefEqProofs only[hw,aA,seval])⟩
 · have hd:ka=kb→na=nb→sa=sb'→¬(tsa.length:Int)=(tsb.length:Int):=by
    intro e1 e2 e3 e4
    have:uB (Tm.mk ka na sa tsa) (Tm.mk kb nb sb' tsb)=true:=sP.2 ⟨e1,e2,e3,by simp only[Tm.ts];omega⟩
    rw[h3] at this;cases this
   by_cases e1:ka=kb
   · by_cases e2:na=nb
     · by_cases e3:sa=sb'
       · have e4:=hd e1 e2 e3
         subst e1 e2 e3
         simp -implicitDefEqProofs only[bZ,bU,fR,h54.symm,h1,aF,e4,aA,seval,nE]
         exact iB _ _
       · subst e1 e2
         simp -implicitDefEqProofs only[bZ,bU,fR,h54.symm,h1,e3,aA,seval,nE]
         exact iB _ _
     · subst e1
       simp -implicitDefEqProofs only[bZ,bU,fR,h54.symm,h1,e2,aA,seval,nE]
       exact iB _ _
   · clear hd
     simp -implicitDefEqProofs only[bZ,fR,h54.symm,h1,h2,e1,aA,seval,nE]
     exact iB _ _
theorem VY(N:Nat)(hN:N≤1048576)(bb:Nat):∀(g:Nat) (σ:Sub) (a b:Tm) (r:Bool) (σ':Sub) (add:List Int),cO σ→cW (bB N) σ→bB N a→bB N b→dI g σ a b=some (r,σ',add)→FA N 306 bb σ a b r σ'
 | 0,σ,a,b,r,σ',add,hg,hok,ha,hb,h=>by simp only[dI] at h;cases h
 | g+1,σ,a,b,r,σ',add,hg,hok,ha,hb,h=>by
  refine aKT N hN g bb (VY N hN bb g) σ a b r σ' add hg hok ha hb h fun h1 h2=>?_
  obtain⟨rk,B,G⟩:=hg.rs
  obtain⟨fa,wa⟩:=G.wk a
  obtain⟨fb,wb⟩:=G.wk b
  have eb:=aO2 wb
  have ea:=aO2 wa
  have hbn:jX σ (wk σ b).n (wk σ a)=(r,σ',add):=by
   rcases M3 h with h | h | h | h | h
   · exact absurd h.1 h1
   · exact absurd h.1 h1
   · exact h.2.2
   · exact absurd h2 h.2.1
   · exact absurd h2 h.2.1
  refine aKT N hN 0 bb (fun σ a b r σ' add _ _ _ _ h=>by simp only[dI] at h;cases h) σ (wk σ b) (wk σ a) r σ' add hg hok (wb.all (p:=bB N) hok hb) (wa.all (p:=bB N) hok ha) ?_ fun h3=>?_
  · rw[dI,eb,ea,aE (fun h=>h1 h.2.1),aH h2,hbn]
  · rw[eb] at h3;exact absurd h2 h3
end Go.AW
namespace Go.AW
noncomputable def rR(σ:Sub)(a b:Tm):Int×Sub×List Int:=(iM (gD σ a b).1,(gD σ a b).2)
noncomputable def vC(σ:Sub)(x y z:Tm):Int×Sub×List Int:=
 if x.k=1∨y.k=1 then(2,σ,[]) else if x.k≠2∨y.k≠3∨y.ts.length=0 then(3,σ,[]) else match m7 x y with
  | some u=>rR σ z u
  | none=>(1,σ,[])
noncomputable def dE(σ:Sub)(s:ByteArray):List Tm→Int×Sub×List Int
 | []=>(iM (decide (s=⟨#[116,114,117,101]⟩)),σ,[])
 | [x]=>(iM (s8 s x),σ,[])
 | [x,y]=>if gB q9 s=true then(xK s x y,σ,[]) else if s=⟨#[61]⟩ then rR σ x y else if s=⟨#[92,61]⟩ then(iM (!(gD σ x y).1),σ,[])
  else if s=⟨#[61,61]⟩ then(iM (x.same y),σ,[]) else if y.ev.2≠0 then(y.ev.2,σ,[]) else rR σ x (nU y.ev.1)
 | [x,y,z]=>vC σ x y z
 | _=>(0,σ,[])
structure mY (N:Int) (σ:Sub) (σ':Sub) (add:List Int):Prop where
 gQ:cO σ'
 ok:cW (bB N) σ'
 a8:∀n,n∉add→σ' n=σ n
 new:∀n∈add,σ n=none∧σ' n≠none
 nodup:add.Nodup
 gB:∀n∈add,0≤n∧n<N
theorem mY.same{N:Int}{σ:Sub}(hg:cO σ)(ho:cW (bB N) σ):mY N σ σ []:=⟨hg,ho,fun _ _=>rfl,by simp,oW,by simp⟩
theorem y8.wJ{N:Int}{σ:Sub}{a b:Tm}{r:Bool}{σ':Sub}{tr:List Int}(h:y8 N σ a b r σ' tr):mY N σ σ' tr:=⟨h.mA.gQ,h.ok,h.mA.a8,h.mA.new,h.mA.nodup,h.gB⟩
theorem mY.mA{N:Nat}{σ:Sub}{a b:Tm}(hg:cO σ)(ho:cW (bB N) σ)(ha:bB N a)(hb:bB N b):mY N σ (gD σ a b).2.1 (gD σ a b).2.2:=by
 obtain⟨r,σ',tr,h⟩:=rS hg ho ha hb
 rw[h.eq]
 exact h.wJ
theorem LC{N:Int}{n:Int}(h:jT n):bB N (nU n):=by
 have h1:=aZQ h
 have h2:=Tm.IN h1
 refine⟨⟨h2.1,h2.2.1,fun v hv=>?_⟩,Tm.EP h1⟩
 unfold nU at hv
 rw[Tm.k8 (by decide)] at hv
 obtain⟨t,ht,_⟩:=hv
 cases ht
theorem VB{N:Int}{x y u:Tm}(hy:bB N y)(hk:y.k≠1)(h:m7 x y=some u):bB N u:=qJ N y hk hy u (VA h)
theorem LZ{N:Nat}{σ:Sub}(hg:cO σ)(ho:cW (bB N) σ)(s:ByteArray)(ks:List Tm)(hv:∀x∈ks,bB N x):mY N σ (dE σ s ks).2.1 (dE σ s ks).2.2:=by
 have hs:=mY.same hg ho
 match ks,hv with
 | [],_=>exact hs
 | [x],_=>exact hs
 | [x,y],hv=>
  have hx:=hv x (by simp)
  have hy:=hv y (by simp)
  simp only[dE]
  split
  · exact hs
  split
  · exact mY.mA hg ho hx hy
  split
  · exact hs
  split
  · exact hs
  split
  · exact hs
  · exact mY.mA hg ho hx (LC (Tm.t6 y hy.1))
 | [x,y,z],hv=>
  have hy:=hv y (by simp)
  have hz:=hv z (by simp)
  simp only[dE,vC]
  split
  · exact hs
  rename_i h1
  split
  · exact hs
  split
  · rename_i u hu
    exact mY.mA hg ho hz (VB hy (fun h=>h1 (.inr h)) hu)
  · exact hs
 | a::b::c::d::l,_=>exact hs
theorem aVO(ρ:Int→Int):∀t:Tm,(b7 ρ t).ev=t.ev:=by
 intro t
 induction t using Tm.ind with
 | h k n s ts ih=>
  by_cases h1:k=1
  · rw[yB ρ (t:=.mk k n s ts) h1,vr,Tm.xP,Tm.xP,h1]
    simp
  rw[wI ρ h1,Tm.xP,Tm.xP,tN]
  have:ts.map (Tm.ev∘b7 ρ)=ts.map Tm.ev:=qU fun x hx=>ih x hx
  rw[this]
section
variable {ρ:Int→Int} {N:Int} {σ τ:Sub}
theorem fQ.back(S:fQ ρ N σ τ):∃δ:Int→Int,∀v,0≤v→v<N→δ (ρ v)=v:=by
 refine⟨fun w=>open Classical in if h:∃v,0≤v∧v<N∧ρ v=w then h.choose else 0,fun v h0 h1=>?_⟩
 have h:∃u,0≤u∧u<N∧ρ u=ρ v:=⟨v,h0,h1,rfl⟩
 simp only[dif_pos h]
 obtain⟨a,b,c⟩:=h.choose_spec
 exact S.inj _ _ a b h0 h1 c
theorem fQ.a1W(S:fQ ρ N σ τ){x y:Tm}(hx:cJ N x)(hy:cJ N y)(e:b7 ρ x=b7 ρ y):x=y:=by
 obtain⟨δ,hδ⟩:=S.back
 have key:∀ {t:Tm},cJ N t→b7 δ (b7 ρ t)=t:=fun {t} ht=>by
  rw[show b7 δ (b7 ρ t)=t.aG fun v=>vr (δ (ρ v)) from HO ρ _ t]
  rw[mN (g:=vr) t fun v hv=>by rw[hδ v (ht.2.2 v hv).1 (ht.2.2 v hv).2]]
  exact AM t ht.2.1
 rw[←key hx,e,key hy]
theorem fQ.same(S:fQ ρ N σ τ){x y:Tm}(hx:cJ N x)(hy:cJ N y):(b7 ρ x).same (b7 ρ y)=x.same y:=by
 rw[uQ,Tm.HQ,Tm.HQ]
 exact⟨S.a1W hx hy,fun e=>by rw[e]⟩
theorem a3C(ρ:Int→Int)(s:ByteArray)(x:Tm):s8 s (b7 ρ x)=s8 s x:=by
 unfold s8
 rw[yA]
 by_cases h:x.k=1
 · rw[h];simp
 · have:(b7 ρ x).ts.length=x.ts.length:=by
    rw[D5 ρ h]
    simp only[Tm.ts,aF]
   rw[this]
theorem aQH(ρ:Int→Int){x y:Tm}(hx:x.k=2)(hy:y.k=3):m7 (b7 ρ x) (b7 ρ y)=(m7 x y).map (b7 ρ):=by
 obtain⟨k,n,s,ts⟩:=x
 obtain⟨k',n',s',ts'⟩:=y
 simp only[Tm.k] at hx hy
 subst hx hy
 rw[wI ρ (by decide),wI ρ (by decide)]
 unfold m7
 show(if 1≤n∧n≤((ts'.map (b7 ρ)).length:Int) then(ts'.map (b7 ρ))[(n - 1).toNat]? else none)=Option.map (b7 ρ) (if 1≤n∧n≤(ts'.length:Int) then ts'[(n - 1).toNat]? else none)
 by_cases h:1≤n∧n≤(ts'.length:Int)
 · rw[aH h,aH (by rw[aF];exact h),mW]
 · rw[aE h,aE (by rw[aF];exact h)];try rfl
def mH(ρ:Int→Int)(N:Int)(x y:Int×Sub×List Int):Prop:=y.1=x.1∧y.2.2=x.2.2.map ρ∧fQ ρ N x.2.1 y.2.1
theorem mH.same(S:fQ ρ N σ τ)(c:Int):mH ρ N (c,σ,[]) (c,τ,[]):=⟨rfl,rfl,S⟩
end
section
variable {ρ:Int→Int} {N:Nat} {σ τ:Sub}
theorem mH.mA(S:fQ ρ N σ τ)(hg:cO σ)(hg':cO τ)(ho:cW (bB N) σ){a b:Tm}(ha:bB N a)(hb:bB N b):mH ρ N (rR σ a b) (rR τ (b7 ρ a) (b7 ρ b)):=by
 obtain⟨r,σ',tr,h⟩:=rS hg ho ha hb
 obtain⟨g,hg2⟩:=h.run
 obtain⟨τ',e,S',_⟩:=S.gD hg hg' ho.k0 ha.1 hb.1 hg2
 unfold rR
 rw[h.eq,e]
 exact⟨rfl,rfl,S'⟩
theorem a1X(ρ:Int→Int)(n:Int):b7 ρ (nU n)=nU n:=wI ρ (by decide)
theorem fQ.dE(S:fQ ρ N σ τ)(hg:cO σ)(hg':cO τ)(ho:cW (bB N) σ)(s:ByteArray)(ks:List Tm)(hv:∀x∈ks,bB N x):mH ρ N (AW.dE σ s ks) (AW.dE τ s (ks.map (b7 ρ))):=by
 match ks,hv with
 | [],_=>exact mH.same S _
 | [x],_=>
  simp only[bA,aW,AW.dE,a3C]
  exact mH.same S _
 | [x,y],hv=>
  have hx:=hv x (by simp)
  have hy:=hv y (by simp)
  have hu:=mH.mA S hg hg' ho hx hy
  simp only[bA,aW,AW.dE,xK,aVO,S.same hx.1 hy.1]
  by_cases h1:gB q9 s=true
  · rw[aH h1,aH h1];exact mH.same S _
  rw[aE h1,aE h1]
  by_cases h2:s=⟨#[61]⟩
  · rw[aH h2,aH h2];exact hu
  rw[aE h2,aE h2]
  by_cases h3:s=⟨#[92,61]⟩
  · rw[aH h3,aH h3]
    obtain⟨r,σ',tr,h⟩:=rS hg ho hx hy
    obtain⟨g,hg2⟩:=h.run
    obtain⟨τ',e,_,_⟩:=S.gD hg hg' ho.k0 hx.1 hy.1 hg2
    rw[h.eq,e]
    exact mH.same S _
  rw[aE h3,aE h3]
  by_cases h4:s=⟨#[61,61]⟩
  · rw[aH h4,aH h4];exact mH.same S _
  rw[aE h4,aE h4]
  by_cases h5:y.ev.2≠0
  · rw[aH h5,aH h5];exact mH.same S _
  rw[aE h5,aE h5]
  have:=mH.mA S hg hg' ho hx (LC (N:=N) (Tm.t6 y hy.1))
  rw[a1X] at this
  exact this
 | [x,y,z],hv=>
  have hy:=hv y (by simp)
  have hz:=hv z (by simp)
  simp only[bA,aW,AW.dE,vC,yA]
  by_cases h1:x.k=1∨y.k=1
  · rw[aH h1,aH h1];exact mH.same S _
  rw[aE h1,aE h1]
  have hl:(b7 ρ y).ts.length=y.ts.length:=by
   rw[D5 ρ (t:=y) (fun h=>h1 (.inr h))]
   simp only[Tm.ts,aF]
  rw[hl]
  by_cases h2:x.k≠2∨y.k≠3∨y.ts.length=0
  · rw[aH h2,aH h2];exact mH.same S _
  rw[aE h2,aE h2]
  have kx:x.k=2:=yU fun h=>h2 (.inl h)
  have ky:y.k=3:=yU fun h=>h2 (.inr (.inl h))
  rw[aQH ρ kx ky]
  cases hu:m7 x y with
  | none=>exact mH.same S _
  | some u=>exact mH.mA S hg hg' ho hz (VB hy (fun h=>h1 (.inr h)) hu)
 | a::b::c::d::l,_=>
  simp only[bA,AW.dE]
  exact mH.same S _
end
theorem a2Y(σ:Sub)(s:ByteArray)(ks:List Tm):0≤(dE σ s ks).1:=by
 have hc:∀b,0≤iM b:=fun b=>by unfold iM;split<;>omega
 have hr:∀n,0≤(i8 n).2:=fun n=>by unfold i8;split<;>simp
 have har:∀s a b,0≤(qY s a b).2:=fun s a b=>by
  unfold qY
  split
  · exact hr _
  split
  · exact hr _
  split
  · exact hr _
  split
  · simp
  split
  · simp
  · simp
 have hb:∀(f:Int→Int→Int×Int) (x y:Int×Int),(∀a b,0≤(f a b).2)→0≤x.2→0≤y.2→0≤(both f x y).2:=fun f x y hf hx hy=>by
  unfold both
  split
  · exact hx
  split
  · exact hy
  · exact hf _ _
 have he:∀t:Tm,0≤t.ev.2:=by
  intro t
  induction t using Tm.ind with
  | h k n s ts ih=>
   rw[Tm.xP]
   split
   · simp
   split
   · simp
   split
   · match ts,ih with
     | [],_=>simp [two]
     | [x],_=>simp [two]
     | [x,y],ih=>exact hb _ _ _ (har s) (ih x (by simp)) (ih y (by simp))
     | x::y::z::l,_=>simp [two]
   · simp
 match ks with
 | []=>exact hc _
 | [x]=>exact hc _
 | [x,y]=>
  simp only[dE]
  split
  · exact hb _ _ _ (fun _ _=>hc _) (he x) (he y)
  split
  · exact hc _
  split
  · exact hc _
  split
  · exact hc _
  split
  · exact he y
  · exact hc _
 | [x,y,z]=>
  simp only[dE,vC]
  split
  · simp
  split
  · simp
  split
  · exact hc _
  · simp
 | a::b::c::d::l=>simp [dE]
end Go.AW
namespace Go.AW
open Go.Proofs.Tryz
theorem aQG(σ:Sub)(x y z:Tm):vC σ x y z=if(qZ x y).2=0 then rR σ z (qZ x y).1 else((qZ x y).2,σ,[]):=by
 unfold vC qZ
 split
 · simp
 split
 · simp
 cases m7 x y<;>rfl
def qW(N bb:Nat)(st:aB)(x:Int×Sub×List Int)(r:AV)(st':aB):Prop:=r=.int .i64 x.1∧AN N bb st x.2.1 st'
theorem qW.same{N bb:Nat}{st:aB}{σ:Sub}{r:AV}(h:fO N st bb σ)(k:Int)(hr:r=.int .i64 k):qW N bb st (k,σ,[]) r st:=⟨hr,AN.refl h⟩
theorem FQ{N:Nat}(hN:N≤1048576){σ:Sub}(hg:cO σ)(ho:cW (bB N) σ)(a b:Tm)(ha:bB N a)(hb:bB N b)(bb:Nat)(st:aB)(hS:fO N st bb σ) :
 aD prog 306 [a.av,b.av,.mslice bb 0 N 4] st (fun r st'=>r=.bool (gD σ a b).1∧AN N bb st (gD σ a b).2.1 st'):=by
 obtain⟨r,σ',tr',hU⟩:=rS hg ho ha hb
 obtain⟨g,kX⟩:=hU.run
 rw[hU.eq]
 exact VY N hN bb g σ a b r σ' tr' hg ho ha hb kX st hS
abbrev qO:=zi tI_3 (zi zI_3 (zi aX (zi tI_4 (zi zI_4 (zi cE (zi tI_9 (zi zI_9 (zi cI (zi tI_31 (zi zI_31 (zi aN (zi bG (zi bH (zi b9 (zi tI_66 (zi zI_66 (zi bQ (zi bR (zi bS (zi bT bP))))))))))))))))))))
theorem aQ4{N:Nat}(hN:N≤1048576){σ:Sub}(hg:cO σ)(ho:cW (bB N) σ)(n:Int)(s:ByteArray)(ks:List Tm)(hb:isBuiltin s (ks.length:Int)=true)(hne:s≠⟨#[92,61]⟩)(hv:∀x∈ks,bB N x)(bb:Nat)(st:aB)(hS:fO N st bb σ) :
 aD prog 270 [(Tm.mk 3 n s ks).av,.mslice bb 0 N 4] st (qW N bb st (dE σ s ks)):=by
 have hcs:=VS hb
 have DA:=fun x y (hxy:ks= [x,y])=>aTE n s x y (hv x (by simp [hxy])).1 (hv y (by simp [hxy])).1
 have aJU:=fun x y z (hxy:ks= [x,y,z])=>aTD n s x y z (hv y (by simp [hxy])).1
 have aJW:=fun x (hxy:ks= [x]) h=>aTJ n s x h
 simp only[aV] at DA aJU aJW ⊢
 refine wF [1000000] 2 func270 ntmps270 rfl rfl ?_
 intro _
 simp -implicitDefEqProofs only[aA,seval,qO]
 refine aQ (fun h=>?_) (fun h=>?_)
 · have hs:s=⟨#[116,114,117,101]⟩:=by simpa using h
   have hk:=LE (ts:=ks) (by subst hs;simpa [isBuiltin] using hb)
   subst hk
   simp -implicitDefEqProofs only[aA,seval]
   exact qW.same hS _ (by simp [iM,hs])
 have ht:s≠⟨#[116,114,117,101]⟩:=by simpa using h
 simp -implicitDefEqProofs only[aA,seval]
 refine aQ (fun h=>?_) (fun h=>?_)
 · have hs:s=⟨#[102,97,105,108]⟩:=by simpa using h
   have hk:=LE (ts:=ks) (by subst hs;simpa [isBuiltin] using hb)
   subst hk
   simp -implicitDefEqProofs only[aA,seval]
   exact qW.same hS _ (by simp [iM,hs])
 have hf:s≠⟨#[102,97,105,108]⟩:=by simpa using h
 simp -implicitDefEqProofs only[aA,seval]
 refine aQ (fun h=>?_) (fun h=>?_)
 · have hs:s=⟨#[61]⟩:=by simpa using h
   obtain⟨x,y,rfl⟩:=uI (ts:=ks) (by subst hs;simp [isBuiltin] at hb;omega)
   have e:dE σ s [x,y]=rR σ x y:=by subst hs;rfl
   rw[e]
   have d4:dF prog 31 (.slice [x.av,y.av]) (.int .i64 0)=some (.pptr x.av):=bM (av:=Tm.av) (l:=[x,y]) (i:=0) aN rfl (aJ x)
   have gN:dF prog 31 (.slice [x.av,y.av]) (.int .i64 1)=some (.pptr y.av):=bM (av:=Tm.av) (l:=[x,y]) (i:=1) aN rfl (aJ y)
   simp -implicitDefEqProofs only[aA,seval]
   refine wX [(0,1),(1,1),(2,1),(3,1),(4,1),(5,1),(6,1),(7,1),(8,1),(9,0),(10,0),(11,1)] [0,1,2,3,4,5,6,7,8,11] eH mixed rfl eT ?_
   simp -implicitDefEqProofs only[d4,gN,aT,aJ,aA,seval,qO]
   refine(FQ hN hg ho x y (hv x (by simp)) (hv y (by simp)) bb _ hS).mono ?_
   rintro _ s2 ⟨rfl,hP⟩
   simp -implicitDefEqProofs only[aA,seval]
   refine⟨eT,?_⟩
   refine(sC _ _).to ?_
   simp -implicitDefEqProofs only[aA,seval]
   exact⟨eT,rfl,hP⟩
 have he:s≠⟨#[61]⟩:=by simpa using h
 simp -implicitDefEqProofs only[aA,seval]
 refine aQ (fun h=>absurd (by simpa using h) hne) (fun h=>?_)
 simp -implicitDefEqProofs only[aA,seval]
 refine aQ (fun h=>?_) (fun h=>?_)
 · have hs:s=⟨#[61,61]⟩:=by simpa using h
   obtain⟨x,y,rfl⟩:=uI (ts:=ks) (by subst hs;simp [isBuiltin] at hb;omega)
   have e:dE σ s [x,y]=(iM (x.same y),σ,[]):=by subst hs;rfl
   rw[e]
   have d4:dF prog 31 (.slice [x.av,y.av]) (.int .i64 0)=some (.pptr x.av):=bM (av:=Tm.av) (l:=[x,y]) (i:=0) aN rfl (aJ x)
   have gN:dF prog 31 (.slice [x.av,y.av]) (.int .i64 1)=some (.pptr y.av):=bM (av:=Tm.av) (l:=[x,y]) (i:=1) aN rfl (aJ y)
   simp -implicitDefEqProofs only[aA,seval]
   refine CG mixed (by decide +kernel) (by decide +kernel) ?_
   simp -implicitDefEqProofs only[d4,gN,aT,aJ,aA,seval,qO]
   refine iD (XI x y _) ?_
   simp -implicitDefEqProofs only[aA,seval]
   refine iD (sC _ _) ?_
   simp -implicitDefEqProofs only[aA,seval]
   exact qW.same hS _ rfl
 have hee:s≠⟨#[61,61]⟩:=by simpa using h
 simp -implicitDefEqProofs only[aA,seval]
 refine aQ (fun h=>?_) (fun h=>?_)
 · have hs:s=⟨#[105,115]⟩:=by simpa using h
   obtain⟨x,y,rfl⟩:=uI (ts:=ks) (by subst hs;simp [isBuiltin] at hb;omega)
   have e:dE σ s [x,y]=if y.ev.2≠0 then(y.ev.2,σ,[]) else rR σ x (nU y.ev.1):=by subst hs;rfl
   rw[e]
   have hy:=hv y (by simp)
   have hin:=LC (N:=N) (Tm.t6 y hy.1)
   have har:=fun st=>JX y st hy.1
   generalize y.ev.1=a at *
   generalize y.ev.2=ca at *
   have d4:dF prog 31 (.slice [x.av,y.av]) (.int .i64 0)=some (.pptr x.av):=bM (av:=Tm.av) (l:=[x,y]) (i:=0) aN rfl (aJ x)
   have gN:dF prog 31 (.slice [x.av,y.av]) (.int .i64 1)=some (.pptr y.av):=bM (av:=Tm.av) (l:=[x,y]) (i:=1) aN rfl (aJ y)
   simp -implicitDefEqProofs only[gN,aT,aJ,aA,seval,qO]
   refine(har _).to ?_
   simp -implicitDefEqProofs only[aA,seval]
   refine aQ (fun h4=>?_) (fun h4=>?_)
   · simp -implicitDefEqProofs only[aA,seval]
     have h4':ca≠0:=by simpa using h4
     rw[aH h4']
     exact qW.same hS _ rfl
   have h4':ca=0:=by simpa using h4
   subst h4'
   rw[aE (by simp)]
   simp -implicitDefEqProofs only[aA,seval]
   refine wX [(0,1),(1,1),(2,1),(3,1),(4,1),(6,1),(5,0),(7,0),(8,0),(9,1)] [0,1,2,3,4,6,9] eH mixed rfl eT ?_
   simp -implicitDefEqProofs only[d4,aT,aJ,aA,seval,qO]
   refine(CJ a _).to ?_
   rw[←aZP]
   simp -implicitDefEqProofs only[aA,seval]
   refine⟨eT,?_⟩
   refine(FQ hN hg ho x (nU a) (hv x (by simp)) hin bb _ hS).mono ?_
   rintro _ s2 ⟨rfl,hP⟩
   simp -implicitDefEqProofs only[aA,seval]
   refine⟨eT,?_⟩
   refine(sC _ _).to ?_
   simp -implicitDefEqProofs only[aA,seval]
   exact⟨eT,rfl,hP⟩
 have his:s≠⟨#[105,115]⟩:=by simpa using h
 simp -implicitDefEqProofs only[aA,seval]
 refine aQ (fun h=>?_) (fun h=>?_)
 · have hs:s=⟨#[97,114,103]⟩:=by simpa using h
   obtain⟨x,y,z,rfl⟩:=aKS (ts:=ks) (by subst hs;simp [isBuiltin] at hb;omega)
   have e:dE σ s [x,y,z]=vC σ x y z:=rfl
   rw[e,aQG]
   have hz:=hv z (by simp)
   have hy:=hv y (by simp)
   have hga:=aJU x y z rfl
   have hgv:(qZ x y).2=0→bB N (qZ x y).1:=fun h=>by
    unfold qZ at h ⊢
    split at h
    · cases h
    rename_i h1
    rw[aE h1]
    split at h
    · cases h
    rename_i h2
    rw[aE h2]
    cases hu:m7 x y with
    | none=>rw[hu] at h;cases h
    | some u=>exact qJ N y (fun h=>h1 (.inr h)) hy u (VA hu)
   generalize (qZ x y).1=u at *
   generalize (qZ x y).2=cu at *
   have sM:dF prog 31 (.slice [x.av,y.av,z.av]) (.int .i64 2)=some (.pptr z.av):=bM (av:=Tm.av) (l:=[x,y,z]) (i:=2) aN rfl (aJ z)
   simp only[bA,aW] at hga
   simp -implicitDefEqProofs only[aA,seval,qO]
   refine(hga _).to ?_
   simp -implicitDefEqProofs only[aJ,cG,cC,aA,↓aU,seval,qO]
   refine aQ (fun h4=>?_) (fun h4=>?_)
   · simp -implicitDefEqProofs only[aA,seval]
     have h4':cu≠0:=by simpa using h4
     rw[aE h4']
     exact qW.same hS _ rfl
   have h4':cu=0:=by simpa using h4
   subst h4'
   rw[aH rfl]
   simp -implicitDefEqProofs only[aA,seval]
   refine wX [(0,1),(1,1),(2,1),(3,1),(4,1),(5,1),(6,0),(7,0),(8,1)] [0,1,2,3,4,5,8] eH mixed rfl eT ?_
   simp -implicitDefEqProofs only[sM,aT,aJ,aA,seval,qO]
   refine(FQ hN hg ho z u hz (hgv rfl) bb _ hS).mono ?_
   rintro _ s2 ⟨rfl,hP⟩
   simp -implicitDefEqProofs only[aA,seval]
   refine⟨eT,?_⟩
   refine(sC _ _).to ?_
   simp -implicitDefEqProofs only[aA,seval]
   exact⟨eT,rfl,hP⟩
 have aJL:s≠⟨#[97,114,103]⟩:=by simpa using h
 simp -implicitDefEqProofs only[aA,seval,qO]
 refine(aTF s _).to ?_
 simp -implicitDefEqProofs only[aA,seval]
 refine aQ (fun h=>?_) (fun h=>?_)
 · have hlen:ks.length=2:=by
    rcases hcs with ⟨h2,h3⟩ | ⟨h2,h3⟩ | ⟨h2,h3⟩ | ⟨h2,h3⟩
    · exact h2
    · simp [ht,hf] at h3
    · rcases h3 with rfl | rfl | rfl | rfl<;>exact absurd h (by decide)
    · exact absurd h3 aJL
   obtain⟨x,y,rfl⟩:=uI hlen
   have e:dE σ s [x,y]=(xK s x y,σ,[]):=by simp only[dE];rw[aH h]
   rw[e]
   have hc:=DA x y rfl
   simp only[bA,aW] at hc
   simp -implicitDefEqProofs only[aA,seval,qO]
   refine(hc _).to ?_
   simp -implicitDefEqProofs only[aA,seval]
   exact qW.same hS _ rfl
 · have hlen:ks.length=1∧(s=⟨#[118,97,114]⟩∨s=⟨#[110,111,110,118,97,114]⟩∨s=⟨#[97,116,111,109]⟩∨s=⟨#[105,110,116]⟩):=by
    rcases hcs with ⟨h2,h3⟩ | ⟨h2,h3⟩ | ⟨h2,h3⟩ | ⟨h2,h3⟩
    · simp [h,he,hne,hee,his] at h3
    · simp [ht,hf] at h3
    · exact⟨h2,h3⟩
    · exact absurd h3 aJL
   obtain⟨x,rfl⟩:=G8 hlen.1
   have e:dE σ s [x]=(iM (s8 s x),σ,[]):=rfl
   rw[e]
   have hc:=aJW x rfl hlen.2
   simp only[bA,aW] at hc
   simp -implicitDefEqProofs only[aA,seval,qO]
   refine(hc _).to ?_
   simp -implicitDefEqProofs only[aA,seval]
   exact qW.same hS _ rfl
theorem VD(N:Nat)(σ:Sub):vB 4 (c8 N σ):=by
 intro e h
 simp only[c8,cS] at h
 obtain⟨i,_,rfl⟩:=h
 refine⟨J1 _,?_⟩
 cases σ (i:Int) with
 | none=>rfl
 | some u=>exact cC u
theorem FL(N:Nat)(σ:Sub):∀e∈c8 N σ,e.cF=false:=by
 intro e h
 simp only[c8,cS] at h
 obtain⟨i,_,rfl⟩:=h
 cases σ (i:Int) with
 | none=>rfl
 | some u=>exact cG u
theorem tV(N:Nat)(σ:Sub):(c8 N σ).length=N:=by simp [c8]
theorem N8{N:Nat}(h0:0<N)(hN:N≤1048576)(σ:Sub){st:aB}{K:AV→aB→Prop}(hK:∀b,st b=none→fO N (st.aC b (.cells ((c8 N σ).flatMap AV.cells))) b σ→K (.mslice b 0 N 4) (st.aC b (.cells ((c8 N σ).flatMap AV.cells)))) :
 j7 prog 31 st (.fslice []) (.slice (c8 N σ)) K:=by
 have hl:=tV N σ
 refine eW (P:=prog) (st:=st) (b:=0) (l:=[]) (xs:=c8 N σ) (x:=.slice (c8 N σ)) (K:=K) aN bG bH rfl rfl (VD N σ) (by simp) (by simp) (by simp only[aZ,hl];omega) (by simp only[aZ,hl];omega) (fun b hb=>?_)
 have hne: []++c8 N σ≠[]:=by
  rw[eR]
  intro e
  rw[e] at hl
  simp at hl
  omega
 rw[o0 hne,jP hne,eR,hl]
 exact hK b (hb hne) (aB.aP _ _ _)
theorem aQ6{N:Nat}(h0:0<N)(hN:N≤1048576){σ:Sub}(hg:cO σ)(ho:cW (bB N) σ)(n:Int)(s:ByteArray)(x y:Tm)(hs:s=⟨#[92,61]⟩)(hx:bB N x)(hy:bB N y)(st:aB) :
 aD prog 270 [(Tm.mk 3 n s [x,y]).av,.slice (c8 N σ)] st (fun r st'=>r=.int .i64 (iM (!(gD σ x y).1))∧st'=st):=by
 have ht:s≠⟨#[116,114,117,101]⟩:=by subst hs;decide
 have hf:s≠⟨#[102,97,105,108]⟩:=by subst hs;decide
 have he:s≠⟨#[61]⟩:=by subst hs;decide
 refine aD.done ?_
 simp only[aV 3,bA,aW]
 refine wF [1000000] 2 func270 ntmps270 rfl rfl ?_
 intro _
 have d4:dF prog 31 (.slice [x.av,y.av]) (.int .i64 0)=some (.pptr x.av):=bM (av:=Tm.av) (l:=[x,y]) (i:=0) aN rfl (aJ x)
 have gN:dF prog 31 (.slice [x.av,y.av]) (.int .i64 1)=some (.pptr y.av):=bM (av:=Tm.av) (l:=[x,y]) (i:=1) aN rfl (aJ y)
 simp -implicitDefEqProofs only[aA,seval,qO]
 refine aQ (fun h=>absurd (by simpa using h) ht) (fun h=>?_)
 simp -implicitDefEqProofs only[aA,seval]
 refine aQ (fun h=>absurd (by simpa using h) hf) (fun h=>?_)
 simp -implicitDefEqProofs only[aA,seval]
 refine aQ (fun h=>absurd (by simpa using h) he) (fun h=>?_)
 simp -implicitDefEqProofs only[aA,seval]
 refine aQ (fun h=>?_) (fun h=>absurd hs (by simpa using h))
 simp -implicitDefEqProofs only[aA,seval]
 refine wX [(0,1),(1,1),(2,1),(3,1),(4,1),(5,1),(6,1),(7,1),(8,1),(9,1),(10,0),(11,0),(12,1),(13,0),(14,1)] [0,1,2,3,4,5,6,7,8,9,12,14] eH mixed rfl eT ?_
 simp -implicitDefEqProofs only[d4,gN,aT,aJ,aA,seval,qO]
 refine N8 h0 hN σ fun b hb hA0=>?_
 have hD0:aM (st.aC b (.cells ((c8 N σ).flatMap AV.cells))) st:=(aM.refl _).aC hb
 generalize st.aC b (.cells ((c8 N σ).flatMap AV.cells))=s0 at *
 simp -implicitDefEqProofs only[aA,seval]
 refine⟨eT,?_⟩
 refine(FQ hN hg ho x y hx hy b _ hA0).mono ?_
 rintro _ s2 ⟨rfl,hA,hk⟩
 simp -implicitDefEqProofs only[aA,seval]
 refine⟨eT,?_⟩
 refine(sC _ _).to ?_
 simp -implicitDefEqProofs only[aA,seval]
 refine⟨eT,rfl,fun q=>?_⟩
 have key:∀o,st q=some o→s2 q=some o:=fun o h=>hk q o ((hD0 q).2 o h) (by rintro rfl;rw[hb] at h;cases h)
 refine⟨fun h=>?_,key⟩
 cases hq:st q with
 | none=>rfl
 | some o=>rw[key o hq] at h;cases h
theorem aQ5{N:Nat}(h0:0<N)(hN:N≤1048576){σ:Sub}(hg:cO σ)(ho:cW (bB N) σ)(n:Int)(s:ByteArray)(ks:List Tm)(hb:isBuiltin s (ks.length:Int)=true)(hv:∀x∈ks,bB N x)(bb:Nat)(st:aB)(hS:fO N st bb σ) :
 aD prog 270 [(Tm.mk 3 n s ks).av,.mslice bb 0 N 4] st (qW N bb st (dE σ s ks)):=by
 by_cases hs:s=⟨#[92,61]⟩
 · obtain⟨x,y,rfl⟩:=uI (ts:=ks) (by subst hs;simp [isBuiltin] at hb;omega)
   have e:dE σ s [x,y]=(iM (!(gD σ x y).1),σ,[]):=by subst hs;rfl
   rw[e]
   have hc:=aQ6 h0 hN hg ho n s x y hs (hv x (by simp)) (hv y (by simp)) eH
   refine(aD.aI8 (args':=[(Tm.mk 3 n s [x,y]).av,.mslice bb 0 N 4]) (st:=st) rfl hc fun h vs S V=>?_).mono ?_
   · simp only[dA] at V ⊢
     obtain⟨v,vs',rfl,V1,w,ws',rfl,V2,rfl⟩:=V
     refine⟨v,[w],rfl,V1.mono ((aM.eH st).step h),w,[],rfl,?_,rfl⟩
     have h2:=V2.fz S hS (FL N σ) ⟨4,CF N σ⟩
     have h3:(AV.mslice bb 0 N 4).fz bb (c8 N σ)=.slice (c8 N σ):=by simp [AV.fz,tV]
     rw[h3] at h2
     exact h2.mono ((aM.eH (st.erase bb)).step h)
   · rintro _ _ ⟨rfl,rfl⟩
     exact qW.same hS _ rfl
 · exact aQ4 hN hg ho n s ks hb hs hv bb st hS
abbrev EE:=zi tI_3 (zi zI_3 (zi aX (zi tI_31 (zi zI_31 (zi aN (zi bG (zi bH (zi b9 (zi tI_66 (zi zI_66 (zi bQ (zi bR (zi bS (zi bT bP))))))))))))))
theorem aQ2{N:Nat}{σ:Sub}(hok:cW (cJ N) σ){f:Nat}{t u:Tm}(hw:f0 σ f t u)(ht:cJ N t)(st:aB):aD prog 354 [t.av,.slice (c8 N σ)] st (fun r st'=>r=u.av∧st'=st):=by
 refine aD.done ?_
 refine wF [1000000,2] 2 func354 ntmps354 rfl rfl ?_
 intro _
 have hlen:(c8 N σ).length=N:=by simp [c8]
 simp -implicitDefEqProofs only[aA,seval,EE]
 intro b2 h2 b4 h4
 have hne:b4≠b2:=by rintro rfl;rw[aB.aP] at h4;cases h4
 have hn4:st b4=none:=by rw[aB.aL st _ hne] at h4;exact h4
 refine iE (σ:=Nat×Tm) [1000000,2] [1,2,4] (fun p=>f0 σ p.1 p.2 u∧cJ N p.2) (fun p=>[]) (fun p=>(st.aC b2 (.cells p.2.av.cells)).aC b4 (.cells [.int .i64 0,.int .i64 0,.str ⟨#[]⟩,.fslice []])) (fun p=>p.1) (by decide +kernel) ⟨(f,t),⟨hw,ht⟩,aO.mk (by simp -implicitDefEqProofs only[aA,seval])⟩ ?_
 rintro⟨g,t⟩ ⟨hw,ht⟩
 obtain⟨k,n,s,ts⟩:=t
 simp only at hw ht
 simp only[aV]
 have jY:k≠1∨σ n=none→u=.mk k n s ts:=fun h=>by
  cases hw with
  | stop _=>rfl
  | go h1 h2 _=>
   simp only[Tm.k] at h1
   rcases h with h | h
   · exact absurd h1 h
   · rw[show σ n=some _ from h2] at h;cases h
 simp -implicitDefEqProofs only[hne.symm,aA,seval,EE]
 refine cV (fun h=>?_) (fun h=>?_)
 case refine_2=>
  simp -implicitDefEqProofs only[h,aK,hne.symm,aA,seval,EE]
  simp only[kI,dJ] at h
  rw[jY (.inl h),←aV]
  exact⟨Tm.soft _,((aM.refl _).aC h2).aC hn4⟩
 simp only[bJ] at h
 subst h
 obtain⟨hn0,hn1,_⟩:=ht.var
 obtain⟨i,rfl⟩:∃i:Nat,n=i:=⟨n.toNat,by omega⟩
 have hi:i<N:=by omega
 have hi':decide ((i:Int)<(N:Int))=true:=by simp;omega
 simp -implicitDefEqProofs only[bU,hi',fR,hne.symm,hlen,aA,seval,EE]
 have hat:dF prog 31 (.slice (c8 N σ)) (.int .i64 (i:Int))=some (.pptr (cellOf (σ (i:Int)))):=bM (av:=fun i:Nat=>cellOf (σ (i:Int))) aN (List.getElem?_range hi) (J1 _)
 cases hw with
 | stop hs=>
  rw[show σ (i:Int)=none from hs rfl] at hat
  simp only[cellOf] at hat
  simp -implicitDefEqProofs only[hat,bU,aK,hne.symm,aA,seval,EE]
  exact⟨by rw[←aV,Tm.soft],((aM.refl _).aC h2).aC hn4⟩
 | go h1 h2' h3=>
  simp only[Tm.n] at h2'
  have ho:=hok _ _ h2'
  rename_i g' u'
  obtain⟨k',n',s',ts'⟩:=u'
  have hk':¬k'=0:=by have:=ho.kind.1;omega
  rw[h2'] at hat
  simp only[cellOf,aV] at hat
  simp -implicitDefEqProofs only[hat,hk',bZ,aK,hne.symm,aA,seval,EE]
  rw[aB.wQ hne,aB.oU _ _ _ hne]
  refine⟨(g',.mk k' n' s' ts'),I5 _,⟨h3,ho⟩,?_⟩
  simp only[aV]
  exact aO.mk (by simp -implicitDefEqProofs only[aA,seval])
abbrev s9:=zi tI_3 (zi zI_3 (zi aX (zi tI_9 (zi zI_9 (zi cI (zi tI_31 (zi zI_31 (zi aN (zi bG (zi bH (zi b9 (zi tI_66 (zi zI_66 (zi bQ (zi bR (zi bS (zi bT bP)))))))))))))))))
theorem VX{N:Nat}{σ:Sub}{R:Int→Tm}{rk:Int→Nat}{B:Nat}(G:Good σ R rk B)(hok:cW (bB N) σ) :
 ∀(room:Nat) (t:Tm) (st:aB),room≤120→bB N t→aD prog 302 [t.av,.slice (c8 N σ),.int .i64 (room:Int)] st (Full (t.aG R) room st)
 | room,t,st,hr,ht=>by
  have IH:=fun(LX:Nat) (hlt:LX<room) (x:Tm) st=>VX G hok LX x st
  obtain⟨f,hw⟩:=G.wk t
  generalize wk σ t=u at *
  have DF:cW (cJ N) σ:=fun n u hu=>(hok n u hu).1
  have hsu:=hw.all (p:=bB N) hok ht
  have hcw:=fun st=>aQ2 DF hw ht.1 st
  obtain⟨k,n,s,ts⟩:=u
  have hv:=aJE G hw (hsu.1.2.1)
  rw[hv]
  obtain⟨hlen,pI⟩:=Tm.oR (hsu.1.small)
  have a61:=hsu.1.kind.2
  have hkn:=hsu.1.all.2
  have hkk:∀x∈ts,bB N x:=fun x hx=>by
   refine⟨hkn x hx,?_⟩
   have:=hsu.2
   rw[Tm.gI] at this
   have:=HV (f:=Tm.nodes) hx
   omega
  refine aD.mK (aD.fin ?_)
  refine wF [1000000,3,8] 3 func302 ntmps302 rfl rfl ?_
  intro _
  simp -implicitDefEqProofs only[aA,seval,s9]
  intro b3 h3 b6 h6
  have h63:b6≠b3:=by rintro rfl;rw[aB.aP] at h6;cases h6
  have hn6:st b6=none:=by rw[aB.aL st _ h63] at h6;exact h6
  have hwr:∀z:Int,-1≤z→z≤200→IntKind.i64.wrap z=z:=fun z h1 h2=>wrap64 (by omega) (by omega)
  have hw1:=hwr ((room:Int) - 1) (by omega) (by omega)
  refine aQ (fun h=>?_) (fun h=>?_)
  · simp only[bJ] at h
    obtain rfl:room=0:=by omega
    simp -implicitDefEqProofs only[aK,aA,↓aU,seval,s9]
    refine⟨0,[],_,rfl,by simp,by simp,⟨4,by simp⟩,st,(fun x=>by by_cases e3:x=b3<;>by_cases e6:x=b6<;>simp_all [aB.aC]),rfl,Tm.zero,-1,?_,Int.le_refl _,?_⟩
    · simp only[Tm.zero,aV,fZ,jQ,eG,iY,oD,bA,aW]
    · rw[aE (by rw[Tm.gI];omega)];decide
  simp only[dJ] at h
  simp -implicitDefEqProofs only[h63.symm,aA,seval,s9]
  refine(hcw _).to ?_
  simp only[aV]
  simp -implicitDefEqProofs only[aK,h63.symm,hw1,aA,↓aU,seval,s9]
  intro b8 h8
  have h83:b8≠b3:=by rintro rfl;simp [aB.aC] at h8
  have h86:b8≠b6:=by rintro rfl;simp [aB.aC,h63] at h8
  have hn8:st b8=none:=by rw[aB.aL _ _ h83,aB.aL _ _ h86,aB.aL _ _ h83] at h8;exact h8
  rw[aB.wQ h63]
  have hW6:((st.aC b6 (.cells [.int .i64 0,.int .i64 0,.str ⟨#[]⟩,.fslice []])).aC b3 (.cells [.int .i64 k,.int .i64 n,.str s,.slice (ts.map Tm.av)])) b6=some (.cells [.int .i64 0,.int .i64 0,.str ⟨#[]⟩,.fslice []]):=by rw[aB.aL _ _ h63,aB.aP]
  have hW3:((st.aC b6 (.cells [.int .i64 0,.int .i64 0,.str ⟨#[]⟩,.fslice []])).aC b3 (.cells [.int .i64 k,.int .i64 n,.str s,.slice (ts.map Tm.av)])) b3=some (.cells [.int .i64 k,.int .i64 n,.str s,.slice (ts.map Tm.av)]):=aB.aP _ _ _
  have hWd:∀Y Z,aM ((((st.aC b6 (.cells [.int .i64 0,.int .i64 0,.str ⟨#[]⟩,.fslice []])).aC b3 (.cells [.int .i64 k,.int .i64 n,.str s,.slice (ts.map Tm.av)])).aC b8 Z).aC b6 Y) st:=fun Y Z x=>by
   by_cases e3:x=b3<;>by_cases e6:x=b6<;>by_cases e8:x=b8<;>simp_all [aB.aC]
  generalize ((st.aC b6 (.cells [.int .i64 0,.int .i64 0,.str ⟨#[]⟩,.fslice []])).aC b3 (.cells [.int .i64 k,.int .i64 n,.str s,.slice (ts.map Tm.av)]))=W at *
  have xZ:(Tm.mk k n s (ts.map (Tm.aG R))).nodes=1+bF Tm.nodes (ts.map (Tm.aG R)):=Tm.gI _ _ _ _
  refine eP (σ:=Nat×List Tm×Int) [1000000,3,8] [1,3,6,7,8] ts
   (fun i p=>(p.2.1.map Tm.av≠[]→(W.aC b8 (.cells ([.int .i64 k,.int .i64 n,.str s]++ [bD 4 p.1 (p.2.1.map Tm.av)]))) p.1=none)∧p.2.1.length=i∧-1≤p.2.2 ∧
    (0≤p.2.2→p.2.1=(ts.take i).map (Tm.aG R)∧p.2.2=(room:Int) - 1 - bF Tm.nodes p.2.1)∧(p.2.2<0→room<1+bF Tm.nodes (ts.map (Tm.aG R))))
   (fun i p=>[(9,.int .i64 p.2.2),(10,.int .i64 i)])
   (fun i p=>fK W b8 p.1 [.int .i64 k,.int .i64 n,.str s] (p.2.1.map Tm.av)) (by decide +kernel)
   ⟨(0,[],(room:Int) - 1),⟨fun h=>absurd rfl h,rfl,by simp only;omega,fun _=>⟨by simp,by simp [bF]⟩,fun h=>by simp only at h;omega⟩,aO.mk (by simp -implicitDefEqProofs only[aA,↓aU,seval])⟩ (fun i x p hx hlt bV AB hinv=>?_) (fun p hge hinv=>?_)
  · obtain⟨b,acc,left⟩:=p
    obtain⟨i1,i2,i3,i4,i5⟩:=hinv
    simp only at i1 i2 i3 i4 i5
    have h3o:=gS i1 (x:=b3) (by rw[hW3];simp) h83.symm
    rw[hW3] at h3o
    simp -implicitDefEqProofs only[bV,bU,fR,aF,h3o,aA,seval,s9]
    refine aQ (fun h9=>?_) (fun h9=>?_)
    case refine_2=>
     simp only[dJ] at h9
     have hbo:=eN i1
     have h6o:=gS i1 (x:=b6) (by rw[hW6];simp) h86.symm
     rw[hW6] at h6o
     simp -implicitDefEqProofs only[aK,hbo,h6o,fJ,aA,seval,s9]
     obtain⟨g5,g6⟩:=kE (o:=.cells [.int .i64 k,.int .i64 n,.str s,bD 4 b (acc.map Tm.av)]) i1 (show W b6≠none by rw[hW6];simp) h86.symm
     refine⟨b,_,_,g5,g6,iU _,⟨4,d6 _⟩,st,hWd _ _,rfl,.mk k n s acc,left,?_,i3,?_⟩
     · simp only[jQ,fZ,bA,aW,eG,iY,iP,aV]
     · rw[xZ]
       skip
       rw[aE (by have:=i5 (by omega);omega)]
       omega
    simp only[bJ] at h9
    obtain⟨e1,e2⟩:=i4 h9
    have gX:=cP hx
    have hsl:=a27 Tm.nodes (ts.map (Tm.aG R)) (i+1)
    rw[←E0,fG,hx] at hsl
    simp only[BX,tM,bA,aW,D9,bF,←e1] at hsl
    obtain⟨LX,rfl⟩:∃r:Nat,left=r:=⟨left.toNat,by omega⟩
    have cZ:(acc.map Tm.av).length=i:=by rw[aF,i2]
    have hw:=bO (n:=(i:Int)+1)
    have hbo:=eN i1
    simp -implicitDefEqProofs only[h3o,bM (av:=Tm.av) aN hx (aJ x),aT,aJ,aA,seval,s9]
    refine(IH LX (by omega) x _ (by omega) (hkk x gX)).mono ?_
    rintro _ _ ⟨rfl,y,aZX,rfl,hl1,hl2⟩
    simp -implicitDefEqProofs only[aT,aJ,cC,cG,hbo,mZ,aA,↓aU,seval,s9]
    refine eW aN bG bH rfl rfl (fM (aJ _) (cC _)) (d6 _) i1 (by simp only[cZ,aS,aZ];omega) (by simp only[cZ,aS,aZ];omega) (fun b' hb'=>?_)
    rw[show acc.map Tm.av++ [y.av]=(acc++ [y]).map Tm.av by simp] at hb' ⊢
    obtain⟨g1,g2,g3⟩:=oL hb'
    simp only[fL,eR] at g1 g3
    simp -implicitDefEqProofs only[g3,m6,fJ,g1,hw,aK,aA,seval,s9]
    refine⟨(b',acc++ [y],aZX),⟨g2,by simp [i2],hl1,fun h=>?_,fun h=>?_⟩,aO.mk (by simp -implicitDefEqProofs only[aA,seval])⟩
    · simp only at h
      split at hl2
      · obtain⟨rfl,hl3⟩:=hl2
        refine⟨by rw[fG,hx];simp [e1],?_⟩
        simp only[D9,bF]
        omega
      · omega
    · simp only at h
      split at hl2
      · omega
      · omega
  · obtain⟨b,acc,left⟩:=p
    obtain⟨i1,i2,i3,i4,i5⟩:=hinv
    simp only at i1 i2 i3 i4 i5
    rw[eS] at i4
    have h3o:=gS i1 (x:=b3) (by rw[hW3];simp) h83.symm
    rw[hW3] at h3o
    simp -implicitDefEqProofs only[hge,aF,h3o,aA,seval,s9]
    have hbo:=eN i1
    have h6o:=gS i1 (x:=b6) (by rw[hW6];simp) h86.symm
    rw[hW6] at h6o
    simp -implicitDefEqProofs only[aK,hbo,h6o,fJ,aA,seval,s9]
    obtain⟨g5,g6⟩:=kE (o:=.cells [.int .i64 k,.int .i64 n,.str s,bD 4 b (acc.map Tm.av)]) i1 (show W b6≠none by rw[hW6];simp) h86.symm
    refine⟨b,_,_,g5,g6,iU _,⟨4,d6 _⟩,st,hWd _ _,rfl,.mk k n s acc,left,?_,i3,?_⟩
    · simp only[jQ,fZ,bA,aW,eG,iY,iP,aV]
    · rw[xZ]
      skip
      rcases Int.lt_or_le left 0 with h9 | h9
      · rw[aE (by have:=i5 h9;omega)];exact h9
      · obtain⟨e1,e2⟩:=i4 h9
        rw[←e1] at i5 ⊢
        rw[aH (by omega)]
        exact⟨rfl,by omega⟩
termination_by room=>room
decreasing_by exact hlt
end Go.AW
namespace Go.AW
abbrev Cl:=Tm×List Tm
def bX:Cl→AV
 | (.mk k n s ts,b)=>.agg [.int .i64 k,.int .i64 n,.str s,.slice (ts.map Tm.av),.slice (b.map Tm.av)]
theorem fY(k n:Int)(s:ByteArray)(ts b:List Tm):bX (.mk k n s ts,b)=.agg [.int .i64 k,.int .i64 n,.str s,.slice (ts.map Tm.av),.slice (b.map Tm.av)]:=rfl
theorem CP(c:Cl):(bX c).isAgg=true:=by obtain⟨⟨k,n,s,ts⟩,b⟩:=c;rfl
theorem nO(c:Cl):(bX c).width=5:=by obtain⟨⟨k,n,s,ts⟩,b⟩:=c;rfl
theorem XR(c:Cl):(bX c).cells.length=5:=by obtain⟨⟨k,n,s,ts⟩,b⟩:=c;rfl
theorem XS(c:Cl):(bX c).cells.all AV.storable=true:=by obtain⟨⟨k,n,s,ts⟩,b⟩:=c;rfl
theorem J3(c:Cl):(bX c).cF=false:=by obtain⟨⟨k,n,s,ts⟩,b⟩:=c;rfl
def HF:Tm→Bool | .mk k _ s ts=>lH k s (ts.length:Int)
def j9(c:Cl):Bool:=c.1.valid&&HF c.1&&(decide (c.2.length≤6)&&c.2.all Tm.goal)
def l7(p:List Cl):Bool:=decide (p.length≤20)&&p.all j9
def GM(c:Cl):Int:=(bL (c.1::c.2) []).foldl (fun n v=>if n≤v then v+1 else n) 0
def mL(c:Cl):Nat:=(GM c).toNat
def cQ(N:Nat)(t:Tm):Tm:=b7 (fun v=>v+(N:Int)) t
def eL(t:Tm):Bool:=t.flat 30&&decide (t.nodes≤120)
def oB(t:Tm):Bool:=decide (t.k=3)&&decide (t.s=⟨#[33]⟩)&&decide ((t.ts.length:Int)=0)
def DB(c:Cl)(t:Tm):Bool:=decide (c.1.s=t.s)&&decide ((c.1.ts.length:Int)=(t.ts.length:Int))
def d8(p:List Cl)(t:Tm):List Nat:=(List.range p.length).filter fun i=>match p[i]? with
 | some c=>DB c t
 | none=>false
def oC(c:Int):Int:=if c=2 then 4 else if c=3 then 5 else if c=4 then 6 else 7
noncomputable def iA(σ:Sub)(vars:List Int):Option (List Tm):=
 if((vars.map (rs σ)).all eL=true)∧(bL (vars.map (rs σ)) []).length≤26 then some (nW (vars.map (rs σ))) else none
structure RG where
 t:Tm
 a8:Nat
structure RC where
 goal:Tm
 rest:List RG
 left:List Nat
 σ:Sub
 N:Nat
structure RS where
 goals:List RG
 σ:Sub
 N:Nat
 chs:List RC
inductive RO where
 | go (s:RS)
 | fail
 | stop (e:Int)
noncomputable def gJ(p:List Cl)(chs:List RC)(goal:Tm)(rest:List RG)(σ:Sub)(N:Nat):List Nat→Option RS
 | []=>none
 | i::l=>match p[i]? with
  | none=>none
  | some x=>if(gD σ goal (cQ N x.1)).1=true then
   some ⟨x.2.map (fun t=>⟨cQ N t,chs.length⟩)++rest,(gD σ goal (cQ N x.1)).2.1,N+mL x,if l= [] then chs else chs++ [⟨goal,rest,l,σ,N⟩]⟩
   else gJ p chs goal rest σ N l
noncomputable def fU(p:List Cl):Nat→List RC→Option RS
 | 0,_=>none
 | n+1,chs=>match chs.getLast? with
  | none=>none
  | some c=>match gJ p chs.dropLast c.goal c.rest c.σ c.N c.left with
   | some s=>some s
   | none=>fU p n chs.dropLast
noncomputable def iJ(p:List Cl)(cnd:Tm→List Nat→List Nat)(s:RS)(g:RG)(rest:List RG):RO:=
 if eL (g.t.aG (rs s.σ))=false then .stop 3
 else if oB (g.t.aG (rs s.σ))=true then .go ⟨rest,s.σ,s.N,s.chs.take g.a8⟩
 else if isBuiltin (g.t.aG (rs s.σ)).s ((g.t.aG (rs s.σ)).ts.length:Int)=true then
  if(dE s.σ (g.t.aG (rs s.σ)).s (g.t.aG (rs s.σ)).ts).1=0 then .go ⟨rest,(dE s.σ (g.t.aG (rs s.σ)).s (g.t.aG (rs s.σ)).ts).2.1,s.N,s.chs⟩
  else if(dE s.σ (g.t.aG (rs s.σ)).s (g.t.aG (rs s.σ)).ts).1=1 then .fail
  else .stop (oC (dE s.σ (g.t.aG (rs s.σ)).s (g.t.aG (rs s.σ)).ts).1)
 else if d8 p (g.t.aG (rs s.σ))= [] then .stop 8
 else match gJ p s.chs (g.t.aG (rs s.σ)) rest s.σ s.N (cnd (g.t.aG (rs s.σ)) (d8 p (g.t.aG (rs s.σ)))) with
  | some s'=>.go s'
  | none=>.fail
noncomputable def jL(p:List Cl)(cnd:Tm→List Nat→List Nat)(vars:List Int)(most fuel:Nat)(s:RS):List (List Tm)×Int:=
 match s.goals with
 | []=>if h:most=0 then([],1) else match iA s.σ vars with
  | none=>([],3)
  | some a=>match fU p s.chs.length s.chs with
   | none=>([a],0)
   | some s'=>(a::(jL p cnd vars (most - 1) fuel s').1,(jL p cnd vars (most - 1) fuel s').2)
 | g::rest=>if h:fuel=0 then([],2) else match iJ p cnd s g rest with
  | .stop e=>([],e)
  | .go s'=>jL p cnd vars most (fuel - 1) s'
  | .fail=>match fU p s.chs.length s.chs with
   | none=>([],0)
   | some s'=>jL p cnd vars most (fuel - 1) s'
termination_by most+fuel
decreasing_by all_goals omega
def k6(q:List Tm):RS:=⟨q.map fun t=>⟨t,0⟩,Sub.none,26,[]⟩
noncomputable def uK(p:List Cl)(cnd:Tm→List Nat→List Nat)(q:List Tm)(most fuel:Nat):List (List Tm)×Int:=jL p cnd (bL q []) most fuel (k6 q)
structure IG where
 t:Tm
 cut:Nat
 up:Int
structure IC where
 goal:Tm
 node:Nat
 rest:List IG
 list:List Nat
 fE:Nat
 taken:Nat
structure IS where
 goals:List IG
 σ:Sub
 tr:List Int
 chs:List IC
 fresh:Nat
 nn:Nat
inductive wV where
 | go (s:IS)
 | fail (s:IS)
 | stop (e:Int)
noncomputable def fT(p:List Cl)(goal:Tm)(at':Nat)(rest:List IG):List Nat→IS→Bool×IS
 | [],s=>(false,s)
 | i::l,s=>match p[i]? with
  | none=>(false,s)
  | some x=>if(gD s.σ goal (cQ s.fresh x.1)).1=true then
   (true,⟨x.2.map (fun t=>⟨cQ s.fresh t,s.chs.length,at'⟩)++rest,(gD s.σ goal (cQ s.fresh x.1)).2.1,s.tr++(gD s.σ goal (cQ s.fresh x.1)).2.2,if l= [] then s.chs else s.chs++ [⟨goal,at',rest,l,s.tr.length,s.nn⟩],s.fresh+26,s.nn⟩)
   else fT p goal at' rest l { s with fresh:=s.fresh+26 }
def IS.pop(s:IS)(c:IC):IS:={ s with chs:=s.chs.dropLast,σ:=s.σ.out (s.tr.drop c.fE),tr:=s.tr.take c.fE,nn:=c.taken }
noncomputable def gR(p:List Cl):Nat→IS→Option IS
 | 0,_=>none
 | n+1,s=>match s.chs.getLast? with
  | none=>none
  | some c=>if(fT p c.goal c.node c.rest c.list (s.pop c)).1=true then some (fT p c.goal c.node c.rest c.list (s.pop c)).2 else gR p n (fT p c.goal c.node c.rest c.list (s.pop c)).2
noncomputable def lW(p:List Cl)(cnd:Tm→List Nat→List Nat)(s:IS)(g:IG)(rest:List IG):wV:=
 if eL (g.t.aG (rs s.σ))=false then .stop 3
 else if oB (g.t.aG (rs s.σ))=true then .go { s with goals:=rest,chs:=s.chs.take g.cut,nn:=s.nn+1 }
 else if isBuiltin (g.t.aG (rs s.σ)).s ((g.t.aG (rs s.σ)).ts.length:Int)=true then
  if(dE s.σ (g.t.aG (rs s.σ)).s (g.t.aG (rs s.σ)).ts).1=0 then .go { s with goals:=rest,σ:=(dE s.σ (g.t.aG (rs s.σ)).s (g.t.aG (rs s.σ)).ts).2.1,tr:=s.tr++(dE s.σ (g.t.aG (rs s.σ)).s (g.t.aG (rs s.σ)).ts).2.2,nn:=s.nn+1 }
  else if(dE s.σ (g.t.aG (rs s.σ)).s (g.t.aG (rs s.σ)).ts).1=1 then .fail { s with σ:=(dE s.σ (g.t.aG (rs s.σ)).s (g.t.aG (rs s.σ)).ts).2.1,tr:=s.tr++(dE s.σ (g.t.aG (rs s.σ)).s (g.t.aG (rs s.σ)).ts).2.2,nn:=s.nn+1 }
  else .stop (oC (dE s.σ (g.t.aG (rs s.σ)).s (g.t.aG (rs s.σ)).ts).1)
 else if d8 p (g.t.aG (rs s.σ))= [] then .stop 8
 else if(fT p (g.t.aG (rs s.σ)) s.nn rest (cnd (g.t.aG (rs s.σ)) (d8 p (g.t.aG (rs s.σ)))) { s with nn:=s.nn+1 }).1=true then .go (fT p (g.t.aG (rs s.σ)) s.nn rest (cnd (g.t.aG (rs s.σ)) (d8 p (g.t.aG (rs s.σ)))) { s with nn:=s.nn+1 }).2
 else .fail (fT p (g.t.aG (rs s.σ)) s.nn rest (cnd (g.t.aG (rs s.σ)) (d8 p (g.t.aG (rs s.σ)))) { s with nn:=s.nn+1 }).2
noncomputable def jJ(p:List Cl)(cnd:Tm→List Nat→List Nat)(vars:List Int)(most fuel:Nat)(s:IS):List (List Tm)×Int:=
 match s.goals with
 | []=>if h:most=0 then([],1) else match iA s.σ vars with
  | none=>([],3)
  | some a=>match gR p s.chs.length s with
   | none=>([a],0)
   | some s'=>(a::(jJ p cnd vars (most - 1) fuel s').1,(jJ p cnd vars (most - 1) fuel s').2)
 | g::rest=>if h:fuel=0 then([],2) else match lW p cnd s g rest with
  | .stop e=>([],e)
  | .go s'=>jJ p cnd vars most (fuel - 1) s'
  | .fail s'=>match gR p s'.chs.length s' with
   | none=>([],0)
   | some s''=>jJ p cnd vars most (fuel - 1) s''
termination_by most+fuel
decreasing_by all_goals omega
def oG(q:List Tm):IS:=⟨q.map fun t=>⟨t,0,-1⟩,Sub.none,[],[],26,0⟩
structure n6 (ρ:Int→Int) (N F:Nat) (σ τ:Sub):Prop where
 sim:fQ ρ N σ τ
 rng:∀v,0≤v→v<(N:Int)→0≤ρ v∧ρ v<(F:Int)
 g1:cO σ
 o1:cW (bB N) σ
 g2:cO τ
 o2:cW (bB F) τ
 d1:∀n,¬(0≤n∧n<(N:Int))→σ n=none
 d2:∀n,¬(0≤n∧n<(F:Int))→τ n=none
 h26:26≤N
 idn:∀v,0≤v→v<26→ρ v=v
theorem n6.mono{ρ:Int→Int}{N F F':Nat}{σ τ:Sub}(S:n6 ρ N F σ τ)(h:F≤F'):n6 ρ N F' σ τ:=
 ⟨S.sim,fun v h0 h1=>⟨(S.rng v h0 h1).1,by have:=(S.rng v h0 h1).2;omega⟩,S.g1,S.o1,S.g2,S.o2.imp fun t ht=>ht.mono (by omega),S.d1,fun n hn=>S.d2 n fun h'=>hn ⟨h'.1,by omega⟩,S.h26,S.idn⟩
def sI(ρ:Int→Int)(N F:Nat):Int→Int:=fun v=>if v<(N:Int) then ρ v else v - N+F
theorem t7{ρ:Int→Int}{N F:Nat}{v:Int}(h:v<(N:Int)):sI ρ N F v=ρ v:=aH h
theorem n6.ext{ρ:Int→Int}{N F:Nat}{σ τ:Sub}(S:n6 ρ N F σ τ){k:Nat}(hk:k≤26):n6 (sI ρ N F) (N+k) (F+26) σ τ:=by
 have mM:∀v:Int,¬v<(N:Int)→sI ρ N F v=v - N+F:=fun v h=>aE h
 refine⟨⟨fun v w hv0 hv1 hw0 hw1 e=>?_,fun v h0 h1=>?_⟩,fun v h0 h1=>?_,S.g1,S.o1.imp fun t ht=>ht.mono (by omega),S.g2,S.o2.imp fun t ht=>ht.mono (by omega),fun n hn=>S.d1 n fun h=>hn ⟨h.1,by omega⟩,fun n hn=>S.d2 n fun h=>hn ⟨h.1,by omega⟩,by have:=S.h26;omega,fun v h0 h1=>by rw[t7 (by have:=S.h26;omega)];exact S.idn v h0 h1⟩
 · by_cases hv:v<(N:Int)<;>by_cases hw:w<(N:Int)
   · rw[t7 hv,t7 hw] at e;exact S.sim.inj v w hv0 hv hw0 hw e
   · rw[t7 hv,mM w hw] at e
     have:=S.rng v hv0 hv
     omega
   · rw[t7 hw,mM v hv] at e
     have:=S.rng w hw0 hw
     omega
   · rw[mM v hv,mM w hw] at e
     omega
 · by_cases hv:v<(N:Int)
   · rw[t7 hv,S.sim.map v h0 hv]
     cases hs:σ v with
     | none=>rfl
     | some u=>
      simp only[n0,Option.some.injEq]
      refine SB fun w hw=>?_
      rw[t7 ((S.o1 v u hs).1.2.2 w hw).2]
   · rw[mM v hv,S.d1 v (fun h=>hv h.2),S.d2 _ (fun h=>by omega)]
     try rfl
 · by_cases hv:v<(N:Int)
   · rw[t7 hv]
     have:=S.rng v h0 hv
     omega
   · rw[mM v hv];omega
theorem aI7(l:List Int):∀n:Int,n≤l.foldl (fun n v=>if n≤v then v+1 else n) n∧(∀v∈l,v<l.foldl (fun n v=>if n≤v then v+1 else n) n)∧∀m:Int,n≤m→(∀v∈l,v<m)→l.foldl (fun n v=>if n≤v then v+1 else n) n≤m:=by
 induction l with
 | nil=>intro n;exact⟨Int.le_refl _,by simp,fun m h _=>h⟩
 | cons x l ih=>
  intro n
  simp only[yW]
  obtain⟨h1,h2,h3⟩:=ih (if n≤x then x+1 else n)
  refine⟨?_,fun v hv=>?_,fun m hm hl=>h3 m ?_ fun v hv=>hl v (by simp [hv])⟩
  · split at h1<;>rename_i h<;>split<;>omega
  · rcases cX.1 hv with rfl | hv
    · split at h1<;>rename_i h<;>split<;>omega
    · exact h2 v hv
  · have:=hl x (by simp)
    split<;>omega
structure gE (c:Cl):Prop where
 head:bB 26 c.1
 body:∀t∈c.2,bB 26 t∧t.k=3
theorem gE.vars{c:Cl}(h:gE c){v:Int}:v∈bL (c.1::c.2) []↔∃t∈c.1::c.2,v∈t.vl:=by
 rw[tC]
 · simp
 · intro t ht
   rcases cX.1 ht with rfl | ht
   · exact h.head.1.2.1
   · exact(h.body t ht).1.1.2.1
theorem gE.DW{c:Cl}(h:gE c):∀t∈c.1::c.2,bB 26 t:=fun t ht=>by
 rcases cX.1 ht with rfl | ht
 · exact h.head
 · exact(h.body t ht).1
theorem gE.fr{c:Cl}(h:gE c):mL c≤26∧∀t∈c.1::c.2,∀v∈t.vl,v<(mL c:Int):=by
 obtain⟨h1,h2,h3⟩:=aI7 (bL (c.1::c.2) []) 0
 have hle:=h3 26 (by omega) fun v hv=>by
  obtain⟨t,ht,hv⟩:=h.vars.1 hv
  exact((h.DW t ht).1.2.2 v hv).2
 unfold mL GM
 refine⟨by omega,fun t ht v hv=>?_⟩
 have:=h2 v (h.vars.2 ⟨t,ht,hv⟩)
 omega
theorem gE.cQ{c:Cl}(h:gE c)(N:Nat):∀t∈c.1::c.2,bB ((N+mL c:Nat):Int) (cQ N t):=fun t ht=>by
 refine(h.DW t ht).b7 fun v hv=>?_
 have h1:=((h.DW t ht).1.2.2 v hv).1
 have h2:=h.fr.2 t ht v hv
 omega
theorem SJ{ρ:Int→Int}{N F:Nat}{c:Cl}(h:gE c):∀t∈c.1::c.2,b7 (sI ρ N F) (cQ N t)=cQ F t:=fun t ht=>by
 unfold AW.cQ
 rw[show b7 (sI ρ N F) (b7 (fun v=>v+(N:Int)) t)=t.aG fun v=>vr (sI ρ N F (v+N)) from HO _ _ t]
 refine mN t fun v hv=>?_
 have h1:=((h.DW t ht).1.2.2 v hv).1
 show vr (sI ρ N F (v+(N:Int)))=vr (v+(F:Int))
 unfold sI
 rw[aE (by omega)]
 congr 1
 omega
theorem aMI{N:Nat}(t:Tm):(cQ N t).k=t.k:=yA _ t
def GL(ρ:Int→Int)(N:Nat)(gs:List RG)(hs:List IG):Prop:=hs.map (fun h=>(h.t,h.cut))=gs.map (fun g=>(b7 ρ g.t,g.a8))∧∀g∈gs,bB N g.t∧g.t.k=3
theorem GL.ext{ρ ρ':Int→Int}{N N':Nat}{gs:List RG}{hs:List IG}(h:GL ρ N gs hs)(hN:N≤N')(hr:∀v,0≤v→v<(N:Int)→ρ' v=ρ v):GL ρ' N' gs hs:=by
 refine⟨h.1.trans (qU fun g hg=>?_),fun g hg=>⟨(h.2 g hg).1.mono (by omega),(h.2 g hg).2⟩⟩
 rw[SB (ρ:=ρ) (ρ':=ρ') fun v hv=>(hr v ((h.2 g hg).1.1.2.2 v hv).1 ((h.2 g hg).1.1.2.2 v hv).2).symm]
theorem GL.app{ρ:Int→Int}{N:Nat}{gs gs':List RG}{hs hs':List IG}(h:GL ρ N gs hs)(h':GL ρ N gs' hs'):GL ρ N (gs++gs') (hs++hs'):=by
 refine⟨by rw[tM,tM,h.1,h'.1],fun g hg=>?_⟩
 rcases fF.1 hg with hg | hg
 · exact h.2 g hg
 · exact h'.2 g hg
def C1(F:Nat)(c:RC)(d:IC)(τ:Sub):Prop:=∃ρ,n6 ρ c.N F c.σ τ∧d.goal=b7 ρ c.goal∧bB c.N c.goal∧GL ρ c.N c.rest d.rest∧d.list=c.left
inductive iO (F:Nat):List RC→List IC→Sub→List Int→Prop
 | nil {τ:Sub} {tr:List Int}:iO F [] [] τ tr
 | snoc {cs:List RC} {ds:List IC} {c:RC} {d:IC} {τ:Sub} {tr:List Int} (h:iO F cs ds (τ.out (tr.drop d.fE)) (tr.take d.fE)) (h1:C1 F c d (τ.out (tr.drop d.fE))) (h2:d.fE≤tr.length):iO F (cs++ [c]) (ds++ [d]) τ tr
theorem iO.len{F:Nat}{cs:List RC}{ds:List IC}{τ:Sub}{tr:List Int}(h:iO F cs ds τ tr):ds.length=cs.length:=by
 induction h with
 | nil=>rfl
 | snoc _ _ _ ih=>simp [ih]
theorem iO.mono{F F':Nat}(hF:F≤F'){cs:List RC}{ds:List IC}{τ:Sub}{tr:List Int}(h:iO F cs ds τ tr):iO F' cs ds τ tr:=by
 induction h with
 | nil=>exact .nil
 | snoc _ h1 h2 ih=>exact .snoc ih (by obtain⟨ρ,h3,h4⟩:=h1;exact⟨ρ,h3.mono hF,h4⟩) h2
theorem aU8(tr:List Int){a m:Nat}(h:a≤m)(n:Int):n∈tr.drop m++(tr.take m).drop a↔n∈tr.drop a:=by
 have e:tr.drop a=(tr.take m).drop a++tr.drop m:=by
  conv=>lhs;rw[←rY m tr]
  rw[List.drop_append]
  by_cases hm:m≤tr.length
  · rw[dS,lP hm,show a - m=0 by omega,qT]
  · rw[List.drop_of_length_le (show tr.length≤m by omega)]
    simp
 rw[e,fF,fF,or_comm]
theorem iO.lift{F:Nat}{cs:List RC}{ds:List IC}{τ:Sub}{tr:List Int}{m:Nat}(h:iO F cs ds (τ.out (tr.drop m)) (tr.take m))(hm:m≤tr.length):iO F cs ds τ tr:=by
 generalize hτ:τ.out (tr.drop m)=τ' at h
 generalize htr:tr.take m=tr' at h
 cases h with
 | nil=>exact .nil
 | @snoc cs ds c d _ _ h h1 h2=>
  subst hτ htr
  have hd:d.fE≤m:=by rw[dS] at h2;omega
  have e1:(τ.out (tr.drop m)).out ((tr.take m).drop d.fE)=τ.out (tr.drop d.fE):=by
   rw[Sub.a0Y]
   exact Sub.a0Z τ (aU8 tr hd)
  have e2:(tr.take m).take d.fE=tr.take d.fE:=by rw[wZ,lP hd]
  rw[e1,e2] at h
  rw[e1] at h1
  exact .snoc h h1 (by omega)
theorem iO.more{F:Nat}{cs:List RC}{ds:List IC}{τ τ':Sub}{tr add:List Int}(h:iO F cs ds τ tr)(e:τ'.out add=τ):iO F cs ds τ' (tr++add):=by
 refine iO.lift (m:=tr.length) ?_ (by simp)
 rw[EY,E4,e]
 exact h
theorem iO.take{F:Nat}{cs:List RC}{ds:List IC}{τ:Sub}{tr:List Int}(h:iO F cs ds τ tr)(k:Nat):iO F (cs.take k) (ds.take k) τ tr:=by
 induction h with
 | nil=>simp;exact .nil
 | @snoc cs ds c d τ tr h h1 h2 ih=>
  have hl:=h.len
  by_cases hk:k≤cs.length
  · rw[BT hk,BT (by omega)]
    exact ih.lift h2
  · rw[lO (by simp;omega),lO (by simp;omega)]
    exact .snoc h h1 h2
def Rl(s:RS)(i:IS):Prop:=∃ρ,n6 ρ s.N i.fresh s.σ i.σ∧GL ρ s.N s.goals i.goals∧iO i.fresh s.chs i.chs i.σ i.tr
theorem y8.AY{N:Int}{σ:Sub}{a b:Tm}{r:Bool}{σ':Sub}{tr:List Int}(h:y8 N σ a b r σ' tr):σ'.out tr=σ:=funext fun n=>h.out n
theorem mY.AY{N:Int}{σ σ':Sub}{add:List Int}(h:mY N σ σ' add):σ'.out add=σ:=by
 funext n
 unfold Sub.out
 split
 · rename_i hn;exact((h.new n hn).1).symm
 · rename_i hn;exact h.a8 n hn
theorem mY.vJ{N:Nat}{σ σ':Sub}{add:List Int}(h:mY N σ σ' add)(hd:∀n,¬(0≤n∧n<(N:Int))→σ n=none):∀n,¬(0≤n∧n<(N:Int))→σ' n=none:=fun n hn=>by
 rw[h.a8 n fun h'=>hn (h.gB n h')]
 exact hd n hn
theorem n6.grow{ρ:Int→Int}{N F:Nat}{σ τ σ' τ':Sub}{add aP3:List Int}(S:n6 ρ N F σ τ)(h:mY N σ σ' add)(h':mY F τ τ' aP3)(s:fQ ρ N σ' τ'):n6 ρ N F σ' τ':=
 ⟨s,S.rng,h.gQ,h.ok,h'.gQ,h'.ok,h.vJ S.d1,h'.vJ S.d2,S.h26,S.idn⟩
theorem n6.A4{ρ:Int→Int}{N F:Nat}{σ τ:Sub}(S:n6 ρ N F σ τ){t:Tm}(h:bB N t):bB F (b7 ρ t):=h.b7 fun v hv=>S.rng v (h.1.2.2 v hv).1 (h.1.2.2 v hv).2
section
variable {p:List Cl} (hp:∀c∈p,gE c)
include hp
theorem MW{cs:List RC}{goal:Tm}{rest:List RG}{σ:Sub}{N:Nat}{ρ:Int→Int}{SD:List IG}{τ:Sub}{tr:List Int}{ds:List IC}{nn at':Nat}(hg:bB N goal)(hr:GL ρ N rest SD) :
 ∀(l:List Nat) (F:Nat) (gl:List IG),n6 ρ N F σ τ→iO F cs ds τ tr →
 match gJ p cs goal rest σ N l with
 | none=>∃F',F≤F'∧fT p (b7 ρ goal) at' SD l ⟨gl,τ,tr,ds,F,nn⟩=(false,⟨gl,τ,tr,ds,F',nn⟩)
 | some s=>∃i,fT p (b7 ρ goal) at' SD l ⟨gl,τ,tr,ds,F,nn⟩=(true,i)∧Rl s i:=by
 intro l
 induction l with
 | nil=>intro F gl S C;exact⟨F,c7 _,rfl⟩
 | cons j l ih=>
  intro F gl S C
  unfold gJ fT
  cases hj:p[j]? with
  | none=>exact⟨F,c7 _,rfl⟩
  | some x=>
   have hx:=hp x (cP hj)
   have S2:=S.ext hx.fr.1
   have hgo:b7 (sI ρ N F) goal=b7 ρ goal:=SB fun v hv=>t7 (hg.1.2.2 v hv).2
   have hhd:=hx.cQ N x.1 (by simp)
   have hgN:bB ((N+mL x:Nat):Int) goal:=hg.mono (by omega)
   obtain⟨r,σ',add,U⟩:=rS S2.g1 S2.o1 hgN hhd
   obtain⟨g,kX⟩:=U.run
   obtain⟨τ',e,S',_⟩:=S2.sim.gD S2.g1 S2.g2 S2.o1.k0 hgN.1 hhd.1 kX
   rw[hgo,SJ hx x.1 (by simp)] at e
   have hF1:bB ((F+26:Nat):Int) (b7 ρ goal):=by rw[←hgo];exact S2.A4 hgN
   have hF2:bB ((F+26:Nat):Int) (cQ F x.1):=by rw[←SJ (ρ:=ρ) (N:=N) (F:=F) hx x.1 (by simp)];exact S2.A4 hhd
   obtain⟨r2,τ2,aP4,U2⟩:=rS S2.g2 S2.o2 hF1 hF2
   have e2:=U2.eq
   rw[e] at e2
   obtain⟨rfl,rfl,rfl⟩:r=r2∧τ'=τ2∧add.map (sI ρ N F)=aP4:=by simpa using e2
   simp only[U.eq,e]
   cases r with
   | false=>
    simp only[iL,dY]
    have:=ih (F+26) gl (S.mono (by omega)) (C.mono (by omega))
    cases hq:gJ p cs goal rest σ N l with
    | none=>
     rw[hq] at this
     obtain⟨F',h1,h2⟩:=this
     exact⟨F',by omega,h2⟩
    | some s=>
     rw[hq] at this
     exact this
   | true=>
    simp only[gA]
    refine⟨_,rfl,sI ρ N F,S2.grow U.wJ U2.wJ S',?_,?_⟩
    · refine GL.app ⟨?_,fun g hg=>?_⟩ (hr.ext (show N≤N+mL x by omega) fun v _ hv=>t7 hv)
      · simp only[tN]
        refine qU fun t ht=>?_
        simp only[EV]
        rw[SJ hx t (by simp [ht]),C.len]
      · obtain⟨t,ht,rfl⟩:=cS.1 hg
        exact⟨hx.cQ N t (by simp [ht]),by rw[aMI];exact(hx.body t ht).2⟩
    · have C2:=(C.mono (show F≤F+26 by omega)).more U2.AY
      by_cases hl:l= []
      · simp only[aH hl]
        exact C2
      · simp only[aE hl]
        refine .snoc ?_ ?_ (by simp)
        · simp only[EY,E4,U2.AY]
          exact C.mono (by omega)
        · simp only[EY,U2.AY]
          exact⟨ρ,S.mono (by omega),rfl,hg,hr,rfl⟩
theorem OC:∀(n:Nat) (cs:List RC) (i:IS),iO i.fresh cs i.chs i.σ i.tr →
 match fU p n cs with
 | none=>gR p n i=none
 | some s=>∃i',gR p n i=some i'∧Rl s i':=by
 intro n
 induction n with
 | zero=>intro cs i C;simp only[fU,gR]
 | succ n ih=>
  intro cs i C
  obtain⟨gl,τ,tr,ds,F,nn⟩:=i
  simp only at C
  cases C with
  | nil=>simp only[fU,gR,List.getLast?_nil]
  | @snoc cs ds c d _ _ h h1 h2=>
   obtain⟨ρ,S,e1,hok,hG,e2⟩:=h1
   have key:=MW hp (cs:=cs) (nn:=d.taken) (at':=d.node) (tr:=tr.take d.fE) hok hG c.left F gl S h
   simp only[fU,gR,NI,I2,Option.some_or,IY]
   have e3:(IS.pop ⟨gl,τ,tr,ds++ [d],F,nn⟩ d)=⟨gl,τ.out (tr.drop d.fE),tr.take d.fE,ds,F,d.taken⟩:=by simp only[IS.pop,IY]
   rw[e1,e2,e3]
   cases ht:gJ p cs c.goal c.rest c.σ c.N c.left with
   | none=>
    rw[ht] at key
    obtain⟨F',hF,e⟩:=key
    simp only[e,iL,dY]
    exact ih cs _ (h.mono hF)
   | some s=>
    rw[ht] at key
    obtain⟨i',e,hR⟩:=key
    simp only[e,gA]
    exact⟨i',rfl,hR⟩
variable {cnd:Tm→List Nat→List Nat} (hc:∀(ρ:Int→Int) (t:Tm) (l:List Nat),cnd (b7 ρ t) l=cnd t l)
omit hp in
theorem aL2{ρ:Int→Int}{t:Tm}(h:t.k=3):(b7 ρ t).s=t.s∧(b7 ρ t).ts=t.ts.map (b7 ρ)∧(b7 ρ t).k=3:=by
 rw[D5 ρ (by omega)]
 exact⟨rfl,rfl,h⟩
omit hp in
theorem aWM{ρ:Int→Int}{t:Tm}(h:t.k=3):d8 p (b7 ρ t)=d8 p t:=by
 obtain⟨h1,h2,_⟩:=aL2 (ρ:=ρ) h
 unfold d8 DB
 simp only[h1,h2,aF]
include hc
theorem aMW{s:RS}{i:IS}{g:RG}{gs:List RG}(hR:Rl s i)(hgs:s.goals=g::gs) :
 ∃h hs,i.goals=h::hs∧match iJ p cnd s g gs with
 | .stop e=>lW p cnd i h hs=.stop e
 | .go s'=>∃i',lW p cnd i h hs=.go i'∧Rl s' i'
 | .fail=>∃i',lW p cnd i h hs=.fail i'∧iO i'.fresh s.chs i'.chs i'.σ i'.tr:=by
 obtain⟨ρ,S,hG,C⟩:=hR
 rw[hgs] at hG
 obtain⟨gl,τ,tr,ds,F,nn⟩:=i
 simp only at S hG C ⊢
 cases gl with
 | nil=>exact absurd hG.1 (by simp)
 | cons h hs=>
  refine⟨h,hs,rfl,?_⟩
  have hGt:GL ρ s.N gs hs:=⟨(List.cons.inj hG.1).2,fun x hx=>hG.2 x (by simp [hx])⟩
  have he:=(List.cons.inj hG.1).1
  simp only[Prod.mk.injEq] at he
  obtain⟨e1,e2⟩:=he
  obtain⟨hgX,hg3⟩:=hG.2 g (by simp)
  have hT:=S.sim.rsT S.g1 S.g2 S.o1.k0 hgX.1
  obtain⟨rk,B,G⟩:=S.g1.rs
  have hV:=G.RL S.o1.k0 hgX.1
  unfold iJ lW
  simp only[e1,hT]
  have ht3:(g.t.aG (rs s.σ)).k=3:=by rw[Tm.pM _ (by omega)];exact hg3
  generalize g.t.aG (rs s.σ)=t at *
  obtain⟨r1,r2,r3⟩:=aL2 (ρ:=ρ) ht3
  have fD:eL (b7 ρ t)=eL t:=by unfold eL;rw[SC ρ hV.2.1,LW ρ hV.2.1]
  have xW:oB (b7 ρ t)=oB t:=by unfold oB;rw[r1,r2,r3,ht3,aF]
  simp only[fD,xW,aWM (p:=p) (ρ:=ρ) ht3,hc,r1,r2,aF]
  by_cases c1:eL t=false
  · rw[aH c1,aH c1]
  rw[aE c1,aE c1]
  have hX:bB s.N t:=⟨hV,by
   have:eL t=true:=by simpa using c1
   unfold eL at this
   simp only[cA,bJ] at this
   exact this.2⟩
  by_cases c2:oB t=true
  · rw[aH c2,aH c2]
    refine⟨_,rfl,ρ,S,hGt,?_⟩
    simp only[e2]
    exact C.take g.a8
  rw[aE c2,aE c2]
  by_cases c3:isBuiltin t.s (t.ts.length:Int)=true
  · rw[aH c3,aH c3]
    have hk:∀x∈t.ts,bB s.N x:=qJ _ t (by omega) hX
    obtain⟨q1,q2,q3⟩:=S.sim.dE S.g1 S.g2 S.o1 t.s t.ts hk
    have q4:=LZ S.g1 S.o1 t.s t.ts hk
    have q5:=LZ S.g2 S.o2 t.s (t.ts.map (b7 ρ)) (fun x hx=>by
     obtain⟨y,hy,rfl⟩:=cS.1 hx
     exact S.A4 (hk y hy))
    rw[q1]
    by_cases c4:(dE s.σ t.s t.ts).1=0
    · rw[aH c4,aH c4]
      exact⟨_,rfl,ρ,S.grow q4 q5 q3,hGt,C.more q5.AY⟩
    rw[aE c4,aE c4]
    by_cases c5:(dE s.σ t.s t.ts).1=1
    · rw[aH c5,aH c5]
      exact⟨_,rfl,C.more q5.AY⟩
    rw[aE c5,aE c5]
  rw[aE c3,aE c3]
  by_cases c6:d8 p t= []
  · rw[aH c6,aH c6]
  rw[aE c6,aE c6]
  have key:=MW hp (at':=nn) (nn:=nn+1) hX hGt (cnd t (d8 p t)) F (h::hs) S C
  cases hq:gJ p s.chs t gs s.σ s.N (cnd t (d8 p t)) with
  | none=>
   rw[hq] at key
   obtain⟨F',hF,e⟩:=key
   simp only[e,iL,dY]
   exact⟨_,rfl,C.mono hF⟩
  | some s'=>
   rw[hq] at key
   obtain⟨i',e,hR⟩:=key
   simp only[e,gA]
   exact⟨i',rfl,hR⟩
end
theorem aOD{ρ:Int→Int}{N:Int}{σ τ:Sub}(S:fQ ρ N σ τ):∀(l:List Tm) (acc:List Int),(∀t∈l,cJ N t)→(∀v∈acc,0≤v∧v<N)→bL (l.map (b7 ρ)) (acc.map ρ)=(bL l acc).map ρ∧∀v∈bL l acc,0≤v∧v<N
 | [],acc,_,ha=>⟨rfl,ha⟩
 | t::l,acc,h,ha=>by
  obtain⟨e1,e2⟩:=aOU (D:=fun v=>0≤v∧v<N) (h:=ρ) (fun v w hv hw e=>S.inj v w hv.1 hv.2 hw.1 hw.2 e) (f:=fun v=>vr (ρ v)) (fun _ _=>rfl) t (Tm.sG t (h t (by simp)).2.1) (h t (by simp)).2.2 acc ha
  simp only[bA,bL]
  rw[show(b7 ρ t).vars (acc.map ρ)=(t.vars acc).map ρ from e1]
  exact aOD S l _ (fun x hx=>h x (by simp [hx])) e2
theorem a10{ρ:Int→Int}{N:Int}{σ τ:Sub}(S:fQ ρ N σ τ){l:List Tm}(h:∀t∈l,cJ N t):nW (l.map (b7 ρ))=nW l∧(bL (l.map (b7 ρ)) []).length=(bL l []).length:=by
 obtain⟨e1,e2⟩:=aOD S l [] h (by simp)
 rw[aW] at e1
 refine⟨?_,by rw[e1,aF]⟩
 unfold nW
 rw[e1,tN]
 refine qU fun t ht=>?_
 simp only[EV]
 rw[HO]
 refine mN t fun v hv=>?_
 rw[Q3 (D:=fun v=>0≤v∧v<N) (fun v w hv hw e=>S.inj v w hv.1 hv.2 hw.1 hw.2 e) v ((h t ht).2.2 v hv) _ _ e2]
theorem aP9{ρ:Int→Int}{N F:Nat}{σ τ:Sub}(S:n6 ρ N F σ τ){vars:List Int}(hv:∀v∈vars,0≤v∧v<26):iA τ vars=iA σ vars:=by
 obtain⟨rk,B,G⟩:=S.g1.rs
 have hid:=S.idn
 have h26:=S.h26
 have e:vars.map (rs τ)=(vars.map (rs σ)).map (b7 ρ):=by
  rw[tN]
  refine qU fun v h=>?_
  obtain⟨h0,h1⟩:=hv v h
  have:=S.sim.rs S.g1 S.g2 S.o1.k0 v h0 (by omega)
  rw[hid v h0 h1] at this
  exact this
 have hok:∀t∈vars.map (rs σ),cJ N t:=fun t ht=>by
  obtain⟨v,h,rfl⟩:=cS.1 ht
  obtain⟨h0,h1⟩:=hv v h
  exact G.k0 S.o1.k0 v h0 (by omega)
 obtain⟨e1,e2⟩:=a10 S.sim hok
 have e3:((vars.map (rs σ)).map (b7 ρ)).all eL=(vars.map (rs σ)).all eL:=by
  rw[EW,uQ,dW,dW]
  have:∀t∈vars.map (rs σ),eL (b7 ρ t)=eL t:=fun t ht=>by unfold eL;rw[SC ρ (hok t ht).2.1,LW ρ (hok t ht).2.1]
  constructor
  · intro h t ht;rw[←this t ht];exact h t ht
  · intro h t ht;simp only[EV];rw[this t ht];exact h t ht
 unfold iA
 rw[e,e1,e2,e3]
section
variable {p:List Cl} (hp:∀c∈p,gE c) {cnd:Tm→List Nat→List Nat} (hc:∀(ρ:Int→Int) (t:Tm) (l:List Nat),cnd (b7 ρ t) l=cnd t l)
include hp hc
theorem a2A{vars:List Int}(hv:∀v∈vars,0≤v∧v<26):∀(n most fuel:Nat) (s:RS) (i:IS),most+fuel≤n→Rl s i→jJ p cnd vars most fuel i=jL p cnd vars most fuel s:=by
 intro n
 induction n with
 | zero=>
  intro most fuel s i hn hR
  obtain⟨rfl,rfl⟩:most=0∧fuel=0:=by omega
  obtain⟨ρ,S,hG,C⟩:=hR
  rw[jJ,jL]
  cases hgs:s.goals with
  | nil=>
   rw[hgs] at hG
   have hi:i.goals= []:=List.map_eq_nil_iff.1 hG.1
   simp [hi]
  | cons g gs=>
   rw[hgs] at hG
   cases hi:i.goals with
   | nil=>rw[hi] at hG;exact absurd hG.1 (by simp)
   | cons h hs=>simp
 | succ n ih=>
  intro most fuel s i hn hR
  cases hgs:s.goals with
  | nil=>
   obtain⟨ρ,S,hG,C⟩:=hR
   rw[hgs] at hG
   have hi:i.goals= []:=List.map_eq_nil_iff.1 hG.1
   rw[jJ,jL]
   simp only[hgs,hi]
   by_cases hm:most=0
   · simp [hm]
   simp only[hm,dif_neg,HC]
   rw[aP9 S hv]
   cases iA s.σ vars with
   | none=>rfl
   | some a=>
    simp only
    have key:=OC hp s.chs.length s.chs i C
    rw[C.len]
    cases hb:fU p s.chs.length s.chs with
    | none=>rw[hb] at key;simp only[key]
    | some s'=>
     rw[hb] at key
     obtain⟨i',e,hR'⟩:=key
     simp only[e]
     rw[ih (most - 1) fuel s' i' (by omega) hR']
  | cons g gs=>
   obtain⟨h,hs,hi,key⟩:=aMW hp hc hR hgs
   rw[jJ,jL]
   simp only[hgs,hi]
   by_cases hf:fuel=0
   · simp [hf]
   simp only[hf,dif_neg,HC]
   cases hq:iJ p cnd s g gs with
   | stop e=>
    rw[hq] at key
    simp only[key]
   | go s'=>
    rw[hq] at key
    obtain⟨i',e,hR'⟩:=key
    simp only[e]
    exact ih most (fuel - 1) s' i' (by omega) hR'
   | fail=>
    rw[hq] at key
    obtain⟨i',e,C'⟩:=key
    simp only[e]
    have LD:=OC hp s.chs.length s.chs i' C'
    rw[C'.len]
    cases hb:fU p s.chs.length s.chs with
    | none=>rw[hb] at LD;simp only[LD]
    | some s'=>
     rw[hb] at LD
     obtain⟨i'',e2,hR'⟩:=LD
     simp only[e2]
     exact ih most (fuel - 1) s' i'' (by omega) hR'
omit hp hc in
theorem aMV{q:List Tm}(hq:∀t∈q,bB 26 t∧t.k=3):Rl (k6 q) (oG q):=by
 refine⟨fun v=>v,⟨⟨fun v w _ _ _ _ e=>e,fun v _ _=>rfl⟩,fun v h0 h1=>⟨h0,h1⟩,cO.none,fun n u h=>(by cases h),cO.none,fun n u h=>(by cases h),fun _ _=>rfl,fun _ _=>rfl,c7 _,fun _ _ _=>rfl⟩,⟨?_,fun g hg=>?_⟩,.nil⟩
 · simp only[oG,k6,tN]
   refine qU fun t ht=>?_
   simp only[EV]
   rw[show b7 (fun v=>v) t=t from AM t (hq t ht).1.1.2.1]
 · simp only[k6] at hg
   obtain⟨t,ht,rfl⟩:=cS.1 hg
   exact hq t ht
theorem a24{q:List Tm}(hq:∀t∈q,bB 26 t∧t.k=3)(most fuel:Nat):jJ p cnd (bL q []) most fuel (oG q)=uK p cnd q most fuel:=by
 refine a2A hp hc (fun v hv=>?_) _ most fuel _ _ (c7 _) (aMV hq)
 rw[tC _ _ fun t ht=>(hq t ht).1.1.2.1] at hv
 rcases hv with hv | ⟨t,ht,hv⟩
 · cases hv
 · exact(hq t ht).1.1.2.2 v hv
end
theorem aUT{c:Cl}(h:j9 c=true):gE c:=by
 simp only[j9,cA,bJ,dW] at h
 refine⟨⟨Tm.IN h.1.1,Tm.EP h.1.1⟩,fun t ht=>?_⟩
 have hg:=h.2.2 t ht
 have hk:t.valid=true∧t.k=3:=by
  obtain⟨k,n,s,ts⟩:=t
  simp only[Tm.goal,cA] at hg
  refine⟨hg.1,?_⟩
  have:=hg.2
  simp only[vT,lH,pS,cA,bJ] at this
  simp only[Tm.k]
  rcases this with (h | h) | h<;>first | exact h.1 | exact h.1.1 | exact h.1.1.1
 exact⟨⟨Tm.IN hk.1,Tm.EP hk.1⟩,hk.2⟩
end Go.AW
namespace Go.AW
open Go.Proofs.Tryz
abbrev cU (l:List Tm):AV:=.agg [.slice (l.map Tm.av)]
theorem Tm.PU{t:Tm}(h:t.goal=true):t.valid=true:=by
 cases t;simp only[Tm.goal,cA] at h;exact h.1
theorem aLT{q:List Tm}(h:kF q=true):(∀t∈q,t.valid=true)∧q.length≤6:=by
 simp only[kF,cA,bJ,dW] at h
 exact⟨fun t ht=>Tm.PU (h.2 t ht),h.1⟩
theorem aLS{q:List Tm}(h:kF q=true):bF Tm.nodes q≤1099511627776:=by
 obtain⟨h1,h2⟩:=aLT h
 have:=a28 h1
 omega
def valOf(vars:List Int)(fN:List Tm)(n:Int):Tm:=(fN[(d5 n vars 0).toNat]?).getD (vr n)
def xU(q fN:List Tm):Bool:=kF q&&decide (fN.length=(bL q []).length)&&fN.all Tm.valid
def nM(q fN:List Tm):Option (List Tm):=
 if xU q fN=true∧(q.map (Tm.aG (valOf (bL q []) fN))).all Tm.valid=true then some (q.map (Tm.aG (valOf (bL q []) fN))) else none
theorem G5(v:Int):∀(l:List Int) (i:Int),v∈l→∃j:Nat,d5 v l i=i+j∧j<l.length∧l[j]?=some v∧∀k:Nat,k<j→l[k]?≠some v
 | [],i,h=>by simp at h
 | x::xs,i,h=>by
  simp only[d5]
  by_cases e:v=x
  · exact⟨0,by rw[aH e];simp,by simp,by simp [e],fun k hk=>absurd hk (Nat.not_lt_zero k)⟩
  · obtain⟨j,h1,h2,h3,h4⟩:=G5 v xs (i+1) (by simpa [e] using h)
    refine⟨j+1,by rw[aE e,h1];omega,by simp;omega,by simpa using h3,fun k hk=>?_⟩
    cases k with
    | zero=>simp;exact fun h=>e h.symm
    | succ k=>simpa using h4 k (by omega)
abbrev L3:=zi tI_3 (zi zI_3 (zi aX (zi tI_4 (zi zI_4 (zi cE (zi tI_31 (zi zI_31 (zi aN (zi bG (zi bH (zi b9 (zi tI_46 (zi zI_46 (zi dH (zi fA (zi eX (zi fB (zi tI_59 (zi zI_59 (zi t8 tW))))))))))))))))))))
theorem aRX(fN q:List Tm)(st:aB):aD prog 99 [cU fN,.slice (q.map Tm.av)] st (fun r st'=>r=.bool (xU q fN)∧st'=st):=by
 refine wF [1000000] 2 func99 ntmps99 rfl rfl ?_
 simp only[eC,AV.fits,eF,aF]
 intro ⟨⟨hl,_⟩,⟨hl2,_⟩⟩
 unfold xU
 simp -implicitDefEqProofs only[cU,aA,seval,L3]
 refine wP [(0,1),(1,2),(2,1),(3,1),(6,1),(4,1),(5,1),(7,0),(8,1),(9,1),(10,1),(11,1),(12,1),(13,2),(14,0),(15,1),(16,1)] [0,1,2,3,6,4,5,8,9,10,11,12,13,15,16] mixed ?_
 simp -implicitDefEqProofs only[aA,seval]
 refine iD (WD q _) ?_
 simp -implicitDefEqProofs only[aA,seval]
 refine cV (fun h=>?_) (fun h=>?_)
 case refine_2=>
  simp -implicitDefEqProofs only[h,aA,seval]
  simp at h
  simp []
 simp -implicitDefEqProofs only[h,aF,aA,seval,L3]
 refine(FW q _ (aLS h)).to ?_
 simp -implicitDefEqProofs only[aF,aA,seval,L3]
 refine cV (fun h2=>?_) (fun h2=>?_)
 case refine_2=>
  simp -implicitDefEqProofs only[h2,aA,seval]
  simp at h2
  rw[show decide (fN.length=(bL q []).length)=false by simp;omega,gK]
 simp -implicitDefEqProofs only[h2,aA,seval,L3]
 refine(V9 fN _).to ?_
 simp -implicitDefEqProofs only[aA,seval]
 simp at h2
 rw[show decide (fN.length=(bL q []).length)=true by simp;omega,eV]
abbrev SO:=zi tI_3 (zi zI_3 (zi aX (zi tI_31 (zi zI_31 (zi aN (zi bG (zi bH (zi b9 (zi tI_46 (zi zI_46 (zi dH (zi fA (zi eX (zi fB (zi tI_59 (zi zI_59 (zi t8 (zi tW (zi tI_66 (zi zI_66 (zi bQ (zi bR (zi bS (zi bT bP))))))))))))))))))))))))
theorem aQ7(fN:List Tm)(vars:List Int)(n:Int)(hn:n∈vars)(hl:fN.length=vars.length)(st:aB):aD prog 127 [.int .i64 n,.pptr (cU fN),.pptr (.slice (vars.map iv))] st (fun r st'=>r=(valOf vars fN n).av∧st'=st):=by
 refine aD.done ?_
 refine wF [1000000] 3 func127 ntmps127 rfl rfl ?_
 intro _
 obtain⟨j,h1,h2,h3,_⟩:=G5 n vars 0 hn
 obtain⟨x,hx⟩:∃x,fN[j]?=some x:=⟨_,eE (by omega)⟩
 have hat:=bM (av:=Tm.av) aN hx (aJ x)
 rw[Int.zero_add] at h1
 simp -implicitDefEqProofs only[cU,aA,seval,SO]
 intro b hb
 refine wP [(0,1),(3,1),(1,2),(2,2),(4,2),(5,1),(6,2),(7,0)] [0,3,1,2,4,5,6] mixed ?_
 simp -implicitDefEqProofs only[aA,seval,SO]
 refine iD (OJ vars n _) ?_
 rw[h1]
 simp -implicitDefEqProofs only[hat,aA,seval,SO]
 refine⟨by rw[Tm.soft,valOf,h1,kR,hx];try rfl,(aM.refl _).aC hb⟩
abbrev L2:=zi tI_3 (zi zI_3 (zi aX (zi tI_4 (zi zI_4 (zi cE (zi tI_31 (zi zI_31 (zi aN (zi bG (zi bH (zi b9 (zi tI_46 (zi zI_46 (zi dH (zi fA (zi eX (zi fB (zi tI_59 (zi zI_59 (zi t8 (zi tW (zi tI_66 (zi zI_66 (zi bQ (zi bR (zi bS (zi bT bP)))))))))))))))))))))))))))
theorem aR2(q fN:List Tm)(st:aB):aD prog 52 [.slice (q.map Tm.av),cU fN] st (fun r st'=>∃o,r=.tup [o,.bool (nM q fN).isSome]∧Made st (.slice (((nM q fN).getD []).map Tm.av)) o st'):=by
 refine wF [1000000] 2 func52 ntmps52 rfl rfl ?_
 simp only[eC,AV.fits,eF,aF]
 intro ⟨⟨hl2,_⟩,hl,_⟩
 simp -implicitDefEqProofs only[aA,seval,L2]
 refine(aRX fN q _).to ?_
 simp -implicitDefEqProofs only[aA,seval]
 have qD:nM q fN=none→∃o,AV.tup [.fslice [],.bool false]=.tup [o,.bool (nM q fN).isSome]∧Made st (.slice (((nM q fN).getD []).map Tm.av)) o st:=fun h=>by
  rw[h]
  exact⟨_,rfl,[],oW,by simp,by simp [cK],fun _ _=>rfl⟩
 refine aQ (fun h=>?_) (fun h=>?_)
 · simp only[kQ] at h
   simp -implicitDefEqProofs only[aA,seval]
   exact qD (by rw[nM,aE (by simp [h])])
 simp only[qR] at h
 have hq:kF q=true:=by simp only[xU,cA] at h;exact h.1.1
 have hvl:fN.length=(bL q []).length:=by simp only[xU,cA,bJ] at h;exact h.1.2
 have hva:∀x∈fN,x.valid=true:=by simp only[xU,cA,dW] at h;exact h.2
 obtain⟨hqv,hq6⟩:=aLT hq
 simp -implicitDefEqProofs only[aA,seval]
 refine(FW q _ (aLS hq)).to ?_
 simp -implicitDefEqProofs only[aF,aA,↓aU,seval,L2]
 have hcl:∀x∈q,∀n∈x.vl,∀s,aD prog 127 [.int .i64 n,.pptr (cU fN),.pptr (.slice ((bL q []).map iv))] s (fun r s'=>r=(valOf (bL q []) fN n).av∧s'=s):=fun x hx n hn s=>
  aQ7 fN (bL q []) n ((tC q [] fun t ht=>Tm.a40 (hqv t ht)).2 (.inr ⟨x,hx,hn⟩)) hvl s
 have hfs:∀n,(valOf (bL q []) fN n).small=true:=fun n=>by
  unfold valOf
  cases hv:fN[(d5 n (bL q []) 0).toNat]? with
  | none=>rfl
  | some x=>exact Tm.IP (hva x (cP hv))
 generalize hF:valOf (bL q []) fN=F at *
 refine rT (σ:=Unit) [1000000] [3,4,5,6,16,17] (q) 4 7 (fun i _=>(((q).take i).map (Tm.aG F)).map Tm.av) (fun _ _=>True) (fun i _=>[(18,.int .i64 i)]) (fun _ _=>st) (fun i _ _ e he=>by simp only[cS] at he;obtain⟨t,_,rfl⟩:=he;exact⟨cG t,aJ t⟩) (by decide +kernel) ⟨(),0,trivial,fun h=>absurd rfl h,aO.mk (by simp -implicitDefEqProofs only[jG,kS,aW,aA,↓aU,seval])⟩ (fun i x s b hx hlt bV hdr hinv hb=>?_) (fun s b hge hinv=>?_)
 case refine_1=>
  have hw:=bO (n:=(i:Int)+1)
  have cZ:((((q).take i).map (Tm.aG F)).map Tm.av).length=i:=by simp only[aF,dS];omega
  have htk:((((q).take i).map (Tm.aG F)).map Tm.av)++ [Tm.av ((Tm.aG F) x)]=(((q).take (i+1)).map (Tm.aG F)).map Tm.av:=by rw[fG,hx];simp
  have hat:=bM (av:=Tm.av) aN hx (aJ x)
  simp -implicitDefEqProofs only[bV,hat,aA,↓aU,seval,L2]
  refine(JY F _ [.pptr (cU fN),.pptr (.slice ((bL q []).map iv))] rfl x _ (Tm.IP (hqv x (cP hx))) (hcl x (cP hx))).to ?_
  simp -implicitDefEqProofs only[aA,seval,L2]
  refine eW aN bG bH rfl rfl (fM (aJ _) (cC _)) (by intro e he;simp only[cS] at he;obtain⟨t,_,rfl⟩:=he;exact aJ t) hb (by simp only[cZ,aS,aZ];omega) (by simp only[cZ,aS,aZ];omega) (fun b' hb'=>?_)
  rw[htk] at hb' ⊢
  simp -implicitDefEqProofs only[aA,seval]
  exact⟨(),b',hb',aO.mk (by simp -implicitDefEqProofs only[hw,aA,seval])⟩
 simp -implicitDefEqProofs only[hge,eG,pC,iN,oD,zX,lV,eS,aA,seval]
 refine(V9 _ _).to ?_
 simp -implicitDefEqProofs only[aA,seval]
 refine aQ (fun h2=>?_) (fun h2=>?_)
 · simp only[kQ] at h2
   simp -implicitDefEqProofs only[aA,seval]
   exact qD (by rw[nM,aE (by rw[hF];simp [h2])])
 simp only[qR] at h2
 simp -implicitDefEqProofs only[aA,seval]
 have hsm:∀x∈q.map (Tm.aG F),x.small=true:=fun x hx=>by
  obtain⟨y,hy,rfl⟩:=cS.1 hx
  exact Tm.a0J hfs y (Tm.IP (hqv y hy))
 refine(RJ (q.map (Tm.aG F)) _ (by rw[aF];omega) fun x hx s=>RH x s (hsm x hx)).mono ?_
 rintro o s1 hm
 have hoj:o.cF=false:=by obtain⟨bs,_,_,h3,_⟩:=hm;exact(cK.shape h3).2.2.1
 simp -implicitDefEqProofs only[hoj,aA,seval]
 rw[nM,hF,aH ⟨h,h2⟩]
 exact⟨o,rfl,hm⟩
theorem TE:∀(a b:List Tm) (l:List Int),bL (a++b) l=bL b (bL a l)
 | [],_,_=>rfl
 | t::a,b,l=>by simp only[fL,bL,TE a b]
abbrev SP:=zi tI_3 (zi zI_3 (zi aX (zi tI_31 (zi zI_31 (zi aN (zi bG (zi bH (zi b9 (zi tI_46 (zi zI_46 (zi dH (zi fA (zi eX (zi fB (zi tI_66 (zi zI_66 (zi bQ (zi bR (zi bS (zi bT bP))))))))))))))))))))
theorem W6(q:List Tm)(st:aB)(hwf:∀t∈q,t.wf=true)(hsz:bF Tm.nodes q≤1099511627776):aD prog 157 [.slice (q.map Tm.av)] st (fun r st'=>r=.slice ((bL q []).map iv)∧st'=st):=by
 refine aD.done ?_
 refine wF [1000000] 1 func157 ntmps157 rfl rfl ?_
 simp only[eC,AV.fits,eF,aF]
 intro ⟨hl,_⟩
 simp -implicitDefEqProofs only[aA,seval,SP]
 refine rT (σ:=Unit) [1000000] [0,2] q 1 3 (fun i _=>(bL (q.take i) []).map iv) (fun _ _=>True) (fun i _=>[(4,.int .i64 i)]) (fun _ _=>st) (fun i _ _ e he=>by simp only[cS] at he;obtain⟨t,_,rfl⟩:=he;exact⟨rfl,rfl⟩) (by decide +kernel) ⟨(),0,trivial,fun h=>absurd rfl h,aO.mk (by simp -implicitDefEqProofs only[jG,kS,bL,aW,aA,↓aU,seval])⟩ (fun i x s b hx hlt bV hdr hinv hb=>?_) (fun s b hge hinv=>?_)
 case refine_2=>
  simp -implicitDefEqProofs only[hge,eG,iN,oD,lV,eS,aF,aA,seval,SP]
  exact⟨rfl,aM.refl _⟩
 have hw:=bO (n:=(i:Int)+1)
 have hat:=bM (av:=Tm.av) aN hx (aJ x)
 have hst:=HW Tm.nodes hx
 have hvl:=yM (q.take i) []
 simp only[aZ,hH] at hvl
 have htk:x.vars (bL (q.take i) [])=bL (q.take (i+1)) []:=by
  rw[fG,hx,TE]
  try rfl
 simp -implicitDefEqProofs only[bV,aF,hat,aA,seval,SP]
 refine(FT x (bL (q.take i) []) b st (hwf x (cP hx)) hb (by omega)).mono ?_
 rintro _ _ ⟨b',rfl,rfl,hb'⟩
 rw[htk] at hb' ⊢
 simp -implicitDefEqProofs only[aA,seval]
 exact⟨(),b',hb',aO.mk (by simp -implicitDefEqProofs only[hw,aA,seval])⟩
end Go.AW
