import Derived.Test.YtimfffmcljmfgaaGreatDoorUxm
import Derived.Test.YtimfffmcljmfgaaGreatDoorUxl
import Derived.Test.YtimfffmcljmfgaaGreatDoorUxj
import Derived.Test.YtimfffmcljmfgaaGreatDoorUxi
import Derived.Test.YtimfffmcljmfgaaGreatDoorUxf
import Derived.Lib.SliceRun
set_option linter.unusedSimpArgs false
set_option linter.unusedVariables false
set_option maxRecDepth 100000
namespace Go.AW
open Go.Proofs.Tryz
def dA(N:Nat)(σ:Sub):List AV:=(List.range N).map fun i:Nat=>cellOf (σ (i:Int))
theorem E4(N:Nat)(σ:Sub):∀e∈dA N σ,e.width=4:=by intro e h;simp only[dA,cH] at h;obtain⟨i,_,rfl⟩:=h;exact MX _
theorem CH(N:Nat)(σ:Sub){i:Nat}(h:i<N):(dA N σ)[i]?=some (cellOf (σ (i:Int))):=by
 simp only[dA,lY,List.getElem?_range h,pA]
theorem aWN(N:Nat)(σ:Sub){i:Nat}(h:i<N)(u:Tm):(dA N σ).set i u.av=dA N (σ.set (i:Int) u):=by
 apply EJ
 intro j
 by_cases hj:j<N
 · rw[CH N _ hj,List.getElem?_set]
   by_cases e:i=j
   · subst e
     simp [dA,hj,Sub.set,cellOf]
   · rw[aE e,CH N _ hj]
     simp only[Sub.set]
     rw[aE (by omega)]
 · rw[xI (by simp [dA];omega),xI (by simp [dA];omega)]
def fV(N:Nat)(st:aA)(b:Nat)(σ:Sub):Prop:=st b=some (.cells ((dA N σ).flatMap AV.cells))
theorem fV.mid{N:Nat}{st:aA}{b:Nat}{σ:Sub}(h:fV N st b σ){i:Nat}(hi:i<N) :
 ∃A B,st b=some (.cells (A++(cellOf (σ (i:Int))).cells++B))∧A.length=i*4∧∀(u:Tm),fV N (st.aC b (.cells (A++u.av.cells++B))) b (σ.set (i:Int) u):=by
 obtain⟨A,B,h1,h2,h3⟩:=a2K (E4 N σ) (CH N σ hi)
 refine⟨A,B,by rw[←h1];exact h,h2,fun u=>?_⟩
 unfold fV
 rw[aA.aJ,←aWN N σ hi,h3]
theorem fV.aC{N:Nat}{st:aA}{b x:Nat}{σ:Sub}{o:AO}(h:fV N st b σ)(hx:x≠b):fV N (st.aC x o) b σ:=by
 unfold fV
 rw[aA.aG _ _ (dH hx)]
 exact h
theorem fV.none{N:Nat}{st:aA}{b:Nat}{σ:Sub}(h:fV N st b σ){i:Nat}(hi:i<N)(hn:σ (i:Int)=Option.none) :
 ∃D,st b=some (.cells D)∧D[i*4+0]?=some (.int .i64 0)∧i*4+4≤D.length:=by
 obtain⟨A,B,e1,e2,_⟩:=h.mid hi
 rw[hn] at e1
 obtain⟨r1,r2,r3⟩:=aAI (B:=B) (C:=(cellOf Option.none).cells) e2 rfl
 exact⟨_,e1,r3,r1⟩
theorem fV.some{N:Nat}{st:aA}{b:Nat}{σ:Sub}(h:fV N st b σ){i:Nat}(hi:i<N){k n:Int}{s:ByteArray}{ts:List Tm}(hn:σ (i:Int)=Option.some (.mk k n s ts)) :
 ∃D,st b=Option.some (.cells D)∧D[i*4+0]?=Option.some (.int .i64 k)∧i*4+4≤D.length∧List.take 4 (List.drop (i*4) D)= [.int .i64 k,.int .i64 n,.str s,.slice (ts.map Tm.av)]:=by
 obtain⟨A,B,e1,e2,_⟩:=h.mid hi
 rw[hn] at e1
 simp only[cellOf,bA,AV.cells] at e1
 obtain⟨r1,r2,r3⟩:=aAI (B:=B) (C:=[.int .i64 k,.int .i64 n,.str s,.slice (ts.map Tm.av)]) e2 rfl
 exact⟨_,e1,r3,r1,r2⟩
theorem fV.set{N:Nat}{st:aA}{b:Nat}{σ:Sub}(h:fV N st b σ){i:Nat}(hi:i<N)(u:Tm) :
 ∃D D',st b=Option.some (.cells D)∧i*4+4≤D.length∧aK D (i*4) u.av.cells=D'∧fV N (st.aC b (.cells D')) b (σ.set (i:Int) u):=by
 obtain⟨A,B,e1,e2,e3⟩:=h.mid hi
 obtain⟨p1,p2⟩:=a7S (B:=B) (C:=(cellOf (σ (i:Int))).cells) (x:=u.av.cells) e2 (a0P _) (cL u)
 exact⟨_,_,e1,p2,p1,e3 u⟩
abbrev G7:=zi tI_3 (zi zI_3 (zi aY (zi tI_31 (zi zI_31 (zi aQ (zi bS (zi bT (zi cI (zi tI_66 (zi zI_66 (zi bZ (zi b9 (zi cA (zi cB bY))))))))))))))
theorem aA1{N:Nat}{σ:Sub}(hok:c9 (cO N) σ){f:Nat}{t u:Tm}(hw:gK σ f t u)(ht:cO N t)(b:Nat)(st:aA)(hS:fV N st b σ):aD prog 354 [t.av,.mslice b 0 N 4] st (fun r st'=>r=u.av∧st'=st):=by
 refine aD.done ?_
 refine wF [1000000,2] 2 func354 ntmps354 rfl rfl ?_
 intro _
 simp -implicitDefEqProofs only[aB,seval,G7]
 intro b2 h2 b4 h4
 have hne:b4≠b2:=by rintro rfl;rw[aA.aJ] at h4;cases h4
 have hn4:st b4=none:=by rw[aA.aG st _ hne] at h4;exact h4
 have hb2:b2≠b:=by rintro rfl;rw[fV,h2] at hS;cases hS
 have hb4:b4≠b:=by rintro rfl;rw[fV,hn4] at hS;cases hS
 refine iP (σ:=Nat×Tm) [1000000,2] [1,2,4] (fun p=>gK σ p.1 p.2 u∧cO N p.2) (fun p=>[]) (fun p=>(st.aC b2 (.cells p.2.av.cells)).aC b4 (.cells [.int .i64 0,.int .i64 0,.str ⟨#[]⟩,.fslice []])) (fun p=>p.1) (by decide +kernel) ⟨(f,t),⟨hw,ht⟩,aM.mk (by simp -implicitDefEqProofs only[aB,seval])⟩ ?_
 rintro⟨g,t⟩ ⟨hw,ht⟩
 obtain⟨k,n,s,ts⟩:=t
 simp only at hw ht
 simp only[bA]
 have wN:k≠1∨σ n=none→u=.mk k n s ts:=fun h=>by
  cases hw with
  | stop _=>rfl
  | go h1 h2 _=>
   simp only[Tm.k] at h1
   rcases h with h | h
   · exact absurd h1 h
   · rw[show σ n=some _ from h2] at h;cases h
 simp -implicitDefEqProofs only[hne.symm,aB,seval,G7]
 refine cX (fun h=>?_) (fun h=>?_)
 case refine_2=>
  simp -implicitDefEqProofs only[h,aK,hne.symm,aB,seval,G7]
  simp only[kP,dJ] at h
  rw[wN (.inl h),←bA]
  exact⟨Tm.soft _,((aL.refl _).aC h2).aC hn4⟩
 simp only[bK] at h
 subst h
 obtain⟨hn0,hn1,_⟩:=ht.var
 obtain⟨i,rfl⟩:∃i:Nat,n=i:=⟨n.toNat,by omega⟩
 have hi:i<N:=by omega
 have hi':decide ((i:Int)<(N:Int))=true:=by simp;omega
 simp -implicitDefEqProofs only[bV,hi',lB,hne.symm,aB,seval,G7]
 have hat:=qV (P:=prog) (b:=b) (len:=N) aQ hi
 cases hw with
 | stop hs=>
  obtain⟨D,e1,e2,_⟩:=hS.none hi (hs rfl)
  simp -implicitDefEqProofs only[hat,e1,e2,bV,aK,hne.symm,hb2.symm,hb4.symm,aB,seval,G7]
  exact⟨by rw[←bA,Tm.soft],((aL.refl _).aC h2).aC hn4⟩
 | go h1 h2' h3=>
  simp only[Tm.n] at h2'
  have ho:=hok _ _ h2'
  rename_i g' u'
  obtain⟨k',n',s',ts'⟩:=u'
  have hk':¬k'=0:=by have:=ho.kind.1;omega
  obtain⟨D,e1,e2,e3,e4⟩:=hS.some hi h2'
  have e5:i*4+0+4≤D.length:=e3
  simp -implicitDefEqProofs only[hat,e1,e2,e3,e4,hk',bX,aK,hne.symm,hb2.symm,hb4.symm,aB,seval,G7]
  rw[aA.BR hne,aA.m7 _ _ _ hne]
  refine⟨(g',.mk k' n' s' ts'),Nat.lt_succ_self _,⟨h3,ho⟩,?_⟩
  simp only[bA]
  exact aM.mk (by simp -implicitDefEqProofs only[aB,seval])
theorem fV.acc{N:Nat}{st:aA}{b bW:Nat}{σ:Sub}{l:List AV}(h:fV N st b σ)(hb:l≠[]→st bW=Option.none):fV N (aZ st bW l) b σ:=by
 cases l with
 | nil=>exact h
 | cons x l=>exact h.aC (by rintro rfl;rw[fV,hb (by simp)] at h;cases h)
abbrev K0:=zi tI_3 (zi zI_3 (zi aY (zi tI_4 (zi zI_4 (zi cJ (zi tI_31 (zi zI_31 (zi aQ (zi bS (zi bT (zi cI (zi tI_46 (zi zI_46 (zi cZ (zi eG (zi eE (zi eT (zi tI_66 (zi zI_66 (zi bZ (zi b9 (zi cA (zi cB bY)))))))))))))))))))))))
theorem aW7{N:Nat}{σ:Sub}{R:Int→Tm}{rk:Int→Nat}{B:Nat}(G:Good σ R rk B)(hok:c9 (bJ N) σ)(hN:N≤1048576){n:Int}(hn:σ n=none)(t:Tm)(ht:bJ N t)(b:Nat)(st:aA)(hS:fV N st b σ) :
 aD prog 355 [.int .i64 n,t.av,.mslice b 0 N 4] st (fun r st'=>r=.bool (decide (n∈(t.aN R).vl))∧st'=st):=by
 refine aD.done ?_
 refine wF [1000000] 3 func355 ntmps355 rfl rfl ?_
 intro _
 simp -implicitDefEqProofs only[aB,seval,K0]
 have h0:=IR t [] 0 st (Tm.wG t (ht.1.2.1)) (fun h=>absurd rfl h) (by have:=ht.2;simp only[a8];omega)
 simp only[a7,iY,uJ] at h0
 refine h0.mono ?_
 rintro _ _ ⟨b0,rfl,rfl,hb0⟩
 obtain⟨v1,v2,_⟩:=YK t (Tm.wG t (ht.1.2.1)) []
 simp -implicitDefEqProofs only[aB,seval]
 refine iP (σ:=Nat×List Int×Nat) [1000000] [0,2]
  (fun p=>p.1≤p.2.1.length∧p.2.1.Nodup∧(∀w∈p.2.1,w∈VN N)∧(p.2.1.map iv≠[]→st p.2.2=none)∧(∀w∈p.2.1.take p.1,w≠n∧∀u,σ w=some u→∀v∈u.vl,v∈p.2.1)∧(∀w∈p.2.1,n∈(R w).vl→n∈(t.aN R).vl)∧(n∈(t.aN R).vl→∃w∈p.2.1,n∈(R w).vl))
  (fun p=>[(6,.bool false),(7,bU 1 p.2.2 (p.2.1.map iv)),(8,.int .i64 p.1)]) (fun p=>aZ st p.2.2 (p.2.1.map iv)) (fun p=>N - p.1) (by decide +kernel)
  ⟨(0,t.vars [],b0),⟨jE _,v2 lZ,fun w hw=>?_,hb0,by simp,fun w hw hm=>?_,fun hm=>?_⟩,aM.mk (by simp -implicitDefEqProofs only[aB,↓aU,seval])⟩ ?_
 · rcases (v1 w).1 hw with h | h
   · cases h
   · exact yX.2 (ht.1.2.2 w h)
 · rcases (v1 w).1 hw with h | h
   · cases h
   · exact(BS t).2 ⟨w,h,hm⟩
 · obtain⟨w,hw,hm⟩:=(BS t).1 hm
   exact⟨w,(v1 w).2 (.inr hw),hm⟩
 rintro⟨i,W,bW⟩ ⟨i1,i2,i3,i4,i5,i6,i7⟩
 simp only at i1 i2 i3 i4 i5 i6 i7
 have haL:=CG (w:=1) (b:=bW) (l:=W.map iv) eT
 have hWl:=GI i2 (fun m hm=>yX.1 (i3 m hm))
 simp -implicitDefEqProofs only[haL,aF,aB,seval]
 refine aP (fun h=>?_) (fun h=>?_)
 case refine_2=>
  simp only[dJ,oE] at h
  obtain rfl:i=W.length:=by omega
  rw[dZ] at i5
  simp -implicitDefEqProofs only[aB,seval]
  have hno:n∉(t.aN R).vl:=fun hm=>by
   obtain⟨w,hw,hnw⟩:=i7 hm
   exact bBO G i5 w hw hnw
  exact⟨by simp only[hno,bX,sI],aL.aZ (aL.refl _) i4⟩
 simp only[bK,oE] at h
 obtain⟨w,hx⟩:∃w,W[i]?=some w:=⟨_,eA h⟩
 have fT:=cM hx
 have hat:=Z4 (b:=bW) (l:=W.map iv) (i:=i) (x:=iv w) cZ (by rw[lY,hx];try rfl)
 obtain⟨gN,A1⟩:=Z5 (st:=st) (b:=bW) hx
 have hw:=bE (n:=(i:Int)+1)
 simp -implicitDefEqProofs only[hat,gN,A1,xL,aB,seval,K0]
 refine aP (fun h2=>?_) (fun h2=>?_)
 · simp only[bK] at h2
   subst h2
   simp -implicitDefEqProofs only[aB,seval]
   have hm:w∈(t.aN R).vl:=i6 w fT (by rw[G.free hn,BT];simp)
   exact⟨by simp only[hm,bV,sI],aL.aZ (aL.refl _) i4⟩
 simp only[dJ] at h2
 simp -implicitDefEqProofs only[hat,gN,A1,xL,aB,seval,K0]
 obtain⟨hw0,hw1⟩:=yX.1 (i3 w fT)
 obtain⟨j,rfl⟩:∃j:Nat,w=j:=⟨w.toNat,by omega⟩
 have hj:j<N:=by omega
 have hj':decide ((j:Int)<(N:Int))=true:=by simp;omega
 have aOZ:=qV (P:=prog) (b:=b) (len:=N) aQ hj
 have hSA:=hS.acc i4
 have htk:W.take (i+1)=W.take i++ [(j:Int)]:=by rw[eD,hx];try rfl
 have step:∀W':List Int,(∀v∈W,v∈W')→(∀u,σ (j:Int)=some u→∀v∈u.vl,v∈W')→∀w∈W'.take (i+1),W'.take (i+1)=W.take (i+1)→w≠n∧∀u,σ w=some u→∀v∈u.vl,v∈W':=by
  intro W' kX jJ w hw' hte
  rw[hte,htk] at hw'
  rcases d6.1 hw' with hw' | hw'
  · exact⟨(i5 w hw').1,fun u hu v hv=>kX v ((i5 w hw').2 u hu v hv)⟩
  · simp only[c7,dT,d4] at hw'
    subst hw'
    exact⟨h2,jJ⟩
 cases hs:σ (j:Int) with
 | none=>
  obtain⟨D,e1,e2,_⟩:=hSA.none hj hs
  simp -implicitDefEqProofs only[hj',aOZ,e1,e2,bV,lB,hat,gN,A1,xL,hw,aB,seval,K0]
  exact⟨(i+1,W,bW),by simp only;omega,⟨h,i2,i3,i4,fun w hw'=>step W (fun _ h=>h) (fun u hu=>by rw[hs] at hu;cases hu) w hw' rfl,i6,i7⟩,aM.mk (by simp -implicitDefEqProofs only[aB,seval])⟩
 | some u=>
  obtain⟨k',n',s',ts'⟩:=u
  have ho:=hok _ _ hs
  have hk':¬k'=0:=by have:=ho.1.kind.1;omega
  obtain⟨D,e1,e2,e3,e4⟩:=hSA.some hj hs
  simp -implicitDefEqProofs only[hj',aOZ,e1,e2,e3,e4,hk',bX,lB,hat,gN,A1,xL,aB,seval,K0]
  have hwf:=Tm.wG _ (ho.1.2.1)
  have hc:=IR (.mk k' n' s' ts') W bW st hwf i4 (by have:=ho.2;omega)
  obtain⟨u1,u2,m,u3⟩:=YK _ hwf W
  rw[bA] at hc
  refine hc.mono ?_
  rintro _ _ ⟨b',rfl,rfl,hb'⟩
  generalize (Tm.mk k' n' s' ts').vars W=W' at *
  have hte:W'.take (i+1)=W.take (i+1):=by rw[u3,EM (by omega)]
  have hbd:(Tm.mk k' n' s' ts').aN R=R (j:Int):=(G.bound hs).symm
  simp -implicitDefEqProofs only[hw,aB,seval]
  refine⟨(i+1,W',b'),by simp only;omega,⟨by rw[u3];simp only[dQ];omega,u2 i2,fun w hw'=>?_,hb',fun w hw'=>step W' (fun v hv=>(u1 v).2 (.inl hv)) (fun u hu v hv=>?_) w hw' hte,fun w hw' hm=>?_,fun hm=>?_⟩,aM.mk (by simp -implicitDefEqProofs only[aB,seval])⟩
  · rcases (u1 w).1 hw' with h | h
    · exact i3 w h
    · exact yX.2 (ho.1.2.2 w h)
  · rw[hs] at hu
    cases hu
    exact(u1 v).2 (.inr hv)
  · rcases (u1 w).1 hw' with h | h
    · exact i6 w h hm
    · refine i6 (j:Int) fT ?_
      rw[←hbd]
      exact(BS _).2 ⟨w,h,hm⟩
  · obtain⟨w,h,hm⟩:=i7 hm
    exact⟨w,(u1 w).2 (.inl h),hm⟩
def AN(N b:Nat)(st:aA)(σ':Sub)(st':aA):Prop:=fV N st' b σ'∧∀x o,st x=some o→x≠b→st' x=some o
theorem AN.refl{N b:Nat}{st:aA}{σ:Sub}(h:fV N st b σ):AN N b st σ st:=⟨h,fun _ _ h _=>h⟩
theorem AN.trans{N b:Nat}{st s2 s3:aA}{σ2 σ3:Sub}(x:AN N b st σ2 s2)(y:AN N b s2 σ3 s3):AN N b st σ3 s3:=⟨y.1,fun q o h hn=>y.2 q o (x.2 q o h hn) hn⟩
def H3(N:Nat)(f:Nat)(b:Nat)(σ:Sub)(a c:Tm)(r:Bool)(σ':Sub):Prop:=∀st,fV N st b σ→aD prog f [a.av,c.av,.mslice b 0 N 4] st (fun r' st'=>r'=.bool r∧AN N b st σ' st')
abbrev oT:=zi tI_3 (zi zI_3 (zi aY (zi tI_4 (zi zI_4 (zi cJ (zi tI_9 (zi zI_9 (zi cV (zi tI_31 (zi zI_31 (zi aQ (zi bS (zi bT (zi cI (zi tI_66 (zi zI_66 (zi bZ (zi b9 (zi cA (zi cB bY))))))))))))))))))))
theorem aQE(N:Nat)(hN:N≤1048576)(g:Nat)(bb:Nat)(IH:∀(σ:Sub) (a b:Tm) (r:Bool) (σ':Sub) (add:List Int),cT σ→c9 (bJ N) σ→bJ N a→bJ N b→dP g σ a b=some (r,σ',add)→H3 N 306 bb σ a b r σ')
 (σ:Sub) (a b:Tm) (r:Bool) (σ':Sub) (add:List Int) (hg:cT σ) (hok:c9 (bJ N) σ) (ha0:bJ N a) (hb0:bJ N b) (h:dP (g+1) σ a b=some (r,σ',add))
 (aP0:(wk σ a).k≠1→(wk σ b).k=1→H3 N 306 bb σ (wk σ b) (wk σ a) r σ'):H3 N 306 bb σ a b r σ':=by
 intro st hS
 obtain⟨rk,B,G⟩:=hg.rs
 obtain⟨fa,wa⟩:=G.wk a
 obtain⟨fb,wb⟩:=G.wk b
 have N4:c9 (cO N) σ:=fun n u hu=>(hok n u hu).1
 have hca:=fun st (hS:fV N st bb σ)=>aA1 N4 wa ha0.1 bb st hS
 have hcb:=fun st (hS:fV N st bb σ)=>aA1 N4 wb hb0.1 bb st hS
 have ea:=wa.end
 have eb:=wb.end
 have hsa:=wa.all (p:=bJ N) hok ha0
 have hsb:=wb.all (p:=bJ N) hok hb0
 replace h:=QJ h
 generalize wk σ a=a1 at *
 generalize wk σ b=b1 at *
 clear wa wb
 refine wF [1000000,3,4] 3 func306 ntmps306 rfl rfl ?_
 intro fB
 simp -implicitDefEqProofs only[aB,seval,oT]
 intro b4 h4 b5 h5
 have h54:b5≠b4:=by rintro rfl;rw[aA.aJ] at h5;cases h5
 have hn5:st b5=none:=by rw[aA.aG st _ h54] at h5;exact h5
 have h4b:b4≠bb:=by rintro rfl;rw[fV,h4] at hS;cases hS
 have h5b:b5≠bb:=by rintro rfl;rw[fV,hn5] at hS;cases hS
 have hS':∀o o',fV N ((st.aC b4 o).aC b5 o') bb σ:=fun o o'=>(hS.aC h4b).aC h5b
 have hQ:∀o o',AN N bb st σ ((st.aC b4 o).aC b5 o'):=fun o o'=>⟨hS' o o',fun x p h _=>by
  rw[aA.aG _ _ (by rintro rfl;rw[hn5] at h;cases h),aA.aG _ _ (by rintro rfl;rw[h4] at h;cases h)];exact h⟩
 simp -implicitDefEqProofs only[cL,gI (cL a),gG (bG a),h54.symm,aB,seval]
 refine(hca _ (hS' _ _)).to ?_
 simp -implicitDefEqProofs only[cL,gI (cL b),gG (bG b),cP,aK,h54,h54.symm,aB,seval,oT]
 rw[aA.BR h54,aA.m7 _ _ _ h54]
 refine(hcb _ (hS' _ _)).to ?_
 obtain⟨ka,na,sa,tsa⟩:=a1
 obtain⟨kb,nb,sb',tsb⟩:=b1
 obtain⟨hla,aPG⟩:=Tm.rG (hsa.1.small)
 obtain⟨hlb,aPH⟩:=Tm.rG (hsb.1.small)
 have fX:∀o o',AN N bb st σ ((st.aC b4 o).aC b5 o'):=hQ
 have hka:=fun h=>(sE N) _ h hsa
 have hkb:=fun h=>(sE N) _ h hsb
 simp only[bA]
 simp only[Tm.k,Tm.n,Tm.ts] at h ea eb aP0 hka hkb
 simp -implicitDefEqProofs only[dS,aK,h54.symm,aB,seval,oT]
 have var:∀ {n:Int} {t:Tm},n∈VN N→σ n=none→bJ N t→kV σ n t=(r,σ',add)→∀s0,fV N s0 bb σ→aD prog 355 [.int .i64 n,t.av,.mslice bb 0 N 4] s0 (fun r' st'=>r'=.bool (!r)∧st'=s0):=by
  intro n t _ hn ht hb s0 hs0
  have:=aW7 G hok hN hn t ht bb s0 hs0
  unfold kV at hb
  split at hb
  · rename_i hm
    cases hb
    simpa [hm] using this
  · rename_i hm
    cases hb
    simpa [hm] using this
 rcases h with ⟨h1,h2,h3,rfl,rfl,rfl⟩ | ⟨h1,h2,h3⟩ | ⟨h1,h2,h3⟩ | ⟨h1,h2,h3,h4⟩ | ⟨h1,h2,h3,rfl,rfl,rfl⟩
 · subst h1 h2 h3
   simp -implicitDefEqProofs only[bV,lB,h54.symm,aB,seval,oT]
   exact fX _ _
 · subst h1
   have hin:=yX.2 (hsa.1.2.2 na (by rw[Tm.o0 rfl];simp))
   obtain⟨hn0,hn1⟩:=yX.1 hin
   have hcw:=var hin (ea rfl) hsb h3 _ (hS' (.cells [.int .i64 1,.int .i64 na,.str sa,.slice (tsa.map Tm.av)]) (.cells [.int .i64 kb,.int .i64 nb,.str sb',.slice (tsb.map Tm.av)]))
   have hna:=ea rfl
   rw[bA] at hcw
   obtain⟨i,rfl⟩:∃i:Nat,na=i:=⟨na.toNat,by omega⟩
   have hi:i<N:=by omega
   have hat:=qV (P:=prog) (b:=bb) (len:=N) aQ hi
   have h6:kb=1→¬(i:Int)=nb:=fun e1 e=>h2 ⟨e1,e⟩
   have tail:∀(s0:aA),s0=((st.aC b4 (.cells [.int .i64 1,.int .i64 i,.str sa,.slice (tsa.map Tm.av)])).aC b5 (.cells [.int .i64 kb,.int .i64 nb,.str sb',.slice (tsb.map Tm.av)]))→r=true →
    ∃D D',s0 bb=some (.cells D)∧i*4+4≤D.length∧aK D (i*4) [.int .i64 kb,.int .i64 nb,.str sb',.slice (tsb.map Tm.av)]=D'∧AN N bb st σ' (s0.aC bb (.cells D')):=by
    rintro _ rfl rfl
    unfold kV at h3
    split at h3
    · cases h3
    · cases h3
      obtain⟨D,D',e1,e2,e3,e4⟩:=(hS' (.cells [.int .i64 1,.int .i64 i,.str sa,.slice (tsa.map Tm.av)]) (.cells [.int .i64 kb,.int .i64 nb,.str sb',.slice (tsb.map Tm.av)])).set hi (.mk kb nb sb' tsb)
      refine⟨D,D',e1,e2,by rw[←e3,bA];try rfl,e4,fun x o hx hxb=>?_⟩
      rw[aA.aG _ _ hxb]
      exact(hQ _ _).2 x o hx hxb
   by_cases h5:kb=1
   · subst h5
     simp -implicitDefEqProofs only[bV,h6 rfl,bX,lB,h54.symm,aB,seval,oT]
     refine hcw.to ?_
     cases r with
     | false=>
      simp -implicitDefEqProofs only[aB,seval]
      unfold kV at h3
      split at h3
      · cases h3
        exact fX _ _
      · cases h3
     | true=>
      obtain⟨D,D',e1,e2,e3,e4⟩:=tail _ rfl rfl
      simp -implicitDefEqProofs only[hat,e1,e2,aK,h54.symm,aB,seval,oT]
      rw[←e3] at e4
      exact e4
   · simp -implicitDefEqProofs only[bV,h5,bX,lB,h54.symm,aB,seval,oT]
     refine hcw.to ?_
     cases r with
     | false=>
      simp -implicitDefEqProofs only[aB,seval]
      unfold kV at h3
      split at h3
      · cases h3
        exact fX _ _
      · cases h3
     | true=>
      obtain⟨D,D',e1,e2,e3,e4⟩:=tail _ rfl rfl
      simp -implicitDefEqProofs only[hat,e1,e2,aK,h54.symm,aB,seval,oT]
      rw[←e3] at e4
      exact e4
 · subst h2
   have hsw:=aP0 h1 rfl
   simp only[H3,bA] at hsw
   simp -implicitDefEqProofs only[bV,h1,bX,lB,h54.symm,aB,seval,oT]
   refine(hsw _ (hS' _ _)).mono ?_
   rintro _ s2 ⟨rfl,hp⟩
   simp -implicitDefEqProofs only[aB,seval]
   exact(hQ _ _).trans hp
 · rw[uW] at h3
   simp only[Tm.k,Tm.n,Tm.s,Tm.ts] at h3
   obtain⟨rfl,rfl,rfl,hlen⟩:=h3
   have c8:decide ((tsa.length:Int)=(tsb.length:Int))=true:=by simp [hlen]
   simp -implicitDefEqProofs only[bV,bX,c8,lB,h54.symm,aF,h1,aB,seval,oT]
   have hS0:=hS' (.cells [.int .i64 ka,.int .i64 na,.str sa,.slice (tsa.map Tm.av)]) (.cells [.int .i64 ka,.int .i64 na,.str sa,.slice (tsb.map Tm.av)])
   have hQ0:=hQ (.cells [.int .i64 ka,.int .i64 na,.str sa,.slice (tsa.map Tm.av)]) (.cells [.int .i64 ka,.int .i64 na,.str sa,.slice (tsb.map Tm.av)])
   have e4:((st.aC b4 (.cells [.int .i64 ka,.int .i64 na,.str sa,.slice (tsa.map Tm.av)])).aC b5 (.cells [.int .i64 ka,.int .i64 na,.str sa,.slice (tsb.map Tm.av)])) b4=some (.cells [.int .i64 ka,.int .i64 na,.str sa,.slice (tsa.map Tm.av)]):=by rw[aA.aG _ _ h54.symm,aA.aJ]
   have e5:((st.aC b4 (.cells [.int .i64 ka,.int .i64 na,.str sa,.slice (tsa.map Tm.av)])).aC b5 (.cells [.int .i64 ka,.int .i64 na,.str sa,.slice (tsb.map Tm.av)])) b5=some (.cells [.int .i64 ka,.int .i64 na,.str sa,.slice (tsb.map Tm.av)]):=aA.aJ _ _ _
   generalize (st.aC b4 (.cells [.int .i64 ka,.int .i64 na,.str sa,.slice (tsa.map Tm.av)])).aC b5 (.cells [.int .i64 ka,.int .i64 na,.str sa,.slice (tsb.map Tm.av)])=s0 at *
   refine d8 (σ:=Sub×List Int×aA) [1000000,3,4] [2,3,4] tsa
    (fun i p=>cT p.1∧c9 (bJ N) p.1∧AN N bb s0 p.1 p.2.2∧eF g p.1 (tsa.drop i) (tsb.drop i)=some (r,σ',p.2.1))
    (fun i _=>[(6,.bool false),(7,.int .i64 i)]) (fun _ p=>p.2.2) (by decide +kernel)
    ⟨(σ,add,s0),⟨hg,hok,AN.refl hS0,h4⟩,aM.mk (by simp -implicitDefEqProofs only[aB,↓aU,seval])⟩ (fun i x p hx hlt bL hdr hinv=>?_) (fun p hge hinv=>?_)
   case refine_2=>
    obtain⟨σi,rest,si⟩:=p
    obtain⟨i1,i2,i3,i5⟩:=hinv
    simp only at i1 i2 i3 i5
    have f4:=i3.2 b4 _ e4 h4b
    rw[kK,hlen,kK] at i5
    simp only[eF,Option.some.injEq,Prod.mk.injEq] at i5
    obtain⟨rfl,rfl,rfl⟩:=i5
    simp -implicitDefEqProofs only[hge,f4,aF,aB,seval,oT]
    exact hQ0.trans i3
   obtain⟨σi,rest,si⟩:=p
   obtain⟨i1,i2,i3,i5⟩:=hinv
   simp only at i1 i2 i3 i5
   obtain⟨y,hy⟩:∃y,tsb[i]?=some y:=⟨_,eA (by omega)⟩
   have F0:tsb.drop i=y::tsb.drop (i+1):=by
    obtain⟨h1,h2⟩:=fL.1 hy
    rw[qF h1,h2]
   rw[hdr,F0,eF] at i5
   have f4:=i3.2 b4 _ e4 h4b
   have f5:=i3.2 b5 _ e5 h5b
   have hw:=bE (n:=(i:Int)+1)
   simp -implicitDefEqProofs only[bL,aF,f4,aB,seval,oT]
   refine wP [(0,1),(2,1),(5,1),(7,1),(10,1),(1,2),(3,1),(4,2),(6,2),(8,1),(9,2),(11,0),(12,1)] [0,2,5,7,10,1,3,4,6,8,9,12] mixed ?_
   simp -implicitDefEqProofs only[f4,f5,bP (av:=Tm.av) aQ hx (aO x),bP (av:=Tm.av) aQ hy (aO y),aB,seval,oT]
   cases hu:dP g σi x y with
   | none=>rw[hu] at i5;cases i5
   | some p1=>
    obtain⟨r1,σ1,tr1⟩:=p1
    rw[hu] at i5
    have hx1:bJ N x:=hka h1 x (cM hx)
    have hy1:bJ N y:=hkb h2 y (cM hy)
    have hU:=zJ i1 hu
    have hA:=(QL (sE N) g).1 σi x y r1 σ1 tr1 i1 hu i2 hx1 hy1
    refine(IH σi x y r1 σ1 tr1 i1 i2 hx1 hy1 hu si i3.1).mono ?_
    rintro _ s2 ⟨rfl,hp2⟩
    cases r1 with
    | false=>
     simp only[Option.some.injEq,Prod.mk.injEq] at i5
     obtain⟨rfl,rfl,rfl⟩:=i5
     simp -implicitDefEqProofs only[aB,seval]
     exact hQ0.trans (i3.trans hp2)
    | true=>
     simp only at i5
     cases hu2:eF g σ1 (tsa.drop (i+1)) (tsb.drop (i+1)) with
     | none=>rw[hu2] at i5;cases i5
     | some p2=>
      obtain⟨r2,σ2,tr2⟩:=p2
      rw[hu2] at i5
      simp only[Option.some.injEq,Prod.mk.injEq] at i5
      obtain⟨rfl,rfl,_⟩:=i5
      simp -implicitDefEqProofs only[aB,seval]
      exact⟨(σ1,tr2,s2),⟨hU.iC,hA,i3.trans hp2,hu2⟩,aM.mk (by simp -implicitDefEqProofs only[hw,aB,seval])⟩
 · have hd:ka=kb→na=nb→sa=sb'→¬(tsa.length:Int)=(tsb.length:Int):=by
    intro e1 e2 e3 e4
    have:wM (Tm.mk ka na sa tsa) (Tm.mk kb nb sb' tsb)=true:=uW.2 ⟨e1,e2,e3,by simp only[Tm.ts];omega⟩
    rw[h3] at this;cases this
   by_cases e1:ka=kb
   · by_cases e2:na=nb
     · by_cases e3:sa=sb'
       · have e4:=hd e1 e2 e3
         subst e1 e2 e3
         simp -implicitDefEqProofs only[bX,bV,lB,h54.symm,h1,aF,e4,aB,seval,oT]
         exact fX _ _
       · subst e1 e2
         simp -implicitDefEqProofs only[bX,bV,lB,h54.symm,h1,e3,aB,seval,oT]
         exact fX _ _
     · subst e1
       simp -implicitDefEqProofs only[bX,bV,lB,h54.symm,h1,e2,aB,seval,oT]
       exact fX _ _
   · clear hd
     simp -implicitDefEqProofs only[bX,lB,h54.symm,h1,h2,e1,aB,seval,oT]
     exact fX _ _
theorem aA0(N:Nat)(hN:N≤1048576)(bb:Nat):∀(g:Nat) (σ:Sub) (a b:Tm) (r:Bool) (σ':Sub) (add:List Int),cT σ→c9 (bJ N) σ→bJ N a→bJ N b→dP g σ a b=some (r,σ',add)→H3 N 306 bb σ a b r σ'
 | 0,σ,a,b,r,σ',add,hg,hok,ha,hb,h=>by simp only[dP] at h;cases h
 | g+1,σ,a,b,r,σ',add,hg,hok,ha,hb,h=>by
  refine aQE N hN g bb (aA0 N hN bb g) σ a b r σ' add hg hok ha hb h fun h1 h2=>?_
  obtain⟨rk,B,G⟩:=hg.rs
  obtain⟨fa,wa⟩:=G.wk a
  obtain⟨fb,wb⟩:=G.wk b
  have eb:=aU2 wb
  have ea:=aU2 wa
  have hbn:kV σ (wk σ b).n (wk σ a)=(r,σ',add):=by
   rcases QJ h with h | h | h | h | h
   · exact absurd h.1 h1
   · exact absurd h.1 h1
   · exact h.2.2
   · exact absurd h2 h.2.1
   · exact absurd h2 h.2.1
  refine aQE N hN 0 bb (fun σ a b r σ' add _ _ _ _ h=>by simp only[dP] at h;cases h) σ (wk σ b) (wk σ a) r σ' add hg hok (wb.all (p:=bJ N) hok hb) (wa.all (p:=bJ N) hok ha) ?_ fun h3=>?_
  · rw[dP,eb,ea,aE (fun h=>h1 h.2.1),aH h2,hbn]
  · rw[eb] at h3;exact absurd h2 h3
end Go.AW
namespace Go.AW
noncomputable def tW(σ:Sub)(a b:Tm):Int×Sub×List Int:=(jA (j5 σ a b).1,(j5 σ a b).2)
noncomputable def xW(σ:Sub)(x y z:Tm):Int×Sub×List Int:=
 if x.k=1∨y.k=1 then(2,σ,[]) else if x.k≠2∨y.k≠3∨y.ts.length=0 then(3,σ,[]) else match oI x y with
  | some u=>tW σ z u
  | none=>(1,σ,[])
noncomputable def dM(σ:Sub)(s:ByteArray):List Tm→Int×Sub×List Int
 | []=>(jA (decide (s=⟨#[116,114,117,101]⟩)),σ,[])
 | [x]=>(jA (vI s x),σ,[])
 | [x,y]=>if gO tA s=true then(AI s x y,σ,[]) else if s=⟨#[61]⟩ then tW σ x y else if s=⟨#[92,61]⟩ then(jA (!(j5 σ x y).1),σ,[])
  else if s=⟨#[61,61]⟩ then(jA (x.same y),σ,[]) else if y.ev.2≠0 then(y.ev.2,σ,[]) else tW σ x (pG y.ev.1)
 | [x,y,z]=>xW σ x y z
 | _=>(0,σ,[])
structure oF (N:Int) (σ:Sub) (σ':Sub) (add:List Int):Prop where
 iC:cT σ'
 ok:c9 (bJ N) σ'
 aV:∀n,n∉add→σ' n=σ n
 new:∀n∈add,σ n=none∧σ' n≠none
 nodup:add.Nodup
 gO:∀n∈add,0≤n∧n<N
theorem oF.same{N:Int}{σ:Sub}(hg:cT σ)(ho:c9 (bJ N) σ):oF N σ σ []:=⟨hg,ho,fun _ _=>rfl,by simp,lZ,by simp⟩
theorem B9.zA{N:Int}{σ:Sub}{a b:Tm}{r:Bool}{σ':Sub}{tr:List Int}(h:B9 N σ a b r σ' tr):oF N σ σ' tr:=⟨h.oZ.iC,h.ok,h.oZ.aV,h.oZ.new,h.oZ.nodup,h.gO⟩
theorem oF.oZ{N:Nat}{σ:Sub}{a b:Tm}(hg:cT σ)(ho:c9 (bJ N) σ)(ha:bJ N a)(hb:bJ N b):oF N σ (j5 σ a b).2.1 (j5 σ a b).2.2:=by
 obtain⟨r,σ',tr,h⟩:=vS hg ho ha hb
 rw[h.eq]
 exact h.zA
theorem OC{N:Int}{n:Int}(h:kQ n):bJ N (pG n):=by
 have h1:=a50 h
 have h2:=Tm.LN h1
 refine⟨⟨h2.1,h2.2.1,fun v hv=>?_⟩,Tm.LM h1⟩
 unfold pG at hv
 rw[Tm.m8 (by decide)] at hv
 obtain⟨t,ht,_⟩:=hv
 cases ht
theorem aAF{N:Int}{x y u:Tm}(hy:bJ N y)(hk:y.k≠1)(h:oI x y=some u):bJ N u:=sE N y hk hy u (aAE h)
theorem O6{N:Nat}{σ:Sub}(hg:cT σ)(ho:c9 (bJ N) σ)(s:ByteArray)(ks:List Tm)(hv:∀x∈ks,bJ N x):oF N σ (dM σ s ks).2.1 (dM σ s ks).2.2:=by
 have hs:=oF.same hg ho
 match ks,hv with
 | [],_=>exact hs
 | [x],_=>exact hs
 | [x,y],hv=>
  have hx:=hv x (by simp)
  have hy:=hv y (by simp)
  simp only[dM]
  split
  · exact hs
  split
  · exact oF.oZ hg ho hx hy
  split
  · exact hs
  split
  · exact hs
  split
  · exact hs
  · exact oF.oZ hg ho hx (OC (Tm.wI y hy.1))
 | [x,y,z],hv=>
  have hy:=hv y (by simp)
  have hz:=hv z (by simp)
  simp only[dM,xW]
  split
  · exact hs
  rename_i h1
  split
  · exact hs
  split
  · rename_i u hu
    exact oF.oZ hg ho hz (aAF hy (fun h=>h1 (.inr h)) hu)
  · exact hs
 | a::b::c::d::l,_=>exact hs
theorem a1R(ρ:Int→Int):∀t:Tm,(cD ρ t).ev=t.ev:=by
 intro t
 induction t using Tm.ind with
 | h k n s ts ih=>
  by_cases h1:k=1
  · rw[BD ρ (t:=.mk k n s ts) h1,vr,Tm.AR,Tm.AR,h1]
    simp
  rw[y9 ρ h1,Tm.AR,Tm.AR,uA]
  have:ts.map (Tm.ev∘cD ρ)=ts.map Tm.ev:=sQ fun x hx=>ih x hx
  rw[this]
section
variable {ρ:Int→Int} {N:Int} {σ τ:Sub}
theorem fW.back(S:fW ρ N σ τ):∃δ:Int→Int,∀v,0≤v→v<N→δ (ρ v)=v:=by
 refine⟨fun w=>open Classical in if h:∃v,0≤v∧v<N∧ρ v=w then h.choose else 0,fun v h0 h1=>?_⟩
 have h:∃u,0≤u∧u<N∧ρ u=ρ v:=⟨v,h0,h1,rfl⟩
 simp only[dif_pos h]
 obtain⟨a,b,c⟩:=h.choose_spec
 exact S.inj _ _ a b h0 h1 c
theorem fW.a8J(S:fW ρ N σ τ){x y:Tm}(hx:cO N x)(hy:cO N y)(e:cD ρ x=cD ρ y):x=y:=by
 obtain⟨δ,hδ⟩:=S.back
 have key:∀ {t:Tm},cO N t→cD δ (cD ρ t)=t:=fun {t} ht=>by
  rw[show cD δ (cD ρ t)=t.aN fun v=>vr (δ (ρ v)) from KO ρ _ t]
  rw[sC (g:=vr) t fun v hv=>by rw[hδ v (ht.2.2 v hv).1 (ht.2.2 v hv).2]]
  exact VO t ht.2.1
 rw[←key hx,e,key hy]
theorem fW.same(S:fW ρ N σ τ){x y:Tm}(hx:cO N x)(hy:cO N y):(cD ρ x).same (cD ρ y)=x.same y:=by
 rw[xF,Tm.O2,Tm.O2]
 exact⟨S.a8J hx hy,fun e=>by rw[e]⟩
theorem a9V(ρ:Int→Int)(s:ByteArray)(x:Tm):vI s (cD ρ x)=vI s x:=by
 unfold vI
 rw[BC]
 by_cases h:x.k=1
 · rw[h];simp
 · have:(cD ρ x).ts.length=x.ts.length:=by
    rw[GX ρ h]
    simp only[Tm.ts,aF]
   rw[this]
theorem aWK(ρ:Int→Int){x y:Tm}(hx:x.k=2)(hy:y.k=3):oI (cD ρ x) (cD ρ y)=(oI x y).map (cD ρ):=by
 obtain⟨k,n,s,ts⟩:=x
 obtain⟨k',n',s',ts'⟩:=y
 simp only[Tm.k] at hx hy
 subst hx hy
 rw[y9 ρ (by decide),y9 ρ (by decide)]
 unfold oI
 show(if 1≤n∧n≤((ts'.map (cD ρ)).length:Int) then(ts'.map (cD ρ))[(n - 1).toNat]? else none)=Option.map (cD ρ) (if 1≤n∧n≤(ts'.length:Int) then ts'[(n - 1).toNat]? else none)
 by_cases h:1≤n∧n≤(ts'.length:Int)
 · rw[aH h,aH (by rw[aF];exact h),lY]
 · rw[aE h,aE (by rw[aF];exact h)];try rfl
def nY(ρ:Int→Int)(N:Int)(x y:Int×Sub×List Int):Prop:=y.1=x.1∧y.2.2=x.2.2.map ρ∧fW ρ N x.2.1 y.2.1
theorem nY.same(S:fW ρ N σ τ)(c:Int):nY ρ N (c,σ,[]) (c,τ,[]):=⟨rfl,rfl,S⟩
end
section
variable {ρ:Int→Int} {N:Nat} {σ τ:Sub}
theorem nY.oZ(S:fW ρ N σ τ)(hg:cT σ)(hg':cT τ)(ho:c9 (bJ N) σ){a b:Tm}(ha:bJ N a)(hb:bJ N b):nY ρ N (tW σ a b) (tW τ (cD ρ a) (cD ρ b)):=by
 obtain⟨r,σ',tr,h⟩:=vS hg ho ha hb
 obtain⟨g,hg2⟩:=h.run
 obtain⟨τ',e,S',_⟩:=S.j5 hg hg' ho.nP ha.1 hb.1 hg2
 unfold tW
 rw[h.eq,e]
 exact⟨rfl,rfl,S'⟩
theorem a8K(ρ:Int→Int)(n:Int):cD ρ (pG n)=pG n:=y9 ρ (by decide)
theorem fW.dM(S:fW ρ N σ τ)(hg:cT σ)(hg':cT τ)(ho:c9 (bJ N) σ)(s:ByteArray)(ks:List Tm)(hv:∀x∈ks,bJ N x):nY ρ N (AW.dM σ s ks) (AW.dM τ s (ks.map (cD ρ))):=by
 match ks,hv with
 | [],_=>exact nY.same S _
 | [x],_=>
  simp only[bH,a7,AW.dM,a9V]
  exact nY.same S _
 | [x,y],hv=>
  have hx:=hv x (by simp)
  have hy:=hv y (by simp)
  have hu:=nY.oZ S hg hg' ho hx hy
  simp only[bH,a7,AW.dM,AI,a1R,S.same hx.1 hy.1]
  by_cases h1:gO tA s=true
  · rw[aH h1,aH h1];exact nY.same S _
  rw[aE h1,aE h1]
  by_cases h2:s=⟨#[61]⟩
  · rw[aH h2,aH h2];exact hu
  rw[aE h2,aE h2]
  by_cases h3:s=⟨#[92,61]⟩
  · rw[aH h3,aH h3]
    obtain⟨r,σ',tr,h⟩:=vS hg ho hx hy
    obtain⟨g,hg2⟩:=h.run
    obtain⟨τ',e,_,_⟩:=S.j5 hg hg' ho.nP hx.1 hy.1 hg2
    rw[h.eq,e]
    exact nY.same S _
  rw[aE h3,aE h3]
  by_cases h4:s=⟨#[61,61]⟩
  · rw[aH h4,aH h4];exact nY.same S _
  rw[aE h4,aE h4]
  by_cases h5:y.ev.2≠0
  · rw[aH h5,aH h5];exact nY.same S _
  rw[aE h5,aE h5]
  have:=nY.oZ S hg hg' ho hx (OC (N:=N) (Tm.wI y hy.1))
  rw[a8K] at this
  exact this
 | [x,y,z],hv=>
  have hy:=hv y (by simp)
  have hz:=hv z (by simp)
  simp only[bH,a7,AW.dM,xW,BC]
  by_cases h1:x.k=1∨y.k=1
  · rw[aH h1,aH h1];exact nY.same S _
  rw[aE h1,aE h1]
  have hl:(cD ρ y).ts.length=y.ts.length:=by
   rw[GX ρ (t:=y) (fun h=>h1 (.inr h))]
   simp only[Tm.ts,aF]
  rw[hl]
  by_cases h2:x.k≠2∨y.k≠3∨y.ts.length=0
  · rw[aH h2,aH h2];exact nY.same S _
  rw[aE h2,aE h2]
  have kx:x.k=2:=EG fun h=>h2 (.inl h)
  have ky:y.k=3:=EG fun h=>h2 (.inr (.inl h))
  rw[aWK ρ kx ky]
  cases hu:oI x y with
  | none=>exact nY.same S _
  | some u=>exact nY.oZ S hg hg' ho hz (aAF hy (fun h=>h1 (.inr h)) hu)
 | a::b::c::d::l,_=>
  simp only[bH,AW.dM]
  exact nY.same S _
end
theorem a9K(σ:Sub)(s:ByteArray)(ks:List Tm):0≤(dM σ s ks).1:=by
 have hc:∀b,0≤jA b:=fun b=>by unfold jA;split<;>omega
 have hr:∀n,0≤(jX n).2:=fun n=>by unfold jX;split<;>simp
 have har:∀s a b,0≤(sX s a b).2:=fun s a b=>by
  unfold sX
  split
  · exact hr _
  split
  · exact hr _
  split
  · exact hr _
  split
  · simp
  split
  · simp
  · simp
 have hb:∀(f:Int→Int→Int×Int) (x y:Int×Int),(∀a b,0≤(f a b).2)→0≤x.2→0≤y.2→0≤(both f x y).2:=fun f x y hf hx hy=>by
  unfold both
  split
  · exact hx
  split
  · exact hy
  · exact hf _ _
 have he:∀t:Tm,0≤t.ev.2:=by
  intro t
  induction t using Tm.ind with
  | h k n s ts ih=>
   rw[Tm.AR]
   split
   · simp
   split
   · simp
   split
   · match ts,ih with
     | [],_=>simp [two]
     | [x],_=>simp [two]
     | [x,y],ih=>exact hb _ _ _ (har s) (ih x (by simp)) (ih y (by simp))
     | x::y::z::l,_=>simp [two]
   · simp
 match ks with
 | []=>exact hc _
 | [x]=>exact hc _
 | [x,y]=>
  simp only[dM]
  split
  · exact hb _ _ _ (fun _ _=>hc _) (he x) (he y)
  split
  · exact hc _
  split
  · exact hc _
  split
  · exact hc _
  split
  · exact he y
  · exact hc _
 | [x,y,z]=>
  simp only[dM,xW]
  split
  · simp
  split
  · simp
  split
  · exact hc _
  · simp
 | a::b::c::d::l=>simp [dM]
end Go.AW
namespace Go.AW
open Go.Proofs.Tryz
theorem aWJ(σ:Sub)(x y z:Tm):xW σ x y z=if(sZ x y).2=0 then tW σ z (sZ x y).1 else((sZ x y).2,σ,[]):=by
 unfold xW sZ
 split
 · simp
 split
 · simp
 cases oI x y<;>rfl
def sS(N bb:Nat)(st:aA)(x:Int×Sub×List Int)(r:AV)(st':aA):Prop:=r=.int .i64 x.1∧AN N bb st x.2.1 st'
theorem sS.same{N bb:Nat}{st:aA}{σ:Sub}{r:AV}(h:fV N st bb σ)(k:Int)(hr:r=.int .i64 k):sS N bb st (k,σ,[]) r st:=⟨hr,AN.refl h⟩
theorem IN{N:Nat}(hN:N≤1048576){σ:Sub}(hg:cT σ)(ho:c9 (bJ N) σ)(a b:Tm)(ha:bJ N a)(hb:bJ N b)(bb:Nat)(st:aA)(hS:fV N st bb σ) :
 aD prog 306 [a.av,b.av,.mslice bb 0 N 4] st (fun r st'=>r=.bool (j5 σ a b).1∧AN N bb st (j5 σ a b).2.1 st'):=by
 obtain⟨r,σ',tr',hU⟩:=vS hg ho ha hb
 obtain⟨g,iM⟩:=hU.run
 rw[hU.eq]
 exact aA0 N hN bb g σ a b r σ' tr' hg ho ha hb iM st hS
abbrev sK:=zi tI_3 (zi zI_3 (zi aY (zi tI_4 (zi zI_4 (zi cJ (zi tI_9 (zi zI_9 (zi cV (zi tI_31 (zi zI_31 (zi aQ (zi bS (zi bT (zi cI (zi tI_66 (zi zI_66 (zi bZ (zi b9 (zi cA (zi cB bY))))))))))))))))))))
theorem aW8{N:Nat}(hN:N≤1048576){σ:Sub}(hg:cT σ)(ho:c9 (bJ N) σ)(n:Int)(s:ByteArray)(ks:List Tm)(hb:isBuiltin s (ks.length:Int)=true)(hne:s≠⟨#[92,61]⟩)(hv:∀x∈ks,bJ N x)(bb:Nat)(st:aA)(hS:fV N st bb σ) :
 aD prog 270 [(Tm.mk 3 n s ks).av,.mslice bb 0 N 4] st (sS N bb st (dM σ s ks)):=by
 have hcs:=aAU hb
 have FZ:=fun x y (hxy:ks= [x,y])=>aZO n s x y (hv x (by simp [hxy])).1 (hv y (by simp [hxy])).1
 have aO5:=fun x y z (hxy:ks= [x,y,z])=>aZN n s x y z (hv y (by simp [hxy])).1
 have aO8:=fun x (hxy:ks= [x]) h=>aZT n s x h
 simp only[bA] at FZ aO5 aO8 ⊢
 refine wF [1000000] 2 func270 ntmps270 rfl rfl ?_
 intro _
 simp -implicitDefEqProofs only[aB,seval,sK]
 refine aP (fun h=>?_) (fun h=>?_)
 · have hs:s=⟨#[116,114,117,101]⟩:=by simpa using h
   have hk:=OF (ts:=ks) (by subst hs;simpa [isBuiltin] using hb)
   subst hk
   simp -implicitDefEqProofs only[aB,seval]
   exact sS.same hS _ (by simp [jA,hs])
 have ht:s≠⟨#[116,114,117,101]⟩:=by simpa using h
 simp -implicitDefEqProofs only[aB,seval]
 refine aP (fun h=>?_) (fun h=>?_)
 · have hs:s=⟨#[102,97,105,108]⟩:=by simpa using h
   have hk:=OF (ts:=ks) (by subst hs;simpa [isBuiltin] using hb)
   subst hk
   simp -implicitDefEqProofs only[aB,seval]
   exact sS.same hS _ (by simp [jA,hs])
 have hf:s≠⟨#[102,97,105,108]⟩:=by simpa using h
 simp -implicitDefEqProofs only[aB,seval]
 refine aP (fun h=>?_) (fun h=>?_)
 · have hs:s=⟨#[61]⟩:=by simpa using h
   obtain⟨x,y,rfl⟩:=wW (ts:=ks) (by subst hs;simp [isBuiltin] at hb;omega)
   have e:dM σ s [x,y]=tW σ x y:=by subst hs;rfl
   rw[e]
   have eC:dG prog 31 (.slice [x.av,y.av]) (.int .i64 0)=some (.pptr x.av):=bP (av:=Tm.av) (l:=[x,y]) (i:=0) aQ rfl (aO x)
   have gX:dG prog 31 (.slice [x.av,y.av]) (.int .i64 1)=some (.pptr y.av):=bP (av:=Tm.av) (l:=[x,y]) (i:=1) aQ rfl (aO y)
   simp -implicitDefEqProofs only[aB,seval]
   refine wX [(0,1),(1,1),(2,1),(3,1),(4,1),(5,1),(6,1),(7,1),(8,1),(9,0),(10,0),(11,1)] [0,1,2,3,4,5,6,7,8,11] d9 mixed rfl eK ?_
   simp -implicitDefEqProofs only[eC,gX,bG,aO,aB,seval,sK]
   refine(IN hN hg ho x y (hv x (by simp)) (hv y (by simp)) bb _ hS).mono ?_
   rintro _ s2 ⟨rfl,hP⟩
   simp -implicitDefEqProofs only[aB,seval]
   refine⟨eK,?_⟩
   refine(uK _ _).to ?_
   simp -implicitDefEqProofs only[aB,seval]
   exact⟨eK,rfl,hP⟩
 have he:s≠⟨#[61]⟩:=by simpa using h
 simp -implicitDefEqProofs only[aB,seval]
 refine aP (fun h=>absurd (by simpa using h) hne) (fun h=>?_)
 simp -implicitDefEqProofs only[aB,seval]
 refine aP (fun h=>?_) (fun h=>?_)
 · have hs:s=⟨#[61,61]⟩:=by simpa using h
   obtain⟨x,y,rfl⟩:=wW (ts:=ks) (by subst hs;simp [isBuiltin] at hb;omega)
   have e:dM σ s [x,y]=(jA (x.same y),σ,[]):=by subst hs;rfl
   rw[e]
   have eC:dG prog 31 (.slice [x.av,y.av]) (.int .i64 0)=some (.pptr x.av):=bP (av:=Tm.av) (l:=[x,y]) (i:=0) aQ rfl (aO x)
   have gX:dG prog 31 (.slice [x.av,y.av]) (.int .i64 1)=some (.pptr y.av):=bP (av:=Tm.av) (l:=[x,y]) (i:=1) aQ rfl (aO y)
   simp -implicitDefEqProofs only[aB,seval]
   refine E5 mixed (by decide +kernel) (by decide +kernel) ?_
   simp -implicitDefEqProofs only[eC,gX,bG,aO,aB,seval,sK]
   refine jC (aCI x y _) ?_
   simp -implicitDefEqProofs only[aB,seval]
   refine jC (uK _ _) ?_
   simp -implicitDefEqProofs only[aB,seval]
   exact sS.same hS _ rfl
 have hee:s≠⟨#[61,61]⟩:=by simpa using h
 simp -implicitDefEqProofs only[aB,seval]
 refine aP (fun h=>?_) (fun h=>?_)
 · have hs:s=⟨#[105,115]⟩:=by simpa using h
   obtain⟨x,y,rfl⟩:=wW (ts:=ks) (by subst hs;simp [isBuiltin] at hb;omega)
   have e:dM σ s [x,y]=if y.ev.2≠0 then(y.ev.2,σ,[]) else tW σ x (pG y.ev.1):=by subst hs;rfl
   rw[e]
   have hy:=hv y (by simp)
   have hin:=OC (N:=N) (Tm.wI y hy.1)
   have har:=fun st=>MT y st hy.1
   generalize y.ev.1=a at *
   generalize y.ev.2=ca at *
   have eC:dG prog 31 (.slice [x.av,y.av]) (.int .i64 0)=some (.pptr x.av):=bP (av:=Tm.av) (l:=[x,y]) (i:=0) aQ rfl (aO x)
   have gX:dG prog 31 (.slice [x.av,y.av]) (.int .i64 1)=some (.pptr y.av):=bP (av:=Tm.av) (l:=[x,y]) (i:=1) aQ rfl (aO y)
   simp -implicitDefEqProofs only[gX,bG,aO,aB,seval,sK]
   refine(har _).to ?_
   simp -implicitDefEqProofs only[aB,seval]
   refine aP (fun h4=>?_) (fun h4=>?_)
   · simp -implicitDefEqProofs only[aB,seval]
     have h4':ca≠0:=by simpa using h4
     rw[aH h4']
     exact sS.same hS _ rfl
   have h4':ca=0:=by simpa using h4
   subst h4'
   rw[aE (by simp)]
   simp -implicitDefEqProofs only[aB,seval]
   refine wX [(0,1),(1,1),(2,1),(3,1),(4,1),(6,1),(5,0),(7,0),(8,0),(9,1)] [0,1,2,3,4,6,9] d9 mixed rfl eK ?_
   simp -implicitDefEqProofs only[eC,bG,aO,aB,seval,sK]
   refine(SI a _).to ?_
   rw[←a5Z]
   simp -implicitDefEqProofs only[aB,seval]
   refine⟨eK,?_⟩
   refine(IN hN hg ho x (pG a) (hv x (by simp)) hin bb _ hS).mono ?_
   rintro _ s2 ⟨rfl,hP⟩
   simp -implicitDefEqProofs only[aB,seval]
   refine⟨eK,?_⟩
   refine(uK _ _).to ?_
   simp -implicitDefEqProofs only[aB,seval]
   exact⟨eK,rfl,hP⟩
 have his:s≠⟨#[105,115]⟩:=by simpa using h
 simp -implicitDefEqProofs only[aB,seval]
 refine aP (fun h=>?_) (fun h=>?_)
 · have hs:s=⟨#[97,114,103]⟩:=by simpa using h
   obtain⟨x,y,z,rfl⟩:=aQD (ts:=ks) (by subst hs;simp [isBuiltin] at hb;omega)
   have e:dM σ s [x,y,z]=xW σ x y z:=rfl
   rw[e,aWJ]
   have hz:=hv z (by simp)
   have hy:=hv y (by simp)
   have hga:=aO5 x y z rfl
   have hgv:(sZ x y).2=0→bJ N (sZ x y).1:=fun h=>by
    unfold sZ at h ⊢
    split at h
    · cases h
    rename_i h1
    rw[aE h1]
    split at h
    · cases h
    rename_i h2
    rw[aE h2]
    cases hu:oI x y with
    | none=>rw[hu] at h;cases h
    | some u=>exact sE N y (fun h=>h1 (.inr h)) hy u (aAE hu)
   generalize (sZ x y).1=u at *
   generalize (sZ x y).2=cu at *
   have yL:dG prog 31 (.slice [x.av,y.av,z.av]) (.int .i64 2)=some (.pptr z.av):=bP (av:=Tm.av) (l:=[x,y,z]) (i:=2) aQ rfl (aO z)
   simp only[bH,a7] at hga
   simp -implicitDefEqProofs only[aB,seval,sK]
   refine(hga _).to ?_
   simp -implicitDefEqProofs only[aO,cU,cP,aB,↓aU,seval,sK]
   refine aP (fun h4=>?_) (fun h4=>?_)
   · simp -implicitDefEqProofs only[aB,seval]
     have h4':cu≠0:=by simpa using h4
     rw[aE h4']
     exact sS.same hS _ rfl
   have h4':cu=0:=by simpa using h4
   subst h4'
   rw[aH rfl]
   simp -implicitDefEqProofs only[aB,seval]
   refine wX [(0,1),(1,1),(2,1),(3,1),(4,1),(5,1),(6,0),(7,0),(8,1)] [0,1,2,3,4,5,8] d9 mixed rfl eK ?_
   simp -implicitDefEqProofs only[yL,bG,aO,aB,seval,sK]
   refine(IN hN hg ho z u hz (hgv rfl) bb _ hS).mono ?_
   rintro _ s2 ⟨rfl,hP⟩
   simp -implicitDefEqProofs only[aB,seval]
   refine⟨eK,?_⟩
   refine(uK _ _).to ?_
   simp -implicitDefEqProofs only[aB,seval]
   exact⟨eK,rfl,hP⟩
 have aOW:s≠⟨#[97,114,103]⟩:=by simpa using h
 simp -implicitDefEqProofs only[aB,seval,sK]
 refine(aZP s _).to ?_
 simp -implicitDefEqProofs only[aB,seval]
 refine aP (fun h=>?_) (fun h=>?_)
 · have hlen:ks.length=2:=by
    rcases hcs with ⟨h2,h3⟩ | ⟨h2,h3⟩ | ⟨h2,h3⟩ | ⟨h2,h3⟩
    · exact h2
    · simp [ht,hf] at h3
    · rcases h3 with rfl | rfl | rfl | rfl<;>exact absurd h (by decide)
    · exact absurd h3 aOW
   obtain⟨x,y,rfl⟩:=wW hlen
   have e:dM σ s [x,y]=(AI s x y,σ,[]):=by simp only[dM];rw[aH h]
   rw[e]
   have hc:=FZ x y rfl
   simp only[bH,a7] at hc
   simp -implicitDefEqProofs only[aB,seval,sK]
   refine(hc _).to ?_
   simp -implicitDefEqProofs only[aB,seval]
   exact sS.same hS _ rfl
 · have hlen:ks.length=1∧(s=⟨#[118,97,114]⟩∨s=⟨#[110,111,110,118,97,114]⟩∨s=⟨#[97,116,111,109]⟩∨s=⟨#[105,110,116]⟩):=by
    rcases hcs with ⟨h2,h3⟩ | ⟨h2,h3⟩ | ⟨h2,h3⟩ | ⟨h2,h3⟩
    · simp [h,he,hne,hee,his] at h3
    · simp [ht,hf] at h3
    · exact⟨h2,h3⟩
    · exact absurd h3 aOW
   obtain⟨x,rfl⟩:=J8 hlen.1
   have e:dM σ s [x]=(jA (vI s x),σ,[]):=rfl
   rw[e]
   have hc:=aO8 x rfl hlen.2
   simp only[bH,a7] at hc
   simp -implicitDefEqProofs only[aB,seval,sK]
   refine(hc _).to ?_
   simp -implicitDefEqProofs only[aB,seval]
   exact sS.same hS _ rfl
theorem aAG(N:Nat)(σ:Sub):wB 4 (dA N σ):=by
 intro e h
 simp only[dA,cH] at h
 obtain⟨i,_,rfl⟩:=h
 refine⟨MX _,?_⟩
 cases σ (i:Int) with
 | none=>rfl
 | some u=>exact cP u
theorem IJ(N:Nat)(σ:Sub):∀e∈dA N σ,e.cE=false:=by
 intro e h
 simp only[dA,cH] at h
 obtain⟨i,_,rfl⟩:=h
 cases σ (i:Int) with
 | none=>rfl
 | some u=>exact cU u
theorem wC(N:Nat)(σ:Sub):(dA N σ).length=N:=by simp [dA]
theorem RV{N:Nat}(h0:0<N)(hN:N≤1048576)(σ:Sub){st:aA}{K:AV→aA→Prop}(hK:∀b,st b=none→fV N (st.aC b (.cells ((dA N σ).flatMap AV.cells))) b σ→K (.mslice b 0 N 4) (st.aC b (.cells ((dA N σ).flatMap AV.cells)))) :
 jT prog 31 st (.fslice []) (.slice (dA N σ)) K:=by
 have hl:=wC N σ
 refine eQ (P:=prog) (st:=st) (b:=0) (l:=[]) (xs:=dA N σ) (x:=.slice (dA N σ)) (K:=K) aQ bS bT rfl rfl (aAG N σ) (by simp) (by simp) (by simp only[a8,hl];omega) (by simp only[a8,hl];omega) (fun b hb=>?_)
 have hne: []++dA N σ≠[]:=by
  rw[fF]
  intro e
  rw[e] at hl
  simp at hl
  omega
 rw[qK hne,jU hne,fF,hl]
 exact hK b (hb hne) (aA.aJ _ _ _)
theorem aXA{N:Nat}(h0:0<N)(hN:N≤1048576){σ:Sub}(hg:cT σ)(ho:c9 (bJ N) σ)(n:Int)(s:ByteArray)(x y:Tm)(hs:s=⟨#[92,61]⟩)(hx:bJ N x)(hy:bJ N y)(st:aA) :
 aD prog 270 [(Tm.mk 3 n s [x,y]).av,.slice (dA N σ)] st (fun r st'=>r=.int .i64 (jA (!(j5 σ x y).1))∧st'=st):=by
 have ht:s≠⟨#[116,114,117,101]⟩:=by subst hs;decide
 have hf:s≠⟨#[102,97,105,108]⟩:=by subst hs;decide
 have he:s≠⟨#[61]⟩:=by subst hs;decide
 refine aD.done ?_
 simp only[bA 3,bH,a7]
 refine wF [1000000] 2 func270 ntmps270 rfl rfl ?_
 intro _
 have eC:dG prog 31 (.slice [x.av,y.av]) (.int .i64 0)=some (.pptr x.av):=bP (av:=Tm.av) (l:=[x,y]) (i:=0) aQ rfl (aO x)
 have gX:dG prog 31 (.slice [x.av,y.av]) (.int .i64 1)=some (.pptr y.av):=bP (av:=Tm.av) (l:=[x,y]) (i:=1) aQ rfl (aO y)
 simp -implicitDefEqProofs only[aB,seval,sK]
 refine aP (fun h=>absurd (by simpa using h) ht) (fun h=>?_)
 simp -implicitDefEqProofs only[aB,seval]
 refine aP (fun h=>absurd (by simpa using h) hf) (fun h=>?_)
 simp -implicitDefEqProofs only[aB,seval]
 refine aP (fun h=>absurd (by simpa using h) he) (fun h=>?_)
 simp -implicitDefEqProofs only[aB,seval]
 refine aP (fun h=>?_) (fun h=>absurd hs (by simpa using h))
 simp -implicitDefEqProofs only[aB,seval]
 refine wX [(0,1),(1,1),(2,1),(3,1),(4,1),(5,1),(6,1),(7,1),(8,1),(9,1),(10,0),(11,0),(12,1),(13,0),(14,1)] [0,1,2,3,4,5,6,7,8,9,12,14] d9 mixed rfl eK ?_
 simp -implicitDefEqProofs only[eC,gX,bG,aO,aB,seval,sK]
 refine RV h0 hN σ fun b hb hA0=>?_
 have hD0:aL (st.aC b (.cells ((dA N σ).flatMap AV.cells))) st:=(aL.refl _).aC hb
 generalize st.aC b (.cells ((dA N σ).flatMap AV.cells))=s0 at *
 simp -implicitDefEqProofs only[aB,seval]
 refine⟨eK,?_⟩
 refine(IN hN hg ho x y hx hy b _ hA0).mono ?_
 rintro _ s2 ⟨rfl,hA,hk⟩
 simp -implicitDefEqProofs only[aB,seval]
 refine⟨eK,?_⟩
 refine(uK _ _).to ?_
 simp -implicitDefEqProofs only[aB,seval]
 refine⟨eK,rfl,fun q=>?_⟩
 have key:∀o,st q=some o→s2 q=some o:=fun o h=>hk q o ((hD0 q).2 o h) (by rintro rfl;rw[hb] at h;cases h)
 refine⟨fun h=>?_,key⟩
 cases hq:st q with
 | none=>rfl
 | some o=>rw[key o hq] at h;cases h
theorem aW9{N:Nat}(h0:0<N)(hN:N≤1048576){σ:Sub}(hg:cT σ)(ho:c9 (bJ N) σ)(n:Int)(s:ByteArray)(ks:List Tm)(hb:isBuiltin s (ks.length:Int)=true)(hv:∀x∈ks,bJ N x)(bb:Nat)(st:aA)(hS:fV N st bb σ) :
 aD prog 270 [(Tm.mk 3 n s ks).av,.mslice bb 0 N 4] st (sS N bb st (dM σ s ks)):=by
 by_cases hs:s=⟨#[92,61]⟩
 · obtain⟨x,y,rfl⟩:=wW (ts:=ks) (by subst hs;simp [isBuiltin] at hb;omega)
   have e:dM σ s [x,y]=(jA (!(j5 σ x y).1),σ,[]):=by subst hs;rfl
   rw[e]
   have hc:=aXA h0 hN hg ho n s x y hs (hv x (by simp)) (hv y (by simp)) d9
   refine(aD.aOJ (args':=[(Tm.mk 3 n s [x,y]).av,.mslice bb 0 N 4]) (st:=st) rfl hc fun h vs S V=>?_).mono ?_
   · simp only[dF] at V ⊢
     obtain⟨v,vs',rfl,V1,w,ws',rfl,V2,rfl⟩:=V
     refine⟨v,[w],rfl,V1.mono ((aL.d9 st).step h),w,[],rfl,?_,rfl⟩
     have h2:=V2.fz S hS (IJ N σ) ⟨4,E4 N σ⟩
     have h3:(AV.mslice bb 0 N 4).fz bb (dA N σ)=.slice (dA N σ):=by simp [AV.fz,wC]
     rw[h3] at h2
     exact h2.mono ((aL.d9 (st.erase bb)).step h)
   · rintro _ _ ⟨rfl,rfl⟩
     exact sS.same hS _ rfl
 · exact aW8 hN hg ho n s ks hb hs hv bb st hS
abbrev G8:=zi tI_3 (zi zI_3 (zi aY (zi tI_31 (zi zI_31 (zi aQ (zi bS (zi bT (zi cI (zi tI_66 (zi zI_66 (zi bZ (zi b9 (zi cA (zi cB bY))))))))))))))
theorem aW6{N:Nat}{σ:Sub}(hok:c9 (cO N) σ){f:Nat}{t u:Tm}(hw:gK σ f t u)(ht:cO N t)(st:aA):aD prog 354 [t.av,.slice (dA N σ)] st (fun r st'=>r=u.av∧st'=st):=by
 refine aD.done ?_
 refine wF [1000000,2] 2 func354 ntmps354 rfl rfl ?_
 intro _
 have hlen:(dA N σ).length=N:=by simp [dA]
 simp -implicitDefEqProofs only[aB,seval,G8]
 intro b2 h2 b4 h4
 have hne:b4≠b2:=by rintro rfl;rw[aA.aJ] at h4;cases h4
 have hn4:st b4=none:=by rw[aA.aG st _ hne] at h4;exact h4
 refine iP (σ:=Nat×Tm) [1000000,2] [1,2,4] (fun p=>gK σ p.1 p.2 u∧cO N p.2) (fun p=>[]) (fun p=>(st.aC b2 (.cells p.2.av.cells)).aC b4 (.cells [.int .i64 0,.int .i64 0,.str ⟨#[]⟩,.fslice []])) (fun p=>p.1) (by decide +kernel) ⟨(f,t),⟨hw,ht⟩,aM.mk (by simp -implicitDefEqProofs only[aB,seval])⟩ ?_
 rintro⟨g,t⟩ ⟨hw,ht⟩
 obtain⟨k,n,s,ts⟩:=t
 simp only at hw ht
 simp only[bA]
 have wN:k≠1∨σ n=none→u=.mk k n s ts:=fun h=>by
  cases hw with
  | stop _=>rfl
  | go h1 h2 _=>
   simp only[Tm.k] at h1
   rcases h with h | h
   · exact absurd h1 h
   · rw[show σ n=some _ from h2] at h;cases h
 simp -implicitDefEqProofs only[hne.symm,aB,seval,G8]
 refine cX (fun h=>?_) (fun h=>?_)
 case refine_2=>
  simp -implicitDefEqProofs only[h,aK,hne.symm,aB,seval,G8]
  simp only[kP,dJ] at h
  rw[wN (.inl h),←bA]
  exact⟨Tm.soft _,((aL.refl _).aC h2).aC hn4⟩
 simp only[bK] at h
 subst h
 obtain⟨hn0,hn1,_⟩:=ht.var
 obtain⟨i,rfl⟩:∃i:Nat,n=i:=⟨n.toNat,by omega⟩
 have hi:i<N:=by omega
 have hi':decide ((i:Int)<(N:Int))=true:=by simp;omega
 simp -implicitDefEqProofs only[bV,hi',lB,hne.symm,hlen,aB,seval,G8]
 have hat:dG prog 31 (.slice (dA N σ)) (.int .i64 (i:Int))=some (.pptr (cellOf (σ (i:Int)))):=bP (av:=fun i:Nat=>cellOf (σ (i:Int))) aQ (List.getElem?_range hi) (MX _)
 cases hw with
 | stop hs=>
  rw[show σ (i:Int)=none from hs rfl] at hat
  simp only[cellOf] at hat
  simp -implicitDefEqProofs only[hat,bV,aK,hne.symm,aB,seval,G8]
  exact⟨by rw[←bA,Tm.soft],((aL.refl _).aC h2).aC hn4⟩
 | go h1 h2' h3=>
  simp only[Tm.n] at h2'
  have ho:=hok _ _ h2'
  rename_i g' u'
  obtain⟨k',n',s',ts'⟩:=u'
  have hk':¬k'=0:=by have:=ho.kind.1;omega
  rw[h2'] at hat
  simp only[cellOf,bA] at hat
  simp -implicitDefEqProofs only[hat,hk',bX,aK,hne.symm,aB,seval,G8]
  rw[aA.BR hne,aA.m7 _ _ _ hne]
  refine⟨(g',.mk k' n' s' ts'),Nat.lt_succ_self _,⟨h3,ho⟩,?_⟩
  simp only[bA]
  exact aM.mk (by simp -implicitDefEqProofs only[aB,seval])
abbrev vK:=zi tI_3 (zi zI_3 (zi aY (zi tI_9 (zi zI_9 (zi cV (zi tI_31 (zi zI_31 (zi aQ (zi bS (zi bT (zi cI (zi tI_66 (zi zI_66 (zi bZ (zi b9 (zi cA (zi cB bY)))))))))))))))))
theorem aAZ{N:Nat}{σ:Sub}{R:Int→Tm}{rk:Int→Nat}{B:Nat}(G:Good σ R rk B)(hok:c9 (bJ N) σ) :
 ∀(room:Nat) (t:Tm) (st:aA),room≤120→bJ N t→aD prog 302 [t.av,.slice (dA N σ),.int .i64 (room:Int)] st (Full (t.aN R) room st)
 | room,t,st,hr,ht=>by
  have IH:=fun(OZ:Nat) (hlt:OZ<room) (x:Tm) st=>aAZ G hok OZ x st
  obtain⟨f,hw⟩:=G.wk t
  generalize wk σ t=u at *
  have N4:c9 (cO N) σ:=fun n u hu=>(hok n u hu).1
  have hsu:=hw.all (p:=bJ N) hok ht
  have hcw:=fun st=>aW6 N4 hw ht.1 st
  obtain⟨k,n,s,ts⟩:=u
  have hv:=aOO G hw (hsu.1.2.1)
  rw[hv]
  obtain⟨hlen,qY⟩:=Tm.rG (hsu.1.small)
  have bDG:=hsu.1.kind.2
  have hkn:=hsu.1.all.2
  have hkk:∀x∈ts,bJ N x:=fun x hx=>by
   refine⟨hkn x hx,?_⟩
   have:=hsu.2
   rw[Tm.iD] at this
   have:=KW (f:=Tm.nodes) hx
   omega
  refine aD.nG (aD.fin ?_)
  refine wF [1000000,3,8] 3 func302 ntmps302 rfl rfl ?_
  intro _
  simp -implicitDefEqProofs only[aB,seval,vK]
  intro b3 h3 b6 h6
  have h63:b6≠b3:=by rintro rfl;rw[aA.aJ] at h6;cases h6
  have hn6:st b6=none:=by rw[aA.aG st _ h63] at h6;exact h6
  have hwr:∀z:Int,-1≤z→z≤200→IntKind.i64.wrap z=z:=fun z h1 h2=>wrap64 (by omega) (by omega)
  have hw1:=hwr ((room:Int) - 1) (by omega) (by omega)
  refine aP (fun h=>?_) (fun h=>?_)
  · simp only[bK] at h
    obtain rfl:room=0:=by omega
    simp -implicitDefEqProofs only[aK,aB,↓aU,seval,vK]
    refine⟨0,[],_,rfl,by simp,by simp,⟨4,by simp⟩,st,(fun x=>by by_cases e3:x=b3<;>by_cases e6:x=b6<;>simp_all [aA.aC]),rfl,Tm.zero,-1,?_,Int.le_refl _,?_⟩
    · simp only[Tm.zero,bA,jH,kC,fS,pE,oL,bH,a7]
    · rw[aE (by rw[Tm.iD];omega)];decide
  simp only[dJ] at h
  simp -implicitDefEqProofs only[h63.symm,aB,seval,vK]
  refine(hcw _).to ?_
  simp only[bA]
  simp -implicitDefEqProofs only[aK,h63.symm,hw1,aB,↓aU,seval,vK]
  intro b8 h8
  have h83:b8≠b3:=by rintro rfl;simp [aA.aC] at h8
  have h86:b8≠b6:=by rintro rfl;simp [aA.aC,h63] at h8
  have hn8:st b8=none:=by rw[aA.aG _ _ h83,aA.aG _ _ h86,aA.aG _ _ h83] at h8;exact h8
  rw[aA.BR h63]
  have hW6:((st.aC b6 (.cells [.int .i64 0,.int .i64 0,.str ⟨#[]⟩,.fslice []])).aC b3 (.cells [.int .i64 k,.int .i64 n,.str s,.slice (ts.map Tm.av)])) b6=some (.cells [.int .i64 0,.int .i64 0,.str ⟨#[]⟩,.fslice []]):=by rw[aA.aG _ _ h63,aA.aJ]
  have hW3:((st.aC b6 (.cells [.int .i64 0,.int .i64 0,.str ⟨#[]⟩,.fslice []])).aC b3 (.cells [.int .i64 k,.int .i64 n,.str s,.slice (ts.map Tm.av)])) b3=some (.cells [.int .i64 k,.int .i64 n,.str s,.slice (ts.map Tm.av)]):=aA.aJ _ _ _
  have hWd:∀Y Z,aL ((((st.aC b6 (.cells [.int .i64 0,.int .i64 0,.str ⟨#[]⟩,.fslice []])).aC b3 (.cells [.int .i64 k,.int .i64 n,.str s,.slice (ts.map Tm.av)])).aC b8 Z).aC b6 Y) st:=fun Y Z x=>by
   by_cases e3:x=b3<;>by_cases e6:x=b6<;>by_cases e8:x=b8<;>simp_all [aA.aC]
  generalize ((st.aC b6 (.cells [.int .i64 0,.int .i64 0,.str ⟨#[]⟩,.fslice []])).aC b3 (.cells [.int .i64 k,.int .i64 n,.str s,.slice (ts.map Tm.av)]))=W at *
  have A5:(Tm.mk k n s (ts.map (Tm.aN R))).nodes=1+bD Tm.nodes (ts.map (Tm.aN R)):=Tm.iD _ _ _ _
  refine d8 (σ:=Nat×List Tm×Int) [1000000,3,8] [1,3,6,7,8] ts
   (fun i p=>(p.2.1.map Tm.av≠[]→(W.aC b8 (.cells ([.int .i64 k,.int .i64 n,.str s]++ [bU 4 p.1 (p.2.1.map Tm.av)]))) p.1=none)∧p.2.1.length=i∧-1≤p.2.2 ∧
    (0≤p.2.2→p.2.1=(ts.take i).map (Tm.aN R)∧p.2.2=(room:Int) - 1 - bD Tm.nodes p.2.1)∧(p.2.2<0→room<1+bD Tm.nodes (ts.map (Tm.aN R))))
   (fun i p=>[(9,.int .i64 p.2.2),(10,.int .i64 i)])
   (fun i p=>mC W b8 p.1 [.int .i64 k,.int .i64 n,.str s] (p.2.1.map Tm.av)) (by decide +kernel)
   ⟨(0,[],(room:Int) - 1),⟨fun h=>absurd rfl h,rfl,by simp only;omega,fun _=>⟨by simp,by simp [bD]⟩,fun h=>by simp only at h;omega⟩,aM.mk (by simp -implicitDefEqProofs only[aB,↓aU,seval])⟩ (fun i x p hx hlt bL F0 hinv=>?_) (fun p hge hinv=>?_)
  · obtain⟨b,acc,left⟩:=p
    obtain⟨i1,i2,i3,i4,i5⟩:=hinv
    simp only at i1 i2 i3 i4 i5
    have h3o:=pH i1 (x:=b3) (by rw[hW3];simp) h83.symm
    rw[hW3] at h3o
    simp -implicitDefEqProofs only[bL,bV,lB,aF,h3o,aB,seval,vK]
    refine aP (fun h9=>?_) (fun h9=>?_)
    case refine_2=>
     simp only[dJ] at h9
     have hbo:=nL i1
     have h6o:=pH i1 (x:=b6) (by rw[hW6];simp) h86.symm
     rw[hW6] at h6o
     simp -implicitDefEqProofs only[aK,hbo,h6o,kU,aB,seval,vK]
     obtain⟨g5,g6⟩:=wV (o:=.cells [.int .i64 k,.int .i64 n,.str s,bU 4 b (acc.map Tm.av)]) i1 (show W b6≠none by rw[hW6];simp) h86.symm
     refine⟨b,_,_,g5,g6,pM _,⟨4,gZ _⟩,st,hWd _ _,rfl,.mk k n s acc,left,?_,i3,?_⟩
     · simp only[kC,jH,bH,a7,fS,pE,oH,bA]
     · rw[A5]
       skip
       rw[aE (by have:=i5 (by omega);omega)]
       omega
    simp only[bK] at h9
    obtain⟨e1,e2⟩:=i4 h9
    have fT:=cM hx
    have hsl:=a9Q Tm.nodes (ts.map (Tm.aN R)) (i+1)
    rw[←HR,eD,hx] at hsl
    simp only[EO,nU,bH,a7,G4,bD,←e1] at hsl
    obtain⟨OZ,rfl⟩:∃r:Nat,left=r:=⟨left.toNat,by omega⟩
    have c8:(acc.map Tm.av).length=i:=by rw[aF,i2]
    have hw:=bE (n:=(i:Int)+1)
    have hbo:=nL i1
    simp -implicitDefEqProofs only[h3o,bP (av:=Tm.av) aQ hx (aO x),bG,aO,aB,seval,vK]
    refine(IH OZ (by omega) x _ (by omega) (hkk x fT)).mono ?_
    rintro _ _ ⟨rfl,y,a58,rfl,hl1,hl2⟩
    simp -implicitDefEqProofs only[bG,aO,cP,cU,hbo,sV,aB,↓aU,seval,vK]
    refine eQ aQ bS bT rfl rfl (f9 (aO _) (cP _)) (gZ _) i1 (by simp only[c8,aX,a8];omega) (by simp only[c8,aX,a8];omega) (fun b' hb'=>?_)
    rw[show acc.map Tm.av++ [y.av]=(acc++ [y]).map Tm.av by simp] at hb' ⊢
    obtain⟨g1,g2,g3⟩:=yV hb'
    simp only[iB,fF] at g1 g3
    simp -implicitDefEqProofs only[g3,rS,kU,g1,hw,aK,aB,seval,vK]
    refine⟨(b',acc++ [y],a58),⟨g2,by simp [i2],hl1,fun h=>?_,fun h=>?_⟩,aM.mk (by simp -implicitDefEqProofs only[aB,seval])⟩
    · simp only at h
      split at hl2
      · obtain⟨rfl,hl3⟩:=hl2
        refine⟨by rw[eD,hx];simp [e1],?_⟩
        simp only[G4,bD]
        omega
      · omega
    · simp only at h
      split at hl2
      · omega
      · omega
  · obtain⟨b,acc,left⟩:=p
    obtain⟨i1,i2,i3,i4,i5⟩:=hinv
    simp only at i1 i2 i3 i4 i5
    rw[dZ] at i4
    have h3o:=pH i1 (x:=b3) (by rw[hW3];simp) h83.symm
    rw[hW3] at h3o
    simp -implicitDefEqProofs only[hge,aF,h3o,aB,seval,vK]
    have hbo:=nL i1
    have h6o:=pH i1 (x:=b6) (by rw[hW6];simp) h86.symm
    rw[hW6] at h6o
    simp -implicitDefEqProofs only[aK,hbo,h6o,kU,aB,seval,vK]
    obtain⟨g5,g6⟩:=wV (o:=.cells [.int .i64 k,.int .i64 n,.str s,bU 4 b (acc.map Tm.av)]) i1 (show W b6≠none by rw[hW6];simp) h86.symm
    refine⟨b,_,_,g5,g6,pM _,⟨4,gZ _⟩,st,hWd _ _,rfl,.mk k n s acc,left,?_,i3,?_⟩
    · simp only[kC,jH,bH,a7,fS,pE,oH,bA]
    · rw[A5]
      skip
      rcases Int.lt_or_le left 0 with h9 | h9
      · rw[aE (by have:=i5 h9;omega)];exact h9
      · obtain⟨e1,e2⟩:=i4 h9
        rw[←e1] at i5 ⊢
        rw[aH (by omega)]
        exact⟨rfl,by omega⟩
termination_by room=>room
decreasing_by exact hlt
end Go.AW
namespace Go.AW
def JL(c:Cl):Int:=(cG (c.1::c.2) []).foldl (fun n v=>if n≤v then v+1 else n) 0
def pW(c:Cl):Nat:=(JL c).toNat
def dO(N:Nat)(t:Tm):Tm:=cD (fun v=>v+(N:Int)) t
def fA(t:Tm):Bool:=t.flat 30&&decide (t.nodes≤120)
def tB(t:Tm):Bool:=decide (t.k=3)&&decide (t.s=⟨#[33]⟩)&&decide ((t.ts.length:Int)=0)
def JU(c:Cl)(t:Tm):Bool:=decide (c.1.s=t.s)&&decide ((c.1.ts.length:Int)=(t.ts.length:Int))
def eR(p:List Cl)(t:Tm):List Nat:=(List.range p.length).filter fun i=>match p[i]? with
 | some c=>JU c t
 | none=>false
def qT(c:Int):Int:=if c=2 then 4 else if c=3 then 5 else if c=4 then 6 else 7
noncomputable def jV(σ:Sub)(vars:List Int):Option (List Tm):=
 if((vars.map (rs σ)).all fA=true)∧(cG (vars.map (rs σ)) []).length≤26 then some (rF (vars.map (rs σ))) else none
structure RG where
 t:Tm
 aV:Nat
structure RC where
 goal:Tm
 rest:List RG
 left:List Nat
 σ:Sub
 N:Nat
structure RS where
 goals:List RG
 σ:Sub
 N:Nat
 chs:List RC
inductive RO where
 | go (s:RS)
 | fail
 | stop (e:Int)
noncomputable def jM(p:List Cl)(chs:List RC)(goal:Tm)(rest:List RG)(σ:Sub)(N:Nat):List Nat→Option RS
 | []=>none
 | i::l=>match p[i]? with
  | none=>none
  | some x=>if(j5 σ goal (dO N x.1)).1=true then
   some ⟨x.2.map (fun t=>⟨dO N t,chs.length⟩)++rest,(j5 σ goal (dO N x.1)).2.1,N+pW x,if l= [] then chs else chs++ [⟨goal,rest,l,σ,N⟩]⟩
   else jM p chs goal rest σ N l
noncomputable def gC(p:List Cl):Nat→List RC→Option RS
 | 0,_=>none
 | n+1,chs=>match chs.getLast? with
  | none=>none
  | some c=>match jM p chs.dropLast c.goal c.rest c.σ c.N c.left with
   | some s=>some s
   | none=>gC p n chs.dropLast
noncomputable def jL(p:List Cl)(cnd:Tm→List Nat→List Nat)(s:RS)(g:RG)(rest:List RG):RO:=
 if fA (g.t.aN (rs s.σ))=false then .stop 3
 else if tB (g.t.aN (rs s.σ))=true then .go ⟨rest,s.σ,s.N,s.chs.take g.aV⟩
 else if isBuiltin (g.t.aN (rs s.σ)).s ((g.t.aN (rs s.σ)).ts.length:Int)=true then
  if(dM s.σ (g.t.aN (rs s.σ)).s (g.t.aN (rs s.σ)).ts).1=0 then .go ⟨rest,(dM s.σ (g.t.aN (rs s.σ)).s (g.t.aN (rs s.σ)).ts).2.1,s.N,s.chs⟩
  else if(dM s.σ (g.t.aN (rs s.σ)).s (g.t.aN (rs s.σ)).ts).1=1 then .fail
  else .stop (qT (dM s.σ (g.t.aN (rs s.σ)).s (g.t.aN (rs s.σ)).ts).1)
 else if eR p (g.t.aN (rs s.σ))= [] then .stop 8
 else match jM p s.chs (g.t.aN (rs s.σ)) rest s.σ s.N (cnd (g.t.aN (rs s.σ)) (eR p (g.t.aN (rs s.σ)))) with
  | some s'=>.go s'
  | none=>.fail
noncomputable def jB(p:List Cl)(cnd:Tm→List Nat→List Nat)(vars:List Int)(most fuel:Nat)(s:RS):List (List Tm)×Int:=
 match s.goals with
 | []=>if h:most=0 then([],1) else match jV s.σ vars with
  | none=>([],3)
  | some a=>match gC p s.chs.length s.chs with
   | none=>([a],0)
   | some s'=>(a::(jB p cnd vars (most - 1) fuel s').1,(jB p cnd vars (most - 1) fuel s').2)
 | g::rest=>if h:fuel=0 then([],2) else match jL p cnd s g rest with
  | .stop e=>([],e)
  | .go s'=>jB p cnd vars most (fuel - 1) s'
  | .fail=>match gC p s.chs.length s.chs with
   | none=>([],0)
   | some s'=>jB p cnd vars most (fuel - 1) s'
termination_by most+fuel
decreasing_by all_goals omega
def nS(q:List Tm):RS:=⟨q.map fun t=>⟨t,0⟩,Sub.none,26,[]⟩
noncomputable def w7(p:List Cl)(cnd:Tm→List Nat→List Nat)(q:List Tm)(most fuel:Nat):List (List Tm)×Int:=jB p cnd (cG q []) most fuel (nS q)
structure IG where
 t:Tm
 cut:Nat
 up:Int
structure IC where
 goal:Tm
 node:Nat
 rest:List IG
 list:List Nat
 fK:Nat
 taken:Nat
structure IS where
 goals:List IG
 σ:Sub
 tr:List Int
 chs:List IC
 fresh:Nat
 nn:Nat
inductive zP where
 | go (s:IS)
 | fail (s:IS)
 | stop (e:Int)
noncomputable def gB(p:List Cl)(goal:Tm)(at':Nat)(rest:List IG):List Nat→IS→Bool×IS
 | [],s=>(false,s)
 | i::l,s=>match p[i]? with
  | none=>(false,s)
  | some x=>if(j5 s.σ goal (dO s.fresh x.1)).1=true then
   (true,⟨x.2.map (fun t=>⟨dO s.fresh t,s.chs.length,at'⟩)++rest,(j5 s.σ goal (dO s.fresh x.1)).2.1,s.tr++(j5 s.σ goal (dO s.fresh x.1)).2.2,if l= [] then s.chs else s.chs++ [⟨goal,at',rest,l,s.tr.length,s.nn⟩],s.fresh+26,s.nn⟩)
   else gB p goal at' rest l { s with fresh:=s.fresh+26 }
def IS.pop(s:IS)(c:IC):IS:={ s with chs:=s.chs.dropLast,σ:=s.σ.out (s.tr.drop c.fK),tr:=s.tr.take c.fK,nn:=c.taken }
noncomputable def g7(p:List Cl):Nat→IS→Option IS
 | 0,_=>none
 | n+1,s=>match s.chs.getLast? with
  | none=>none
  | some c=>if(gB p c.goal c.node c.rest c.list (s.pop c)).1=true then some (gB p c.goal c.node c.rest c.list (s.pop c)).2 else g7 p n (gB p c.goal c.node c.rest c.list (s.pop c)).2
noncomputable def nK(p:List Cl)(cnd:Tm→List Nat→List Nat)(s:IS)(g:IG)(rest:List IG):zP:=
 if fA (g.t.aN (rs s.σ))=false then .stop 3
 else if tB (g.t.aN (rs s.σ))=true then .go { s with goals:=rest,chs:=s.chs.take g.cut,nn:=s.nn+1 }
 else if isBuiltin (g.t.aN (rs s.σ)).s ((g.t.aN (rs s.σ)).ts.length:Int)=true then
  if(dM s.σ (g.t.aN (rs s.σ)).s (g.t.aN (rs s.σ)).ts).1=0 then .go { s with goals:=rest,σ:=(dM s.σ (g.t.aN (rs s.σ)).s (g.t.aN (rs s.σ)).ts).2.1,tr:=s.tr++(dM s.σ (g.t.aN (rs s.σ)).s (g.t.aN (rs s.σ)).ts).2.2,nn:=s.nn+1 }
  else if(dM s.σ (g.t.aN (rs s.σ)).s (g.t.aN (rs s.σ)).ts).1=1 then .fail { s with σ:=(dM s.σ (g.t.aN (rs s.σ)).s (g.t.aN (rs s.σ)).ts).2.1,tr:=s.tr++(dM s.σ (g.t.aN (rs s.σ)).s (g.t.aN (rs s.σ)).ts).2.2,nn:=s.nn+1 }
  else .stop (qT (dM s.σ (g.t.aN (rs s.σ)).s (g.t.aN (rs s.σ)).ts).1)
 else if eR p (g.t.aN (rs s.σ))= [] then .stop 8
 else if(gB p (g.t.aN (rs s.σ)) s.nn rest (cnd (g.t.aN (rs s.σ)) (eR p (g.t.aN (rs s.σ)))) { s with nn:=s.nn+1 }).1=true then .go (gB p (g.t.aN (rs s.σ)) s.nn rest (cnd (g.t.aN (rs s.σ)) (eR p (g.t.aN (rs s.σ)))) { s with nn:=s.nn+1 }).2
 else .fail (gB p (g.t.aN (rs s.σ)) s.nn rest (cnd (g.t.aN (rs s.σ)) (eR p (g.t.aN (rs s.σ)))) { s with nn:=s.nn+1 }).2
noncomputable def kD(p:List Cl)(cnd:Tm→List Nat→List Nat)(vars:List Int)(most fuel:Nat)(s:IS):List (List Tm)×Int:=
 match s.goals with
 | []=>if h:most=0 then([],1) else match jV s.σ vars with
  | none=>([],3)
  | some a=>match g7 p s.chs.length s with
   | none=>([a],0)
   | some s'=>(a::(kD p cnd vars (most - 1) fuel s').1,(kD p cnd vars (most - 1) fuel s').2)
 | g::rest=>if h:fuel=0 then([],2) else match nK p cnd s g rest with
  | .stop e=>([],e)
  | .go s'=>kD p cnd vars most (fuel - 1) s'
  | .fail s'=>match g7 p s'.chs.length s' with
   | none=>([],0)
   | some s''=>kD p cnd vars most (fuel - 1) s''
termination_by most+fuel
decreasing_by all_goals omega
def pY(q:List Tm):IS:=⟨q.map fun t=>⟨t,0,-1⟩,Sub.none,[],[],26,0⟩
structure pR (ρ:Int→Int) (N F:Nat) (σ τ:Sub):Prop where
 sim:fW ρ N σ τ
 rng:∀v,0≤v→v<(N:Int)→0≤ρ v∧ρ v<(F:Int)
 g1:cT σ
 o1:c9 (bJ N) σ
 g2:cT τ
 o2:c9 (bJ F) τ
 d1:∀n,¬(0≤n∧n<(N:Int))→σ n=none
 d2:∀n,¬(0≤n∧n<(F:Int))→τ n=none
 h26:26≤N
 idn:∀v,0≤v→v<26→ρ v=v
theorem pR.mono{ρ:Int→Int}{N F F':Nat}{σ τ:Sub}(S:pR ρ N F σ τ)(h:F≤F'):pR ρ N F' σ τ:=
 ⟨S.sim,fun v h0 h1=>⟨(S.rng v h0 h1).1,by have:=(S.rng v h0 h1).2;omega⟩,S.g1,S.o1,S.g2,S.o2.imp fun t ht=>ht.mono (by omega),S.d1,fun n hn=>S.d2 n fun h'=>hn ⟨h'.1,by omega⟩,S.h26,S.idn⟩
def uQ(ρ:Int→Int)(N F:Nat):Int→Int:=fun v=>if v<(N:Int) then ρ v else v - N+F
theorem wJ{ρ:Int→Int}{N F:Nat}{v:Int}(h:v<(N:Int)):uQ ρ N F v=ρ v:=aH h
theorem pR.ext{ρ:Int→Int}{N F:Nat}{σ τ:Sub}(S:pR ρ N F σ τ){k:Nat}(hk:k≤26):pR (uQ ρ N F) (N+k) (F+26) σ τ:=by
 have jJ:∀v:Int,¬v<(N:Int)→uQ ρ N F v=v - N+F:=fun v h=>aE h
 refine⟨⟨fun v w hv0 hv1 hw0 hw1 e=>?_,fun v h0 h1=>?_⟩,fun v h0 h1=>?_,S.g1,S.o1.imp fun t ht=>ht.mono (by omega),S.g2,S.o2.imp fun t ht=>ht.mono (by omega),fun n hn=>S.d1 n fun h=>hn ⟨h.1,by omega⟩,fun n hn=>S.d2 n fun h=>hn ⟨h.1,by omega⟩,by have:=S.h26;omega,fun v h0 h1=>by rw[wJ (by have:=S.h26;omega)];exact S.idn v h0 h1⟩
 · by_cases hv:v<(N:Int)<;>by_cases hw:w<(N:Int)
   · rw[wJ hv,wJ hw] at e;exact S.sim.inj v w hv0 hv hw0 hw e
   · rw[wJ hv,jJ w hw] at e
     have:=S.rng v hv0 hv
     omega
   · rw[wJ hw,jJ v hv] at e
     have:=S.rng w hw0 hw
     omega
   · rw[jJ v hv,jJ w hw] at e
     omega
 · by_cases hv:v<(N:Int)
   · rw[wJ hv,S.sim.map v h0 hv]
     cases hs:σ v with
     | none=>rfl
     | some u=>
      simp only[pA,Option.some.injEq]
      refine WT fun w hw=>?_
      rw[wJ ((S.o1 v u hs).1.2.2 w hw).2]
   · rw[jJ v hv,S.d1 v (fun h=>hv h.2),S.d2 _ (fun h=>by omega)]
     try rfl
 · by_cases hv:v<(N:Int)
   · rw[wJ hv]
     have:=S.rng v h0 hv
     omega
   · rw[jJ v hv];omega
theorem aOI(l:List Int):∀n:Int,n≤l.foldl (fun n v=>if n≤v then v+1 else n) n∧(∀v∈l,v<l.foldl (fun n v=>if n≤v then v+1 else n) n)∧∀m:Int,n≤m→(∀v∈l,v<m)→l.foldl (fun n v=>if n≤v then v+1 else n) n≤m:=by
 induction l with
 | nil=>intro n;exact⟨Int.le_refl _,by simp,fun m h _=>h⟩
 | cons x l ih=>
  intro n
  simp only[B3]
  obtain⟨h1,h2,h3⟩:=ih (if n≤x then x+1 else n)
  refine⟨?_,fun v hv=>?_,fun m hm hl=>h3 m ?_ fun v hv=>hl v (by simp [hv])⟩
  · split at h1<;>rename_i h<;>split<;>omega
  · rcases c7.1 hv with rfl | hv
    · split at h1<;>rename_i h<;>split<;>omega
    · exact h2 v hv
  · have:=hl x (by simp)
    split<;>omega
structure gQ (c:Cl):Prop where
 head:bJ 26 c.1
 body:∀t∈c.2,bJ 26 t∧t.k=3
theorem gQ.vars{c:Cl}(h:gQ c){v:Int}:v∈cG (c.1::c.2) []↔∃t∈c.1::c.2,v∈t.vl:=by
 rw[BQ]
 · simp
 · intro t ht
   rcases c7.1 ht with rfl | ht
   · exact h.head.1.2.1
   · exact(h.body t ht).1.1.2.1
theorem gQ.GM{c:Cl}(h:gQ c):∀t∈c.1::c.2,bJ 26 t:=fun t ht=>by
 rcases c7.1 ht with rfl | ht
 · exact h.head
 · exact(h.body t ht).1
theorem gQ.fr{c:Cl}(h:gQ c):pW c≤26∧∀t∈c.1::c.2,∀v∈t.vl,v<(pW c:Int):=by
 obtain⟨h1,h2,h3⟩:=aOI (cG (c.1::c.2) []) 0
 have hle:=h3 26 (by omega) fun v hv=>by
  obtain⟨t,ht,hv⟩:=h.vars.1 hv
  exact((h.GM t ht).1.2.2 v hv).2
 unfold pW JL
 refine⟨by omega,fun t ht v hv=>?_⟩
 have:=h2 v (h.vars.2 ⟨t,ht,hv⟩)
 omega
theorem gQ.dO{c:Cl}(h:gQ c)(N:Nat):∀t∈c.1::c.2,bJ ((N+pW c:Nat):Int) (dO N t):=fun t ht=>by
 refine(h.GM t ht).cD fun v hv=>?_
 have h1:=((h.GM t ht).1.2.2 v hv).1
 have h2:=h.fr.2 t ht v hv
 omega
theorem W1{ρ:Int→Int}{N F:Nat}{c:Cl}(h:gQ c):∀t∈c.1::c.2,cD (uQ ρ N F) (dO N t)=dO F t:=fun t ht=>by
 unfold AW.dO
 rw[show cD (uQ ρ N F) (cD (fun v=>v+(N:Int)) t)=t.aN fun v=>vr (uQ ρ N F (v+N)) from KO _ _ t]
 refine sC t fun v hv=>?_
 have h1:=((h.GM t ht).1.2.2 v hv).1
 show vr (uQ ρ N F (v+(N:Int)))=vr (v+(F:Int))
 unfold uQ
 rw[aE (by omega)]
 congr 1
 omega
theorem aR9{N:Nat}(t:Tm):(dO N t).k=t.k:=BC _ t
def GL(ρ:Int→Int)(N:Nat)(gs:List RG)(hs:List IG):Prop:=hs.map (fun h=>(h.t,h.cut))=gs.map (fun g=>(cD ρ g.t,g.aV))∧∀g∈gs,bJ N g.t∧g.t.k=3
theorem GL.ext{ρ ρ':Int→Int}{N N':Nat}{gs:List RG}{hs:List IG}(h:GL ρ N gs hs)(hN:N≤N')(hr:∀v,0≤v→v<(N:Int)→ρ' v=ρ v):GL ρ' N' gs hs:=by
 refine⟨h.1.trans (sQ fun g hg=>?_),fun g hg=>⟨(h.2 g hg).1.mono (by omega),(h.2 g hg).2⟩⟩
 rw[WT (ρ:=ρ) (ρ':=ρ') fun v hv=>(hr v ((h.2 g hg).1.1.2.2 v hv).1 ((h.2 g hg).1.1.2.2 v hv).2).symm]
theorem GL.app{ρ:Int→Int}{N:Nat}{gs gs':List RG}{hs hs':List IG}(h:GL ρ N gs hs)(h':GL ρ N gs' hs'):GL ρ N (gs++gs') (hs++hs'):=by
 refine⟨by rw[nU,nU,h.1,h'.1],fun g hg=>?_⟩
 rcases d6.1 hg with hg | hg
 · exact h.2 g hg
 · exact h'.2 g hg
def C1(F:Nat)(c:RC)(d:IC)(τ:Sub):Prop:=∃ρ,pR ρ c.N F c.σ τ∧d.goal=cD ρ c.goal∧bJ c.N c.goal∧GL ρ c.N c.rest d.rest∧d.list=c.left
inductive jD (F:Nat):List RC→List IC→Sub→List Int→Prop
 | nil {τ:Sub} {tr:List Int}:jD F [] [] τ tr
 | snoc {cs:List RC} {ds:List IC} {c:RC} {d:IC} {τ:Sub} {tr:List Int} (h:jD F cs ds (τ.out (tr.drop d.fK)) (tr.take d.fK)) (h1:C1 F c d (τ.out (tr.drop d.fK))) (h2:d.fK≤tr.length):jD F (cs++ [c]) (ds++ [d]) τ tr
theorem jD.len{F:Nat}{cs:List RC}{ds:List IC}{τ:Sub}{tr:List Int}(h:jD F cs ds τ tr):ds.length=cs.length:=by
 induction h with
 | nil=>rfl
 | snoc _ _ _ ih=>simp [ih]
theorem jD.mono{F F':Nat}(hF:F≤F'){cs:List RC}{ds:List IC}{τ:Sub}{tr:List Int}(h:jD F cs ds τ tr):jD F' cs ds τ tr:=by
 induction h with
 | nil=>exact .nil
 | snoc _ h1 h2 ih=>exact .snoc ih (by obtain⟨ρ,h3,h4⟩:=h1;exact⟨ρ,h3.mono hF,h4⟩) h2
theorem a1A(tr:List Int){a m:Nat}(h:a≤m)(n:Int):n∈tr.drop m++(tr.take m).drop a↔n∈tr.drop a:=by
 have e:tr.drop a=(tr.take m).drop a++tr.drop m:=by
  conv=>lhs;rw[←qG m tr]
  rw[List.drop_append]
  by_cases hm:m≤tr.length
  · rw[dE,lQ hm,show a - m=0 by omega,sP]
  · rw[List.drop_of_length_le (show tr.length≤m by omega)]
    simp
 rw[e,d6,d6,or_comm]
theorem jD.lift{F:Nat}{cs:List RC}{ds:List IC}{τ:Sub}{tr:List Int}{m:Nat}(h:jD F cs ds (τ.out (tr.drop m)) (tr.take m))(hm:m≤tr.length):jD F cs ds τ tr:=by
 generalize hτ:τ.out (tr.drop m)=τ' at h
 generalize htr:tr.take m=tr' at h
 cases h with
 | nil=>exact .nil
 | @snoc cs ds c d _ _ h h1 h2=>
  subst hτ htr
  have hd:d.fK≤m:=by rw[dE] at h2;omega
  have e1:(τ.out (tr.drop m)).out ((tr.take m).drop d.fK)=τ.out (tr.drop d.fK):=by
   rw[Sub.a7J]
   exact Sub.a7K τ (a1A tr hd)
  have e2:(tr.take m).take d.fK=tr.take d.fK:=by rw[zT,lQ hd]
  rw[e1,e2] at h
  rw[e1] at h1
  exact .snoc h h1 (by omega)
theorem jD.more{F:Nat}{cs:List RC}{ds:List IC}{τ τ':Sub}{tr add:List Int}(h:jD F cs ds τ tr)(e:τ'.out add=τ):jD F cs ds τ' (tr++add):=by
 refine jD.lift (m:=tr.length) ?_ (by simp)
 rw[EI,HU,e]
 exact h
theorem jD.take{F:Nat}{cs:List RC}{ds:List IC}{τ:Sub}{tr:List Int}(h:jD F cs ds τ tr)(k:Nat):jD F (cs.take k) (ds.take k) τ tr:=by
 induction h with
 | nil=>simp;exact .nil
 | @snoc cs ds c d τ tr h h1 h2 ih=>
  have hl:=h.len
  by_cases hk:k≤cs.length
  · rw[EM hk,EM (by omega)]
    exact ih.lift h2
  · rw[nA (by simp;omega),nA (by simp;omega)]
    exact .snoc h h1 h2
def Rl(s:RS)(i:IS):Prop:=∃ρ,pR ρ s.N i.fresh s.σ i.σ∧GL ρ s.N s.goals i.goals∧jD i.fresh s.chs i.chs i.σ i.tr
theorem B9.DN{N:Int}{σ:Sub}{a b:Tm}{r:Bool}{σ':Sub}{tr:List Int}(h:B9 N σ a b r σ' tr):σ'.out tr=σ:=funext fun n=>h.out n
theorem oF.DN{N:Int}{σ σ':Sub}{add:List Int}(h:oF N σ σ' add):σ'.out add=σ:=by
 funext n
 unfold Sub.out
 split
 · rename_i hn;exact((h.new n hn).1).symm
 · rename_i hn;exact h.aV n hn
theorem oF.yB{N:Nat}{σ σ':Sub}{add:List Int}(h:oF N σ σ' add)(hd:∀n,¬(0≤n∧n<(N:Int))→σ n=none):∀n,¬(0≤n∧n<(N:Int))→σ' n=none:=fun n hn=>by
 rw[h.aV n fun h'=>hn (h.gO n h')]
 exact hd n hn
theorem pR.grow{ρ:Int→Int}{N F:Nat}{σ τ σ' τ':Sub}{add aV7:List Int}(S:pR ρ N F σ τ)(h:oF N σ σ' add)(h':oF F τ τ' aV7)(s:fW ρ N σ' τ'):pR ρ N F σ' τ':=
 ⟨s,S.rng,h.iC,h.ok,h'.iC,h'.ok,h.yB S.d1,h'.yB S.d2,S.h26,S.idn⟩
theorem pR.DS{ρ:Int→Int}{N F:Nat}{σ τ:Sub}(S:pR ρ N F σ τ){t:Tm}(h:bJ N t):bJ F (cD ρ t):=h.cD fun v hv=>S.rng v (h.1.2.2 v hv).1 (h.1.2.2 v hv).2
section
variable {p:List Cl} (hp:∀c∈p,gQ c)
include hp
theorem QD{cs:List RC}{goal:Tm}{rest:List RG}{σ:Sub}{N:Nat}{ρ:Int→Int}{WV:List IG}{τ:Sub}{tr:List Int}{ds:List IC}{nn at':Nat}(hg:bJ N goal)(hr:GL ρ N rest WV) :
 ∀(l:List Nat) (F:Nat) (gl:List IG),pR ρ N F σ τ→jD F cs ds τ tr →
 match jM p cs goal rest σ N l with
 | none=>∃F',F≤F'∧gB p (cD ρ goal) at' WV l ⟨gl,τ,tr,ds,F,nn⟩=(false,⟨gl,τ,tr,ds,F',nn⟩)
 | some s=>∃i,gB p (cD ρ goal) at' WV l ⟨gl,τ,tr,ds,F,nn⟩=(true,i)∧Rl s i:=by
 intro l
 induction l with
 | nil=>intro F gl S C;exact⟨F,cY _,rfl⟩
 | cons j l ih=>
  intro F gl S C
  unfold jM gB
  cases hj:p[j]? with
  | none=>exact⟨F,cY _,rfl⟩
  | some x=>
   have hx:=hp x (cM hj)
   have S2:=S.ext hx.fr.1
   have hgo:cD (uQ ρ N F) goal=cD ρ goal:=WT fun v hv=>wJ (hg.1.2.2 v hv).2
   have hhd:=hx.dO N x.1 (by simp)
   have hgN:bJ ((N+pW x:Nat):Int) goal:=hg.mono (by omega)
   obtain⟨r,σ',add,U⟩:=vS S2.g1 S2.o1 hgN hhd
   obtain⟨g,iM⟩:=U.run
   obtain⟨τ',e,S',_⟩:=S2.sim.j5 S2.g1 S2.g2 S2.o1.nP hgN.1 hhd.1 iM
   rw[hgo,W1 hx x.1 (by simp)] at e
   have hF1:bJ ((F+26:Nat):Int) (cD ρ goal):=by rw[←hgo];exact S2.DS hgN
   have hF2:bJ ((F+26:Nat):Int) (dO F x.1):=by rw[←W1 (ρ:=ρ) (N:=N) (F:=F) hx x.1 (by simp)];exact S2.DS hhd
   obtain⟨r2,τ2,aV8,U2⟩:=vS S2.g2 S2.o2 hF1 hF2
   have e2:=U2.eq
   rw[e] at e2
   obtain⟨rfl,rfl,rfl⟩:r=r2∧τ'=τ2∧add.map (uQ ρ N F)=aV8:=by simpa using e2
   simp only[U.eq,e]
   cases r with
   | false=>
    simp only[iK,dY]
    have:=ih (F+26) gl (S.mono (by omega)) (C.mono (by omega))
    cases hq:jM p cs goal rest σ N l with
    | none=>
     rw[hq] at this
     obtain⟨F',h1,h2⟩:=this
     exact⟨F',by omega,h2⟩
    | some s=>
     rw[hq] at this
     exact this
   | true=>
    simp only[eX]
    refine⟨_,rfl,uQ ρ N F,S2.grow U.zA U2.zA S',?_,?_⟩
    · refine GL.app ⟨?_,fun g hg=>?_⟩ (hr.ext (show N≤N+pW x by omega) fun v _ hv=>wJ hv)
      · simp only[uA]
        refine sQ fun t ht=>?_
        simp only[HN]
        rw[W1 hx t (by simp [ht]),C.len]
      · obtain⟨t,ht,rfl⟩:=cH.1 hg
        exact⟨hx.dO N t (by simp [ht]),by rw[aR9];exact(hx.body t ht).2⟩
    · have C2:=(C.mono (show F≤F+26 by omega)).more U2.DN
      by_cases hl:l= []
      · simp only[aH hl]
        exact C2
      · simp only[aE hl]
        refine .snoc ?_ ?_ (by simp)
        · simp only[EI,HU,U2.DN]
          exact C.mono (by omega)
        · simp only[EI,U2.DN]
          exact⟨ρ,S.mono (by omega),rfl,hg,hr,rfl⟩
theorem R6:∀(n:Nat) (cs:List RC) (i:IS),jD i.fresh cs i.chs i.σ i.tr →
 match gC p n cs with
 | none=>g7 p n i=none
 | some s=>∃i',g7 p n i=some i'∧Rl s i':=by
 intro n
 induction n with
 | zero=>intro cs i C;simp only[gC,g7]
 | succ n ih=>
  intro cs i C
  obtain⟨gl,τ,tr,ds,F,nn⟩:=i
  simp only at C
  cases C with
  | nil=>simp only[gC,g7,List.getLast?_nil]
  | @snoc cs ds c d _ _ h h1 h2=>
   obtain⟨ρ,S,e1,hok,hG,e2⟩:=h1
   have key:=QD hp (cs:=cs) (nn:=d.taken) (at':=d.node) (tr:=tr.take d.fK) hok hG c.left F gl S h
   simp only[gC,g7,List.getLast?_append,List.getLast?_singleton,Option.some_or,QV]
   have e3:(IS.pop ⟨gl,τ,tr,ds++ [d],F,nn⟩ d)=⟨gl,τ.out (tr.drop d.fK),tr.take d.fK,ds,F,d.taken⟩:=by simp only[IS.pop,QV]
   rw[e1,e2,e3]
   cases ht:jM p cs c.goal c.rest c.σ c.N c.left with
   | none=>
    rw[ht] at key
    obtain⟨F',hF,e⟩:=key
    simp only[e,iK,dY]
    exact ih cs _ (h.mono hF)
   | some s=>
    rw[ht] at key
    obtain⟨i',e,hR⟩:=key
    simp only[e,eX]
    exact⟨i',rfl,hR⟩
variable {cnd:Tm→List Nat→List Nat} (hc:∀(ρ:Int→Int) (t:Tm) (l:List Nat),cnd (cD ρ t) l=cnd t l)
omit hp in
theorem aRS{ρ:Int→Int}{t:Tm}(h:t.k=3):(cD ρ t).s=t.s∧(cD ρ t).ts=t.ts.map (cD ρ)∧(cD ρ t).k=3:=by
 rw[GX ρ (by omega)]
 exact⟨rfl,rfl,h⟩
omit hp in
theorem a2N{ρ:Int→Int}{t:Tm}(h:t.k=3):eR p (cD ρ t)=eR p t:=by
 obtain⟨h1,h2,_⟩:=aRS (ρ:=ρ) h
 unfold eR JU
 simp only[h1,h2,aF]
include hc
theorem aSS{s:RS}{i:IS}{g:RG}{gs:List RG}(hR:Rl s i)(hgs:s.goals=g::gs) :
 ∃h hs,i.goals=h::hs∧match jL p cnd s g gs with
 | .stop e=>nK p cnd i h hs=.stop e
 | .go s'=>∃i',nK p cnd i h hs=.go i'∧Rl s' i'
 | .fail=>∃i',nK p cnd i h hs=.fail i'∧jD i'.fresh s.chs i'.chs i'.σ i'.tr:=by
 obtain⟨ρ,S,hG,C⟩:=hR
 rw[hgs] at hG
 obtain⟨gl,τ,tr,ds,F,nn⟩:=i
 simp only at S hG C ⊢
 cases gl with
 | nil=>exact absurd hG.1 (by simp)
 | cons h hs=>
  refine⟨h,hs,rfl,?_⟩
  have hGt:GL ρ s.N gs hs:=⟨(List.cons.inj hG.1).2,fun x hx=>hG.2 x (by simp [hx])⟩
  have he:=(List.cons.inj hG.1).1
  simp only[Prod.mk.injEq] at he
  obtain⟨e1,e2⟩:=he
  obtain⟨hgX,hg3⟩:=hG.2 g (by simp)
  have hT:=S.sim.rsT S.g1 S.g2 S.o1.nP hgX.1
  obtain⟨rk,B,G⟩:=S.g1.rs
  have hV:=G.V0 S.o1.nP hgX.1
  unfold jL nK
  simp only[e1,hT]
  have ht3:(g.t.aN (rs s.σ)).k=3:=by rw[Tm.tJ _ (by omega)];exact hg3
  generalize g.t.aN (rs s.σ)=t at *
  obtain⟨r1,r2,r3⟩:=aRS (ρ:=ρ) ht3
  have fB:fA (cD ρ t)=fA t:=by unfold fA;rw[WU ρ hV.2.1,OY ρ hV.2.1]
  have A0:tB (cD ρ t)=tB t:=by unfold tB;rw[r1,r2,r3,ht3,aF]
  simp only[fB,A0,a2N (p:=p) (ρ:=ρ) ht3,hc,r1,r2,aF]
  by_cases c1:fA t=false
  · rw[aH c1,aH c1]
  rw[aE c1,aE c1]
  have hX:bJ s.N t:=⟨hV,by
   have:fA t=true:=by simpa using c1
   unfold fA at this
   simp only[cF,bK] at this
   exact this.2⟩
  by_cases c2:tB t=true
  · rw[aH c2,aH c2]
    refine⟨_,rfl,ρ,S,hGt,?_⟩
    simp only[e2]
    exact C.take g.aV
  rw[aE c2,aE c2]
  by_cases c3:isBuiltin t.s (t.ts.length:Int)=true
  · rw[aH c3,aH c3]
    have hk:∀x∈t.ts,bJ s.N x:=sE _ t (by omega) hX
    obtain⟨q1,q2,q3⟩:=S.sim.dM S.g1 S.g2 S.o1 t.s t.ts hk
    have q4:=O6 S.g1 S.o1 t.s t.ts hk
    have q5:=O6 S.g2 S.o2 t.s (t.ts.map (cD ρ)) (fun x hx=>by
     obtain⟨y,hy,rfl⟩:=cH.1 hx
     exact S.DS (hk y hy))
    rw[q1]
    by_cases c4:(dM s.σ t.s t.ts).1=0
    · rw[aH c4,aH c4]
      exact⟨_,rfl,ρ,S.grow q4 q5 q3,hGt,C.more q5.DN⟩
    rw[aE c4,aE c4]
    by_cases c5:(dM s.σ t.s t.ts).1=1
    · rw[aH c5,aH c5]
      exact⟨_,rfl,C.more q5.DN⟩
    rw[aE c5,aE c5]
  rw[aE c3,aE c3]
  by_cases c6:eR p t= []
  · rw[aH c6,aH c6]
  rw[aE c6,aE c6]
  have key:=QD hp (at':=nn) (nn:=nn+1) hX hGt (cnd t (eR p t)) F (h::hs) S C
  cases hq:jM p s.chs t gs s.σ s.N (cnd t (eR p t)) with
  | none=>
   rw[hq] at key
   obtain⟨F',hF,e⟩:=key
   simp only[e,iK,dY]
   exact⟨_,rfl,C.mono hF⟩
  | some s'=>
   rw[hq] at key
   obtain⟨i',e,hR⟩:=key
   simp only[e,eX]
   exact⟨i',rfl,hR⟩
end
theorem aUE{ρ:Int→Int}{N:Int}{σ τ:Sub}(S:fW ρ N σ τ):∀(l:List Tm) (acc:List Int),(∀t∈l,cO N t)→(∀v∈acc,0≤v∧v<N)→cG (l.map (cD ρ)) (acc.map ρ)=(cG l acc).map ρ∧∀v∈cG l acc,0≤v∧v<N
 | [],acc,_,ha=>⟨rfl,ha⟩
 | t::l,acc,h,ha=>by
  obtain⟨e1,e2⟩:=bBL (D:=fun v=>0≤v∧v<N) (h:=ρ) (fun v w hv hw e=>S.inj v w hv.1 hv.2 hw.1 hw.2 e) (f:=fun v=>vr (ρ v)) (fun _ _=>rfl) t (Tm.wG t (h t (by simp)).2.1) (h t (by simp)).2.2 acc ha
  simp only[bH,cG]
  rw[show(cD ρ t).vars (acc.map ρ)=(t.vars acc).map ρ from e1]
  exact aUE S l _ (fun x hx=>h x (by simp [hx])) e2
theorem a8N{ρ:Int→Int}{N:Int}{σ τ:Sub}(S:fW ρ N σ τ){l:List Tm}(h:∀t∈l,cO N t):rF (l.map (cD ρ))=rF l∧(cG (l.map (cD ρ)) []).length=(cG l []).length:=by
 obtain⟨e1,e2⟩:=aUE S l [] h (by simp)
 rw[a7] at e1
 refine⟨?_,by rw[e1,aF]⟩
 unfold rF
 rw[e1,uA]
 refine sQ fun t ht=>?_
 simp only[HN]
 rw[KO]
 refine sC t fun v hv=>?_
 rw[aP7 (D:=fun v=>0≤v∧v<N) (fun v w hv hw e=>S.inj v w hv.1 hv.2 hw.1 hw.2 e) v ((h t ht).2.2 v hv) _ _ e2]
theorem aWB{ρ:Int→Int}{N F:Nat}{σ τ:Sub}(S:pR ρ N F σ τ){vars:List Int}(hv:∀v∈vars,0≤v∧v<26):jV τ vars=jV σ vars:=by
 obtain⟨rk,B,G⟩:=S.g1.rs
 have hid:=S.idn
 have h26:=S.h26
 have e:vars.map (rs τ)=(vars.map (rs σ)).map (cD ρ):=by
  rw[uA]
  refine sQ fun v h=>?_
  obtain⟨h0,h1⟩:=hv v h
  have:=S.sim.rs S.g1 S.g2 S.o1.nP v h0 (by omega)
  rw[hid v h0 h1] at this
  exact this
 have hok:∀t∈vars.map (rs σ),cO N t:=fun t ht=>by
  obtain⟨v,h,rfl⟩:=cH.1 ht
  obtain⟨h0,h1⟩:=hv v h
  exact G.nP S.o1.nP v h0 (by omega)
 obtain⟨e1,e2⟩:=a8N S.sim hok
 have e3:((vars.map (rs σ)).map (cD ρ)).all fA=(vars.map (rs σ)).all fA:=by
  rw[List.all_map,xF,eH,eH]
  have:∀t∈vars.map (rs σ),fA (cD ρ t)=fA t:=fun t ht=>by unfold fA;rw[WU ρ (hok t ht).2.1,OY ρ (hok t ht).2.1]
  constructor
  · intro h t ht;rw[←this t ht];exact h t ht
  · intro h t ht;simp only[HN];rw[this t ht];exact h t ht
 unfold jV
 rw[e,e1,e2,e3]
section
variable {p:List Cl} (hp:∀c∈p,gQ c) {cnd:Tm→List Nat→List Nat} (hc:∀(ρ:Int→Int) (t:Tm) (l:List Nat),cnd (cD ρ t) l=cnd t l)
include hp hc
theorem a8W{vars:List Int}(hv:∀v∈vars,0≤v∧v<26):∀(n most fuel:Nat) (s:RS) (i:IS),most+fuel≤n→Rl s i→kD p cnd vars most fuel i=jB p cnd vars most fuel s:=by
 intro n
 induction n with
 | zero=>
  intro most fuel s i hn hR
  obtain⟨rfl,rfl⟩:most=0∧fuel=0:=by omega
  obtain⟨ρ,S,hG,C⟩:=hR
  rw[kD,jB]
  cases hgs:s.goals with
  | nil=>
   rw[hgs] at hG
   have hi:i.goals= []:=List.map_eq_nil_iff.1 hG.1
   simp [hi]
  | cons g gs=>
   rw[hgs] at hG
   cases hi:i.goals with
   | nil=>rw[hi] at hG;exact absurd hG.1 (by simp)
   | cons h hs=>simp
 | succ n ih=>
  intro most fuel s i hn hR
  cases hgs:s.goals with
  | nil=>
   obtain⟨ρ,S,hG,C⟩:=hR
   rw[hgs] at hG
   have hi:i.goals= []:=List.map_eq_nil_iff.1 hG.1
   rw[kD,jB]
   simp only[hgs,hi]
   by_cases hm:most=0
   · simp [hm]
   simp only[hm,dif_neg,KE]
   rw[aWB S hv]
   cases jV s.σ vars with
   | none=>rfl
   | some a=>
    simp only
    have key:=R6 hp s.chs.length s.chs i C
    rw[C.len]
    cases hb:gC p s.chs.length s.chs with
    | none=>rw[hb] at key;simp only[key]
    | some s'=>
     rw[hb] at key
     obtain⟨i',e,hR'⟩:=key
     simp only[e]
     rw[ih (most - 1) fuel s' i' (by omega) hR']
  | cons g gs=>
   obtain⟨h,hs,hi,key⟩:=aSS hp hc hR hgs
   rw[kD,jB]
   simp only[hgs,hi]
   by_cases hf:fuel=0
   · simp [hf]
   simp only[hf,dif_neg,KE]
   cases hq:jL p cnd s g gs with
   | stop e=>
    rw[hq] at key
    simp only[key]
   | go s'=>
    rw[hq] at key
    obtain⟨i',e,hR'⟩:=key
    simp only[e]
    exact ih most (fuel - 1) s' i' (by omega) hR'
   | fail=>
    rw[hq] at key
    obtain⟨i',e,C'⟩:=key
    simp only[e]
    have OE:=R6 hp s.chs.length s.chs i' C'
    rw[C'.len]
    cases hb:gC p s.chs.length s.chs with
    | none=>rw[hb] at OE;simp only[OE]
    | some s'=>
     rw[hb] at OE
     obtain⟨i'',e2,hR'⟩:=OE
     simp only[e2]
     exact ih most (fuel - 1) s' i'' (by omega) hR'
omit hp hc in
theorem aSR{q:List Tm}(hq:∀t∈q,bJ 26 t∧t.k=3):Rl (nS q) (pY q):=by
 refine⟨fun v=>v,⟨⟨fun v w _ _ _ _ e=>e,fun v _ _=>rfl⟩,fun v h0 h1=>⟨h0,h1⟩,cT.none,fun n u h=>(by cases h),cT.none,fun n u h=>(by cases h),fun _ _=>rfl,fun _ _=>rfl,cY _,fun _ _ _=>rfl⟩,⟨?_,fun g hg=>?_⟩,.nil⟩
 · simp only[pY,nS,uA]
   refine sQ fun t ht=>?_
   simp only[HN]
   rw[show cD (fun v=>v) t=t from VO t (hq t ht).1.1.2.1]
 · simp only[nS] at hg
   obtain⟨t,ht,rfl⟩:=cH.1 hg
   exact hq t ht
theorem a9M{q:List Tm}(hq:∀t∈q,bJ 26 t∧t.k=3)(most fuel:Nat):kD p cnd (cG q []) most fuel (pY q)=w7 p cnd q most fuel:=by
 refine a8W hp hc (fun v hv=>?_) _ most fuel _ _ (cY _) (aSR hq)
 rw[BQ _ _ fun t ht=>(hq t ht).1.1.2.1] at hv
 rcases hv with hv | ⟨t,ht,hv⟩
 · cases hv
 · exact(hq t ht).1.1.2.2 v hv
end
theorem a0V{c:Cl}(h:mS c=true):gQ c:=by
 simp only[mS,cF,bK,eH] at h
 refine⟨⟨Tm.LN h.1.1,Tm.LM h.1.1⟩,fun t ht=>?_⟩
 have hg:=h.2.2 t ht
 have hk:t.valid=true∧t.k=3:=by
  obtain⟨k,n,s,ts⟩:=t
  simp only[Tm.goal,cF] at hg
  refine⟨hg.1,?_⟩
  have:=hg.2
  simp only[AY,sG,pP,cF,bK] at this
  simp only[Tm.k]
  rcases this with (h | h) | h<;>first | exact h.1 | exact h.1.1 | exact h.1.1.1
 exact⟨⟨Tm.LN hk.1,Tm.LM hk.1⟩,hk.2⟩
end Go.AW
namespace Go.AW
open Go.Proofs.Tryz
abbrev bO (l:List Tm):AV:=.agg [.slice (l.map Tm.av)]
theorem X8:∀(a b:List Tm) (l:List Int),cG (a++b) l=cG b (cG a l)
 | [],_,_=>rfl
 | t::a,b,l=>by simp only[iB,cG,X8 a b]
abbrev XD:=zi tI_3 (zi zI_3 (zi aY (zi tI_31 (zi zI_31 (zi aQ (zi bS (zi bT (zi cI (zi tI_46 (zi zI_46 (zi cZ (zi eG (zi eE (zi eT (zi tI_66 (zi zI_66 (zi bZ (zi b9 (zi cA (zi cB bY))))))))))))))))))))
theorem aB6(q:List Tm)(st:aA)(hwf:∀t∈q,t.wf=true)(hsz:bD Tm.nodes q≤1099511627776):aD prog 157 [.slice (q.map Tm.av)] st (fun r st'=>r=.slice ((cG q []).map iv)∧st'=st):=by
 refine aD.done ?_
 refine wF [1000000] 1 func157 ntmps157 rfl rfl ?_
 simp only[eW,AV.fits,fC,aF]
 intro ⟨hl,_⟩
 simp -implicitDefEqProofs only[aB,seval,XD]
 refine rK (σ:=Unit) [1000000] [0,2] q 1 3 (fun i _=>(cG (q.take i) []).map iv) (fun _ _=>True) (fun i _=>[(4,.int .i64 i)]) (fun _ _=>st) (fun i _ _ e he=>by simp only[cH] at he;obtain⟨t,_,rfl⟩:=he;exact⟨rfl,rfl⟩) (by decide +kernel) ⟨(),0,trivial,fun h=>absurd rfl h,aM.mk (by simp -implicitDefEqProofs only[iY,jR,cG,a7,aB,↓aU,seval])⟩ (fun i x s b hx hlt bL hdr hinv hb=>?_) (fun s b hge hinv=>?_)
 case refine_2=>
  simp -implicitDefEqProofs only[hge,fS,jW,oL,lU,dZ,aF,aB,seval,XD]
  exact⟨rfl,aL.refl _⟩
 have hw:=bE (n:=(i:Int)+1)
 have hat:=bP (av:=Tm.av) aQ hx (aO x)
 have hst:=KX Tm.nodes hx
 have hvl:=BP (q.take i) []
 simp only[a8,iE] at hvl
 have htk:x.vars (cG (q.take i) [])=cG (q.take (i+1)) []:=by
  rw[eD,hx,X8]
  try rfl
 simp -implicitDefEqProofs only[bL,aF,hat,aB,seval,XD]
 refine(IR x (cG (q.take i) []) b st (hwf x (cM hx)) hb (by omega)).mono ?_
 rintro _ _ ⟨b',rfl,rfl,hb'⟩
 rw[htk] at hb' ⊢
 simp -implicitDefEqProofs only[aB,seval]
 exact⟨(),b',hb',aM.mk (by simp -implicitDefEqProofs only[hw,aB,seval])⟩
end Go.AW
namespace Go.AW
theorem RY{P:Program}{N:Nat}{x y:Code}{Q:Exit→AF→aA→Prop}{φ:AF}{st:aA}(e:fU P N x (HF (fU P N y Q) Q) φ st):fU P N (.seq x y) Q φ st:=fun a w R=>by
 refine wp_seq (wp_mono (e a w R) ?_)
 rintro ex a' w' ⟨φ',st',R',T,s,q⟩
 cases ex with
 | normal=>exact wp_mono (q a' w' R') fun _ _ _ h=>h.mono T s
 | _=>exact⟨φ',st',R',T,s,q⟩
theorem aV4{P:Program}{g:FuncId}{fn:Func}{c:Code}{args:List AV}{st:aA}{N:Nat}{rs:List ResultVar}{K:AV→aA→Prop}(hf:P.funcs[g]?=some fn)(hN:fn.ntmps=N)(hr:fn.results=rs.toArray)(hb:fn.body=some c)(hn:(fn.name == "runtime.NumGoroutine")=false)
 (rZ:args.length≤N) (e:eW args→fU P N c (GY P rs.toArray K) (sY 0 args) st):aD P g args st K:=by
 subst hN
 rw[←hr] at e
 refine⟨⟨fn,hf,by simp [hb],hn⟩,fun w vs S V=>?_⟩
 have e:=e V.fits
 have hl:=V.length
 have R:Rel fn.ntmps { tmps:=vs.toArray++Array.replicate (fn.ntmps - vs.toArray.size) undef,defers:=[] } w (sY 0 args) st:=by
  refine⟨by simp;omega,rfl,RW args vs 0 V fun j v hj=>?_,S⟩
  obtain⟨hjl,hjv⟩:=fL.1 hj
  simp [Array.getElem?_append,hjl,hjv]
 refine calls_of_wp hf hb (wp_mono (e _ w R) ?_)
 rintro ex a' w' ⟨φ',st',R',T,s,q⟩
 have fin:(match qJ P φ' st' fn.results.toList with | some xs=>HI K st' xs | none=>False)→a'.defers= []∧∃v,(results fn a'.tmps).run P w'=.ok v w' ∧
  (∃v2 r st2,(Ending.returned v)=.returned v2∧aR w'.heap st2 r v2∧cS w'.heap st2∧cC w.heap st w'.heap st2∧fO w w'∧K r st2):=by
  intro q
  split at q
  · rename_i xs hx
    obtain⟨v,r,r1,r2,r3⟩:=aRU R'.frame R'.store hx q
    exact⟨R'.defers,v,r1,v,r,st',rfl,r2,R'.store,T,s,r3⟩
  · cases q
 cases ex with
 | normal=>exact fin q
 | ret=>exact fin q
 | _=>exact q.elim
theorem aR.a9E{h:bQ}{st:aA}{es:List AV}{v:Value}(y:aR h st (.slice es) v):∃a n c,v=.slice a n c∧(es≠[]→a.isNone=false):=by
 obtain⟨y0,y1⟩:=y
 have hv:v.cells.toList= [v]:=by cases v<;>first | rfl | (simp [AV.isAgg,kI] at y0)
 unfold VC at y1
 rw[hv] at y1
 rcases y1 with ⟨⟨p,e⟩,rfl⟩ | ⟨b,off,cap,e,_⟩
 · exact⟨p,0,0,by simpa using e,fun h=>absurd rfl h⟩
 · exact⟨_,_,_,by simpa using e,fun _=>rfl⟩
theorem aWR{P:Program}{N:Nat}{id i d d':Nat}{t e ty ty' tx:TypeId}{pos pos':String}{aft sW:Array Edge}{es:List AV}{Q:Exit→AF→aA→Prop}{φ:AF}{st:aA}(ht:P.underlying t=some (.slice e))
 (hd:d<N) (hd':d'<N) (hx:φ i=.slice es) (k:∀c:Bool,(es≠[]→c=false)→Q .normal ((φ.aC d (.slice es)).aC d' (.bool c)) st) :
 fU P N (.region id #[⟨some d,.move (.tmp i),ty,pos,aft,none⟩,⟨some d',.binOp .eql t (.tmp d) (.const (.slice none 0 0)) tx,ty',pos',sW,none⟩] false) Q φ st:=fun a w R=>by
 refine wp_region_list ?_
 have hN:∀(j q:Nat),((#[⟨some d,.move (.tmp i),ty,pos,aft,none⟩,⟨some d',.binOp .eql t (.tmp d) (.const (.slice none 0 0)) tx,ty',pos',sW,none⟩]:Array Oper)[j]?).bind (·.dst)=some q→q<N:=by
  intro j q e
  match j with
  | 0=>simp at e;subst e;exact hd
  | 1=>simp at e;subst e;exact hd'
  | j+2=>simp at e
 refine sT (mt:=[]) (K:=fun φ' st'=>φ'=φ.aC d (.slice es)∧st'=st) hN (by simp [pV,hd]) R (by
  show φ.put (some d) (φ i)=_∧_
  rw[hx]
  exact⟨rfl,rfl⟩) ?_
 rintro a1 w1 _ _ R1 T1 s1 ⟨rfl,rfl⟩
 have y:=R1.frame d
 rw[AF.aJ] at y
 obtain⟨p,n,c,hv,hp⟩:=y.a9E
 have hv':a1.eval (.tmp d)=.slice p n c:=hv
 unfold wpList
 rw[aH (by rfl)]
 refine .inl ?_
 have iM:(execOp a1.eval ⟨some d',.binOp .eql t (.tmp d) (.const (.slice none 0 0)) tx,ty',pos',sW,none⟩).run P w1=.ok (.value (.bool p.isNone)) w1:=by
  simp only[execOp,hv']
  rw[show a1.eval (.const (.slice none 0 0))=.slice none 0 0 from rfl]
  simp [eqGuard_at_slice,Lib.run_eql_slice_nil w1 t e p n c 0 0 ht]
 simp only[Oper.wp,iM,Oper.upon]
 unfold wpList
 exact⟨_,_,R1.put (o:=⟨some d',.binOp .eql t (.tmp d) (.const (.slice none 0 0)) tx,ty',pos',sW,none⟩) (by simp [pV,hd']) (cC.refl _ _) R1.store aR.mR,T1,s1,k _ hp⟩
def aT:AV→List Nat
 | .mslice b _ _ _=>[b]
 | _=>[]
def gE(st:aA)(w:Nat)(q:AV)(l:List AV):Prop:=
 (q=.fslice []∧l= [])∨∃b cs,q=.mslice b 0 l.length w∧st b=Option.some (.cells cs)∧cs.take (l.length*w)=l.flatMap AV.cells∧l.length*w≤cs.length
theorem gE.shape{st:aA}{w:Nat}{q:AV}{l:List AV}(h:gE st w q l):q.isAgg=false∧q.width=1∧q.cE=false∧q.cells= [q]∧q.storable=true:=by
 rcases h with ⟨rfl,_⟩ | ⟨b',cs,rfl,_⟩<;>exact⟨rfl,rfl,rfl,rfl,rfl⟩
theorem gE.aV{st st':aA}{w:Nat}{q:AV}{l:List AV}(h:gE st w q l)(hk:∀b∈aT q,st' b=st b):gE st' w q l:=by
 rcases h with h | ⟨b,cs,rfl,hb,h2⟩
 · exact .inl h
 · exact .inr ⟨b,cs,rfl,by rw[hk b (by simp [aT])];exact hb,h2⟩
theorem gE.some{st:aA}{w:Nat}{q:AV}{l:List AV}(h:gE st w q l):∀b∈aT q,∃cs,st b=Option.some (.cells cs):=by
 intro b hb
 rcases h with ⟨rfl,_⟩ | ⟨b',cs,rfl,hb',_⟩
 · simp [aT] at hb
 · simp only[aT,c7,dT,d4] at hb;subst hb;exact⟨cs,hb'⟩
theorem gE.len{P:Program}{t e:TypeId}{st:aA}{w:Nat}{q:AV}{l:List AV}(h:gE st w q l)(hu:P.underlying t=Option.some (.slice e)):mN P t q=Option.some (.int .i64 (l.length:Int)):=by
 rcases h with ⟨rfl,rfl⟩ | ⟨b,cs,rfl,_⟩<;>simp only[mN,hu,a8]
theorem gE.append{P:Program}{t:TypeId}{ag:Bool}{bytes w:Nat}{zs:List AV}{st:aA}{q:AV}{l:List AV}{x:AV}{K:AV→aA→Prop}(hI:eI P t=Option.some (ag,w))(hB:eB P t=Option.some bytes)(hZ:eZ P t=Option.some zs)(hz:zs.length=w)(hb8:bytes≤4096)
 (h:gE st w q l) (hx:x.width=w) (hxs:x.cells.all AV.storable=true) (hl:l.length≤1073741824)
 (hK:∀q' st',gE st' w q' (l++ [x])→(∀y,y∉aT q→y∉aT q'→st' y=st y)→(∀y∈aT q',y∈aT q∨st y=none)→K q' st'):jT P t st q (.fslice [x]) K:=by
 have fB:wB w [x]:=by intro e he;simp only[c7,dT,d4] at he;subst he;exact⟨hx,hxs⟩
 have AZ:(l.length+1)*bytes≤140737488355328:=by
  have:=LY (show l.length+1≤1073741825 by omega) hb8
  omega
 have hxc:x.cells.length=w:=by rw[s8,hx]
 unfold jT
 simp only[hI,hB,hZ,zZ]
 refine⟨hz,fB,?_⟩
 rcases h with ⟨rfl,rfl⟩ | ⟨b,cs,rfl,hb,hcs,hcl⟩
 · simp only[a8,aX,iE] at AZ ⊢
   refine⟨by omega,by omega,by simp,fun h=>by simp at h,fun _ b hb=>?_⟩
   refine hK _ _ (.inr ⟨b,x.cells,rfl,by rw[aA.aJ];simp,?_,?_⟩) (fun y _ hy=>?_) (fun y hy=>?_)
   · simp only[fF,aX,a8,iE,Nat.one_mul,rN,List.flatMap_nil,gF]
     rw[←hxc,dZ]
   · simp only[fF,aX,a8,iE,Nat.one_mul]
     omega
   · simp only[aT,c7,dT,d4] at hy
     rw[aA.aG _ _ hy]
   · simp only[aT,c7,dT,d4] at hy
     subst hy;exact .inr hb
 · simp only[aX,a8,iE,hb]
   have jJ:cs.take (l.length*w)++ [x].flatMap AV.cells=(l++ [x]).flatMap AV.cells:=by rw[hcs];simp
   have hlen:((l++ [x]).flatMap AV.cells).length=(l++ [x]).length*w:=by
    rw[←jJ,dQ,dE,lQ hcl]
    simp only[rN,List.flatMap_nil,gF,hxc,dQ,aX,a8]
    rw[uB];omega
   refine⟨trivial,AZ,by omega,hcl,?_,fun b' hb'=>?_⟩
   · rw[jJ]
     refine hK _ _ (.inr ⟨b,_,by simp,aA.aJ _ _ _,by rw[nA (by rw[hlen];exact cY _)],by rw[hlen];exact cY _⟩) (fun y hy _=>?_) (fun y hy=>.inl hy)
     simp only[aT,c7,dT,d4] at hy
     rw[aA.aG _ _ hy]
   · rw[jJ]
     refine hK _ _ (.inr ⟨b',_,by simp,aA.aJ _ _ _,by rw[nA (by rw[hlen];exact cY _)],by rw[hlen];exact cY _⟩) (fun y hy hy'=>?_) (fun y hy=>?_)
     · simp only[aT,c7,dT,d4] at hy hy'
       rw[aA.aG _ _ hy']
       simp [aA.erase,hy]
     · simp only[aT,c7,dT,d4] at hy
       subst hy;exact .inr hb'
def AJ(k:Nat):AV→AV
 | .mslice b o _ w=>.mslice b o k w
 | a=>a
theorem gE.take{st:aA}{w:Nat}{q:AV}{l:List AV}(h:gE st w q l){k:Nat}(hk:k≤l.length)(hw:∀e∈l,e.width=w):gE st w (AJ k q) (l.take k):=by
 rcases h with ⟨rfl,rfl⟩ | ⟨b,cs,rfl,hb,hcs,hcl⟩
 · exact .inl ⟨rfl,by simp⟩
 · have hlk:(l.take k).length=k:=by rw[dE];omega
   have h1:k*w≤l.length*w:=vZ w hk
   refine .inr ⟨b,cs,by rw[hlk];try rfl,hb,?_,by rw[hlk];omega⟩
   rw[hlk]
   have h2:cs.take (k*w)=(cs.take (l.length*w)).take (k*w):=by rw[zT,lQ h1]
   rw[h2,hcs]
   have h3:l.flatMap AV.cells=(l.take k).flatMap AV.cells++(l.drop k).flatMap AV.cells:=by rw[←t8,qG]
   have h4:((l.take k).flatMap AV.cells).length=k*w:=by rw[nI (n:=w) (es:=l.take k) (fun e he=>hw e (m9 he)),hlk]
   rw[h3,HV h4]
theorem GP(k:Nat)(q:AV):aT (AJ k q)=aT q:=by cases q<;>rfl
theorem gE.at{st:aA}{w:Nat}{q:AV}{l:List AV}(h:gE st w q l)(hw:∀e∈l,e.width=w){i:Nat}{e:AV}(he:l[i]?=.some e) :
 ∃b cs,q=.mslice b 0 l.length w∧st b=.some (.cells cs)∧i*w+w≤cs.length∧(cs.drop (i*w)).take w=e.cells:=by
 obtain⟨hi,hei⟩:=fL.1 he
 rcases h with ⟨rfl,rfl⟩ | ⟨b,cs,rfl,hb,hcs,hcl⟩
 · simp at he
 · have h1:(i+1)*w≤l.length*w:=vZ w hi
   rw[uB,Nat.one_mul] at h1
   refine⟨b,cs,rfl,hb,by omega,?_⟩
   have h2:l=l.take i++e::l.drop (i+1):=by rw[←hei,←qF hi,qG]
   have hA:((l.take i).flatMap AV.cells).length=i*w:=by
    rw[nI (n:=w) (es:=l.take i) (fun e he=>hw e (m9 he)),dE,lQ (by omega)]
   have hE:e.cells.length=w:=by rw[s8];exact hw e (cM he)
   have h3:(cs.drop (i*w)).take w=((cs.take (l.length*w)).drop (i*w)).take w:=by
    rw[List.drop_take,zT,lQ (by omega)]
   rw[h3,hcs,h2]
   simp only[t8,rN]
   rw[List.drop_left' hA,HV hE]
end Go.AW
