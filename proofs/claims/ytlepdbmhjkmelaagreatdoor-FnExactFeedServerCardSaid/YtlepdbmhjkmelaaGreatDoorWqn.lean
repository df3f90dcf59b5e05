import Derived.Test.YtlepdbmhjkmelaaGreatDoorWqm
import Derived.Test.YtlepdbmhjkmelaaGreatDoorWql
import Derived.Test.YtlepdbmhjkmelaaGreatDoorWqj
import Derived.Test.YtlepdbmhjkmelaaGreatDoorWqf
import Derived.Test.YtlepdbmhjkmelaaGreatDoorWqk
set_option linter.unusedSimpArgs false
set_option linter.unusedVariables false
set_option maxRecDepth 100000
namespace Go.AW
open Go.Proofs.Tryz
def cS(N:Nat)(σ:Sub):List AV:=(List.range N).map fun i:Nat=>cellOf (σ (i:Int))
theorem CW(N:Nat)(σ:Sub):∀e∈cS N σ,e.width=4:=by intro e h;simp only[cS,cF] at h;obtain⟨i,_,rfl⟩:=h;exact KF _
theorem AD(N:Nat)(σ:Sub){i:Nat}(h:i<N):(cS N σ)[i]?=some (cellOf (σ (i:Int))):=by
 simp only[cS,kD,List.getElem?_range h,qM]
theorem aSA(N:Nat)(σ:Sub){i:Nat}(h:i<N)(u:Tm):(cS N σ).set i u.av=cS N (σ.set (i:Int) u):=by
 apply JC
 intro j
 by_cases hj:j<N
 · rw[AD N _ hj,List.getElem?_set]
   by_cases e:i=j
   · subst e
     simp [cS,hj,Sub.set,cellOf]
   · rw[aK e,AD N _ hj]
     simp only[Sub.set]
     rw[aK (by omega)]
 · rw[FQ (by simp [cS];omega),FQ (by simp [cS];omega)]
def fS(N:Nat)(st:aA)(b:Nat)(σ:Sub):Prop:=st b=some (.cells ((cS N σ).flatMap AV.cells))
theorem fS.mid{N:Nat}{st:aA}{b:Nat}{σ:Sub}(h:fS N st b σ){i:Nat}(hi:i<N) :
 ∃A B,st b=some (.cells (A++(cellOf (σ (i:Int))).cells++B))∧A.length=i*4∧∀(u:Tm),fS N (st.aC b (.cells (A++u.av.cells++B))) b (σ.set (i:Int) u):=by
 obtain⟨A,B,h1,h2,h3⟩:=a1N (CW N σ) (AD N σ hi)
 refine⟨A,B,by rw[←h1];exact h,h2,fun u=>?_⟩
 unfold fS
 rw[aA.aJ,←aSA N σ hi,h3]
theorem fS.aC{N:Nat}{st:aA}{b x:Nat}{σ:Sub}{o:AO}(h:fS N st b σ)(hx:x≠b):fS N (st.aC x o) b σ:=by
 unfold fS
 rw[aA.aF _ _ (dA hx)]
 exact h
theorem fS.none{N:Nat}{st:aA}{b:Nat}{σ:Sub}(h:fS N st b σ){i:Nat}(hi:i<N)(hn:σ (i:Int)=Option.none) :
 ∃D,st b=some (.cells D)∧D[i*4+0]?=some (.int .i64 0)∧i*4+4≤D.length:=by
 obtain⟨A,B,e1,e2,_⟩:=h.mid hi
 rw[hn] at e1
 obtain⟨r1,r2,r3⟩:=XB (B:=B) (C:=(cellOf Option.none).cells) e2 rfl
 exact⟨_,e1,r3,r1⟩
theorem fS.some{N:Nat}{st:aA}{b:Nat}{σ:Sub}(h:fS N st b σ){i:Nat}(hi:i<N){k n:Int}{s:ByteArray}{ts:List Tm}(hn:σ (i:Int)=Option.some (.mk k n s ts)) :
 ∃D,st b=Option.some (.cells D)∧D[i*4+0]?=Option.some (.int .i64 k)∧i*4+4≤D.length∧List.take 4 (List.drop (i*4) D)= [.int .i64 k,.int .i64 n,.str s,.slice (ts.map Tm.av)]:=by
 obtain⟨A,B,e1,e2,_⟩:=h.mid hi
 rw[hn] at e1
 simp only[cellOf,bD,AV.cells] at e1
 obtain⟨r1,r2,r3⟩:=XB (B:=B) (C:=[.int .i64 k,.int .i64 n,.str s,.slice (ts.map Tm.av)]) e2 rfl
 exact⟨_,e1,r3,r1,r2⟩
theorem fS.set{N:Nat}{st:aA}{b:Nat}{σ:Sub}(h:fS N st b σ){i:Nat}(hi:i<N)(u:Tm) :
 ∃D D',st b=Option.some (.cells D)∧i*4+4≤D.length∧aM D (i*4) u.av.cells=D'∧fS N (st.aC b (.cells D')) b (σ.set (i:Int) u):=by
 obtain⟨A,B,e1,e2,e3⟩:=h.mid hi
 obtain⟨p1,p2⟩:=EK (B:=B) (C:=(cellOf (σ (i:Int))).cells) (x:=u.av.cells) e2 (aW1 _) (Tm.gB u)
 exact⟨_,_,e1,p2,p1,e3 u⟩
abbrev E6:=zi aX (zi cI cC)
theorem XM{N:Nat}{σ:Sub}(hok:cQ (cJ N) σ){f:Nat}{t u:Tm}(hw:f9 σ f t u)(ht:cJ N t)(b:Nat)(st:aA)(hS:fS N st b σ):aD prog 179 [t.av,.mslice b 0 N 4] st (fun r st'=>r=u.av∧st'=st):=by
 refine aD.done ?_
 refine wF [1000000,2] 2 func179 ntmps179 rfl rfl ?_
 intro _
 simp only[aB,seval,E6]
 intro b2 h2 b4 h4
 have hne:b4≠b2:=by rintro rfl;rw[aA.aJ] at h4;cases h4
 have hn4:st b4=none:=by rw[aA.aF st _ hne] at h4;exact h4
 have hb2:b2≠b:=by rintro rfl;rw[fS,h2] at hS;cases hS
 have hb4:b4≠b:=by rintro rfl;rw[fS,hn4] at hS;cases hS
 refine oI (σ:=Nat×Tm) [1000000,2] [1,2,4] (fun p=>f9 σ p.1 p.2 u∧cJ N p.2) (fun p=>[]) (fun p=>(st.aC b2 (.cells p.2.av.cells)).aC b4 (.cells [.int .i64 0,.int .i64 0,.str ⟨#[]⟩,.fslice []])) (fun p=>p.1) (by decide +kernel) ⟨(f,t),⟨hw,ht⟩,aP.mk (by simp only[aB,seval])⟩ ?_
 rintro⟨g,t⟩ ⟨hw,ht⟩
 obtain⟨k,n,s,ts⟩:=t
 simp only at hw ht
 simp only[bD]
 have rA:k≠1∨σ n=none→u=.mk k n s ts:=fun h=>by
  cases hw with
  | stop _=>rfl
  | go h1 h2 _=>
   simp only[Tm.k] at h1
   rcases h with h | h
   · exact absurd h1 h
   · rw[show σ n=some _ from h2] at h;cases h
 simp only[hne.symm,aB,seval,E6]
 refine cP (fun h=>?_) (fun h=>?_)
 case refine_2=>
  simp only[h,aM,hne.symm,aB,seval,E6]
  simp only[fG,cL] at h
  rw[rA (.inl h),←bD]
  exact⟨Tm.soft _,((aO.refl _).aC h2).aC hn4⟩
 simp only[bM] at h
 subst h
 obtain⟨hn0,hn1,_⟩:=ht.var
 obtain⟨i,rfl⟩:∃i:Nat,n=i:=⟨n.toNat,by omega⟩
 have hi:i<N:=by omega
 have hi':decide ((i:Int)<(N:Int))=true:=by simp;omega
 simp only[dU,hi',fX,hne.symm,aB,seval,E6]
 have hat:=kT (P:=prog) (b:=b) (len:=N) bY hi
 cases hw with
 | stop hs=>
  obtain⟨D,e1,e2,_⟩:=hS.none hi (hs rfl)
  simp only[hat,e1,e2,dU,aM,hne.symm,hb2.symm,hb4.symm,aB,seval,E6]
  exact⟨by rw[←bD,Tm.soft],((aO.refl _).aC h2).aC hn4⟩
 | go h1 h2' h3=>
  simp only[Tm.n] at h2'
  have ho:=hok _ _ h2'
  rename_i g' u'
  obtain⟨k',n',s',ts'⟩:=u'
  have hk':¬k'=0:=by have:=ho.kind.1;omega
  obtain⟨D,e1,e2,e3,e4⟩:=hS.some hi h2'
  have e5:i*4+0+4≤D.length:=e3
  simp only[hat,e1,e2,e3,e4,hk',dW,aM,hne.symm,hb2.symm,hb4.symm,aB,seval,E6]
  rw[aA.zJ hne,aA.pJ _ _ _ hne]
  refine⟨(g',.mk k' n' s' ts'),Nat.lt_succ_self _,⟨h3,ho⟩,?_⟩
  simp only[bD]
  exact aP.mk (by simp only[aB,seval])
theorem fS.acc{N:Nat}{st:aA}{b bW:Nat}{σ:Sub}{l:List AV}(h:fS N st b σ)(hb:l≠[]→st bW=Option.none):fS N (bK st bW l) b σ:=by
 cases l with
 | nil=>exact h
 | cons x l=>exact h.aC (by rintro rfl;rw[fS,hb (by simp)] at h;cases h)
abbrev IL:=zi aX (zi cB (zi cI (zi cC iP)))
theorem aTC{N:Nat}{σ:Sub}{R:Int→Tm}{rk:Int→Nat}{B:Nat}(G:Good σ R rk B)(hok:cQ (bF N) σ)(hN:N≤1048576){n:Int}(hn:σ n=none)(t:Tm)(ht:bF N t)(b:Nat)(st:aA)(hS:fS N st b σ) :
 aD prog 180 [.int .i64 n,t.av,.mslice b 0 N 4] st (fun r st'=>r=.bool (decide (n∈(t.aL R).vl))∧st'=st):=by
 refine aD.done ?_
 refine wF [1000000] 3 func180 ntmps180 rfl rfl ?_
 intro _
 simp only[aB,seval,IL]
 have h0:=GR t [] 0 st (Tm.tT t (ht.1.2.1)) (fun h=>absurd rfl h) (by have:=ht.2;simp only[bG];omega)
 simp only[bS,lT,AC] at h0
 refine h0.mono ?_
 rintro _ _ ⟨b0,rfl,rfl,hb0⟩
 obtain⟨v1,v2,_⟩:=VP t (Tm.tT t (ht.1.2.1)) []
 simp only[aB,seval]
 refine oI (σ:=Nat×List Int×Nat) [1000000] [0,2]
  (fun p=>p.1≤p.2.1.length∧p.2.1.Nodup∧(∀w∈p.2.1,w∈VN N)∧(p.2.1.map iv≠[]→st p.2.2=none)∧(∀w∈p.2.1.take p.1,w≠n∧∀u,σ w=some u→∀v∈u.vl,v∈p.2.1)∧(∀w∈p.2.1,n∈(R w).vl→n∈(t.aL R).vl)∧(n∈(t.aL R).vl→∃w∈p.2.1,n∈(R w).vl))
  (fun p=>[(6,.bool false),(7,bQ 1 p.2.2 (p.2.1.map iv)),(8,.int .i64 p.1)]) (fun p=>bK st p.2.2 (p.2.1.map iv)) (fun p=>N - p.1) (by decide +kernel)
  ⟨(0,t.vars [],b0),⟨nO _,v2 mJ,fun w hw=>?_,hb0,by simp,fun w hw hm=>?_,fun hm=>?_⟩,aP.mk (by simp only[aB,↓aW,seval])⟩ ?_
 · rcases (v1 w).1 hw with h | h
   · cases h
   · exact xD.2 (ht.1.2.2 w h)
 · rcases (v1 w).1 hw with h | h
   · cases h
   · exact(zL t).2 ⟨w,h,hm⟩
 · obtain⟨w,hw,hm⟩:=(zL t).1 hm
   exact⟨w,(v1 w).2 (.inr hw),hm⟩
 rintro⟨i,W,bW⟩ ⟨i1,i2,i3,i4,i5,i6,i7⟩
 simp only at i1 i2 i3 i4 i5 i6 i7
 have haL:=GI (w:=1) (b:=bW) (l:=W.map iv) I0
 have hWl:=EB i2 (fun m hm=>xD.1 (i3 m hm))
 simp only[haL,aE,aB,seval]
 refine aQ (fun h=>?_) (fun h=>?_)
 case refine_2=>
  simp only[cL,g7] at h
  obtain rfl:i=W.length:=by omega
  rw[eD] at i5
  simp only[aB,seval]
  have hno:n∉(t.aL R).vl:=fun hm=>by
   obtain⟨w,hw,hnw⟩:=i7 hm
   exact bAY G i5 w hw hnw
  exact⟨by simp only[hno,dW,xL],aO.bK (aO.refl _) i4⟩
 simp only[bM,g7] at h
 obtain⟨w,hx⟩:∃w,W[i]?=some w:=⟨_,eK h⟩
 have fZ:=cH hx
 have hat:=WY (b:=bW) (l:=W.map iv) (i:=i) (x:=iv w) iL (by rw[kD,hx];try rfl)
 obtain⟨gD,mU⟩:=WZ (st:=st) (b:=bW) hx
 have hw:=aZ (n:=(i:Int)+1)
 simp only[hat,gD,mU,uZ,aB,seval,IL]
 refine aQ (fun h2=>?_) (fun h2=>?_)
 · simp only[bM] at h2
   subst h2
   simp only[aB,seval]
   have hm:w∈(t.aL R).vl:=i6 w fZ (by rw[G.free hn,zN];simp)
   exact⟨by simp only[hm,dU,xL],aO.bK (aO.refl _) i4⟩
 simp only[cL] at h2
 simp only[hat,gD,mU,uZ,aB,seval,IL]
 obtain⟨hw0,hw1⟩:=xD.1 (i3 w fZ)
 obtain⟨j,rfl⟩:∃j:Nat,w=j:=⟨w.toNat,by omega⟩
 have hj:j<N:=by omega
 have hj':decide ((j:Int)<(N:Int))=true:=by simp;omega
 have aKV:=kT (P:=prog) (b:=b) (len:=N) bY hj
 have hSA:=hS.acc i4
 have htk:W.take (i+1)=W.take i++ [(j:Int)]:=by rw[fN,hx];try rfl
 have step:∀W':List Int,(∀v∈W,v∈W')→(∀u,σ (j:Int)=some u→∀v∈u.vl,v∈W')→∀w∈W'.take (i+1),W'.take (i+1)=W.take (i+1)→w≠n∧∀u,σ w=some u→∀v∈u.vl,v∈W':=by
  intro W' n7 kM w hw' hte
  rw[hte,htk] at hw'
  rcases eL.1 hw' with hw' | hw'
  · exact⟨(i5 w hw').1,fun u hu v hv=>n7 v ((i5 w hw').2 u hu v hv)⟩
  · simp only[cG,cX,dG] at hw'
    subst hw'
    exact⟨h2,kM⟩
 cases hs:σ (j:Int) with
 | none=>
  obtain⟨D,e1,e2,_⟩:=hSA.none hj hs
  simp only[hj',aKV,e1,e2,dU,fX,hat,gD,mU,uZ,hw,aB,seval,IL]
  exact⟨(i+1,W,bW),by simp only;omega,⟨h,i2,i3,i4,fun w hw'=>step W (fun _ h=>h) (fun u hu=>by rw[hs] at hu;cases hu) w hw' rfl,i6,i7⟩,aP.mk (by simp only[aB,seval])⟩
 | some u=>
  obtain⟨k',n',s',ts'⟩:=u
  have ho:=hok _ _ hs
  have hk':¬k'=0:=by have:=ho.1.kind.1;omega
  obtain⟨D,e1,e2,e3,e4⟩:=hSA.some hj hs
  simp only[hj',aKV,e1,e2,e3,e4,hk',dW,fX,hat,gD,mU,uZ,aB,seval,IL]
  have hwf:=Tm.tT _ (ho.1.2.1)
  have hc:=GR (.mk k' n' s' ts') W bW st hwf i4 (by have:=ho.2;omega)
  obtain⟨u1,u2,m,u3⟩:=VP _ hwf W
  rw[bD] at hc
  refine hc.mono ?_
  rintro _ _ ⟨b',rfl,rfl,hb'⟩
  generalize (Tm.mk k' n' s' ts').vars W=W' at *
  have hte:W'.take (i+1)=W.take (i+1):=by rw[u3,CB (by omega)]
  have hbd:(Tm.mk k' n' s' ts').aL R=R (j:Int):=(G.bound hs).symm
  simp only[hw,aB,seval]
  refine⟨(i+1,W',b'),by simp only;omega,⟨by rw[u3];simp only[dS];omega,u2 i2,fun w hw'=>?_,hb',fun w hw'=>step W' (fun v hv=>(u1 v).2 (.inl hv)) (fun u hu v hv=>?_) w hw' hte,fun w hw' hm=>?_,fun hm=>?_⟩,aP.mk (by simp only[aB,seval])⟩
  · rcases (u1 w).1 hw' with h | h
    · exact i3 w h
    · exact xD.2 (ho.1.2.2 w h)
  · rw[hs] at hu
    cases hu
    exact(u1 v).2 (.inr hv)
  · rcases (u1 w).1 hw' with h | h
    · exact i6 w h hm
    · refine i6 (j:Int) fZ ?_
      rw[←hbd]
      exact(zL _).2 ⟨w,h,hm⟩
  · obtain⟨w,h,hm⟩:=i7 hm
    exact⟨w,(u1 w).2 (.inl h),hm⟩
def AN(N b:Nat)(st:aA)(σ':Sub)(st':aA):Prop:=fS N st' b σ'∧∀x o,st x=some o→x≠b→st' x=some o
theorem AN.refl{N b:Nat}{st:aA}{σ:Sub}(h:fS N st b σ):AN N b st σ st:=⟨h,fun _ _ h _=>h⟩
theorem AN.trans{N b:Nat}{st s2 s3:aA}{σ2 σ3:Sub}(x:AN N b st σ2 s2)(y:AN N b s2 σ3 s3):AN N b st σ3 s3:=⟨y.1,fun q o h hn=>y.2 q o (x.2 q o h hn) hn⟩
def FX(N:Nat)(f:Nat)(b:Nat)(σ:Sub)(a c:Tm)(r:Bool)(σ':Sub):Prop:=∀st,fS N st b σ→aD prog f [a.av,c.av,.mslice b 0 N 4] st (fun r' st'=>r'=.bool r∧AN N b st σ' st')
abbrev nI:=zi aX (zi cB (zi d9 (zi cI cC)))
theorem aL2(N:Nat)(hN:N≤1048576)(g:Nat)(bb:Nat)(IH:∀(σ:Sub) (a b:Tm) (r:Bool) (σ':Sub) (add:List Int),cO σ→cQ (bF N) σ→bF N a→bF N b→dK g σ a b=some (r,σ',add)→FX N 160 bb σ a b r σ')
 (σ:Sub) (a b:Tm) (r:Bool) (σ':Sub) (add:List Int) (hg:cO σ) (hok:cQ (bF N) σ) (ha0:bF N a) (hb0:bF N b) (h:dK (g+1) σ a b=some (r,σ',add))
 (aLM:(wk σ a).k≠1→(wk σ b).k=1→FX N 160 bb σ (wk σ b) (wk σ a) r σ'):FX N 160 bb σ a b r σ':=by
 intro st hS
 obtain⟨rk,B,G⟩:=hg.rs
 obtain⟨fa,wa⟩:=G.wk a
 obtain⟨fb,wb⟩:=G.wk b
 have LO:cQ (cJ N) σ:=fun n u hu=>(hok n u hu).1
 have hca:=fun st (hS:fS N st bb σ)=>XM LO wa ha0.1 bb st hS
 have hcb:=fun st (hS:fS N st bb σ)=>XM LO wb hb0.1 bb st hS
 have ea:=wa.end
 have eb:=wb.end
 have hsa:=wa.all (p:=bF N) hok ha0
 have hsb:=wb.all (p:=bF N) hok hb0
 replace h:=OC h
 generalize wk σ a=a1 at *
 generalize wk σ b=b1 at *
 clear wa wb
 refine wF [1000000,3,4] 3 func160 ntmps160 rfl rfl ?_
 intro eW
 simp only[aB,seval,nI]
 intro b4 h4 b5 h5
 have h54:b5≠b4:=by rintro rfl;rw[aA.aJ] at h5;cases h5
 have hn5:st b5=none:=by rw[aA.aF st _ h54] at h5;exact h5
 have h4b:b4≠bb:=by rintro rfl;rw[fS,h4] at hS;cases hS
 have h5b:b5≠bb:=by rintro rfl;rw[fS,hn5] at hS;cases hS
 have hS':∀o o',fS N ((st.aC b4 o).aC b5 o') bb σ:=fun o o'=>(hS.aC h4b).aC h5b
 have hQ:∀o o',AN N bb st σ ((st.aC b4 o).aC b5 o'):=fun o o'=>⟨hS' o o',fun x p h _=>by
  rw[aA.aF _ _ (by rintro rfl;rw[hn5] at h;cases h),aA.aF _ _ (by rintro rfl;rw[h4] at h;cases h)];exact h⟩
 simp only[Tm.gB,rM (Tm.gB a),qS (cD a),h54.symm,aB,seval]
 refine(hca _ (hS' _ _)).to ?_
 simp only[Tm.gB,rM (Tm.gB b),qS (cD b),Tm.e9,aM,h54,h54.symm,aB,seval,nI]
 rw[aA.zJ h54,aA.pJ _ _ _ h54]
 refine(hcb _ (hS' _ _)).to ?_
 obtain⟨ka,na,sa,tsa⟩:=a1
 obtain⟨kb,nb,sb',tsb⟩:=b1
 obtain⟨hla,aLA⟩:=Tm.rJ (hsa.1.small)
 obtain⟨hlb,aLB⟩:=Tm.rJ (hsb.1.small)
 have fM:∀o o',AN N bb st σ ((st.aC b4 o).aC b5 o'):=hQ
 have hka:=fun h=>(rG N) _ h hsa
 have hkb:=fun h=>(rG N) _ h hsb
 simp only[bD]
 simp only[Tm.k,Tm.n,Tm.ts] at h ea eb aLM hka hkb
 simp only[dR,aM,h54.symm,aB,seval,nI]
 have var:∀ {n:Int} {t:Tm},n∈VN N→σ n=none→bF N t→j6 σ n t=(r,σ',add)→∀s0,fS N s0 bb σ→aD prog 180 [.int .i64 n,t.av,.mslice bb 0 N 4] s0 (fun r' st'=>r'=.bool (!r)∧st'=s0):=by
  intro n t _ hn ht hb s0 hs0
  have:=aTC G hok hN hn t ht bb s0 hs0
  unfold j6 at hb
  split at hb
  · rename_i hm
    cases hb
    simpa [hm] using this
  · rename_i hm
    cases hb
    simpa [hm] using this
 rcases h with ⟨h1,h2,h3,rfl,rfl,rfl⟩ | ⟨h1,h2,h3⟩ | ⟨h1,h2,h3⟩ | ⟨h1,h2,h3,h4⟩ | ⟨h1,h2,h3,rfl,rfl,rfl⟩
 · subst h1 h2 h3
   simp only[dU,fX,h54.symm,aB,seval,nI]
   exact fM _ _
 · subst h1
   have hin:=xD.2 (hsa.1.2.2 na (by rw[Tm.mZ rfl];simp))
   obtain⟨hn0,hn1⟩:=xD.1 hin
   have hcw:=var hin (ea rfl) hsb h3 _ (hS' (.cells [.int .i64 1,.int .i64 na,.str sa,.slice (tsa.map Tm.av)]) (.cells [.int .i64 kb,.int .i64 nb,.str sb',.slice (tsb.map Tm.av)]))
   have hna:=ea rfl
   rw[bD] at hcw
   obtain⟨i,rfl⟩:∃i:Nat,na=i:=⟨na.toNat,by omega⟩
   have hi:i<N:=by omega
   have hat:=kT (P:=prog) (b:=bb) (len:=N) bY hi
   have h6:kb=1→¬(i:Int)=nb:=fun e1 e=>h2 ⟨e1,e⟩
   have tail:∀(s0:aA),s0=((st.aC b4 (.cells [.int .i64 1,.int .i64 i,.str sa,.slice (tsa.map Tm.av)])).aC b5 (.cells [.int .i64 kb,.int .i64 nb,.str sb',.slice (tsb.map Tm.av)]))→r=true →
    ∃D D',s0 bb=some (.cells D)∧i*4+4≤D.length∧aM D (i*4) [.int .i64 kb,.int .i64 nb,.str sb',.slice (tsb.map Tm.av)]=D'∧AN N bb st σ' (s0.aC bb (.cells D')):=by
    rintro _ rfl rfl
    unfold j6 at h3
    split at h3
    · cases h3
    · cases h3
      obtain⟨D,D',e1,e2,e3,e4⟩:=(hS' (.cells [.int .i64 1,.int .i64 i,.str sa,.slice (tsa.map Tm.av)]) (.cells [.int .i64 kb,.int .i64 nb,.str sb',.slice (tsb.map Tm.av)])).set hi (.mk kb nb sb' tsb)
      refine⟨D,D',e1,e2,by rw[←e3,bD];try rfl,e4,fun x o hx hxb=>?_⟩
      rw[aA.aF _ _ hxb]
      exact(hQ _ _).2 x o hx hxb
   by_cases h5:kb=1
   · subst h5
     simp only[dU,h6 rfl,dW,fX,h54.symm,aB,seval,nI]
     refine hcw.to ?_
     cases r with
     | false=>
      simp only[aB,seval]
      unfold j6 at h3
      split at h3
      · cases h3
        exact fM _ _
      · cases h3
     | true=>
      obtain⟨D,D',e1,e2,e3,e4⟩:=tail _ rfl rfl
      simp only[hat,e1,e2,aM,h54.symm,aB,seval,nI]
      rw[←e3] at e4
      exact e4
   · simp only[dU,h5,dW,fX,h54.symm,aB,seval,nI]
     refine hcw.to ?_
     cases r with
     | false=>
      simp only[aB,seval]
      unfold j6 at h3
      split at h3
      · cases h3
        exact fM _ _
      · cases h3
     | true=>
      obtain⟨D,D',e1,e2,e3,e4⟩:=tail _ rfl rfl
      simp only[hat,e1,e2,aM,h54.symm,aB,seval,nI]
      rw[←e3] at e4
      exact e4
 · subst h2
   have hsw:=aLM h1 rfl
   simp only[FX,bD] at hsw
   simp only[dU,h1,dW,fX,h54.symm,aB,seval,nI]
   refine(hsw _ (hS' _ _)).mono ?_
   rintro _ s2 ⟨rfl,hp⟩
   simp only[aB,seval]
   exact(hQ _ _).trans hp
 · rw[uD] at h3
   simp only[Tm.k,Tm.n,Tm.s,Tm.ts] at h3
   obtain⟨rfl,rfl,rfl,hlen⟩:=h3
   have dO:decide ((tsa.length:Int)=(tsb.length:Int))=true:=by simp [hlen]
   simp only[dU,dW,dO,fX,h54.symm,aE,h1,aB,seval,nI]
   have hS0:=hS' (.cells [.int .i64 ka,.int .i64 na,.str sa,.slice (tsa.map Tm.av)]) (.cells [.int .i64 ka,.int .i64 na,.str sa,.slice (tsb.map Tm.av)])
   have hQ0:=hQ (.cells [.int .i64 ka,.int .i64 na,.str sa,.slice (tsa.map Tm.av)]) (.cells [.int .i64 ka,.int .i64 na,.str sa,.slice (tsb.map Tm.av)])
   have e4:((st.aC b4 (.cells [.int .i64 ka,.int .i64 na,.str sa,.slice (tsa.map Tm.av)])).aC b5 (.cells [.int .i64 ka,.int .i64 na,.str sa,.slice (tsb.map Tm.av)])) b4=some (.cells [.int .i64 ka,.int .i64 na,.str sa,.slice (tsa.map Tm.av)]):=by rw[aA.aF _ _ h54.symm,aA.aJ]
   have e5:((st.aC b4 (.cells [.int .i64 ka,.int .i64 na,.str sa,.slice (tsa.map Tm.av)])).aC b5 (.cells [.int .i64 ka,.int .i64 na,.str sa,.slice (tsb.map Tm.av)])) b5=some (.cells [.int .i64 ka,.int .i64 na,.str sa,.slice (tsb.map Tm.av)]):=aA.aJ _ _ _
   generalize (st.aC b4 (.cells [.int .i64 ka,.int .i64 na,.str sa,.slice (tsa.map Tm.av)])).aC b5 (.cells [.int .i64 ka,.int .i64 na,.str sa,.slice (tsb.map Tm.av)])=s0 at *
   refine dI (σ:=Sub×List Int×aA) [1000000,3,4] [2,3,4] tsa
    (fun i p=>cO p.1∧cQ (bF N) p.1∧AN N bb s0 p.1 p.2.2∧eJ g p.1 (tsa.drop i) (tsb.drop i)=some (r,σ',p.2.1))
    (fun i _=>[(6,.bool false),(7,.int .i64 i)]) (fun _ p=>p.2.2) (by decide +kernel)
    ⟨(σ,add,s0),⟨hg,hok,AN.refl hS0,h4⟩,aP.mk (by simp only[aB,↓aW,seval])⟩ (fun i x p hx hlt a7 hdr hinv=>?_) (fun p hge hinv=>?_)
   case refine_2=>
    obtain⟨σi,rest,si⟩:=p
    obtain⟨i1,i2,i3,i5⟩:=hinv
    simp only at i1 i2 i3 i5
    have f4:=i3.2 b4 _ e4 h4b
    rw[iA,hlen,iA] at i5
    simp only[eJ,Option.some.injEq,Prod.mk.injEq] at i5
    obtain⟨rfl,rfl,rfl⟩:=i5
    simp only[hge,f4,aE,aB,seval,nI]
    exact hQ0.trans i3
   obtain⟨σi,rest,si⟩:=p
   obtain⟨i1,i2,i3,i5⟩:=hinv
   simp only at i1 i2 i3 i5
   obtain⟨y,hy⟩:∃y,tsb[i]?=some y:=⟨_,eK (by omega)⟩
   have DU:tsb.drop i=y::tsb.drop (i+1):=by
    obtain⟨h1,h2⟩:=fC.1 hy
    rw[oM h1,h2]
   rw[hdr,DU,eJ] at i5
   have f4:=i3.2 b4 _ e4 h4b
   have f5:=i3.2 b5 _ e5 h5b
   have hw:=aZ (n:=(i:Int)+1)
   simp only[a7,aE,f4,aB,seval,nI]
   refine wP [(0,1),(2,1),(5,1),(7,1),(10,1),(1,2),(3,1),(4,2),(6,2),(8,1),(9,2),(11,0),(12,1)] [0,2,5,7,10,1,3,4,6,8,9,12] mixed ?_
   simp only[f4,f5,bH (av:=Tm.av) bY hx (aT x),bH (av:=Tm.av) bY hy (aT y),aB,seval,nI]
   cases hu:dK g σi x y with
   | none=>rw[hu] at i5;cases i5
   | some p1=>
    obtain⟨r1,σ1,tr1⟩:=p1
    rw[hu] at i5
    have hx1:bF N x:=hka h1 x (cH hx)
    have hy1:bF N y:=hkb h2 y (cH hy)
    have hU:=xS i1 hu
    have hA:=(OE (rG N) g).1 σi x y r1 σ1 tr1 i1 hu i2 hx1 hy1
    refine(IH σi x y r1 σ1 tr1 i1 i2 hx1 hy1 hu si i3.1).mono ?_
    rintro _ s2 ⟨rfl,hp2⟩
    cases r1 with
    | false=>
     simp only[Option.some.injEq,Prod.mk.injEq] at i5
     obtain⟨rfl,rfl,rfl⟩:=i5
     simp only[aB,seval]
     exact hQ0.trans (i3.trans hp2)
    | true=>
     simp only at i5
     cases hu2:eJ g σ1 (tsa.drop (i+1)) (tsb.drop (i+1)) with
     | none=>rw[hu2] at i5;cases i5
     | some p2=>
      obtain⟨r2,σ2,tr2⟩:=p2
      rw[hu2] at i5
      simp only[Option.some.injEq,Prod.mk.injEq] at i5
      obtain⟨rfl,rfl,_⟩:=i5
      simp only[aB,seval]
      exact⟨(σ1,tr2,s2),⟨hU.gX,hA,i3.trans hp2,hu2⟩,aP.mk (by simp only[hw,aB,seval])⟩
 · have hd:ka=kb→na=nb→sa=sb'→¬(tsa.length:Int)=(tsb.length:Int):=by
    intro e1 e2 e3 e4
    have:vG (Tm.mk ka na sa tsa) (Tm.mk kb nb sb' tsb)=true:=uD.2 ⟨e1,e2,e3,by simp only[Tm.ts];omega⟩
    rw[h3] at this;cases this
   by_cases e1:ka=kb
   · by_cases e2:na=nb
     · by_cases e3:sa=sb'
       · have e4:=hd e1 e2 e3
         subst e1 e2 e3
         simp only[dW,dU,fX,h54.symm,h1,aE,e4,aB,seval,nI]
         exact fM _ _
       · subst e1 e2
         simp only[dW,dU,fX,h54.symm,h1,e3,aB,seval,nI]
         exact fM _ _
     · subst e1
       simp only[dW,dU,fX,h54.symm,h1,e2,aB,seval,nI]
       exact fM _ _
   · clear hd
     simp only[dW,fX,h54.symm,h1,h2,e1,aB,seval,nI]
     exact fM _ _
theorem XL(N:Nat)(hN:N≤1048576)(bb:Nat):∀(g:Nat) (σ:Sub) (a b:Tm) (r:Bool) (σ':Sub) (add:List Int),cO σ→cQ (bF N) σ→bF N a→bF N b→dK g σ a b=some (r,σ',add)→FX N 160 bb σ a b r σ'
 | 0,σ,a,b,r,σ',add,hg,hok,ha,hb,h=>by simp only[dK] at h;cases h
 | g+1,σ,a,b,r,σ',add,hg,hok,ha,hb,h=>by
  refine aL2 N hN g bb (XL N hN bb g) σ a b r σ' add hg hok ha hb h fun h1 h2=>?_
  obtain⟨rk,B,G⟩:=hg.rs
  obtain⟨fa,wa⟩:=G.wk a
  obtain⟨fb,wb⟩:=G.wk b
  have eb:=aQZ wb
  have ea:=aQZ wa
  have hbn:j6 σ (wk σ b).n (wk σ a)=(r,σ',add):=by
   rcases OC h with h | h | h | h | h
   · exact absurd h.1 h1
   · exact absurd h.1 h1
   · exact h.2.2
   · exact absurd h2 h.2.1
   · exact absurd h2 h.2.1
  refine aL2 N hN 0 bb (fun σ a b r σ' add _ _ _ _ h=>by simp only[dK] at h;cases h) σ (wk σ b) (wk σ a) r σ' add hg hok (wb.all (p:=bF N) hok hb) (wa.all (p:=bF N) hok ha) ?_ fun h3=>?_
  · rw[dK,eb,ea,aK (fun h=>h1 h.2.1),aN h2,hbn]
  · rw[eb] at h3;exact absurd h2 h3
end Go.AW
namespace Go.AW
noncomputable def tD(σ:Sub)(a b:Tm):Int×Sub×List Int:=(iG (iY σ a b).1,(iY σ a b).2)
noncomputable def wG(σ:Sub)(x y z:Tm):Int×Sub×List Int:=
 if x.k=1∨y.k=1 then(2,σ,[]) else if x.k≠2∨y.k≠3∨y.ts.length=0 then(3,σ,[]) else match nC x y with
  | some u=>tD σ z u
  | none=>(1,σ,[])
noncomputable def dC(σ:Sub)(s:ByteArray):List Tm→Int×Sub×List Int
 | []=>(iG (decide (s=⟨#[116,114,117,101]⟩)),σ,[])
 | [x]=>(iG (uO s x),σ,[])
 | [x,y]=>if gE sH s=true then(yI s x y,σ,[]) else if s=⟨#[61]⟩ then tD σ x y else if s=⟨#[92,61]⟩ then(iG (!(iY σ x y).1),σ,[])
  else if s=⟨#[61,61]⟩ then(iG (x.same y),σ,[]) else if y.ev.2≠0 then(y.ev.2,σ,[]) else tD σ x (n9 y.ev.1)
 | [x,y,z]=>wG σ x y z
 | _=>(0,σ,[])
structure nB (N:Int) (σ:Sub) (σ':Sub) (add:List Int):Prop where
 gX:cO σ'
 ok:cQ (bF N) σ'
 aU:∀n,n∉add→σ' n=σ n
 new:∀n∈add,σ n=none∧σ' n≠none
 nodup:add.Nodup
 gE:∀n∈add,0≤n∧n<N
theorem nB.same{N:Int}{σ:Sub}(hg:cO σ)(ho:cQ (bF N) σ):nB N σ σ []:=⟨hg,ho,fun _ _=>rfl,by simp,mJ,by simp⟩
theorem zY.xN{N:Int}{σ:Sub}{a b:Tm}{r:Bool}{σ':Sub}{tr:List Int}(h:zY N σ a b r σ' tr):nB N σ σ' tr:=⟨h.oH.gX,h.ok,h.oH.aU,h.oH.new,h.oH.nodup,h.gE⟩
theorem nB.oH{N:Nat}{σ:Sub}{a b:Tm}(hg:cO σ)(ho:cQ (bF N) σ)(ha:bF N a)(hb:bF N b):nB N σ (iY σ a b).2.1 (iY σ a b).2.2:=by
 obtain⟨r,σ',tr,h⟩:=uU hg ho ha hb
 rw[h.eq]
 exact h.xN
theorem LZ{N:Int}{n:Int}(h:jV n):bF N (n9 n):=by
 have h1:=a4W h
 have h2:=Tm.I2 h1
 refine⟨⟨h2.1,h2.2.1,fun v hv=>?_⟩,Tm.OG h1⟩
 unfold n9 at hv
 rw[Tm.kY (by decide)] at hv
 obtain⟨t,ht,_⟩:=hv
 cases ht
theorem W8{N:Int}{x y u:Tm}(hy:bF N y)(hk:y.k≠1)(h:nC x y=some u):bF N u:=rG N y hk hy u (W7 h)
theorem MQ{N:Nat}{σ:Sub}(hg:cO σ)(ho:cQ (bF N) σ)(s:ByteArray)(ks:List Tm)(hv:∀x∈ks,bF N x):nB N σ (dC σ s ks).2.1 (dC σ s ks).2.2:=by
 have hs:=nB.same hg ho
 match ks,hv with
 | [],_=>exact hs
 | [x],_=>exact hs
 | [x,y],hv=>
  have hx:=hv x (by simp)
  have hy:=hv y (by simp)
  simp only[dC]
  split
  · exact hs
  split
  · exact nB.oH hg ho hx hy
  split
  · exact hs
  split
  · exact hs
  split
  · exact hs
  · exact nB.oH hg ho hx (LZ (Tm.vE y hy.1))
 | [x,y,z],hv=>
  have hy:=hv y (by simp)
  have hz:=hv z (by simp)
  simp only[dC,wG]
  split
  · exact hs
  rename_i h1
  split
  · exact hs
  split
  · rename_i u hu
    exact nB.oH hg ho hz (W8 hy (fun h=>h1 (.inr h)) hu)
  · exact hs
 | a::b::c::d::l,_=>exact hs
theorem aYE(ρ:Int→Int):∀t:Tm,(bZ ρ t).ev=t.ev:=by
 intro t
 induction t using Tm.ind with
 | h k n s ts ih=>
  by_cases h1:k=1
  · rw[yZ ρ (t:=.mk k n s ts) h1,vr,Tm.yK,Tm.yK,h1]
    simp
  rw[xJ ρ h1,Tm.yK,Tm.yK,uY]
  have:ts.map (Tm.ev∘bZ ρ)=ts.map Tm.ev:=qK fun x hx=>ih x hx
  rw[this]
section
variable {ρ:Int→Int} {N:Int} {σ τ:Sub}
theorem fV.back(S:fV ρ N σ τ):∃δ:Int→Int,∀v,0≤v→v<N→δ (ρ v)=v:=by
 refine⟨fun w=>open Classical in if h:∃v,0≤v∧v<N∧ρ v=w then h.choose else 0,fun v h0 h1=>?_⟩
 have h:∃u,0≤u∧u<N∧ρ u=ρ v:=⟨v,h0,h1,rfl⟩
 simp only[dif_pos h]
 obtain⟨a,b,c⟩:=h.choose_spec
 exact S.inj _ _ a b h0 h1 c
theorem fV.a7M(S:fV ρ N σ τ){x y:Tm}(hx:cJ N x)(hy:cJ N y)(e:bZ ρ x=bZ ρ y):x=y:=by
 obtain⟨δ,hδ⟩:=S.back
 have key:∀ {t:Tm},cJ N t→bZ δ (bZ ρ t)=t:=fun {t} ht=>by
  rw[show bZ δ (bZ ρ t)=t.aL fun v=>vr (δ (ρ v)) from H6 ρ _ t]
  rw[o7 (g:=vr) t fun v hv=>by rw[hδ v (ht.2.2 v hv).1 (ht.2.2 v hv).2]]
  exact HR t ht.2.1
 rw[←key hx,e,key hy]
theorem fV.same(S:fV ρ N σ τ){x y:Tm}(hx:cJ N x)(hy:cJ N y):(bZ ρ x).same (bZ ρ y)=x.same y:=by
 rw[zR,Tm.ET,Tm.ET]
 exact⟨S.a7M hx hy,fun e=>by rw[e]⟩
theorem a8V(ρ:Int→Int)(s:ByteArray)(x:Tm):uO s (bZ ρ x)=uO s x:=by
 unfold uO
 rw[yY]
 by_cases h:x.k=1
 · rw[h];simp
 · have:(bZ ρ x).ts.length=x.ts.length:=by
    rw[EQ ρ h]
    simp only[Tm.ts,aE]
   rw[this]
theorem aR8(ρ:Int→Int){x y:Tm}(hx:x.k=2)(hy:y.k=3):nC (bZ ρ x) (bZ ρ y)=(nC x y).map (bZ ρ):=by
 obtain⟨k,n,s,ts⟩:=x
 obtain⟨k',n',s',ts'⟩:=y
 simp only[Tm.k] at hx hy
 subst hx hy
 rw[xJ ρ (by decide),xJ ρ (by decide)]
 unfold nC
 show(if 1≤n∧n≤((ts'.map (bZ ρ)).length:Int) then(ts'.map (bZ ρ))[(n - 1).toNat]? else none)=Option.map (bZ ρ) (if 1≤n∧n≤(ts'.length:Int) then ts'[(n - 1).toNat]? else none)
 by_cases h:1≤n∧n≤(ts'.length:Int)
 · rw[aN h,aN (by rw[aE];exact h),kD]
 · rw[aK h,aK (by rw[aE];exact h)];try rfl
def mL(ρ:Int→Int)(N:Int)(x y:Int×Sub×List Int):Prop:=y.1=x.1∧y.2.2=x.2.2.map ρ∧fV ρ N x.2.1 y.2.1
theorem mL.same(S:fV ρ N σ τ)(c:Int):mL ρ N (c,σ,[]) (c,τ,[]):=⟨rfl,rfl,S⟩
end
section
variable {ρ:Int→Int} {N:Nat} {σ τ:Sub}
theorem mL.oH(S:fV ρ N σ τ)(hg:cO σ)(hg':cO τ)(ho:cQ (bF N) σ){a b:Tm}(ha:bF N a)(hb:bF N b):mL ρ N (tD σ a b) (tD τ (bZ ρ a) (bZ ρ b)):=by
 obtain⟨r,σ',tr,h⟩:=uU hg ho ha hb
 obtain⟨g,hg2⟩:=h.run
 obtain⟨τ',e,S',_⟩:=S.iY hg hg' ho.mI ha.1 hb.1 hg2
 unfold tD
 rw[h.eq,e]
 exact⟨rfl,rfl,S'⟩
theorem a7N(ρ:Int→Int)(n:Int):bZ ρ (n9 n)=n9 n:=xJ ρ (by decide)
theorem fV.dC(S:fV ρ N σ τ)(hg:cO σ)(hg':cO τ)(ho:cQ (bF N) σ)(s:ByteArray)(ks:List Tm)(hv:∀x∈ks,bF N x):mL ρ N (AW.dC σ s ks) (AW.dC τ s (ks.map (bZ ρ))):=by
 match ks,hv with
 | [],_=>exact mL.same S _
 | [x],_=>
  simp only[bR,bS,AW.dC,a8V]
  exact mL.same S _
 | [x,y],hv=>
  have hx:=hv x (by simp)
  have hy:=hv y (by simp)
  have hu:=mL.oH S hg hg' ho hx hy
  simp only[bR,bS,AW.dC,yI,aYE,S.same hx.1 hy.1]
  by_cases h1:gE sH s=true
  · rw[aN h1,aN h1];exact mL.same S _
  rw[aK h1,aK h1]
  by_cases h2:s=⟨#[61]⟩
  · rw[aN h2,aN h2];exact hu
  rw[aK h2,aK h2]
  by_cases h3:s=⟨#[92,61]⟩
  · rw[aN h3,aN h3]
    obtain⟨r,σ',tr,h⟩:=uU hg ho hx hy
    obtain⟨g,hg2⟩:=h.run
    obtain⟨τ',e,_,_⟩:=S.iY hg hg' ho.mI hx.1 hy.1 hg2
    rw[h.eq,e]
    exact mL.same S _
  rw[aK h3,aK h3]
  by_cases h4:s=⟨#[61,61]⟩
  · rw[aN h4,aN h4];exact mL.same S _
  rw[aK h4,aK h4]
  by_cases h5:y.ev.2≠0
  · rw[aN h5,aN h5];exact mL.same S _
  rw[aK h5,aK h5]
  have:=mL.oH S hg hg' ho hx (LZ (N:=N) (Tm.vE y hy.1))
  rw[a7N] at this
  exact this
 | [x,y,z],hv=>
  have hy:=hv y (by simp)
  have hz:=hv z (by simp)
  simp only[bR,bS,AW.dC,wG,yY]
  by_cases h1:x.k=1∨y.k=1
  · rw[aN h1,aN h1];exact mL.same S _
  rw[aK h1,aK h1]
  have hl:(bZ ρ y).ts.length=y.ts.length:=by
   rw[EQ ρ (t:=y) (fun h=>h1 (.inr h))]
   simp only[Tm.ts,aE]
  rw[hl]
  by_cases h2:x.k≠2∨y.k≠3∨y.ts.length=0
  · rw[aN h2,aN h2];exact mL.same S _
  rw[aK h2,aK h2]
  have kx:x.k=2:=zS fun h=>h2 (.inl h)
  have ky:y.k=3:=zS fun h=>h2 (.inr (.inl h))
  rw[aR8 ρ kx ky]
  cases hu:nC x y with
  | none=>exact mL.same S _
  | some u=>exact mL.oH S hg hg' ho hz (W8 hy (fun h=>h1 (.inr h)) hu)
 | a::b::c::d::l,_=>
  simp only[bR,AW.dC]
  exact mL.same S _
end
theorem a8I(σ:Sub)(s:ByteArray)(ks:List Tm):0≤(dC σ s ks).1:=by
 have hc:∀b,0≤iG b:=fun b=>by unfold iG;split<;>omega
 have hr:∀n,0≤(iV n).2:=fun n=>by unfold iV;split<;>simp
 have har:∀s a b,0≤(r9 s a b).2:=fun s a b=>by
  unfold r9
  split
  · exact hr _
  split
  · exact hr _
  split
  · exact hr _
  split
  · simp
  split
  · simp
  · simp
 have hb:∀(f:Int→Int→Int×Int) (x y:Int×Int),(∀a b,0≤(f a b).2)→0≤x.2→0≤y.2→0≤(both f x y).2:=fun f x y hf hx hy=>by
  unfold both
  split
  · exact hx
  split
  · exact hy
  · exact hf _ _
 have he:∀t:Tm,0≤t.ev.2:=by
  intro t
  induction t using Tm.ind with
  | h k n s ts ih=>
   rw[Tm.yK]
   split
   · simp
   split
   · simp
   split
   · match ts,ih with
     | [],_=>simp [two]
     | [x],_=>simp [two]
     | [x,y],ih=>exact hb _ _ _ (har s) (ih x (by simp)) (ih y (by simp))
     | x::y::z::l,_=>simp [two]
   · simp
 match ks with
 | []=>exact hc _
 | [x]=>exact hc _
 | [x,y]=>
  simp only[dC]
  split
  · exact hb _ _ _ (fun _ _=>hc _) (he x) (he y)
  split
  · exact hc _
  split
  · exact hc _
  split
  · exact hc _
  split
  · exact he y
  · exact hc _
 | [x,y,z]=>
  simp only[dC,wG]
  split
  · simp
  split
  · simp
  split
  · exact hc _
  · simp
 | a::b::c::d::l=>simp [dC]
end Go.AW
namespace Go.AW
open Go.Proofs.Tryz
theorem aR7(σ:Sub)(x y z:Tm):wG σ x y z=if(sB x y).2=0 then tD σ z (sB x y).1 else((sB x y).2,σ,[]):=by
 unfold wG sB
 split
 · simp
 split
 · simp
 cases nC x y<;>rfl
def rW(N bb:Nat)(st:aA)(x:Int×Sub×List Int)(r:AV)(st':aA):Prop:=r=.int .i64 x.1∧AN N bb st x.2.1 st'
theorem rW.same{N bb:Nat}{st:aA}{σ:Sub}{r:AV}(h:fS N st bb σ)(k:Int)(hr:r=.int .i64 k):rW N bb st (k,σ,[]) r st:=⟨hr,AN.refl h⟩
theorem GP{N:Nat}(hN:N≤1048576){σ:Sub}(hg:cO σ)(ho:cQ (bF N) σ)(a b:Tm)(ha:bF N a)(hb:bF N b)(bb:Nat)(st:aA)(hS:fS N st bb σ) :
 aD prog 160 [a.av,b.av,.mslice bb 0 N 4] st (fun r st'=>r=.bool (iY σ a b).1∧AN N bb st (iY σ a b).2.1 st'):=by
 obtain⟨r,σ',tr',hU⟩:=uU hg ho ha hb
 obtain⟨g,lG⟩:=hU.run
 rw[hU.eq]
 exact XL N hN bb g σ a b r σ' tr' hg ho ha hb lG st hS
abbrev rP:=zi aX (zi cB (zi d9 (zi cI cC)))
theorem aTD{N:Nat}(hN:N≤1048576){σ:Sub}(hg:cO σ)(ho:cQ (bF N) σ)(n:Int)(s:ByteArray)(ks:List Tm)(hb:isBuiltin s (ks.length:Int)=true)(hne:s≠⟨#[92,61]⟩)(hv:∀x∈ks,bF N x)(bb:Nat)(st:aA)(hS:fS N st bb σ) :
 aD prog 140 [(Tm.mk 3 n s ks).av,.mslice bb 0 N 4] st (rW N bb st (dC σ s ks)):=by
 have hcs:=XD hb
 have DT:=fun x y (hxy:ks= [x,y])=>aVN n s x y (hv x (by simp [hxy])).1 (hv y (by simp [hxy])).1
 have aK2:=fun x y z (hxy:ks= [x,y,z])=>aVM n s x y z (hv y (by simp [hxy])).1
 have aK4:=fun x (hxy:ks= [x]) h=>aVS n s x h
 simp only[bD] at DT aK2 aK4 ⊢
 refine wF [1000000] 2 func140 ntmps140 rfl rfl ?_
 intro _
 simp only[aB,seval,rP]
 refine aQ (fun h=>?_) (fun h=>?_)
 · have hs:s=⟨#[116,114,117,101]⟩:=by simpa using h
   have hk:=L3 (ts:=ks) (by subst hs;simpa [isBuiltin] using hb)
   subst hk
   simp only[aB,seval]
   exact rW.same hS _ (by simp [iG,hs])
 have ht:s≠⟨#[116,114,117,101]⟩:=by simpa using h
 simp only[aB,seval]
 refine aQ (fun h=>?_) (fun h=>?_)
 · have hs:s=⟨#[102,97,105,108]⟩:=by simpa using h
   have hk:=L3 (ts:=ks) (by subst hs;simpa [isBuiltin] using hb)
   subst hk
   simp only[aB,seval]
   exact rW.same hS _ (by simp [iG,hs])
 have hf:s≠⟨#[102,97,105,108]⟩:=by simpa using h
 simp only[aB,seval]
 refine aQ (fun h=>?_) (fun h=>?_)
 · have hs:s=⟨#[61]⟩:=by simpa using h
   obtain⟨x,y,rfl⟩:=vM (ts:=ks) (by subst hs;simp [isBuiltin] at hb;omega)
   have e:dC σ s [x,y]=tD σ x y:=by subst hs;rfl
   rw[e]
   have eH:dP prog 46 (.slice [x.av,y.av]) (.int .i64 0)=some (.pptr x.av):=bH (av:=Tm.av) (l:=[x,y]) (i:=0) bY rfl (aT x)
   have gC:dP prog 46 (.slice [x.av,y.av]) (.int .i64 1)=some (.pptr y.av):=bH (av:=Tm.av) (l:=[x,y]) (i:=1) bY rfl (aT y)
   simp only[aB,seval]
   refine wX [(0,1),(1,1),(2,1),(3,1),(4,1),(5,1),(6,1),(7,1),(8,1),(9,0),(10,0),(11,1)] [0,1,2,3,4,5,6,7,8,11] dJ mixed rfl dF ?_
   simp only[eH,gC,cD,aT,aB,seval,rP]
   refine(GP hN hg ho x y (hv x (by simp)) (hv y (by simp)) bb _ hS).mono ?_
   rintro _ s2 ⟨rfl,hP⟩
   simp only[aB,seval]
   refine⟨dF,?_⟩
   refine(tQ _ _).to ?_
   simp only[aB,seval]
   exact⟨dF,rfl,hP⟩
 have he:s≠⟨#[61]⟩:=by simpa using h
 simp only[aB,seval]
 refine aQ (fun h=>absurd (by simpa using h) hne) (fun h=>?_)
 simp only[aB,seval]
 refine aQ (fun h=>?_) (fun h=>?_)
 · have hs:s=⟨#[61,61]⟩:=by simpa using h
   obtain⟨x,y,rfl⟩:=vM (ts:=ks) (by subst hs;simp [isBuiltin] at hb;omega)
   have e:dC σ s [x,y]=(iG (x.same y),σ,[]):=by subst hs;rfl
   rw[e]
   have eH:dP prog 46 (.slice [x.av,y.av]) (.int .i64 0)=some (.pptr x.av):=bH (av:=Tm.av) (l:=[x,y]) (i:=0) bY rfl (aT x)
   have gC:dP prog 46 (.slice [x.av,y.av]) (.int .i64 1)=some (.pptr y.av):=bH (av:=Tm.av) (l:=[x,y]) (i:=1) bY rfl (aT y)
   simp only[aB,seval]
   refine yD mixed (by decide +kernel) (by decide +kernel) ?_
   simp only[eH,gC,cD,aT,aB,seval,rP]
   refine iD (Y6 x y _) ?_
   simp only[aB,seval]
   refine iD (tQ _ _) ?_
   simp only[aB,seval]
   exact rW.same hS _ rfl
 have hee:s≠⟨#[61,61]⟩:=by simpa using h
 simp only[aB,seval]
 refine aQ (fun h=>?_) (fun h=>?_)
 · have hs:s=⟨#[105,115]⟩:=by simpa using h
   obtain⟨x,y,rfl⟩:=vM (ts:=ks) (by subst hs;simp [isBuiltin] at hb;omega)
   have e:dC σ s [x,y]=if y.ev.2≠0 then(y.ev.2,σ,[]) else tD σ x (n9 y.ev.1):=by subst hs;rfl
   rw[e]
   have hy:=hv y (by simp)
   have hin:=LZ (N:=N) (Tm.vE y hy.1)
   have har:=fun st=>KC y st hy.1
   generalize y.ev.1=a at *
   generalize y.ev.2=ca at *
   have eH:dP prog 46 (.slice [x.av,y.av]) (.int .i64 0)=some (.pptr x.av):=bH (av:=Tm.av) (l:=[x,y]) (i:=0) bY rfl (aT x)
   have gC:dP prog 46 (.slice [x.av,y.av]) (.int .i64 1)=some (.pptr y.av):=bH (av:=Tm.av) (l:=[x,y]) (i:=1) bY rfl (aT y)
   simp only[gC,cD,aT,aB,seval,rP]
   refine(har _).to ?_
   simp only[aB,seval]
   refine aQ (fun h4=>?_) (fun h4=>?_)
   · simp only[aB,seval]
     have h4':ca≠0:=by simpa using h4
     rw[aN h4']
     exact rW.same hS _ rfl
   have h4':ca=0:=by simpa using h4
   subst h4'
   rw[aK (by simp)]
   simp only[aB,seval]
   refine wX [(0,1),(1,1),(2,1),(3,1),(4,1),(6,1),(5,0),(7,0),(8,0),(9,1)] [0,1,2,3,4,6,9] dJ mixed rfl dF ?_
   simp only[eH,cD,aT,aB,seval,rP]
   refine(aVF a _).to ?_
   rw[←a4V]
   simp only[aB,seval]
   refine⟨dF,?_⟩
   refine(GP hN hg ho x (n9 a) (hv x (by simp)) hin bb _ hS).mono ?_
   rintro _ s2 ⟨rfl,hP⟩
   simp only[aB,seval]
   refine⟨dF,?_⟩
   refine(tQ _ _).to ?_
   simp only[aB,seval]
   exact⟨dF,rfl,hP⟩
 have his:s≠⟨#[105,115]⟩:=by simpa using h
 simp only[aB,seval]
 refine aQ (fun h=>?_) (fun h=>?_)
 · have hs:s=⟨#[97,114,103]⟩:=by simpa using h
   obtain⟨x,y,z,rfl⟩:=aL1 (ts:=ks) (by subst hs;simp [isBuiltin] at hb;omega)
   have e:dC σ s [x,y,z]=wG σ x y z:=rfl
   rw[e,aR7]
   have hz:=hv z (by simp)
   have hy:=hv y (by simp)
   have hga:=aK2 x y z rfl
   have hgv:(sB x y).2=0→bF N (sB x y).1:=fun h=>by
    unfold sB at h ⊢
    split at h
    · cases h
    rename_i h1
    rw[aK h1]
    split at h
    · cases h
    rename_i h2
    rw[aK h2]
    cases hu:nC x y with
    | none=>rw[hu] at h;cases h
    | some u=>exact rG N y (fun h=>h1 (.inr h)) hy u (W7 hu)
   generalize (sB x y).1=u at *
   generalize (sB x y).2=cu at *
   have AS:dP prog 46 (.slice [x.av,y.av,z.av]) (.int .i64 2)=some (.pptr z.av):=bH (av:=Tm.av) (l:=[x,y,z]) (i:=2) bY rfl (aT z)
   simp only[bR,bS] at hga
   simp only[aB,seval,rP]
   refine(hga _).to ?_
   simp only[aT,Tm.fP,Tm.e9,aB,↓aW,seval,rP]
   refine aQ (fun h4=>?_) (fun h4=>?_)
   · simp only[aB,seval]
     have h4':cu≠0:=by simpa using h4
     rw[aK h4']
     exact rW.same hS _ rfl
   have h4':cu=0:=by simpa using h4
   subst h4'
   rw[aN rfl]
   simp only[aB,seval]
   refine wX [(0,1),(1,1),(2,1),(3,1),(4,1),(5,1),(6,0),(7,0),(8,1)] [0,1,2,3,4,5,8] dJ mixed rfl dF ?_
   simp only[AS,cD,aT,aB,seval,rP]
   refine(GP hN hg ho z u hz (hgv rfl) bb _ hS).mono ?_
   rintro _ s2 ⟨rfl,hP⟩
   simp only[aB,seval]
   refine⟨dF,?_⟩
   refine(tQ _ _).to ?_
   simp only[aB,seval]
   exact⟨dF,rfl,hP⟩
 have aKT:s≠⟨#[97,114,103]⟩:=by simpa using h
 simp only[aB,seval,rP]
 refine(aVO s _).to ?_
 simp only[aB,seval]
 refine aQ (fun h=>?_) (fun h=>?_)
 · have hlen:ks.length=2:=by
    rcases hcs with ⟨h2,h3⟩ | ⟨h2,h3⟩ | ⟨h2,h3⟩ | ⟨h2,h3⟩
    · exact h2
    · simp [ht,hf] at h3
    · rcases h3 with rfl | rfl | rfl | rfl<;>exact absurd h (by decide)
    · exact absurd h3 aKT
   obtain⟨x,y,rfl⟩:=vM hlen
   have e:dC σ s [x,y]=(yI s x y,σ,[]):=by simp only[dC];rw[aN h]
   rw[e]
   have hc:=DT x y rfl
   simp only[bR,bS] at hc
   simp only[aB,seval,rP]
   refine(hc _).to ?_
   simp only[aB,seval]
   exact rW.same hS _ rfl
 · have hlen:ks.length=1∧(s=⟨#[118,97,114]⟩∨s=⟨#[110,111,110,118,97,114]⟩∨s=⟨#[97,116,111,109]⟩∨s=⟨#[105,110,116]⟩):=by
    rcases hcs with ⟨h2,h3⟩ | ⟨h2,h3⟩ | ⟨h2,h3⟩ | ⟨h2,h3⟩
    · simp [h,he,hne,hee,his] at h3
    · simp [ht,hf] at h3
    · exact⟨h2,h3⟩
    · exact absurd h3 aKT
   obtain⟨x,rfl⟩:=HN hlen.1
   have e:dC σ s [x]=(iG (uO s x),σ,[]):=rfl
   rw[e]
   have hc:=aK4 x rfl hlen.2
   simp only[bR,bS] at hc
   simp only[aB,seval,rP]
   refine(hc _).to ?_
   simp only[aB,seval]
   exact rW.same hS _ rfl
theorem W9(N:Nat)(σ:Sub):tO 4 (cS N σ):=by
 intro e h
 simp only[cS,cF] at h
 obtain⟨i,_,rfl⟩:=h
 refine⟨KF _,?_⟩
 cases σ (i:Int) with
 | none=>rfl
 | some u=>exact Tm.e9 u
theorem GN(N:Nat)(σ:Sub):∀e∈cS N σ,e.bV=false:=by
 intro e h
 simp only[cS,cF] at h
 obtain⟨i,_,rfl⟩:=h
 cases σ (i:Int) with
 | none=>rfl
 | some u=>exact Tm.fP u
theorem vA(N:Nat)(σ:Sub):(cS N σ).length=N:=by simp [cS]
theorem PL{N:Nat}(h0:0<N)(hN:N≤1048576)(σ:Sub){st:aA}{K:AV→aA→Prop}(hK:∀b,st b=none→fS N (st.aC b (.cells ((cS N σ).flatMap AV.cells))) b σ→K (.mslice b 0 N 4) (st.aC b (.cells ((cS N σ).flatMap AV.cells)))) :
 kF prog 46 st (.fslice []) (.slice (cS N σ)) K:=by
 have hl:=vA N σ
 refine gA (P:=prog) (st:=st) (b:=0) (l:=[]) (xs:=cS N σ) (x:=.slice (cS N σ)) (K:=K) bY lC lE rfl rfl (W9 N σ) (by simp) (by simp) (by simp only[bG,hl];omega) (by simp only[bG,hl];omega) (fun b hb=>?_)
 have hne: []++cS N σ≠[]:=by
  rw[eE]
  intro e
  rw[e] at hl
  simp at hl
  omega
 rw[r7 hne,lS hne,eE,hl]
 exact hK b (hb hne) (aA.aJ _ _ _)
theorem aTF{N:Nat}(h0:0<N)(hN:N≤1048576){σ:Sub}(hg:cO σ)(ho:cQ (bF N) σ)(n:Int)(s:ByteArray)(x y:Tm)(hs:s=⟨#[92,61]⟩)(hx:bF N x)(hy:bF N y)(st:aA) :
 aD prog 140 [(Tm.mk 3 n s [x,y]).av,.slice (cS N σ)] st (fun r st'=>r=.int .i64 (iG (!(iY σ x y).1))∧st'=st):=by
 have ht:s≠⟨#[116,114,117,101]⟩:=by subst hs;decide
 have hf:s≠⟨#[102,97,105,108]⟩:=by subst hs;decide
 have he:s≠⟨#[61]⟩:=by subst hs;decide
 refine aD.done ?_
 simp only[bD 3,bR,bS]
 refine wF [1000000] 2 func140 ntmps140 rfl rfl ?_
 intro _
 have eH:dP prog 46 (.slice [x.av,y.av]) (.int .i64 0)=some (.pptr x.av):=bH (av:=Tm.av) (l:=[x,y]) (i:=0) bY rfl (aT x)
 have gC:dP prog 46 (.slice [x.av,y.av]) (.int .i64 1)=some (.pptr y.av):=bH (av:=Tm.av) (l:=[x,y]) (i:=1) bY rfl (aT y)
 simp only[aB,seval,rP]
 refine aQ (fun h=>absurd (by simpa using h) ht) (fun h=>?_)
 simp only[aB,seval]
 refine aQ (fun h=>absurd (by simpa using h) hf) (fun h=>?_)
 simp only[aB,seval]
 refine aQ (fun h=>absurd (by simpa using h) he) (fun h=>?_)
 simp only[aB,seval]
 refine aQ (fun h=>?_) (fun h=>absurd hs (by simpa using h))
 simp only[aB,seval]
 refine wX [(0,1),(1,1),(2,1),(3,1),(4,1),(5,1),(6,1),(7,1),(8,1),(9,1),(10,0),(11,0),(12,1),(13,0),(14,1)] [0,1,2,3,4,5,6,7,8,9,12,14] dJ mixed rfl dF ?_
 simp only[eH,gC,cD,aT,aB,seval,rP]
 refine PL h0 hN σ fun b hb hA0=>?_
 have hD0:aO (st.aC b (.cells ((cS N σ).flatMap AV.cells))) st:=(aO.refl _).aC hb
 generalize st.aC b (.cells ((cS N σ).flatMap AV.cells))=s0 at *
 simp only[aB,seval]
 refine⟨dF,?_⟩
 refine(GP hN hg ho x y hx hy b _ hA0).mono ?_
 rintro _ s2 ⟨rfl,hA,hk⟩
 simp only[aB,seval]
 refine⟨dF,?_⟩
 refine(tQ _ _).to ?_
 simp only[aB,seval]
 refine⟨dF,rfl,fun q=>?_⟩
 have key:∀o,st q=some o→s2 q=some o:=fun o h=>hk q o ((hD0 q).2 o h) (by rintro rfl;rw[hb] at h;cases h)
 refine⟨fun h=>?_,key⟩
 cases hq:st q with
 | none=>rfl
 | some o=>rw[key o hq] at h;cases h
theorem aTE{N:Nat}(h0:0<N)(hN:N≤1048576){σ:Sub}(hg:cO σ)(ho:cQ (bF N) σ)(n:Int)(s:ByteArray)(ks:List Tm)(hb:isBuiltin s (ks.length:Int)=true)(hv:∀x∈ks,bF N x)(bb:Nat)(st:aA)(hS:fS N st bb σ) :
 aD prog 140 [(Tm.mk 3 n s ks).av,.mslice bb 0 N 4] st (rW N bb st (dC σ s ks)):=by
 by_cases hs:s=⟨#[92,61]⟩
 · obtain⟨x,y,rfl⟩:=vM (ts:=ks) (by subst hs;simp [isBuiltin] at hb;omega)
   have e:dC σ s [x,y]=(iG (!(iY σ x y).1),σ,[]):=by subst hs;rfl
   rw[e]
   have hc:=aTF h0 hN hg ho n s x y hs (hv x (by simp)) (hv y (by simp)) dJ
   refine(aD.aKH (args':=[(Tm.mk 3 n s [x,y]).av,.mslice bb 0 N 4]) (st:=st) rfl hc fun h vs S V=>?_).mono ?_
   · simp only[cT] at V ⊢
     obtain⟨v,vs',rfl,V1,w,ws',rfl,V2,rfl⟩:=V
     refine⟨v,[w],rfl,V1.mono ((aO.dJ st).step h),w,[],rfl,?_,rfl⟩
     have h2:=V2.fz S hS (GN N σ) ⟨4,CW N σ⟩
     have h3:(AV.mslice bb 0 N 4).fz bb (cS N σ)=.slice (cS N σ):=by simp [AV.fz,vA]
     rw[h3] at h2
     exact h2.mono ((aO.dJ (st.erase bb)).step h)
   · rintro _ _ ⟨rfl,rfl⟩
     exact rW.same hS _ rfl
 · exact aTD hN hg ho n s ks hb hs hv bb st hS
abbrev E7:=zi aX (zi cI cC)
theorem aTB{N:Nat}{σ:Sub}(hok:cQ (cJ N) σ){f:Nat}{t u:Tm}(hw:f9 σ f t u)(ht:cJ N t)(st:aA):aD prog 179 [t.av,.slice (cS N σ)] st (fun r st'=>r=u.av∧st'=st):=by
 refine aD.done ?_
 refine wF [1000000,2] 2 func179 ntmps179 rfl rfl ?_
 intro _
 have hlen:(cS N σ).length=N:=by simp [cS]
 simp only[aB,seval,E7]
 intro b2 h2 b4 h4
 have hne:b4≠b2:=by rintro rfl;rw[aA.aJ] at h4;cases h4
 have hn4:st b4=none:=by rw[aA.aF st _ hne] at h4;exact h4
 refine oI (σ:=Nat×Tm) [1000000,2] [1,2,4] (fun p=>f9 σ p.1 p.2 u∧cJ N p.2) (fun p=>[]) (fun p=>(st.aC b2 (.cells p.2.av.cells)).aC b4 (.cells [.int .i64 0,.int .i64 0,.str ⟨#[]⟩,.fslice []])) (fun p=>p.1) (by decide +kernel) ⟨(f,t),⟨hw,ht⟩,aP.mk (by simp only[aB,seval])⟩ ?_
 rintro⟨g,t⟩ ⟨hw,ht⟩
 obtain⟨k,n,s,ts⟩:=t
 simp only at hw ht
 simp only[bD]
 have rA:k≠1∨σ n=none→u=.mk k n s ts:=fun h=>by
  cases hw with
  | stop _=>rfl
  | go h1 h2 _=>
   simp only[Tm.k] at h1
   rcases h with h | h
   · exact absurd h1 h
   · rw[show σ n=some _ from h2] at h;cases h
 simp only[hne.symm,aB,seval,E7]
 refine cP (fun h=>?_) (fun h=>?_)
 case refine_2=>
  simp only[h,aM,hne.symm,aB,seval,E7]
  simp only[fG,cL] at h
  rw[rA (.inl h),←bD]
  exact⟨Tm.soft _,((aO.refl _).aC h2).aC hn4⟩
 simp only[bM] at h
 subst h
 obtain⟨hn0,hn1,_⟩:=ht.var
 obtain⟨i,rfl⟩:∃i:Nat,n=i:=⟨n.toNat,by omega⟩
 have hi:i<N:=by omega
 have hi':decide ((i:Int)<(N:Int))=true:=by simp;omega
 simp only[dU,hi',fX,hne.symm,hlen,aB,seval,E7]
 have hat:dP prog 46 (.slice (cS N σ)) (.int .i64 (i:Int))=some (.pptr (cellOf (σ (i:Int)))):=bH (av:=fun i:Nat=>cellOf (σ (i:Int))) bY (List.getElem?_range hi) (KF _)
 cases hw with
 | stop hs=>
  rw[show σ (i:Int)=none from hs rfl] at hat
  simp only[cellOf] at hat
  simp only[hat,dU,aM,hne.symm,aB,seval,E7]
  exact⟨by rw[←bD,Tm.soft],((aO.refl _).aC h2).aC hn4⟩
 | go h1 h2' h3=>
  simp only[Tm.n] at h2'
  have ho:=hok _ _ h2'
  rename_i g' u'
  obtain⟨k',n',s',ts'⟩:=u'
  have hk':¬k'=0:=by have:=ho.kind.1;omega
  rw[h2'] at hat
  simp only[cellOf,bD] at hat
  simp only[hat,hk',dW,aM,hne.symm,aB,seval,E7]
  rw[aA.zJ hne,aA.pJ _ _ _ hne]
  refine⟨(g',.mk k' n' s' ts'),Nat.lt_succ_self _,⟨h3,ho⟩,?_⟩
  simp only[bD]
  exact aP.mk (by simp only[aB,seval])
abbrev uR:=zi aX (zi d9 (zi cI (zi dD cC)))
theorem XK{N:Nat}{σ:Sub}{R:Int→Tm}{rk:Int→Nat}{B:Nat}(G:Good σ R rk B)(hok:cQ (bF N) σ) :
 ∀(room:Nat) (t:Tm) (st:aA),room≤120→bF N t→aD prog 156 [t.av,.slice (cS N σ),.int .i64 (room:Int)] st (Full (t.aL R) room st)
 | room,t,st,hr,ht=>by
  have IH:=fun(ML:Nat) (hlt:ML<room) (x:Tm) st=>XK G hok ML x st
  obtain⟨f,hw⟩:=G.wk t
  generalize wk σ t=u at *
  have LO:cQ (cJ N) σ:=fun n u hu=>(hok n u hu).1
  have hsu:=hw.all (p:=bF N) hok ht
  have hcw:=fun st=>aTB LO hw ht.1 st
  obtain⟨k,n,s,ts⟩:=u
  have hv:=aKM G hw (hsu.1.2.1)
  rw[hv]
  obtain⟨hlen,sP⟩:=Tm.rJ (hsu.1.small)
  have bCW:=hsu.1.kind.2
  have hkn:=hsu.1.all.2
  have hkk:∀x∈ts,bF N x:=fun x hx=>by
   refine⟨hkn x hx,?_⟩
   have:=hsu.2
   rw[Tm.lJ] at this
   have:=pC (f:=Tm.nodes) hx
   omega
  refine aD.oT (aD.fin ?_)
  refine wF [1000000,3,8] 3 func156 ntmps156 rfl rfl ?_
  intro _
  simp only[aB,seval,uR]
  intro b3 h3 b6 h6
  have h63:b6≠b3:=by rintro rfl;rw[aA.aJ] at h6;cases h6
  have hn6:st b6=none:=by rw[aA.aF st _ h63] at h6;exact h6
  have hwr:∀z:Int,-1≤z→z≤200→IntKind.i64.wrap z=z:=fun z h1 h2=>wrap64 (by omega) (by omega)
  have hw1:=hwr ((room:Int) - 1) (by omega) (by omega)
  refine aQ (fun h=>?_) (fun h=>?_)
  · simp only[bM] at h
    obtain rfl:room=0:=by omega
    simp only[aM,aB,↓aW,seval,uR]
    refine⟨0,[],_,rfl,by simp,by simp,⟨4,by simp⟩,st,(fun x=>by by_cases e3:x=b3<;>by_cases e6:x=b6<;>simp_all [aA.aC]),rfl,Tm.zero,-1,?_,Int.le_refl _,?_⟩
    · simp only[Tm.zero,bD,gJ,iM,gW,pV,nE,bR,bS]
    · rw[aK (by rw[Tm.lJ];omega)];decide
  simp only[cL] at h
  simp only[h63.symm,aB,seval,uR]
  refine(hcw _).to ?_
  simp only[bD]
  simp only[aM,h63.symm,hw1,aB,↓aW,seval,uR]
  intro b8 h8
  have h83:b8≠b3:=by rintro rfl;simp [aA.aC] at h8
  have h86:b8≠b6:=by rintro rfl;simp [aA.aC,h63] at h8
  have hn8:st b8=none:=by rw[aA.aF _ _ h83,aA.aF _ _ h86,aA.aF _ _ h83] at h8;exact h8
  rw[aA.zJ h63]
  have hW6:((st.aC b6 (.cells [.int .i64 0,.int .i64 0,.str ⟨#[]⟩,.fslice []])).aC b3 (.cells [.int .i64 k,.int .i64 n,.str s,.slice (ts.map Tm.av)])) b6=some (.cells [.int .i64 0,.int .i64 0,.str ⟨#[]⟩,.fslice []]):=by rw[aA.aF _ _ h63,aA.aJ]
  have hW3:((st.aC b6 (.cells [.int .i64 0,.int .i64 0,.str ⟨#[]⟩,.fslice []])).aC b3 (.cells [.int .i64 k,.int .i64 n,.str s,.slice (ts.map Tm.av)])) b3=some (.cells [.int .i64 k,.int .i64 n,.str s,.slice (ts.map Tm.av)]):=aA.aJ _ _ _
  have hWd:∀Y Z,aO ((((st.aC b6 (.cells [.int .i64 0,.int .i64 0,.str ⟨#[]⟩,.fslice []])).aC b3 (.cells [.int .i64 k,.int .i64 n,.str s,.slice (ts.map Tm.av)])).aC b8 Z).aC b6 Y) st:=fun Y Z x=>by
   by_cases e3:x=b3<;>by_cases e6:x=b6<;>by_cases e8:x=b8<;>simp_all [aA.aC]
  generalize ((st.aC b6 (.cells [.int .i64 0,.int .i64 0,.str ⟨#[]⟩,.fslice []])).aC b3 (.cells [.int .i64 k,.int .i64 n,.str s,.slice (ts.map Tm.av)]))=W at *
  have yS:(Tm.mk k n s (ts.map (Tm.aL R))).nodes=1+aH Tm.nodes (ts.map (Tm.aL R)):=Tm.lJ _ _ _ _
  refine dI (σ:=Nat×List Tm×Int) [1000000,3,8] [1,3,6,7,8] ts
   (fun i p=>(p.2.1.map Tm.av≠[]→(W.aC b8 (.cells ([.int .i64 k,.int .i64 n,.str s]++ [bQ 4 p.1 (p.2.1.map Tm.av)]))) p.1=none)∧p.2.1.length=i∧-1≤p.2.2 ∧
    (0≤p.2.2→p.2.1=(ts.take i).map (Tm.aL R)∧p.2.2=(room:Int) - 1 - aH Tm.nodes p.2.1)∧(p.2.2<0→room<1+aH Tm.nodes (ts.map (Tm.aL R))))
   (fun i p=>[(9,.int .i64 p.2.2),(10,.int .i64 i)])
   (fun i p=>lH W b8 p.1 [.int .i64 k,.int .i64 n,.str s] (p.2.1.map Tm.av)) (by decide +kernel)
   ⟨(0,[],(room:Int) - 1),⟨fun h=>absurd rfl h,rfl,by simp only;omega,fun _=>⟨by simp,by simp [aH]⟩,fun h=>by simp only at h;omega⟩,aP.mk (by simp only[aB,↓aW,seval])⟩ (fun i x p hx hlt a7 DU hinv=>?_) (fun p hge hinv=>?_)
  · obtain⟨b,acc,left⟩:=p
    obtain⟨i1,i2,i3,i4,i5⟩:=hinv
    simp only at i1 i2 i3 i4 i5
    have h3o:=oA i1 (x:=b3) (by rw[hW3];simp) h83.symm
    rw[hW3] at h3o
    simp only[a7,dU,fX,aE,h3o,aB,seval,uR]
    refine aQ (fun h9=>?_) (fun h9=>?_)
    case refine_2=>
     simp only[cL] at h9
     have hbo:=mF i1
     have h6o:=oA i1 (x:=b6) (by rw[hW6];simp) h86.symm
     rw[hW6] at h6o
     simp only[aM,hbo,h6o,iK,aB,seval,uR]
     obtain⟨g5,g6⟩:=vL (o:=.cells [.int .i64 k,.int .i64 n,.str s,bQ 4 b (acc.map Tm.av)]) i1 (show W b6≠none by rw[hW6];simp) h86.symm
     refine⟨b,_,_,g5,g6,tC _,⟨4,iX _⟩,st,hWd _ _,rfl,.mk k n s acc,left,?_,i3,?_⟩
     · simp only[iM,gJ,bR,bS,gW,pV,nT,bD]
     · rw[yS]
       skip
       rw[aK (by have:=i5 (by omega);omega)]
       omega
    simp only[bM] at h9
    obtain⟨e1,e2⟩:=i4 h9
    have fZ:=cH hx
    have hsl:=a8Q Tm.nodes (ts.map (Tm.aL R)) (i+1)
    rw[←FR,fN,hx] at hsl
    simp only[JJ,oN,bR,bS,EX,aH,←e1] at hsl
    obtain⟨ML,rfl⟩:∃r:Nat,left=r:=⟨left.toNat,by omega⟩
    have dO:(acc.map Tm.av).length=i:=by rw[aE,i2]
    have hw:=aZ (n:=(i:Int)+1)
    have hbo:=mF i1
    simp only[h3o,bH (av:=Tm.av) bY hx (aT x),cD,aT,aB,seval,uR]
    refine(IH ML (by omega) x _ (by omega) (hkk x fZ)).mono ?_
    rintro _ _ ⟨rfl,y,a44,rfl,hl1,hl2⟩
    simp only[cD,aT,Tm.e9,Tm.fP,hbo,rZ,aB,↓aW,seval,uR]
    refine gA bY lC lE rfl rfl (g8 (aT _) (Tm.e9 _)) (iX _) i1 (by simp only[dO,a8,bG];omega) (by simp only[dO,a8,bG];omega) (fun b' hb'=>?_)
    rw[show acc.map Tm.av++ [y.av]=(acc++ [y]).map Tm.av by simp] at hb' ⊢
    obtain⟨g1,g2,g3⟩:=xB hb'
    simp only[gR,eE] at g1 g3
    simp only[g3,nS,iK,g1,hw,aM,aB,seval,uR]
    refine⟨(b',acc++ [y],a44),⟨g2,by simp [i2],hl1,fun h=>?_,fun h=>?_⟩,aP.mk (by simp only[aB,seval])⟩
    · simp only at h
      split at hl2
      · obtain⟨rfl,hl3⟩:=hl2
        refine⟨by rw[fN,hx];simp [e1],?_⟩
        simp only[EX,aH]
        omega
      · omega
    · simp only at h
      split at hl2
      · omega
      · omega
  · obtain⟨b,acc,left⟩:=p
    obtain⟨i1,i2,i3,i4,i5⟩:=hinv
    simp only at i1 i2 i3 i4 i5
    rw[eD] at i4
    have h3o:=oA i1 (x:=b3) (by rw[hW3];simp) h83.symm
    rw[hW3] at h3o
    simp only[hge,aE,h3o,aB,seval,uR]
    have hbo:=mF i1
    have h6o:=oA i1 (x:=b6) (by rw[hW6];simp) h86.symm
    rw[hW6] at h6o
    simp only[aM,hbo,h6o,iK,aB,seval,uR]
    obtain⟨g5,g6⟩:=vL (o:=.cells [.int .i64 k,.int .i64 n,.str s,bQ 4 b (acc.map Tm.av)]) i1 (show W b6≠none by rw[hW6];simp) h86.symm
    refine⟨b,_,_,g5,g6,tC _,⟨4,iX _⟩,st,hWd _ _,rfl,.mk k n s acc,left,?_,i3,?_⟩
    · simp only[iM,gJ,bR,bS,gW,pV,nT,bD]
    · rw[yS]
      skip
      rcases Int.lt_or_le left 0 with h9 | h9
      · rw[aK (by have:=i5 h9;omega)];exact h9
      · obtain⟨e1,e2⟩:=i4 h9
        rw[←e1] at i5 ⊢
        rw[aN (by omega)]
        exact⟨rfl,by omega⟩
termination_by room=>room
decreasing_by exact hlt
end Go.AW
namespace Go.AW
def G8(c:Cl):Int:=(cA (c.1::c.2) []).foldl (fun n v=>if n≤v then v+1 else n) 0
def oV(c:Cl):Nat:=(G8 c).toNat
def dH(N:Nat)(t:Tm):Tm:=bZ (fun v=>v+(N:Int)) t
def fA(t:Tm):Bool:=t.flat 30&&decide (t.nodes≤120)
def sI(t:Tm):Bool:=decide (t.k=3)&&decide (t.s=⟨#[33]⟩)&&decide ((t.ts.length:Int)=0)
def HD(c:Cl)(t:Tm):Bool:=decide (c.1.s=t.s)&&decide ((c.1.ts.length:Int)=(t.ts.length:Int))
def eS(p:List Cl)(t:Tm):List Nat:=(List.range p.length).filter fun i=>match p[i]? with
 | some c=>HD c t
 | none=>false
def sL(c:Int):Int:=if c=2 then 4 else if c=3 then 5 else if c=4 then 6 else 7
noncomputable def jZ(σ:Sub)(vars:List Int):Option (List Tm):=
 if((vars.map (rs σ)).all fA=true)∧(cA (vars.map (rs σ)) []).length≤26 then some (kV (vars.map (rs σ))) else none
structure RG where
 t:Tm
 aU:Nat
structure RC where
 goal:Tm
 rest:List RG
 left:List Nat
 σ:Sub
 N:Nat
structure RS where
 goals:List RG
 σ:Sub
 N:Nat
 chs:List RC
inductive RO where
 | go (s:RS)
 | fail
 | stop (e:Int)
noncomputable def iO(p:List Cl)(chs:List RC)(goal:Tm)(rest:List RG)(σ:Sub)(N:Nat):List Nat→Option RS
 | []=>none
 | i::l=>match p[i]? with
  | none=>none
  | some x=>if(iY σ goal (dH N x.1)).1=true then
   some ⟨x.2.map (fun t=>⟨dH N t,chs.length⟩)++rest,(iY σ goal (dH N x.1)).2.1,N+oV x,if l= [] then chs else chs++ [⟨goal,rest,l,σ,N⟩]⟩
   else iO p chs goal rest σ N l
noncomputable def gT(p:List Cl):Nat→List RC→Option RS
 | 0,_=>none
 | n+1,chs=>match chs.getLast? with
  | none=>none
  | some c=>match iO p chs.dropLast c.goal c.rest c.σ c.N c.left with
   | some s=>some s
   | none=>gT p n chs.dropLast
noncomputable def lL(p:List Cl)(cnd:Tm→List Nat→List Nat)(s:RS)(g:RG)(rest:List RG):RO:=
 if fA (g.t.aL (rs s.σ))=false then .stop 3
 else if sI (g.t.aL (rs s.σ))=true then .go ⟨rest,s.σ,s.N,s.chs.take g.aU⟩
 else if isBuiltin (g.t.aL (rs s.σ)).s ((g.t.aL (rs s.σ)).ts.length:Int)=true then
  if(dC s.σ (g.t.aL (rs s.σ)).s (g.t.aL (rs s.σ)).ts).1=0 then .go ⟨rest,(dC s.σ (g.t.aL (rs s.σ)).s (g.t.aL (rs s.σ)).ts).2.1,s.N,s.chs⟩
  else if(dC s.σ (g.t.aL (rs s.σ)).s (g.t.aL (rs s.σ)).ts).1=1 then .fail
  else .stop (sL (dC s.σ (g.t.aL (rs s.σ)).s (g.t.aL (rs s.σ)).ts).1)
 else if eS p (g.t.aL (rs s.σ))= [] then .stop 8
 else match iO p s.chs (g.t.aL (rs s.σ)) rest s.σ s.N (cnd (g.t.aL (rs s.σ)) (eS p (g.t.aL (rs s.σ)))) with
  | some s'=>.go s'
  | none=>.fail
noncomputable def lK(p:List Cl)(cnd:Tm→List Nat→List Nat)(vars:List Int)(most fuel:Nat)(s:RS):List (List Tm)×Int:=
 match s.goals with
 | []=>if h:most=0 then([],1) else match jZ s.σ vars with
  | none=>([],3)
  | some a=>match gT p s.chs.length s.chs with
   | none=>([a],0)
   | some s'=>(a::(lK p cnd vars (most - 1) fuel s').1,(lK p cnd vars (most - 1) fuel s').2)
 | g::rest=>if h:fuel=0 then([],2) else match lL p cnd s g rest with
  | .stop e=>([],e)
  | .go s'=>lK p cnd vars most (fuel - 1) s'
  | .fail=>match gT p s.chs.length s.chs with
   | none=>([],0)
   | some s'=>lK p cnd vars most (fuel - 1) s'
termination_by most+fuel
decreasing_by all_goals omega
def nH(q:List Tm):RS:=⟨q.map fun t=>⟨t,0⟩,Sub.none,26,[]⟩
noncomputable def y9(p:List Cl)(cnd:Tm→List Nat→List Nat)(q:List Tm)(most fuel:Nat):List (List Tm)×Int:=lK p cnd (cA q []) most fuel (nH q)
structure IG where
 t:Tm
 cut:Nat
 up:Int
structure IC where
 goal:Tm
 node:Nat
 rest:List IG
 list:List Nat
 fK:Nat
 taken:Nat
structure IS where
 goals:List IG
 σ:Sub
 tr:List Int
 chs:List IC
 fresh:Nat
 nn:Nat
inductive xX where
 | go (s:IS)
 | fail (s:IS)
 | stop (e:Int)
noncomputable def f7(p:List Cl)(goal:Tm)(at':Nat)(rest:List IG):List Nat→IS→Bool×IS
 | [],s=>(false,s)
 | i::l,s=>match p[i]? with
  | none=>(false,s)
  | some x=>if(iY s.σ goal (dH s.fresh x.1)).1=true then
   (true,⟨x.2.map (fun t=>⟨dH s.fresh t,s.chs.length,at'⟩)++rest,(iY s.σ goal (dH s.fresh x.1)).2.1,s.tr++(iY s.σ goal (dH s.fresh x.1)).2.2,if l= [] then s.chs else s.chs++ [⟨goal,at',rest,l,s.tr.length,s.nn⟩],s.fresh+26,s.nn⟩)
   else f7 p goal at' rest l { s with fresh:=s.fresh+26 }
def IS.pop(s:IS)(c:IC):IS:={ s with chs:=s.chs.dropLast,σ:=s.σ.out (s.tr.drop c.fK),tr:=s.tr.take c.fK,nn:=c.taken }
noncomputable def gP(p:List Cl):Nat→IS→Option IS
 | 0,_=>none
 | n+1,s=>match s.chs.getLast? with
  | none=>none
  | some c=>if(f7 p c.goal c.node c.rest c.list (s.pop c)).1=true then some (f7 p c.goal c.node c.rest c.list (s.pop c)).2 else gP p n (f7 p c.goal c.node c.rest c.list (s.pop c)).2
noncomputable def mE(p:List Cl)(cnd:Tm→List Nat→List Nat)(s:IS)(g:IG)(rest:List IG):xX:=
 if fA (g.t.aL (rs s.σ))=false then .stop 3
 else if sI (g.t.aL (rs s.σ))=true then .go { s with goals:=rest,chs:=s.chs.take g.cut,nn:=s.nn+1 }
 else if isBuiltin (g.t.aL (rs s.σ)).s ((g.t.aL (rs s.σ)).ts.length:Int)=true then
  if(dC s.σ (g.t.aL (rs s.σ)).s (g.t.aL (rs s.σ)).ts).1=0 then .go { s with goals:=rest,σ:=(dC s.σ (g.t.aL (rs s.σ)).s (g.t.aL (rs s.σ)).ts).2.1,tr:=s.tr++(dC s.σ (g.t.aL (rs s.σ)).s (g.t.aL (rs s.σ)).ts).2.2,nn:=s.nn+1 }
  else if(dC s.σ (g.t.aL (rs s.σ)).s (g.t.aL (rs s.σ)).ts).1=1 then .fail { s with σ:=(dC s.σ (g.t.aL (rs s.σ)).s (g.t.aL (rs s.σ)).ts).2.1,tr:=s.tr++(dC s.σ (g.t.aL (rs s.σ)).s (g.t.aL (rs s.σ)).ts).2.2,nn:=s.nn+1 }
  else .stop (sL (dC s.σ (g.t.aL (rs s.σ)).s (g.t.aL (rs s.σ)).ts).1)
 else if eS p (g.t.aL (rs s.σ))= [] then .stop 8
 else if(f7 p (g.t.aL (rs s.σ)) s.nn rest (cnd (g.t.aL (rs s.σ)) (eS p (g.t.aL (rs s.σ)))) { s with nn:=s.nn+1 }).1=true then .go (f7 p (g.t.aL (rs s.σ)) s.nn rest (cnd (g.t.aL (rs s.σ)) (eS p (g.t.aL (rs s.σ)))) { s with nn:=s.nn+1 }).2
 else .fail (f7 p (g.t.aL (rs s.σ)) s.nn rest (cnd (g.t.aL (rs s.σ)) (eS p (g.t.aL (rs s.σ)))) { s with nn:=s.nn+1 }).2
noncomputable def jF(p:List Cl)(cnd:Tm→List Nat→List Nat)(vars:List Int)(most fuel:Nat)(s:IS):List (List Tm)×Int:=
 match s.goals with
 | []=>if h:most=0 then([],1) else match jZ s.σ vars with
  | none=>([],3)
  | some a=>match gP p s.chs.length s with
   | none=>([a],0)
   | some s'=>(a::(jF p cnd vars (most - 1) fuel s').1,(jF p cnd vars (most - 1) fuel s').2)
 | g::rest=>if h:fuel=0 then([],2) else match mE p cnd s g rest with
  | .stop e=>([],e)
  | .go s'=>jF p cnd vars most (fuel - 1) s'
  | .fail s'=>match gP p s'.chs.length s' with
   | none=>([],0)
   | some s''=>jF p cnd vars most (fuel - 1) s''
termination_by most+fuel
decreasing_by all_goals omega
def oY(q:List Tm):IS:=⟨q.map fun t=>⟨t,0,-1⟩,Sub.none,[],[],26,0⟩
structure oQ (ρ:Int→Int) (N F:Nat) (σ τ:Sub):Prop where
 sim:fV ρ N σ τ
 rng:∀v,0≤v→v<(N:Int)→0≤ρ v∧ρ v<(F:Int)
 g1:cO σ
 o1:cQ (bF N) σ
 g2:cO τ
 o2:cQ (bF F) τ
 d1:∀n,¬(0≤n∧n<(N:Int))→σ n=none
 d2:∀n,¬(0≤n∧n<(F:Int))→τ n=none
 h26:26≤N
 idn:∀v,0≤v→v<26→ρ v=v
theorem oQ.mono{ρ:Int→Int}{N F F':Nat}{σ τ:Sub}(S:oQ ρ N F σ τ)(h:F≤F'):oQ ρ N F' σ τ:=
 ⟨S.sim,fun v h0 h1=>⟨(S.rng v h0 h1).1,by have:=(S.rng v h0 h1).2;omega⟩,S.g1,S.o1,S.g2,S.o2.imp fun t ht=>ht.mono (by omega),S.d1,fun n hn=>S.d2 n fun h'=>hn ⟨h'.1,by omega⟩,S.h26,S.idn⟩
def tZ(ρ:Int→Int)(N F:Nat):Int→Int:=fun v=>if v<(N:Int) then ρ v else v - N+F
theorem vF{ρ:Int→Int}{N F:Nat}{v:Int}(h:v<(N:Int)):tZ ρ N F v=ρ v:=aN h
theorem oQ.ext{ρ:Int→Int}{N F:Nat}{σ τ:Sub}(S:oQ ρ N F σ τ){k:Nat}(hk:k≤26):oQ (tZ ρ N F) (N+k) (F+26) σ τ:=by
 have kM:∀v:Int,¬v<(N:Int)→tZ ρ N F v=v - N+F:=fun v h=>aK h
 refine⟨⟨fun v w hv0 hv1 hw0 hw1 e=>?_,fun v h0 h1=>?_⟩,fun v h0 h1=>?_,S.g1,S.o1.imp fun t ht=>ht.mono (by omega),S.g2,S.o2.imp fun t ht=>ht.mono (by omega),fun n hn=>S.d1 n fun h=>hn ⟨h.1,by omega⟩,fun n hn=>S.d2 n fun h=>hn ⟨h.1,by omega⟩,by have:=S.h26;omega,fun v h0 h1=>by rw[vF (by have:=S.h26;omega)];exact S.idn v h0 h1⟩
 · by_cases hv:v<(N:Int)<;>by_cases hw:w<(N:Int)
   · rw[vF hv,vF hw] at e;exact S.sim.inj v w hv0 hv hw0 hw e
   · rw[vF hv,kM w hw] at e
     have:=S.rng v hv0 hv
     omega
   · rw[vF hw,kM v hv] at e
     have:=S.rng w hw0 hw
     omega
   · rw[kM v hv,kM w hw] at e
     omega
 · by_cases hv:v<(N:Int)
   · rw[vF hv,S.sim.map v h0 hv]
     cases hs:σ v with
     | none=>rfl
     | some u=>
      simp only[qM,Option.some.injEq]
      refine TL fun w hw=>?_
      rw[vF ((S.o1 v u hs).1.2.2 w hw).2]
   · rw[kM v hv,S.d1 v (fun h=>hv h.2),S.d2 _ (fun h=>by omega)]
     try rfl
 · by_cases hv:v<(N:Int)
   · rw[vF hv]
     have:=S.rng v h0 hv
     omega
   · rw[kM v hv];omega
theorem aKG(l:List Int):∀n:Int,n≤l.foldl (fun n v=>if n≤v then v+1 else n) n∧(∀v∈l,v<l.foldl (fun n v=>if n≤v then v+1 else n) n)∧∀m:Int,n≤m→(∀v∈l,v<m)→l.foldl (fun n v=>if n≤v then v+1 else n) n≤m:=by
 induction l with
 | nil=>intro n;exact⟨Int.le_refl _,by simp,fun m h _=>h⟩
 | cons x l ih=>
  intro n
  simp only[List.foldl_cons]
  obtain⟨h1,h2,h3⟩:=ih (if n≤x then x+1 else n)
  refine⟨?_,fun v hv=>?_,fun m hm hl=>h3 m ?_ fun v hv=>hl v (by simp [hv])⟩
  · split at h1<;>rename_i h<;>split<;>omega
  · rcases cG.1 hv with rfl | hv
    · split at h1<;>rename_i h<;>split<;>omega
    · exact h2 v hv
  · have:=hl x (by simp)
    split<;>omega
structure gF (c:Cl):Prop where
 head:bF 26 c.1
 body:∀t∈c.2,bF 26 t∧t.k=3
theorem gF.vars{c:Cl}(h:gF c){v:Int}:v∈cA (c.1::c.2) []↔∃t∈c.1::c.2,v∈t.vl:=by
 rw[xR]
 · simp
 · intro t ht
   rcases cG.1 ht with rfl | ht
   · exact h.head.1.2.1
   · exact(h.body t ht).1.1.2.1
theorem gF.EF{c:Cl}(h:gF c):∀t∈c.1::c.2,bF 26 t:=fun t ht=>by
 rcases cG.1 ht with rfl | ht
 · exact h.head
 · exact(h.body t ht).1
theorem gF.fr{c:Cl}(h:gF c):oV c≤26∧∀t∈c.1::c.2,∀v∈t.vl,v<(oV c:Int):=by
 obtain⟨h1,h2,h3⟩:=aKG (cA (c.1::c.2) []) 0
 have hle:=h3 26 (by omega) fun v hv=>by
  obtain⟨t,ht,hv⟩:=h.vars.1 hv
  exact((h.EF t ht).1.2.2 v hv).2
 unfold oV G8
 refine⟨by omega,fun t ht v hv=>?_⟩
 have:=h2 v (h.vars.2 ⟨t,ht,hv⟩)
 omega
theorem gF.dH{c:Cl}(h:gF c)(N:Nat):∀t∈c.1::c.2,bF ((N+oV c:Nat):Int) (dH N t):=fun t ht=>by
 refine(h.EF t ht).bZ fun v hv=>?_
 have h1:=((h.EF t ht).1.2.2 v hv).1
 have h2:=h.fr.2 t ht v hv
 omega
theorem TR{ρ:Int→Int}{N F:Nat}{c:Cl}(h:gF c):∀t∈c.1::c.2,bZ (tZ ρ N F) (dH N t)=dH F t:=fun t ht=>by
 unfold AW.dH
 rw[show bZ (tZ ρ N F) (bZ (fun v=>v+(N:Int)) t)=t.aL fun v=>vr (tZ ρ N F (v+N)) from H6 _ _ t]
 refine o7 t fun v hv=>?_
 have h1:=((h.EF t ht).1.2.2 v hv).1
 show vr (tZ ρ N F (v+(N:Int)))=vr (v+(F:Int))
 unfold tZ
 rw[aK (by omega)]
 congr 1
 omega
theorem aNY{N:Nat}(t:Tm):(dH N t).k=t.k:=yY _ t
def GL(ρ:Int→Int)(N:Nat)(gs:List RG)(hs:List IG):Prop:=hs.map (fun h=>(h.t,h.cut))=gs.map (fun g=>(bZ ρ g.t,g.aU))∧∀g∈gs,bF N g.t∧g.t.k=3
theorem GL.ext{ρ ρ':Int→Int}{N N':Nat}{gs:List RG}{hs:List IG}(h:GL ρ N gs hs)(hN:N≤N')(hr:∀v,0≤v→v<(N:Int)→ρ' v=ρ v):GL ρ' N' gs hs:=by
 refine⟨h.1.trans (qK fun g hg=>?_),fun g hg=>⟨(h.2 g hg).1.mono (by omega),(h.2 g hg).2⟩⟩
 rw[TL (ρ:=ρ) (ρ':=ρ') fun v hv=>(hr v ((h.2 g hg).1.1.2.2 v hv).1 ((h.2 g hg).1.1.2.2 v hv).2).symm]
theorem GL.app{ρ:Int→Int}{N:Nat}{gs gs':List RG}{hs hs':List IG}(h:GL ρ N gs hs)(h':GL ρ N gs' hs'):GL ρ N (gs++gs') (hs++hs'):=by
 refine⟨by rw[oN,oN,h.1,h'.1],fun g hg=>?_⟩
 rcases eL.1 hg with hg | hg
 · exact h.2 g hg
 · exact h'.2 g hg
def C1(F:Nat)(c:RC)(d:IC)(τ:Sub):Prop:=∃ρ,oQ ρ c.N F c.σ τ∧d.goal=bZ ρ c.goal∧bF c.N c.goal∧GL ρ c.N c.rest d.rest∧d.list=c.left
inductive iI (F:Nat):List RC→List IC→Sub→List Int→Prop
 | nil {τ:Sub} {tr:List Int}:iI F [] [] τ tr
 | snoc {cs:List RC} {ds:List IC} {c:RC} {d:IC} {τ:Sub} {tr:List Int} (h:iI F cs ds (τ.out (tr.drop d.fK)) (tr.take d.fK)) (h1:C1 F c d (τ.out (tr.drop d.fK))) (h2:d.fK≤tr.length):iI F (cs++ [c]) (ds++ [d]) τ tr
theorem iI.len{F:Nat}{cs:List RC}{ds:List IC}{τ:Sub}{tr:List Int}(h:iI F cs ds τ tr):ds.length=cs.length:=by
 induction h with
 | nil=>rfl
 | snoc _ _ _ ih=>simp [ih]
theorem iI.mono{F F':Nat}(hF:F≤F'){cs:List RC}{ds:List IC}{τ:Sub}{tr:List Int}(h:iI F cs ds τ tr):iI F' cs ds τ tr:=by
 induction h with
 | nil=>exact .nil
 | snoc _ h1 h2 ih=>exact .snoc ih (by obtain⟨ρ,h3,h4⟩:=h1;exact⟨ρ,h3.mono hF,h4⟩) h2
theorem aXT(tr:List Int){a m:Nat}(h:a≤m)(n:Int):n∈tr.drop m++(tr.take m).drop a↔n∈tr.drop a:=by
 have e:tr.drop a=(tr.take m).drop a++tr.drop m:=by
  conv=>lhs;rw[←oO m tr]
  rw[List.drop_append]
  by_cases hm:m≤tr.length
  · rw[dZ,kQ hm,show a - m=0 by omega,tH]
  · rw[List.drop_of_length_le (show tr.length≤m by omega)]
    simp
 rw[e,eL,eL,or_comm]
theorem iI.lift{F:Nat}{cs:List RC}{ds:List IC}{τ:Sub}{tr:List Int}{m:Nat}(h:iI F cs ds (τ.out (tr.drop m)) (tr.take m))(hm:m≤tr.length):iI F cs ds τ tr:=by
 generalize hτ:τ.out (tr.drop m)=τ' at h
 generalize htr:tr.take m=tr' at h
 cases h with
 | nil=>exact .nil
 | @snoc cs ds c d _ _ h h1 h2=>
  subst hτ htr
  have hd:d.fK≤m:=by rw[dZ] at h2;omega
  have e1:(τ.out (tr.drop m)).out ((tr.take m).drop d.fK)=τ.out (tr.drop d.fK):=by
   rw[Sub.a6X]
   exact Sub.a6Y τ (aXT tr hd)
  have e2:(tr.take m).take d.fK=tr.take d.fK:=by rw[zT,kQ hd]
  rw[e1,e2] at h
  rw[e1] at h1
  exact .snoc h h1 (by omega)
theorem iI.more{F:Nat}{cs:List RC}{ds:List IC}{τ τ':Sub}{tr add:List Int}(h:iI F cs ds τ tr)(e:τ'.out add=τ):iI F cs ds τ' (tr++add):=by
 refine iI.lift (m:=tr.length) ?_ (by simp)
 rw[FP,CC,e]
 exact h
theorem iI.take{F:Nat}{cs:List RC}{ds:List IC}{τ:Sub}{tr:List Int}(h:iI F cs ds τ tr)(k:Nat):iI F (cs.take k) (ds.take k) τ tr:=by
 induction h with
 | nil=>simp;exact .nil
 | @snoc cs ds c d τ tr h h1 h2 ih=>
  have hl:=h.len
  by_cases hk:k≤cs.length
  · rw[CB hk,CB (by omega)]
    exact ih.lift h2
  · rw[m9 (by simp;omega),m9 (by simp;omega)]
    exact .snoc h h1 h2
def Rl(s:RS)(i:IS):Prop:=∃ρ,oQ ρ s.N i.fresh s.σ i.σ∧GL ρ s.N s.goals i.goals∧iI i.fresh s.chs i.chs i.σ i.tr
theorem zY.BK{N:Int}{σ:Sub}{a b:Tm}{r:Bool}{σ':Sub}{tr:List Int}(h:zY N σ a b r σ' tr):σ'.out tr=σ:=funext fun n=>h.out n
theorem nB.BK{N:Int}{σ σ':Sub}{add:List Int}(h:nB N σ σ' add):σ'.out add=σ:=by
 funext n
 unfold Sub.out
 split
 · rename_i hn;exact((h.new n hn).1).symm
 · rename_i hn;exact h.aU n hn
theorem nB.wQ{N:Nat}{σ σ':Sub}{add:List Int}(h:nB N σ σ' add)(hd:∀n,¬(0≤n∧n<(N:Int))→σ n=none):∀n,¬(0≤n∧n<(N:Int))→σ' n=none:=fun n hn=>by
 rw[h.aU n fun h'=>hn (h.gE n h')]
 exact hd n hn
theorem oQ.grow{ρ:Int→Int}{N F:Nat}{σ τ σ' τ':Sub}{add aRV:List Int}(S:oQ ρ N F σ τ)(h:nB N σ σ' add)(h':nB F τ τ' aRV)(s:fV ρ N σ' τ'):oQ ρ N F σ' τ':=
 ⟨s,S.rng,h.gX,h.ok,h'.gX,h'.ok,h.wQ S.d1,h'.wQ S.d2,S.h26,S.idn⟩
theorem oQ.BN{ρ:Int→Int}{N F:Nat}{σ τ:Sub}(S:oQ ρ N F σ τ){t:Tm}(h:bF N t):bF F (bZ ρ t):=h.bZ fun v hv=>S.rng v (h.1.2.2 v hv).1 (h.1.2.2 v hv).2
section
variable {p:List Cl} (hp:∀c∈p,gF c)
include hp
theorem N9{cs:List RC}{goal:Tm}{rest:List RG}{σ:Sub}{N:Nat}{ρ:Int→Int}{TN:List IG}{τ:Sub}{tr:List Int}{ds:List IC}{nn at':Nat}(hg:bF N goal)(hr:GL ρ N rest TN) :
 ∀(l:List Nat) (F:Nat) (gl:List IG),oQ ρ N F σ τ→iI F cs ds τ tr →
 match iO p cs goal rest σ N l with
 | none=>∃F',F≤F'∧f7 p (bZ ρ goal) at' TN l ⟨gl,τ,tr,ds,F,nn⟩=(false,⟨gl,τ,tr,ds,F',nn⟩)
 | some s=>∃i,f7 p (bZ ρ goal) at' TN l ⟨gl,τ,tr,ds,F,nn⟩=(true,i)∧Rl s i:=by
 intro l
 induction l with
 | nil=>intro F gl S C;exact⟨F,cZ _,rfl⟩
 | cons j l ih=>
  intro F gl S C
  unfold iO f7
  cases hj:p[j]? with
  | none=>exact⟨F,cZ _,rfl⟩
  | some x=>
   have hx:=hp x (cH hj)
   have S2:=S.ext hx.fr.1
   have hgo:bZ (tZ ρ N F) goal=bZ ρ goal:=TL fun v hv=>vF (hg.1.2.2 v hv).2
   have hhd:=hx.dH N x.1 (by simp)
   have hgN:bF ((N+oV x:Nat):Int) goal:=hg.mono (by omega)
   obtain⟨r,σ',add,U⟩:=uU S2.g1 S2.o1 hgN hhd
   obtain⟨g,lG⟩:=U.run
   obtain⟨τ',e,S',_⟩:=S2.sim.iY S2.g1 S2.g2 S2.o1.mI hgN.1 hhd.1 lG
   rw[hgo,TR hx x.1 (by simp)] at e
   have hF1:bF ((F+26:Nat):Int) (bZ ρ goal):=by rw[←hgo];exact S2.BN hgN
   have hF2:bF ((F+26:Nat):Int) (dH F x.1):=by rw[←TR (ρ:=ρ) (N:=N) (F:=F) hx x.1 (by simp)];exact S2.BN hhd
   obtain⟨r2,τ2,aRW,U2⟩:=uU S2.g2 S2.o2 hF1 hF2
   have e2:=U2.eq
   rw[e] at e2
   obtain⟨rfl,rfl,rfl⟩:r=r2∧τ'=τ2∧add.map (tZ ρ N F)=aRW:=by simpa using e2
   simp only[U.eq,e]
   cases r with
   | false=>
    simp only[iE,cM]
    have:=ih (F+26) gl (S.mono (by omega)) (C.mono (by omega))
    cases hq:iO p cs goal rest σ N l with
    | none=>
     rw[hq] at this
     obtain⟨F',h1,h2⟩:=this
     exact⟨F',by omega,h2⟩
    | some s=>
     rw[hq] at this
     exact this
   | true=>
    simp only[dV]
    refine⟨_,rfl,tZ ρ N F,S2.grow U.xN U2.xN S',?_,?_⟩
    · refine GL.app ⟨?_,fun g hg=>?_⟩ (hr.ext (show N≤N+oV x by omega) fun v _ hv=>vF hv)
      · simp only[uY]
        refine qK fun t ht=>?_
        simp only[FN]
        rw[TR hx t (by simp [ht]),C.len]
      · obtain⟨t,ht,rfl⟩:=cF.1 hg
        exact⟨hx.dH N t (by simp [ht]),by rw[aNY];exact(hx.body t ht).2⟩
    · have C2:=(C.mono (show F≤F+26 by omega)).more U2.BK
      by_cases hl:l= []
      · simp only[aN hl]
        exact C2
      · simp only[aK hl]
        refine .snoc ?_ ?_ (by simp)
        · simp only[FP,CC,U2.BK]
          exact C.mono (by omega)
        · simp only[FP,U2.BK]
          exact⟨ρ,S.mono (by omega),rfl,hg,hr,rfl⟩
theorem PP:∀(n:Nat) (cs:List RC) (i:IS),iI i.fresh cs i.chs i.σ i.tr →
 match gT p n cs with
 | none=>gP p n i=none
 | some s=>∃i',gP p n i=some i'∧Rl s i':=by
 intro n
 induction n with
 | zero=>intro cs i C;simp only[gT,gP]
 | succ n ih=>
  intro cs i C
  obtain⟨gl,τ,tr,ds,F,nn⟩:=i
  simp only at C
  cases C with
  | nil=>simp only[gT,gP,List.getLast?_nil]
  | @snoc cs ds c d _ _ h h1 h2=>
   obtain⟨ρ,S,e1,hok,hG,e2⟩:=h1
   have key:=N9 hp (cs:=cs) (nn:=d.taken) (at':=d.node) (tr:=tr.take d.fK) hok hG c.left F gl S h
   simp only[gT,gP,List.getLast?_append,List.getLast?_singleton,Option.some_or,OQ]
   have e3:(IS.pop ⟨gl,τ,tr,ds++ [d],F,nn⟩ d)=⟨gl,τ.out (tr.drop d.fK),tr.take d.fK,ds,F,d.taken⟩:=by simp only[IS.pop,OQ]
   rw[e1,e2,e3]
   cases ht:iO p cs c.goal c.rest c.σ c.N c.left with
   | none=>
    rw[ht] at key
    obtain⟨F',hF,e⟩:=key
    simp only[e,iE,cM]
    exact ih cs _ (h.mono hF)
   | some s=>
    rw[ht] at key
    obtain⟨i',e,hR⟩:=key
    simp only[e,dV]
    exact⟨i',rfl,hR⟩
variable {cnd:Tm→List Nat→List Nat} (hc:∀(ρ:Int→Int) (t:Tm) (l:List Nat),cnd (bZ ρ t) l=cnd t l)
omit hp in
theorem aNK{ρ:Int→Int}{t:Tm}(h:t.k=3):(bZ ρ t).s=t.s∧(bZ ρ t).ts=t.ts.map (bZ ρ)∧(bZ ρ t).k=3:=by
 rw[EQ ρ (by omega)]
 exact⟨rfl,rfl,h⟩
omit hp in
theorem a1R{ρ:Int→Int}{t:Tm}(h:t.k=3):eS p (bZ ρ t)=eS p t:=by
 obtain⟨h1,h2,_⟩:=aNK (ρ:=ρ) h
 unfold eS HD
 simp only[h1,h2,aE]
include hc
theorem aN9{s:RS}{i:IS}{g:RG}{gs:List RG}(hR:Rl s i)(hgs:s.goals=g::gs) :
 ∃h hs,i.goals=h::hs∧match lL p cnd s g gs with
 | .stop e=>mE p cnd i h hs=.stop e
 | .go s'=>∃i',mE p cnd i h hs=.go i'∧Rl s' i'
 | .fail=>∃i',mE p cnd i h hs=.fail i'∧iI i'.fresh s.chs i'.chs i'.σ i'.tr:=by
 obtain⟨ρ,S,hG,C⟩:=hR
 rw[hgs] at hG
 obtain⟨gl,τ,tr,ds,F,nn⟩:=i
 simp only at S hG C ⊢
 cases gl with
 | nil=>exact absurd hG.1 (by simp)
 | cons h hs=>
  refine⟨h,hs,rfl,?_⟩
  have hGt:GL ρ s.N gs hs:=⟨(pK hG.1).2,fun x hx=>hG.2 x (by simp [hx])⟩
  have he:=(pK hG.1).1
  simp only[Prod.mk.injEq] at he
  obtain⟨e1,e2⟩:=he
  obtain⟨hgX,hg3⟩:=hG.2 g (by simp)
  have hT:=S.sim.rsT S.g1 S.g2 S.o1.mI hgX.1
  obtain⟨rk,B,G⟩:=S.g1.rs
  have hV:=G.SV S.o1.mI hgX.1
  unfold lL mE
  simp only[e1,hT]
  have ht3:(g.t.aL (rs s.σ)).k=3:=by rw[Tm.rF _ (by omega)];exact hg3
  generalize g.t.aL (rs s.σ)=t at *
  obtain⟨r1,r2,r3⟩:=aNK (ρ:=ρ) ht3
  have eW:fA (bZ ρ t)=fA t:=by unfold fA;rw[TM ρ hV.2.1,MK ρ hV.2.1]
  have HC:sI (bZ ρ t)=sI t:=by unfold sI;rw[r1,r2,r3,ht3,aE]
  simp only[eW,HC,a1R (p:=p) (ρ:=ρ) ht3,hc,r1,r2,aE]
  by_cases c1:fA t=false
  · rw[aN c1,aN c1]
  rw[aK c1,aK c1]
  have hX:bF s.N t:=⟨hV,by
   have:fA t=true:=by simpa using c1
   unfold fA at this
   simp only[cY,bM] at this
   exact this.2⟩
  by_cases c2:sI t=true
  · rw[aN c2,aN c2]
    refine⟨_,rfl,ρ,S,hGt,?_⟩
    simp only[e2]
    exact C.take g.aU
  rw[aK c2,aK c2]
  by_cases c3:isBuiltin t.s (t.ts.length:Int)=true
  · rw[aN c3,aN c3]
    have hk:∀x∈t.ts,bF s.N x:=rG _ t (by omega) hX
    obtain⟨q1,q2,q3⟩:=S.sim.dC S.g1 S.g2 S.o1 t.s t.ts hk
    have q4:=MQ S.g1 S.o1 t.s t.ts hk
    have q5:=MQ S.g2 S.o2 t.s (t.ts.map (bZ ρ)) (fun x hx=>by
     obtain⟨y,hy,rfl⟩:=cF.1 hx
     exact S.BN (hk y hy))
    rw[q1]
    by_cases c4:(dC s.σ t.s t.ts).1=0
    · rw[aN c4,aN c4]
      exact⟨_,rfl,ρ,S.grow q4 q5 q3,hGt,C.more q5.BK⟩
    rw[aK c4,aK c4]
    by_cases c5:(dC s.σ t.s t.ts).1=1
    · rw[aN c5,aN c5]
      exact⟨_,rfl,C.more q5.BK⟩
    rw[aK c5,aK c5]
  rw[aK c3,aK c3]
  by_cases c6:eS p t= []
  · rw[aN c6,aN c6]
  rw[aK c6,aK c6]
  have key:=N9 hp (at':=nn) (nn:=nn+1) hX hGt (cnd t (eS p t)) F (h::hs) S C
  cases hq:iO p s.chs t gs s.σ s.N (cnd t (eS p t)) with
  | none=>
   rw[hq] at key
   obtain⟨F',hF,e⟩:=key
   simp only[e,iE,cM]
   exact⟨_,rfl,C.mono hF⟩
  | some s'=>
   rw[hq] at key
   obtain⟨i',e,hR⟩:=key
   simp only[e,dV]
   exact⟨i',rfl,hR⟩
end
theorem aQE{ρ:Int→Int}{N:Int}{σ τ:Sub}(S:fV ρ N σ τ):∀(l:List Tm) (acc:List Int),(∀t∈l,cJ N t)→(∀v∈acc,0≤v∧v<N)→cA (l.map (bZ ρ)) (acc.map ρ)=(cA l acc).map ρ∧∀v∈cA l acc,0≤v∧v<N
 | [],acc,_,ha=>⟨rfl,ha⟩
 | t::l,acc,h,ha=>by
  obtain⟨e1,e2⟩:=aQT (D:=fun v=>0≤v∧v<N) (h:=ρ) (fun v w hv hw e=>S.inj v w hv.1 hv.2 hw.1 hw.2 e) (f:=fun v=>vr (ρ v)) (fun _ _=>rfl) t (Tm.tT t (h t (by simp)).2.1) (h t (by simp)).2.2 acc ha
  simp only[bR,cA]
  rw[show(bZ ρ t).vars (acc.map ρ)=(t.vars acc).map ρ from e1]
  exact aQE S l _ (fun x hx=>h x (by simp [hx])) e2
theorem a7R{ρ:Int→Int}{N:Int}{σ τ:Sub}(S:fV ρ N σ τ){l:List Tm}(h:∀t∈l,cJ N t):kV (l.map (bZ ρ))=kV l∧(cA (l.map (bZ ρ)) []).length=(cA l []).length:=by
 obtain⟨e1,e2⟩:=aQE S l [] h (by simp)
 rw[bS] at e1
 refine⟨?_,by rw[e1,aE]⟩
 unfold kV
 rw[e1,uY]
 refine qK fun t ht=>?_
 simp only[FN]
 rw[H6]
 refine o7 t fun v hv=>?_
 rw[SJ (D:=fun v=>0≤v∧v<N) (fun v w hv hw e=>S.inj v w hv.1 hv.2 hw.1 hw.2 e) v ((h t ht).2.2 v hv) _ _ e2]
theorem aRY{ρ:Int→Int}{N F:Nat}{σ τ:Sub}(S:oQ ρ N F σ τ){vars:List Int}(hv:∀v∈vars,0≤v∧v<26):jZ τ vars=jZ σ vars:=by
 obtain⟨rk,B,G⟩:=S.g1.rs
 have hid:=S.idn
 have h26:=S.h26
 have e:vars.map (rs τ)=(vars.map (rs σ)).map (bZ ρ):=by
  rw[uY]
  refine qK fun v h=>?_
  obtain⟨h0,h1⟩:=hv v h
  have:=S.sim.rs S.g1 S.g2 S.o1.mI v h0 (by omega)
  rw[hid v h0 h1] at this
  exact this
 have hok:∀t∈vars.map (rs σ),cJ N t:=fun t ht=>by
  obtain⟨v,h,rfl⟩:=cF.1 ht
  obtain⟨h0,h1⟩:=hv v h
  exact G.mI S.o1.mI v h0 (by omega)
 obtain⟨e1,e2⟩:=a7R S.sim hok
 have e3:((vars.map (rs σ)).map (bZ ρ)).all fA=(vars.map (rs σ)).all fA:=by
  rw[List.all_map,zR,fU,fU]
  have:∀t∈vars.map (rs σ),fA (bZ ρ t)=fA t:=fun t ht=>by unfold fA;rw[TM ρ (hok t ht).2.1,MK ρ (hok t ht).2.1]
  constructor
  · intro h t ht;rw[←this t ht];exact h t ht
  · intro h t ht;simp only[FN];rw[this t ht];exact h t ht
 unfold jZ
 rw[e,e1,e2,e3]
section
variable {p:List Cl} (hp:∀c∈p,gF c) {cnd:Tm→List Nat→List Nat} (hc:∀(ρ:Int→Int) (t:Tm) (l:List Nat),cnd (bZ ρ t) l=cnd t l)
include hp hc
theorem a7Y{vars:List Int}(hv:∀v∈vars,0≤v∧v<26):∀(n most fuel:Nat) (s:RS) (i:IS),most+fuel≤n→Rl s i→jF p cnd vars most fuel i=lK p cnd vars most fuel s:=by
 intro n
 induction n with
 | zero=>
  intro most fuel s i hn hR
  obtain⟨rfl,rfl⟩:most=0∧fuel=0:=by omega
  obtain⟨ρ,S,hG,C⟩:=hR
  rw[jF,lK]
  cases hgs:s.goals with
  | nil=>
   rw[hgs] at hG
   have hi:i.goals= []:=List.map_eq_nil_iff.1 hG.1
   simp [hi]
  | cons g gs=>
   rw[hgs] at hG
   cases hi:i.goals with
   | nil=>rw[hi] at hG;exact absurd hG.1 (by simp)
   | cons h hs=>simp
 | succ n ih=>
  intro most fuel s i hn hR
  cases hgs:s.goals with
  | nil=>
   obtain⟨ρ,S,hG,C⟩:=hR
   rw[hgs] at hG
   have hi:i.goals= []:=List.map_eq_nil_iff.1 hG.1
   rw[jF,lK]
   simp only[hgs,hi]
   by_cases hm:most=0
   · simp [hm]
   simp only[hm,dif_neg,EC]
   rw[aRY S hv]
   cases jZ s.σ vars with
   | none=>rfl
   | some a=>
    simp only
    have key:=PP hp s.chs.length s.chs i C
    rw[C.len]
    cases hb:gT p s.chs.length s.chs with
    | none=>rw[hb] at key;simp only[key]
    | some s'=>
     rw[hb] at key
     obtain⟨i',e,hR'⟩:=key
     simp only[e]
     rw[ih (most - 1) fuel s' i' (by omega) hR']
  | cons g gs=>
   obtain⟨h,hs,hi,key⟩:=aN9 hp hc hR hgs
   rw[jF,lK]
   simp only[hgs,hi]
   by_cases hf:fuel=0
   · simp [hf]
   simp only[hf,dif_neg,EC]
   cases hq:lL p cnd s g gs with
   | stop e=>
    rw[hq] at key
    simp only[key]
   | go s'=>
    rw[hq] at key
    obtain⟨i',e,hR'⟩:=key
    simp only[e]
    exact ih most (fuel - 1) s' i' (by omega) hR'
   | fail=>
    rw[hq] at key
    obtain⟨i',e,C'⟩:=key
    simp only[e]
    have L2:=PP hp s.chs.length s.chs i' C'
    rw[C'.len]
    cases hb:gT p s.chs.length s.chs with
    | none=>rw[hb] at L2;simp only[L2]
    | some s'=>
     rw[hb] at L2
     obtain⟨i'',e2,hR'⟩:=L2
     simp only[e2]
     exact ih most (fuel - 1) s' i'' (by omega) hR'
omit hp hc in
theorem aN8{q:List Tm}(hq:∀t∈q,bF 26 t∧t.k=3):Rl (nH q) (oY q):=by
 refine⟨fun v=>v,⟨⟨fun v w _ _ _ _ e=>e,fun v _ _=>rfl⟩,fun v h0 h1=>⟨h0,h1⟩,cO.none,fun n u h=>(by cases h),cO.none,fun n u h=>(by cases h),fun _ _=>rfl,fun _ _=>rfl,cZ _,fun _ _ _=>rfl⟩,⟨?_,fun g hg=>?_⟩,.nil⟩
 · simp only[oY,nH,uY]
   refine qK fun t ht=>?_
   simp only[FN]
   rw[show bZ (fun v=>v) t=t from HR t (hq t ht).1.1.2.1]
 · simp only[nH] at hg
   obtain⟨t,ht,rfl⟩:=cF.1 hg
   exact hq t ht
theorem a8K{q:List Tm}(hq:∀t∈q,bF 26 t∧t.k=3)(most fuel:Nat):jF p cnd (cA q []) most fuel (oY q)=y9 p cnd q most fuel:=by
 refine a7Y hp hc (fun v hv=>?_) _ most fuel _ _ (cZ _) (aN8 hq)
 rw[xR _ _ fun t ht=>(hq t ht).1.1.2.1] at hv
 rcases hv with hv | ⟨t,ht,hv⟩
 · cases hv
 · exact(hq t ht).1.1.2.2 v hv
end
theorem aW9{c:Cl}(h:sE c=true):gF c:=by
 simp only[sE,cY,bM,fU] at h
 refine⟨⟨Tm.I2 h.1.1,Tm.OG h.1.1⟩,fun t ht=>?_⟩
 have hg:=h.2.2 t ht
 have hk:t.valid=true∧t.k=3:=by
  obtain⟨k,n,s,ts⟩:=t
  simp only[Tm.goal,cY] at hg
  refine⟨hg.1,?_⟩
  have:=hg.2
  simp only[yN,rH,tF,cY,bM] at this
  simp only[Tm.k]
  rcases this with (h | h) | h<;>first | exact h.1 | exact h.1.1 | exact h.1.1.1
 exact⟨⟨Tm.I2 hk.1,Tm.OG hk.1⟩,hk.2⟩
theorem cT.fz{h:bE}{st:aA}{b:Nat}{es:List AV}(S:cK h st)(hb:st b=some (.cells (es.flatMap AV.cells)))(hj:∀e∈es,e.bV=false)(hE:jU es):∀ {us:List AV} {vs:List Value},cT h st us vs→cT h (st.erase b) (kK b es us) vs
 | [],vs,x=>by simp only[cT] at x;simp [kK,cT,x]
 | a::us,vs,x=>by
  simp only[cT] at x
  obtain⟨v,r,rfl,x1,x2⟩:=x
  simp only[kK,cT]
  exact⟨v,r,rfl,x1.fz S hb hj hE,cT.fz S hb hj hE x2⟩
theorem bT.unerase{h h':bE}{st st':aA}{b:Nat}(x:bT h (st.erase b) h' st'):bT h st h' st':=
 ⟨x.size,fun c hc e=>x.aU c hc (aA.aYA st e),x.shape⟩
theorem aD.a1Y{P:Program}{g:FuncId}{args:List AV}{st:aA}{Q:AV→aA→Prop}(b:Nat)(es:List AV)(hb:st b=some (.cells (es.flatMap AV.cells)))(hj:∀e∈es,e.bV=false)(hE:jU es)(x:aD P g (kK b es args) (st.erase b) Q):aD P g args st Q:=
 ⟨x.1,fun w vs S V=>(x.2 w vs ((jD st b).IE S) (V.fz S hb hj hE)).mono fun _ _ ⟨v,r,st',e,a,b',c,d,q⟩=>⟨v,r,st',e,a,b',c.unerase,d,q⟩⟩
def Lit(st:aA)(w:Nat)(l:List AV)(q:AV)(s:aA):Prop:=(q=.fslice l∧s=st)∨∃b,st b=none∧q=.mslice b 0 l.length w∧s=st.aC b (.cells (l.flatMap AV.cells))
theorem aR2{P:Program}{t:TypeId}{ag:Bool}{w bytes:Nat}{zs:List AV}{st:aA}{es xs:List AV}{x:AV}{K:AV→aA→Prop}(hI:eI P t=some (ag,w))(hB:eB P t=some bytes)(hZ:eZ P t=some zs)(hz:zs.length=w)(hx:x=.slice xs∨x=.fslice xs)(hes:∀e∈es,e.width=w)(eW:tO w xs)(hl:(es.length+xs.length)*bytes≤140737488355328)(hl2:es.length+xs.length≤9223372036854775807)
 (hK:∀q s,Lit st w (es++xs) q s→K q s):kF P t st (.fslice es) x K:=by
 unfold kF
 have he:z7 x=some xs:=by rcases hx with rfl | rfl<;>rfl
 simp only[hI,hB,hZ,he]
 refine⟨hz,eW,hl,hl2,hes,fun h=>?_,fun _ b hb=>?_⟩
 · subst h
   exact hK _ _ (.inl ⟨by rw[eU],rfl⟩)
 · exact hK _ _ (.inr ⟨b,hb,by rw[dS],rfl⟩)
theorem Lit.call{P:Program}{g:FuncId}{st s:aA}{w:Nat}{l:List AV}{q:AV}{post:List AV}{Q:AV→aA→Prop}(h:Lit st w l q s)(hj:∀e∈l,e.bV=false)(hw:∀e∈l,e.width=w)(hp:∀b,kK b l post=post)(x:aD P g (.slice l::post) st Q):aD P g (q::post) s Q:=by
 rcases h with ⟨rfl,rfl⟩ | ⟨b,hb,rfl,rfl⟩
 · refine aD.args x fun hp vs S V=>?_
   simp only[cT] at V ⊢
   obtain⟨v,r,rfl,V1,V2⟩:=V
   exact⟨v,r,rfl,V1.DL,V2⟩
 · refine aD.a1Y b l (aA.aJ _ _ _) hj ⟨w,hw⟩ ?_
   rw[aA.AL st b _ hb]
   have:kK b l (.mslice b 0 l.length w::post)=.slice l::post:=by
    show(AV.mslice b 0 l.length w).fz b l::kK b l post=_
    rw[hp]
    simp [AV.fz]
   rw[this]
   exact x
end Go.AW
namespace Go.AW
open Go.Proofs.Tryz
def nv(i:Nat):AV:=.int .i64 (i:Int)
def eX:RG→AV
 | ⟨.mk k n s ts,aU⟩=>.agg [.int .i64 k,.int .i64 n,.str s,.slice (ts.map Tm.av),.int .i64 (aU:Int)]
theorem BO(k n:Int)(s:ByteArray)(ts:List Tm)(aU:Nat):eX ⟨.mk k n s ts,aU⟩=.agg [.int .i64 k,.int .i64 n,.str s,.slice (ts.map Tm.av),.int .i64 (aU:Int)]:=rfl
theorem a7T(g:RG):eX g=.agg (g.t.av.cells++ [.int .i64 (g.aU:Int)]):=by obtain⟨⟨k,n,s,ts⟩,aU⟩:=g;rw[bD];try rfl
theorem ES(g:RG):(eX g).width=5:=by obtain⟨⟨k,n,s,ts⟩,aU⟩:=g;rfl
theorem a7U(g:RG):(eX g).cells.all AV.storable=true:=by obtain⟨⟨k,n,s,ts⟩,aU⟩:=g;rfl
theorem a7S(g:RG):(eX g).bV=false:=by obtain⟨⟨k,n,s,ts⟩,aU⟩:=g;rfl
def f8:RC→AV
 | ⟨.mk k n s ts,rest,left,σ,N⟩=>.agg [.int .i64 k,.int .i64 n,.str s,.slice (ts.map Tm.av),.slice (rest.map eX),.slice (left.map nv),.slice (cS N σ)]
theorem MJ(g:RC):(f8 g).width=7:=by obtain⟨⟨k,n,s,ts⟩,_,_,_,_⟩:=g;rfl
theorem a7C(g:RC):(f8 g).cells.all AV.storable=true:=by obtain⟨⟨k,n,s,ts⟩,_,_,_,_⟩:=g;rfl
theorem a7B(g:RC):(f8 g).bV=false:=by obtain⟨⟨k,n,s,ts⟩,_,_,_,_⟩:=g;rfl
def pA(s:RS):AV:=.agg [.slice (s.goals.map eX),.slice (cS s.N s.σ),.slice (s.chs.map f8)]
abbrev US:=zi aX (zi cB (zi cI cC))
theorem YN:∀(t:Tm) (d:Nat) (st:aA),d≤1000→t.small=true→aD prog 157 [t.av,.int .i64 (d:Int)] st (fun r st'=>r=.bool (t.flat d)∧st'=st)
 | .mk k n s ts,d,st,hd,hsm=>by
  obtain⟨hlen,sP⟩:=Tm.rJ hsm
  have IH:=fun(x:Tm) (hx:x∈ts) d st h=>YN x d st h (sP x hx)
  simp only[bD]
  refine wF [1000000] 2 func157 ntmps157 rfl rfl ?_
  intro _
  simp only[aB,seval,US]
  refine aQ (fun h=>?_) (fun h=>?_)
  · simp only[bM] at h
    obtain rfl:d=0:=by omega
    simp only[aB,↓aW,seval]
    rw[Tm.G6]
  simp only[cL] at h
  obtain⟨e,rfl⟩:∃e,d=e+1:=⟨d - 1,by omega⟩
  rw[Tm.sM]
  have hw1:IntKind.i64.wrap ((e:Int)+1 - 1)=(e:Int):=by rw[wrap64 (by omega) (by omega)];omega
  simp only[aB,seval]
  refine dI (σ:=Unit) [1000000] [1,2] ts (fun i _=>((ts.drop i).all fun t=>t.flat e)=(ts.all fun t=>t.flat e)) (fun i _=>[(5,.int .i64 i)]) (fun _ _=>st) (by decide +kernel) ⟨(),rfl,aP.mk (by simp only[aB,↓aW,seval])⟩ (fun i x _ hx hlt a7 hdr hinv=>?_) (fun _ hge hinv=>?_)
  case refine_2=>
   simp only[hge,aE,aB,seval,US]
   rw[←hinv,iA]
   try rfl
  have hw:=aZ (n:=(i:Int)+1)
  rw[hdr,jK] at hinv
  simp only[a7,aE,bH (av:=Tm.av) bY hx (aT x),cD,aT,hw1,aB,seval,US]
  refine(IH x (cH hx) e _ (by omega)).to ?_
  simp only[aB,seval]
  refine aQ (fun h2=>?_) (fun h2=>?_)
  · simp only[aB,seval]
    simp only[gZ] at h2
    rw[←hinv,h2]
    try rfl
  · simp only[kZ] at h2
    rw[h2,gM] at hinv
    simp only[aB,seval]
    exact⟨(),hinv,aP.mk (by simp only[hw,aB,seval])⟩
termination_by t=>SizeOf.sizeOf t
decreasing_by have:=List.sizeOf_lt_of_mem hx;simp only[Tm.mk.sizeOf_spec];omega
abbrev IM:=zi aX (zi cB (zi cI (zi dD (zi cC aPY))))
theorem YP{N:Nat}{σ:Sub}(hg:cO σ)(ho:cQ (bF N) σ)(t:Tm)(ht:bF N t)(st:aA) :
 aD prog 136 [t.av,.slice (cS N σ)] st (fun r st'=>st'=st∧∃x:Tm,r=.tup [x.av,.bool (fA (t.aL (rs σ)))]∧(fA (t.aL (rs σ))=true→x=t.aL (rs σ))):=by
 obtain⟨rk,B,G⟩:=hg.rs
 have RY:=fun st=>XK G ho 120 t st (cZ _) ht
 have hV:=G.SV ho.mI ht.1
 refine aD.oT (aD.soft ?_)
 refine wF [1000000] 2 func136 ntmps136 rfl rfl ?_
 intro _
 simp only[cD,aT,Tm.fP,aB,seval,IM]
 intro b4 h4
 refine(RY _).mono ?_
 rintro _ _ ⟨rfl,x,left,rfl,h1,h2⟩
 simp only[aT,Tm.e9,Tm.fP,aB,↓aW,seval,IM]
 refine wP [(1,1),(2,1),(3,1),(4,2),(0,1),(5,0),(6,1),(7,0),(8,1)] [1,2,3,4,0,6,8] mixed ?_
 simp only[aB,seval]
 refine cP (fun h=>?_) (fun h=>?_)
 · have h3:0≤left:=by simpa using h
   have h4:(t.aL (rs σ)).nodes≤120:=zS fun h5=>by rw[aK h5] at h2;omega
   rw[aN h4] at h2
   obtain⟨rfl,_⟩:=h2
   have h5:fA (t.aL (rs σ))=(t.aL (rs σ)).flat 30:=by unfold fA;simp [h4]
   simp only[h,cD,aT,aB,seval,IM]
   refine(YN _ 30 _ (by omega) hV.small).to ?_
   simp only[aM,Tm.e9,Tm.fP,Tm.gB,aB,seval,IM]
   refine⟨st,(aO.refl _).aC ‹_›,rfl,_,by simp only[xM,xL,Tm.soft,bR,bS];rw[h5],fun _=>rfl⟩
 · have hx0:=trivial
   have h3:left<0:=by simpa using h
   have h4:¬(t.aL (rs σ)).nodes≤120:=fun h5=>by rw[aN h5] at h2;omega
   have h5:fA (t.aL (rs σ))=false:=by unfold fA;simp [h4]
   simp only[h,aM,cD,aT,Tm.e9,Tm.fP,Tm.gB,rM (Tm.gB x),qS (cD x),aB,seval,IM]
   refine⟨st,(aO.refl _).aC ‹_›,rfl,x,by simp only[xM,xL,Tm.soft,bR,bS];rw[h5],fun h6=>?_⟩
   rw[h5] at h6;cases h6
theorem a1T(c:Cl):G8 c=(cA (c.1::c.2) []).foldl (fun n v=>if n≤v then v+1 else n) 0:=rfl
abbrev M9:=zi aX (zi cI (zi cC (zi kX iP)))
theorem aVV(c:Cl)(hc:gF c)(h6:c.2.length≤6)(st:aA):aD prog 168 [aG c] st (fun r st'=>r=.int .i64 (oV c:Int)∧st'=st):=by
 have hvr:=fun v=>hc.vars (v:=v)
 have hok:=hc.EF
 have hfr:(oV c:Int)=G8 c:=by
  have:=(aKG (cA (c.1::c.2) []) 0).1
  unfold oV G8
  omega
 rw[hfr,a1T]
 have hnd:aH Tm.nodes (c.1::c.2)≤1099511627776:=by
  have:∀l:List Tm,(∀t∈l,bF 26 t)→aH Tm.nodes l≤l.length*120:=by
   intro l
   induction l with
   | nil=>intro _;simp [aH]
   | cons x l ih=>intro h;simp only[aH,a8];have:=ih fun y hy=>h y (by simp [hy]);have:=(h x (by simp)).2;omega
  have:=this _ hok
  simp only[a8] at this
  omega
 have hvl:=zH (c.1::c.2) []
 obtain⟨⟨k,n,s,ts⟩,bd⟩:=c
 simp only at h6 hnd hvl hvr hok
 rw[mQ]
 refine aD.done ?_
 refine wF [1000000] 1 func168 ntmps168 rfl rfl ?_
 intro _
 simp only[aB,seval,M9]
 refine aR2 bY lC lE rfl (.inl rfl) (by intro e he;simp only[cG,cX,dG] at he;subst he;rfl) (fun e he=>by simp only[cF] at he;obtain⟨t,_,rfl⟩:=he;exact⟨aT _,Tm.e9 _⟩) (by simp only[a8,bG,aE];omega) (by simp only[a8,bG,aE];omega) (fun q s2 hq=>?_)
 rw[←bD] at hq
 rw[show[(Tm.mk k n s ts).av]++bd.map Tm.av=((Tm.mk k n s ts)::bd).map Tm.av from rfl] at hq
 simp only[aB,seval]
 refine Lit.call hq (tC _) (iX _) (fun _=>rfl) ?_
 refine(YR _ _ (fun t ht=>Tm.tT t (hok t ht).1.2.1) hnd).to ?_
 generalize cA ((Tm.mk k n s ts)::bd) []=vs at *
 simp only[bG] at hvl
 simp only[aB,seval]
 refine dI (σ:=Int) [1000000] [2,3] vs (fun i n=>(vs.drop i).foldl (fun n v=>if n≤v then v+1 else n) n=vs.foldl (fun n v=>if n≤v then v+1 else n) 0) (fun i n=>[(4,.int .i64 n),(5,.int .i64 i)]) (fun _ _=>st) (by decide +kernel) ⟨0,rfl,aP.mk (by simp only[aB,↓aW,seval])⟩ (fun i x n hx hlt a7 hdr hinv=>?_) (fun n hge hinv=>?_)
 case refine_2=>
  rw[iA] at hinv
  simp only[aE,hge,aB,seval,M9]
  refine⟨?_,aO.refl _⟩
  rw[←hinv]
  try rfl
 rw[hdr,List.foldl_cons] at hinv
 have hw:=aZ (n:=(i:Int)+1)
 obtain⟨t,ht,hv⟩:=(hvr x).1 (cH hx)
 have bC4:=(hok t ht).1.2.2 x hv
 have hw2:=aZ (n:=x+1)
 have hat:dP prog 148 (.slice (vs.map iv)) (.int .i64 (i:Int))=some (.pptr (.int .i64 x)):=bH (av:=iv) iL hx rfl
 simp only[aE,a7,hat,aB,seval,M9]
 refine aQ (fun h=>?_) (fun h=>?_)
 · rw[aN (by simpa using h)] at hinv
   simp only[hat,hw2,hw,aB,seval,M9]
   exact⟨x+1,hinv,aP.mk (by simp only[aB,seval])⟩
 · rw[aK (by simpa using h)] at hinv
   simp only[hw,aB,seval]
   exact⟨n,hinv,aP.mk (by simp only[aB,seval])⟩
end Go.AW
