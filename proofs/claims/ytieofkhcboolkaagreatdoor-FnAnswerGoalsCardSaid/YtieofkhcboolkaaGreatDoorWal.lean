import Derived.Test.YtieofkhcboolkaaGreatDoorWaj
import Derived.Test.YtieofkhcboolkaaGreatDoorWak
import Derived.Test.YtieofkhcboolkaaGreatDoorWaf
import Derived.Test.YtieofkhcboolkaaGreatDoorWai
set_option linter.unusedSimpArgs false
set_option linter.unusedVariables false
set_option maxRecDepth 100000
namespace Go.AW
open Go.Proofs.Tryz
def cX(N:Nat)(σ:Sub):List AV:=(List.range N).map fun i:Nat=>cellOf (σ (i:Int))
theorem CS(N:Nat)(σ:Sub):∀e∈cX N σ,e.width=4:=by intro e h;simp only[cX,cI] at h;obtain⟨i,_,rfl⟩:=h;exact J7 _
theorem zX(N:Nat)(σ:Sub){i:Nat}(h:i<N):(cX N σ)[i]?=some (cellOf (σ (i:Int))):=by
 simp only[cX,mD,List.getElem?_range h,oZ]
theorem aRA(N:Nat)(σ:Sub){i:Nat}(h:i<N)(u:Tm):(cX N σ).set i u.av=cX N (σ.set (i:Int) u):=by
 apply I4
 intro j
 by_cases hj:j<N
 · rw[zX N _ hj,List.getElem?_set]
   by_cases e:i=j
   · subst e
     simp [cX,hj,Sub.set,cellOf]
   · rw[aF e,zX N _ hj]
     simp only[Sub.set]
     rw[aF (by omega)]
 · rw[xF (by simp [cX];omega),xF (by simp [cX];omega)]
def fL(N:Nat)(st:aB)(b:Nat)(σ:Sub):Prop:=st b=some (.cells ((cX N σ).flatMap AV.cells))
theorem fL.mid{N:Nat}{st:aB}{b:Nat}{σ:Sub}(h:fL N st b σ){i:Nat}(hi:i<N) :
 ∃A B,st b=some (.cells (A++(cellOf (σ (i:Int))).cells++B))∧A.length=i*4∧∀(u:Tm),fL N (st.aC b (.cells (A++u.av.cells++B))) b (σ.set (i:Int) u):=by
 obtain⟨A,B,h1,h2,h3⟩:=aZC (CS N σ) (zX N σ hi)
 refine⟨A,B,by rw[←h1];exact h,h2,fun u=>?_⟩
 unfold fL
 rw[aB.aO,←aRA N σ hi,h3]
theorem fL.aC{N:Nat}{st:aB}{b x:Nat}{σ:Sub}{o:AO}(h:fL N st b σ)(hx:x≠b):fL N (st.aC x o) b σ:=by
 unfold fL
 rw[aB.aM _ _ (c7 hx)]
 exact h
theorem fL.none{N:Nat}{st:aB}{b:Nat}{σ:Sub}(h:fL N st b σ){i:Nat}(hi:i<N)(hn:σ (i:Int)=Option.none) :
 ∃D,st b=some (.cells D)∧D[i*4+0]?=some (.int .i64 0)∧i*4+4≤D.length:=by
 obtain⟨A,B,e1,e2,_⟩:=h.mid hi
 rw[hn] at e1
 obtain⟨r1,r2,r3⟩:=WP (B:=B) (C:=(cellOf Option.none).cells) e2 rfl
 exact⟨_,e1,r3,r1⟩
theorem fL.some{N:Nat}{st:aB}{b:Nat}{σ:Sub}(h:fL N st b σ){i:Nat}(hi:i<N){k n:Int}{s:ByteArray}{ts:List Tm}(hn:σ (i:Int)=Option.some (.mk k n s ts)) :
 ∃D,st b=Option.some (.cells D)∧D[i*4+0]?=Option.some (.int .i64 k)∧i*4+4≤D.length∧List.take 4 (List.drop (i*4) D)= [.int .i64 k,.int .i64 n,.str s,.slice (ts.map Tm.av)]:=by
 obtain⟨A,B,e1,e2,_⟩:=h.mid hi
 rw[hn] at e1
 simp only[cellOf,aU,AV.cells] at e1
 obtain⟨r1,r2,r3⟩:=WP (B:=B) (C:=[.int .i64 k,.int .i64 n,.str s,.slice (ts.map Tm.av)]) e2 rfl
 exact⟨_,e1,r3,r1,r2⟩
theorem fL.set{N:Nat}{st:aB}{b:Nat}{σ:Sub}(h:fL N st b σ){i:Nat}(hi:i<N)(u:Tm) :
 ∃D D',st b=Option.some (.cells D)∧i*4+4≤D.length∧aK D (i*4) u.av.cells=D'∧fL N (st.aC b (.cells D')) b (σ.set (i:Int) u):=by
 obtain⟨A,B,e1,e2,e3⟩:=h.mid hi
 obtain⟨p1,p2⟩:=a34 (B:=B) (C:=(cellOf (σ (i:Int))).cells) (x:=u.av.cells) e2 (aVY _) (bR u)
 exact⟨_,_,e1,p2,p1,e3 u⟩
abbrev EH:=zi aX (zi bS bQ)
theorem W2{N:Nat}{σ:Sub}(hok:cV (cM N) σ){f:Nat}{t u:Tm}(hw:f0 σ f t u)(ht:cM N t)(b:Nat)(st:aB)(hS:fL N st b σ):aD prog 329 [t.av,.mslice b 0 N 4] st (fun r st'=>r=u.av∧st'=st):=by
 refine aD.done ?_
 refine wF [1000000,2] 2 func329 ntmps329 rfl rfl ?_
 intro _
 simp only[aA,seval,EH]
 intro b2 h2 b4 h4
 have hne:b4≠b2:=by rintro rfl;rw[aB.aO] at h4;cases h4
 have hn4:st b4=none:=by rw[aB.aM st _ hne] at h4;exact h4
 have hb2:b2≠b:=by rintro rfl;rw[fL,h2] at hS;cases hS
 have hb4:b4≠b:=by rintro rfl;rw[fL,hn4] at hS;cases hS
 refine iG (σ:=Nat×Tm) [1000000,2] [1,2,4] (fun p=>f0 σ p.1 p.2 u∧cM N p.2) (fun p=>[]) (fun p=>(st.aC b2 (.cells p.2.av.cells)).aC b4 (.cells [.int .i64 0,.int .i64 0,.str ⟨#[]⟩,.fslice []])) (fun p=>p.1) (by decide +kernel) ⟨(f,t),⟨hw,ht⟩,aN.mk (by simp only[aA,seval])⟩ ?_
 rintro⟨g,t⟩ ⟨hw,ht⟩
 obtain⟨k,n,s,ts⟩:=t
 simp only at hw ht
 simp only[aU]
 have iR:k≠1∨σ n=none→u=.mk k n s ts:=fun h=>by
  cases hw with
  | stop _=>rfl
  | go h1 h2 _=>
   simp only[Tm.k] at h1
   rcases h with h | h
   · exact absurd h1 h
   · rw[show σ n=some _ from h2] at h;cases h
 simp only[hne.symm,aA,seval,EH]
 refine cU (fun h=>?_) (fun h=>?_)
 case refine_2=>
  simp only[h,aK,hne.symm,aA,seval,EH]
  simp only[fU,dB] at h
  rw[iR (.inl h),←aU]
  exact⟨Tm.soft _,((aL.refl _).aC h2).aC hn4⟩
 simp only[bO] at h
 subst h
 obtain⟨hn0,hn1,_⟩:=ht.var
 obtain⟨i,rfl⟩:∃i:Nat,n=i:=⟨n.toNat,by omega⟩
 have hi:i<N:=by omega
 have hi':decide ((i:Int)<(N:Int))=true:=by simp;omega
 simp only[bF,hi',eX,hne.symm,aA,seval,EH]
 have hat:=uL (P:=prog) (b:=b) (len:=N) a8 hi
 cases hw with
 | stop hs=>
  obtain⟨D,e1,e2,_⟩:=hS.none hi (hs rfl)
  simp only[hat,e1,e2,bF,aK,hne.symm,hb2.symm,hb4.symm,aA,seval,EH]
  exact⟨by rw[←aU,Tm.soft],((aL.refl _).aC h2).aC hn4⟩
 | go h1 h2' h3=>
  simp only[Tm.n] at h2'
  have ho:=hok _ _ h2'
  rename_i g' u'
  obtain⟨k',n',s',ts'⟩:=u'
  have hk':¬k'=0:=by have:=ho.kind.1;omega
  obtain⟨D,e1,e2,e3,e4⟩:=hS.some hi h2'
  have e5:i*4+0+4≤D.length:=e3
  simp only[hat,e1,e2,e3,e4,hk',bP,aK,hne.symm,hb2.symm,hb4.symm,aA,seval,EH]
  rw[aB.w5 hne,aB.n9 _ _ _ hne]
  refine⟨(g',.mk k' n' s' ts'),I8 _,⟨h3,ho⟩,?_⟩
  simp only[aU]
  exact aN.mk (by simp only[aA,seval])
theorem fL.acc{N:Nat}{st:aB}{b bW:Nat}{σ:Sub}{l:List AV}(h:fL N st b σ)(hb:l≠[]→st bW=Option.none):fL N (a7 st bW l) b σ:=by
 cases l with
 | nil=>exact h
 | cons x l=>exact h.aC (by rintro rfl;rw[fL,hb (by simp)] at h;cases h)
abbrev HY:=zi aX (zi bZ (zi fA (zi bS bQ)))
theorem aSA{N:Nat}{σ:Sub}{R:Int→Tm}{rk:Int→Nat}{B:Nat}(G:Good σ R rk B)(hok:cV (bG N) σ)(hN:N≤1048576){n:Int}(hn:σ n=none)(t:Tm)(ht:bG N t)(b:Nat)(st:aB)(hS:fL N st b σ) :
 aD prog 330 [.int .i64 n,t.av,.mslice b 0 N 4] st (fun r st'=>r=.bool (decide (n∈(t.aG R).vl))∧st'=st):=by
 refine aD.done ?_
 refine wF [1000000] 3 func330 ntmps330 rfl rfl ?_
 intro _
 simp only[aA,seval,HY]
 have h0:=F1 t [] 0 st (Tm.rS t (ht.1.2.1)) (fun h=>absurd rfl h) (by have:=ht.2;simp only[aW];omega)
 simp only[aV,iK,xR] at h0
 refine h0.mono ?_
 rintro _ _ ⟨b0,rfl,rfl,hb0⟩
 obtain⟨v1,v2,_⟩:=UP t (Tm.rS t (ht.1.2.1)) []
 simp only[aA,seval]
 refine iG (σ:=Nat×List Int×Nat) [1000000] [0,2]
  (fun p=>p.1≤p.2.1.length∧p.2.1.Nodup∧(∀w∈p.2.1,w∈VN N)∧(p.2.1.map iv≠[]→st p.2.2=none)∧(∀w∈p.2.1.take p.1,w≠n∧∀u,σ w=some u→∀v∈u.vl,v∈p.2.1)∧(∀w∈p.2.1,n∈(R w).vl→n∈(t.aG R).vl)∧(n∈(t.aG R).vl→∃w∈p.2.1,n∈(R w).vl))
  (fun p=>[(6,.bool false),(7,bE 1 p.2.2 (p.2.1.map iv)),(8,.int .i64 p.1)]) (fun p=>a7 st p.2.2 (p.2.1.map iv)) (fun p=>N - p.1) (by decide +kernel)
  ⟨(0,t.vars [],b0),⟨jH _,v2 oX,fun w hw=>?_,hb0,by simp,fun w hw hm=>?_,fun hm=>?_⟩,aN.mk (by simp only[aA,↓aR,seval])⟩ ?_
 · rcases (v1 w).1 hw with h | h
   · cases h
   · exact wL.2 (ht.1.2.2 w h)
 · rcases (v1 w).1 hw with h | h
   · cases h
   · exact(y9 t).2 ⟨w,h,hm⟩
 · obtain⟨w,hw,hm⟩:=(y9 t).1 hm
   exact⟨w,(v1 w).2 (.inr hw),hm⟩
 rintro⟨i,W,bW⟩ ⟨i1,i2,i3,i4,i5,i6,i7⟩
 simp only at i1 i2 i3 i4 i5 i6 i7
 have haL:=t7 (w:=1) (b:=bW) (l:=W.map iv) IT
 have hWl:=DY i2 (fun m hm=>wL.1 (i3 m hm))
 simp only[haL,aE,aA,seval]
 refine aP (fun h=>?_) (fun h=>?_)
 case refine_2=>
  simp only[dB,mY] at h
  obtain rfl:i=W.length:=by omega
  rw[dW] at i5
  simp only[aA,seval]
  have hno:n∉(t.aG R).vl:=fun hm=>by
   obtain⟨w,hw,hnw⟩:=i7 hm
   exact a7W G i5 w hw hnw
  exact⟨by simp only[hno,bP,oT],aL.a7 (aL.refl _) i4⟩
 simp only[bO,mY] at h
 obtain⟨w,hx⟩:∃w,W[i]?=some w:=⟨_,eN h⟩
 have gO:=cD hx
 have hat:=WB (b:=bW) (l:=W.map iv) (i:=i) (x:=iv w) g7 (by rw[mD,hx];try rfl)
 obtain⟨f9,yB⟩:=WC (st:=st) (b:=bW) hx
 have hw:=bL (n:=(i:Int)+1)
 simp only[hat,f9,yB,vF,aA,seval,HY]
 refine aP (fun h2=>?_) (fun h2=>?_)
 · simp only[bO] at h2
   subst h2
   simp only[aA,seval]
   have hm:w∈(t.aG R).vl:=i6 w gO (by rw[G.free hn,zA];simp)
   exact⟨by simp only[hm,bF,oT],aL.a7 (aL.refl _) i4⟩
 simp only[dB] at h2
 simp only[hat,f9,yB,vF,aA,seval,HY]
 obtain⟨hw0,hw1⟩:=wL.1 (i3 w gO)
 obtain⟨j,rfl⟩:∃j:Nat,w=j:=⟨w.toNat,by omega⟩
 have hj:j<N:=by omega
 have hj':decide ((j:Int)<(N:Int))=true:=by simp;omega
 have aKB:=uL (P:=prog) (b:=b) (len:=N) a8 hj
 have hSA:=hS.acc i4
 have htk:W.take (i+1)=W.take i++ [(j:Int)]:=by rw[eA,hx];try rfl
 have step:∀W':List Int,(∀v∈W,v∈W')→(∀u,σ (j:Int)=some u→∀v∈u.vl,v∈W')→∀w∈W'.take (i+1),W'.take (i+1)=W.take (i+1)→w≠n∧∀u,σ w=some u→∀v∈u.vl,v∈W':=by
  intro W' AS mM w hw' hte
  rw[hte,htk] at hw'
  rcases fQ.1 hw' with hw' | hw'
  · exact⟨(i5 w hw').1,fun u hu v hv=>AS v ((i5 w hw').2 u hu v hv)⟩
  · simp only[c8,dP,dX] at hw'
    subst hw'
    exact⟨h2,mM⟩
 cases hs:σ (j:Int) with
 | none=>
  obtain⟨D,e1,e2,_⟩:=hSA.none hj hs
  simp only[hj',aKB,e1,e2,bF,eX,hat,f9,yB,vF,hw,aA,seval,HY]
  exact⟨(i+1,W,bW),by simp only;omega,⟨h,i2,i3,i4,fun w hw'=>step W (fun _ h=>h) (fun u hu=>by rw[hs] at hu;cases hu) w hw' rfl,i6,i7⟩,aN.mk (by simp only[aA,seval])⟩
 | some u=>
  obtain⟨k',n',s',ts'⟩:=u
  have ho:=hok _ _ hs
  have hk':¬k'=0:=by have:=ho.1.kind.1;omega
  obtain⟨D,e1,e2,e3,e4⟩:=hSA.some hj hs
  simp only[hj',aKB,e1,e2,e3,e4,hk',bP,eX,hat,f9,yB,vF,aA,seval,HY]
  have hwf:=Tm.rS _ (ho.1.2.1)
  have hc:=F1 (.mk k' n' s' ts') W bW st hwf i4 (by have:=ho.2;omega)
  obtain⟨u1,u2,m,u3⟩:=UP _ hwf W
  rw[aU] at hc
  refine hc.mono ?_
  rintro _ _ ⟨b',rfl,rfl,hb'⟩
  generalize (Tm.mk k' n' s' ts').vars W=W' at *
  have hte:W'.take (i+1)=W.take (i+1):=by rw[u3,B4 (by omega)]
  have hbd:(Tm.mk k' n' s' ts').aG R=R (j:Int):=(G.bound hs).symm
  simp only[hw,aA,seval]
  refine⟨(i+1,W',b'),by simp only;omega,⟨by rw[u3];simp only[dM];omega,u2 i2,fun w hw'=>?_,hb',fun w hw'=>step W' (fun v hv=>(u1 v).2 (.inl hv)) (fun u hu v hv=>?_) w hw' hte,fun w hw' hm=>?_,fun hm=>?_⟩,aN.mk (by simp only[aA,seval])⟩
  · rcases (u1 w).1 hw' with h | h
    · exact i3 w h
    · exact wL.2 (ho.1.2.2 w h)
  · rw[hs] at hu
    cases hu
    exact(u1 v).2 (.inr hv)
  · rcases (u1 w).1 hw' with h | h
    · exact i6 w h hm
    · refine i6 (j:Int) gO ?_
      rw[←hbd]
      exact(y9 _).2 ⟨w,h,hm⟩
  · obtain⟨w,h,hm⟩:=i7 hm
    exact⟨w,(u1 w).2 (.inl h),hm⟩
def AN(N b:Nat)(st:aB)(σ':Sub)(st':aB):Prop:=fL N st' b σ'∧∀x o,st x=some o→x≠b→st' x=some o
theorem AN.refl{N b:Nat}{st:aB}{σ:Sub}(h:fL N st b σ):AN N b st σ st:=⟨h,fun _ _ h _=>h⟩
theorem AN.trans{N b:Nat}{st s2 s3:aB}{σ2 σ3:Sub}(x:AN N b st σ2 s2)(y:AN N b s2 σ3 s3):AN N b st σ3 s3:=⟨y.1,fun q o h hn=>y.2 q o (x.2 q o h hn) hn⟩
def FH(N:Nat)(f:Nat)(b:Nat)(σ:Sub)(a c:Tm)(r:Bool)(σ':Sub):Prop:=∀st,fL N st b σ→aD prog f [a.av,c.av,.mslice b 0 N 4] st (fun r' st'=>r'=.bool r∧AN N b st σ' st')
abbrev nI:=zi aX (zi bZ (zi cJ (zi bS bQ)))
theorem aLK(N:Nat)(hN:N≤1048576)(g:Nat)(bb:Nat)(IH:∀(σ:Sub) (a b:Tm) (r:Bool) (σ':Sub) (add:List Int),cS σ→cV (bG N) σ→bG N a→bG N b→dF g σ a b=some (r,σ',add)→FH N 290 bb σ a b r σ')
 (σ:Sub) (a b:Tm) (r:Bool) (σ':Sub) (add:List Int) (hg:cS σ) (hok:cV (bG N) σ) (ha0:bG N a) (hb0:bG N b) (h:dF (g+1) σ a b=some (r,σ',add))
 (aK4:(wk σ a).k≠1→(wk σ b).k=1→FH N 290 bb σ (wk σ b) (wk σ a) r σ'):FH N 290 bb σ a b r σ':=by
 intro st hS
 obtain⟨rk,B,G⟩:=hg.rs
 obtain⟨fa,wa⟩:=G.wk a
 obtain⟨fb,wb⟩:=G.wk b
 have LD:cV (cM N) σ:=fun n u hu=>(hok n u hu).1
 have hca:=fun st (hS:fL N st bb σ)=>W2 LD wa ha0.1 bb st hS
 have hcb:=fun st (hS:fL N st bb σ)=>W2 LD wb hb0.1 bb st hS
 have ea:=wa.end
 have eb:=wb.end
 have hsa:=wa.all (p:=bG N) hok ha0
 have hsb:=wb.all (p:=bG N) hok hb0
 replace h:=NB h
 generalize wk σ a=a1 at *
 generalize wk σ b=b1 at *
 clear wa wb
 refine wF [1000000,3,4] 3 func290 ntmps290 rfl rfl ?_
 intro fF
 simp only[aA,seval,nI]
 intro b4 h4 b5 h5
 have h54:b5≠b4:=by rintro rfl;rw[aB.aO] at h5;cases h5
 have hn5:st b5=none:=by rw[aB.aM st _ h54] at h5;exact h5
 have h4b:b4≠bb:=by rintro rfl;rw[fL,h4] at hS;cases hS
 have h5b:b5≠bb:=by rintro rfl;rw[fL,hn5] at hS;cases hS
 have hS':∀o o',fL N ((st.aC b4 o).aC b5 o') bb σ:=fun o o'=>(hS.aC h4b).aC h5b
 have hQ:∀o o',AN N bb st σ ((st.aC b4 o).aC b5 o'):=fun o o'=>⟨hS' o o',fun x p h _=>by
  rw[aB.aM _ _ (by rintro rfl;rw[hn5] at h;cases h),aB.aM _ _ (by rintro rfl;rw[h4] at h;cases h)];exact h⟩
 simp only[bR,eJ (bR a),eE (aT a),h54.symm,aA,seval]
 refine(hca _ (hS' _ _)).to ?_
 simp only[bR,eJ (bR b),eE (aT b),bT,aK,h54,h54.symm,aA,seval,nI]
 rw[aB.w5 h54,aB.n9 _ _ _ h54]
 refine(hcb _ (hS' _ _)).to ?_
 obtain⟨ka,na,sa,tsa⟩:=a1
 obtain⟨kb,nb,sb',tsb⟩:=b1
 obtain⟨hla,aKQ⟩:=Tm.nF (hsa.1.small)
 obtain⟨hlb,aKR⟩:=Tm.nF (hsb.1.small)
 have iE:∀o o',AN N bb st σ ((st.aC b4 o).aC b5 o'):=hQ
 have hka:=fun h=>(qS N) _ h hsa
 have hkb:=fun h=>(qS N) _ h hsb
 simp only[aU]
 simp only[Tm.k,Tm.n,Tm.ts] at h ea eb aK4 hka hkb
 simp only[cY,aK,h54.symm,aA,seval,nI]
 have var:∀ {n:Int} {t:Tm},n∈VN N→σ n=none→bG N t→j9 σ n t=(r,σ',add)→∀s0,fL N s0 bb σ→aD prog 330 [.int .i64 n,t.av,.mslice bb 0 N 4] s0 (fun r' st'=>r'=.bool (!r)∧st'=s0):=by
  intro n t _ hn ht hb s0 hs0
  have:=aSA G hok hN hn t ht bb s0 hs0
  unfold j9 at hb
  split at hb
  · rename_i hm
    cases hb
    simpa [hm] using this
  · rename_i hm
    cases hb
    simpa [hm] using this
 rcases h with ⟨h1,h2,h3,rfl,rfl,rfl⟩ | ⟨h1,h2,h3⟩ | ⟨h1,h2,h3⟩ | ⟨h1,h2,h3,h4⟩ | ⟨h1,h2,h3,rfl,rfl,rfl⟩
 · subst h1 h2 h3
   simp only[bF,eX,h54.symm,aA,seval,nI]
   exact iE _ _
 · subst h1
   have hin:=wL.2 (hsa.1.2.2 na (by rw[Tm.mU rfl];simp))
   obtain⟨hn0,hn1⟩:=wL.1 hin
   have hcw:=var hin (ea rfl) hsb h3 _ (hS' (.cells [.int .i64 1,.int .i64 na,.str sa,.slice (tsa.map Tm.av)]) (.cells [.int .i64 kb,.int .i64 nb,.str sb',.slice (tsb.map Tm.av)]))
   have hna:=ea rfl
   rw[aU] at hcw
   obtain⟨i,rfl⟩:∃i:Nat,na=i:=⟨na.toNat,by omega⟩
   have hi:i<N:=by omega
   have hat:=uL (P:=prog) (b:=bb) (len:=N) a8 hi
   have h6:kb=1→¬(i:Int)=nb:=fun e1 e=>h2 ⟨e1,e⟩
   have tail:∀(s0:aB),s0=((st.aC b4 (.cells [.int .i64 1,.int .i64 i,.str sa,.slice (tsa.map Tm.av)])).aC b5 (.cells [.int .i64 kb,.int .i64 nb,.str sb',.slice (tsb.map Tm.av)]))→r=true →
    ∃D D',s0 bb=some (.cells D)∧i*4+4≤D.length∧aK D (i*4) [.int .i64 kb,.int .i64 nb,.str sb',.slice (tsb.map Tm.av)]=D'∧AN N bb st σ' (s0.aC bb (.cells D')):=by
    rintro _ rfl rfl
    unfold j9 at h3
    split at h3
    · cases h3
    · cases h3
      obtain⟨D,D',e1,e2,e3,e4⟩:=(hS' (.cells [.int .i64 1,.int .i64 i,.str sa,.slice (tsa.map Tm.av)]) (.cells [.int .i64 kb,.int .i64 nb,.str sb',.slice (tsb.map Tm.av)])).set hi (.mk kb nb sb' tsb)
      refine⟨D,D',e1,e2,by rw[←e3,aU];try rfl,e4,fun x o hx hxb=>?_⟩
      rw[aB.aM _ _ hxb]
      exact(hQ _ _).2 x o hx hxb
   by_cases h5:kb=1
   · subst h5
     simp only[bF,h6 rfl,bP,eX,h54.symm,aA,seval,nI]
     refine hcw.to ?_
     cases r with
     | false=>
      simp only[aA,seval]
      unfold j9 at h3
      split at h3
      · cases h3
        exact iE _ _
      · cases h3
     | true=>
      obtain⟨D,D',e1,e2,e3,e4⟩:=tail _ rfl rfl
      simp only[hat,e1,e2,aK,h54.symm,aA,seval,nI]
      rw[←e3] at e4
      exact e4
   · simp only[bF,h5,bP,eX,h54.symm,aA,seval,nI]
     refine hcw.to ?_
     cases r with
     | false=>
      simp only[aA,seval]
      unfold j9 at h3
      split at h3
      · cases h3
        exact iE _ _
      · cases h3
     | true=>
      obtain⟨D,D',e1,e2,e3,e4⟩:=tail _ rfl rfl
      simp only[hat,e1,e2,aK,h54.symm,aA,seval,nI]
      rw[←e3] at e4
      exact e4
 · subst h2
   have hsw:=aK4 h1 rfl
   simp only[FH,aU] at hsw
   simp only[bF,h1,bP,eX,h54.symm,aA,seval,nI]
   refine(hsw _ (hS' _ _)).mono ?_
   rintro _ s2 ⟨rfl,hp⟩
   simp only[aA,seval]
   exact(hQ _ _).trans hp
 · rw[tB] at h3
   simp only[Tm.k,Tm.n,Tm.s,Tm.ts] at h3
   obtain⟨rfl,rfl,rfl,hlen⟩:=h3
   have cF:decide ((tsa.length:Int)=(tsb.length:Int))=true:=by simp [hlen]
   simp only[bF,bP,cF,eX,h54.symm,aE,h1,aA,seval,nI]
   have hS0:=hS' (.cells [.int .i64 ka,.int .i64 na,.str sa,.slice (tsa.map Tm.av)]) (.cells [.int .i64 ka,.int .i64 na,.str sa,.slice (tsb.map Tm.av)])
   have hQ0:=hQ (.cells [.int .i64 ka,.int .i64 na,.str sa,.slice (tsa.map Tm.av)]) (.cells [.int .i64 ka,.int .i64 na,.str sa,.slice (tsb.map Tm.av)])
   have e4:((st.aC b4 (.cells [.int .i64 ka,.int .i64 na,.str sa,.slice (tsa.map Tm.av)])).aC b5 (.cells [.int .i64 ka,.int .i64 na,.str sa,.slice (tsb.map Tm.av)])) b4=some (.cells [.int .i64 ka,.int .i64 na,.str sa,.slice (tsa.map Tm.av)]):=by rw[aB.aM _ _ h54.symm,aB.aO]
   have e5:((st.aC b4 (.cells [.int .i64 ka,.int .i64 na,.str sa,.slice (tsa.map Tm.av)])).aC b5 (.cells [.int .i64 ka,.int .i64 na,.str sa,.slice (tsb.map Tm.av)])) b5=some (.cells [.int .i64 ka,.int .i64 na,.str sa,.slice (tsb.map Tm.av)]):=aB.aO _ _ _
   generalize (st.aC b4 (.cells [.int .i64 ka,.int .i64 na,.str sa,.slice (tsa.map Tm.av)])).aC b5 (.cells [.int .i64 ka,.int .i64 na,.str sa,.slice (tsb.map Tm.av)])=s0 at *
   refine dV (σ:=Sub×List Int×aB) [1000000,3,4] [2,3,4] tsa
    (fun i p=>cS p.1∧cV (bG N) p.1∧AN N bb s0 p.1 p.2.2∧d8 g p.1 (tsa.drop i) (tsb.drop i)=some (r,σ',p.2.1))
    (fun i _=>[(6,.bool false),(7,.int .i64 i)]) (fun _ p=>p.2.2) (by decide +kernel)
    ⟨(σ,add,s0),⟨hg,hok,AN.refl hS0,h4⟩,aN.mk (by simp only[aA,↓aR,seval])⟩ (fun i x p hx hlt bH hdr hinv=>?_) (fun p hge hinv=>?_)
   case refine_2=>
    obtain⟨σi,rest,si⟩:=p
    obtain⟨i1,i2,i3,i5⟩:=hinv
    simp only at i1 i2 i3 i5
    have f4:=i3.2 b4 _ e4 h4b
    rw[j4,hlen,j4] at i5
    simp only[d8,Option.some.injEq,Prod.mk.injEq] at i5
    obtain⟨rfl,rfl,rfl⟩:=i5
    simp only[hge,f4,aE,aA,seval,nI]
    exact hQ0.trans i3
   obtain⟨σi,rest,si⟩:=p
   obtain⟨i1,i2,i3,i5⟩:=hinv
   simp only at i1 i2 i3 i5
   obtain⟨y,hy⟩:∃y,tsb[i]?=some y:=⟨_,eN (by omega)⟩
   have AL:tsb.drop i=y::tsb.drop (i+1):=by
    obtain⟨h1,h2⟩:=gS.1 hy
    rw[rF h1,h2]
   rw[hdr,AL,d8] at i5
   have f4:=i3.2 b4 _ e4 h4b
   have f5:=i3.2 b5 _ e5 h5b
   have hw:=bL (n:=(i:Int)+1)
   simp only[bH,aE,f4,aA,seval,nI]
   refine wP [(0,1),(2,1),(5,1),(7,1),(10,1),(1,2),(3,1),(4,2),(6,2),(8,1),(9,2),(11,0),(12,1)] [0,2,5,7,10,1,3,4,6,8,9,12] mixed ?_
   simp only[f4,f5,bD (av:=Tm.av) a8 hx (aH x),bD (av:=Tm.av) a8 hy (aH y),aA,seval,nI]
   cases hu:dF g σi x y with
   | none=>rw[hu] at i5;cases i5
   | some p1=>
    obtain⟨r1,σ1,tr1⟩:=p1
    rw[hu] at i5
    have hx1:bG N x:=hka h1 x (cD hx)
    have hy1:bG N y:=hkb h2 y (cD hy)
    have hU:=w4 i1 hu
    have hA:=(ND (qS N) g).1 σi x y r1 σ1 tr1 i1 hu i2 hx1 hy1
    refine(IH σi x y r1 σ1 tr1 i1 i2 hx1 hy1 hu si i3.1).mono ?_
    rintro _ s2 ⟨rfl,hp2⟩
    cases r1 with
    | false=>
     simp only[Option.some.injEq,Prod.mk.injEq] at i5
     obtain⟨rfl,rfl,rfl⟩:=i5
     simp only[aA,seval]
     exact hQ0.trans (i3.trans hp2)
    | true=>
     simp only at i5
     cases hu2:d8 g σ1 (tsa.drop (i+1)) (tsb.drop (i+1)) with
     | none=>rw[hu2] at i5;cases i5
     | some p2=>
      obtain⟨r2,σ2,tr2⟩:=p2
      rw[hu2] at i5
      simp only[Option.some.injEq,Prod.mk.injEq] at i5
      obtain⟨rfl,rfl,_⟩:=i5
      simp only[aA,seval]
      exact⟨(σ1,tr2,s2),⟨hU.gW,hA,i3.trans hp2,hu2⟩,aN.mk (by simp only[hw,aA,seval])⟩
 · have hd:ka=kb→na=nb→sa=sb'→¬(tsa.length:Int)=(tsb.length:Int):=by
    intro e1 e2 e3 e4
    have:uK (Tm.mk ka na sa tsa) (Tm.mk kb nb sb' tsb)=true:=tB.2 ⟨e1,e2,e3,by simp only[Tm.ts];omega⟩
    rw[h3] at this;cases this
   by_cases e1:ka=kb
   · by_cases e2:na=nb
     · by_cases e3:sa=sb'
       · have e4:=hd e1 e2 e3
         subst e1 e2 e3
         simp only[bP,bF,eX,h54.symm,h1,aE,e4,aA,seval,nI]
         exact iE _ _
       · subst e1 e2
         simp only[bP,bF,eX,h54.symm,h1,e3,aA,seval,nI]
         exact iE _ _
     · subst e1
       simp only[bP,bF,eX,h54.symm,h1,e2,aA,seval,nI]
       exact iE _ _
   · clear hd
     simp only[bP,eX,h54.symm,h1,h2,e1,aA,seval,nI]
     exact iE _ _
theorem W1(N:Nat)(hN:N≤1048576)(bb:Nat):∀(g:Nat) (σ:Sub) (a b:Tm) (r:Bool) (σ':Sub) (add:List Int),cS σ→cV (bG N) σ→bG N a→bG N b→dF g σ a b=some (r,σ',add)→FH N 290 bb σ a b r σ'
 | 0,σ,a,b,r,σ',add,hg,hok,ha,hb,h=>by simp only[dF] at h;cases h
 | g+1,σ,a,b,r,σ',add,hg,hok,ha,hb,h=>by
  refine aLK N hN g bb (W1 N hN bb g) σ a b r σ' add hg hok ha hb h fun h1 h2=>?_
  obtain⟨rk,B,G⟩:=hg.rs
  obtain⟨fa,wa⟩:=G.wk a
  obtain⟨fb,wb⟩:=G.wk b
  have eb:=aPZ wb
  have ea:=aPZ wa
  have hbn:j9 σ (wk σ b).n (wk σ a)=(r,σ',add):=by
   rcases NB h with h | h | h | h | h
   · exact absurd h.1 h1
   · exact absurd h.1 h1
   · exact h.2.2
   · exact absurd h2 h.2.1
   · exact absurd h2 h.2.1
  refine aLK N hN 0 bb (fun σ a b r σ' add _ _ _ _ h=>by simp only[dF] at h;cases h) σ (wk σ b) (wk σ a) r σ' add hg hok (wb.all (p:=bG N) hok hb) (wa.all (p:=bG N) hok ha) ?_ fun h3=>?_
  · rw[dF,eb,ea,aF (fun h=>h1 h.2.1),aJ h2,hbn]
  · rw[eb] at h3;exact absurd h2 h3
end Go.AW
namespace Go.AW
noncomputable def sG(σ:Sub)(a b:Tm):Int×Sub×List Int:=(iO (jE σ a b).1,(jE σ a b).2)
noncomputable def vP(σ:Sub)(x y z:Tm):Int×Sub×List Int:=
 if x.k=1∨y.k=1 then(2,σ,[]) else if x.k≠2∨y.k≠3∨y.ts.length=0 then(3,σ,[]) else match m7 x y with
  | some u=>sG σ z u
  | none=>(1,σ,[])
noncomputable def dD(σ:Sub)(s:ByteArray):List Tm→Int×Sub×List Int
 | []=>(iO (decide (s=⟨#[116,114,117,101]⟩)),σ,[])
 | [x]=>(iO (tL s x),σ,[])
 | [x,y]=>if gC rQ s=true then(xW s x y,σ,[]) else if s=⟨#[61]⟩ then sG σ x y else if s=⟨#[92,61]⟩ then(iO (!(jE σ x y).1),σ,[])
  else if s=⟨#[61,61]⟩ then(iO (x.same y),σ,[]) else if y.ev.2≠0 then(y.ev.2,σ,[]) else sG σ x (nZ y.ev.1)
 | [x,y,z]=>vP σ x y z
 | _=>(0,σ,[])
structure m6 (N:Int) (σ:Sub) (σ':Sub) (add:List Int):Prop where
 gW:cS σ'
 ok:cV (bG N) σ'
 bB:∀n,n∉add→σ' n=σ n
 new:∀n∈add,σ n=none∧σ' n≠none
 nodup:add.Nodup
 gC:∀n∈add,0≤n∧n<N
theorem m6.same{N:Int}{σ:Sub}(hg:cS σ)(ho:cV (bG N) σ):m6 N σ σ []:=⟨hg,ho,fun _ _=>rfl,by simp,oX,by simp⟩
theorem zO.wS{N:Int}{σ:Sub}{a b:Tm}{r:Bool}{σ':Sub}{tr:List Int}(h:zO N σ a b r σ' tr):m6 N σ σ' tr:=⟨h.nN.gW,h.ok,h.nN.bB,h.nN.new,h.nN.nodup,h.gC⟩
theorem m6.nN{N:Nat}{σ:Sub}{a b:Tm}(hg:cS σ)(ho:cV (bG N) σ)(ha:bG N a)(hb:bG N b):m6 N σ (jE σ a b).2.1 (jE σ a b).2.2:=by
 obtain⟨r,σ',tr,h⟩:=tS hg ho ha hb
 rw[h.eq]
 exact h.wS
theorem LM{N:Int}{n:Int}(h:jZ n):bG N (nZ n):=by
 have h1:=a2F h
 have h2:=Tm.IV h1
 refine⟨⟨h2.1,h2.2.1,fun v hv=>?_⟩,Tm.w6 h1⟩
 unfold nZ at hv
 rw[Tm.kV (by decide)] at hv
 obtain⟨t,ht,_⟩:=hv
 cases ht
theorem WK{N:Int}{x y u:Tm}(hy:bG N y)(hk:y.k≠1)(h:m7 x y=some u):bG N u:=qS N y hk hy u (WJ h)
theorem L7{N:Nat}{σ:Sub}(hg:cS σ)(ho:cV (bG N) σ)(s:ByteArray)(ks:List Tm)(hv:∀x∈ks,bG N x):m6 N σ (dD σ s ks).2.1 (dD σ s ks).2.2:=by
 have hs:=m6.same hg ho
 match ks,hv with
 | [],_=>exact hs
 | [x],_=>exact hs
 | [x,y],hv=>
  have hx:=hv x (by simp)
  have hy:=hv y (by simp)
  simp only[dD]
  split
  · exact hs
  split
  · exact m6.nN hg ho hx hy
  split
  · exact hs
  split
  · exact hs
  split
  · exact hs
  · exact m6.nN hg ho hx (LM (Tm.uG y hy.1))
 | [x,y,z],hv=>
  have hy:=hv y (by simp)
  have hz:=hv z (by simp)
  simp only[dD,vP]
  split
  · exact hs
  rename_i h1
  split
  · exact hs
  split
  · rename_i u hu
    exact m6.nN hg ho hz (WK hy (fun h=>h1 (.inr h)) hu)
  · exact hs
 | a::b::c::d::l,_=>exact hs
theorem aWZ(ρ:Int→Int):∀t:Tm,(bV ρ t).ev=t.ev:=by
 intro t
 induction t using Tm.ind with
 | h k n s ts ih=>
  by_cases h1:k=1
  · rw[yN ρ (t:=.mk k n s ts) h1,vr,Tm.x6,Tm.x6,h1]
    simp
  rw[wR ρ h1,Tm.x6,Tm.x6,rI]
  have:ts.map (Tm.ev∘bV ρ)=ts.map Tm.ev:=pW fun x hx=>ih x hx
  rw[this]
section
variable {ρ:Int→Int} {N:Int} {σ τ:Sub}
theorem fM.back(S:fM ρ N σ τ):∃δ:Int→Int,∀v,0≤v→v<N→δ (ρ v)=v:=by
 refine⟨fun w=>open Classical in if h:∃v,0≤v∧v<N∧ρ v=w then h.choose else 0,fun v h0 h1=>?_⟩
 have h:∃u,0≤u∧u<N∧ρ u=ρ v:=⟨v,h0,h1,rfl⟩
 simp only[dif_pos h]
 obtain⟨a,b,c⟩:=h.choose_spec
 exact S.inj _ _ a b h0 h1 c
theorem fM.a4Q(S:fM ρ N σ τ){x y:Tm}(hx:cM N x)(hy:cM N y)(e:bV ρ x=bV ρ y):x=y:=by
 obtain⟨δ,hδ⟩:=S.back
 have key:∀ {t:Tm},cM N t→bV δ (bV ρ t)=t:=fun {t} ht=>by
  rw[show bV δ (bV ρ t)=t.aG fun v=>vr (δ (ρ v)) from HK ρ _ t]
  rw[n6 (g:=vr) t fun v hv=>by rw[hδ v (ht.2.2 v hv).1 (ht.2.2 v hv).2]]
  exact G8 t ht.2.1
 rw[←key hx,e,key hy]
theorem fM.same(S:fM ρ N σ τ){x y:Tm}(hx:cM N x)(hy:cM N y):(bV ρ x).same (bV ρ y)=x.same y:=by
 rw[u9,Tm.BD,Tm.BD]
 exact⟨S.a4Q hx hy,fun e=>by rw[e]⟩
theorem a56(ρ:Int→Int)(s:ByteArray)(x:Tm):tL s (bV ρ x)=tL s x:=by
 unfold tL
 rw[yM]
 by_cases h:x.k=1
 · rw[h];simp
 · have:(bV ρ x).ts.length=x.ts.length:=by
    rw[EA ρ h]
    simp only[Tm.ts,aE]
   rw[this]
theorem aQ8(ρ:Int→Int){x y:Tm}(hx:x.k=2)(hy:y.k=3):m7 (bV ρ x) (bV ρ y)=(m7 x y).map (bV ρ):=by
 obtain⟨k,n,s,ts⟩:=x
 obtain⟨k',n',s',ts'⟩:=y
 simp only[Tm.k] at hx hy
 subst hx hy
 rw[wR ρ (by decide),wR ρ (by decide)]
 unfold m7
 show(if 1≤n∧n≤((ts'.map (bV ρ)).length:Int) then(ts'.map (bV ρ))[(n - 1).toNat]? else none)=Option.map (bV ρ) (if 1≤n∧n≤(ts'.length:Int) then ts'[(n - 1).toNat]? else none)
 by_cases h:1≤n∧n≤(ts'.length:Int)
 · rw[aJ h,aJ (by rw[aE];exact h),mD]
 · rw[aF h,aF (by rw[aE];exact h)];try rfl
def mG(ρ:Int→Int)(N:Int)(x y:Int×Sub×List Int):Prop:=y.1=x.1∧y.2.2=x.2.2.map ρ∧fM ρ N x.2.1 y.2.1
theorem mG.same(S:fM ρ N σ τ)(c:Int):mG ρ N (c,σ,[]) (c,τ,[]):=⟨rfl,rfl,S⟩
end
section
variable {ρ:Int→Int} {N:Nat} {σ τ:Sub}
theorem mG.nN(S:fM ρ N σ τ)(hg:cS σ)(hg':cS τ)(ho:cV (bG N) σ){a b:Tm}(ha:bG N a)(hb:bG N b):mG ρ N (sG σ a b) (sG τ (bV ρ a) (bV ρ b)):=by
 obtain⟨r,σ',tr,h⟩:=tS hg ho ha hb
 obtain⟨g,hg2⟩:=h.run
 obtain⟨τ',e,S',_⟩:=S.jE hg hg' ho.lY ha.1 hb.1 hg2
 unfold sG
 rw[h.eq,e]
 exact⟨rfl,rfl,S'⟩
theorem a4R(ρ:Int→Int)(n:Int):bV ρ (nZ n)=nZ n:=wR ρ (by decide)
theorem fM.dD(S:fM ρ N σ τ)(hg:cS σ)(hg':cS τ)(ho:cV (bG N) σ)(s:ByteArray)(ks:List Tm)(hv:∀x∈ks,bG N x):mG ρ N (AW.dD σ s ks) (AW.dD τ s (ks.map (bV ρ))):=by
 match ks,hv with
 | [],_=>exact mG.same S _
 | [x],_=>
  simp only[aZ,aV,AW.dD,a56]
  exact mG.same S _
 | [x,y],hv=>
  have hx:=hv x (by simp)
  have hy:=hv y (by simp)
  have hu:=mG.nN S hg hg' ho hx hy
  simp only[aZ,aV,AW.dD,xW,aWZ,S.same hx.1 hy.1]
  by_cases h1:gC rQ s=true
  · rw[aJ h1,aJ h1];exact mG.same S _
  rw[aF h1,aF h1]
  by_cases h2:s=⟨#[61]⟩
  · rw[aJ h2,aJ h2];exact hu
  rw[aF h2,aF h2]
  by_cases h3:s=⟨#[92,61]⟩
  · rw[aJ h3,aJ h3]
    obtain⟨r,σ',tr,h⟩:=tS hg ho hx hy
    obtain⟨g,hg2⟩:=h.run
    obtain⟨τ',e,_,_⟩:=S.jE hg hg' ho.lY hx.1 hy.1 hg2
    rw[h.eq,e]
    exact mG.same S _
  rw[aF h3,aF h3]
  by_cases h4:s=⟨#[61,61]⟩
  · rw[aJ h4,aJ h4];exact mG.same S _
  rw[aF h4,aF h4]
  by_cases h5:y.ev.2≠0
  · rw[aJ h5,aJ h5];exact mG.same S _
  rw[aF h5,aF h5]
  have:=mG.nN S hg hg' ho hx (LM (N:=N) (Tm.uG y hy.1))
  rw[a4R] at this
  exact this
 | [x,y,z],hv=>
  have hy:=hv y (by simp)
  have hz:=hv z (by simp)
  simp only[aZ,aV,AW.dD,vP,yM]
  by_cases h1:x.k=1∨y.k=1
  · rw[aJ h1,aJ h1];exact mG.same S _
  rw[aF h1,aF h1]
  have hl:(bV ρ y).ts.length=y.ts.length:=by
   rw[EA ρ (t:=y) (fun h=>h1 (.inr h))]
   simp only[Tm.ts,aE]
  rw[hl]
  by_cases h2:x.k≠2∨y.k≠3∨y.ts.length=0
  · rw[aJ h2,aJ h2];exact mG.same S _
  rw[aF h2,aF h2]
  have kx:x.k=2:=xB fun h=>h2 (.inl h)
  have ky:y.k=3:=xB fun h=>h2 (.inr (.inl h))
  rw[aQ8 ρ kx ky]
  cases hu:m7 x y with
  | none=>exact mG.same S _
  | some u=>exact mG.nN S hg hg' ho hz (WK hy (fun h=>h1 (.inr h)) hu)
 | a::b::c::d::l,_=>
  simp only[aZ,AW.dD]
  exact mG.same S _
end
theorem a5S(σ:Sub)(s:ByteArray)(ks:List Tm):0≤(dD σ s ks).1:=by
 have hc:∀b,0≤iO b:=fun b=>by unfold iO;split<;>omega
 have hr:∀n,0≤(jA n).2:=fun n=>by unfold jA;split<;>simp
 have har:∀s a b,0≤(rM s a b).2:=fun s a b=>by
  unfold rM
  split
  · exact hr _
  split
  · exact hr _
  split
  · exact hr _
  split
  · simp
  split
  · simp
  · simp
 have hb:∀(f:Int→Int→Int×Int) (x y:Int×Int),(∀a b,0≤(f a b).2)→0≤x.2→0≤y.2→0≤(both f x y).2:=fun f x y hf hx hy=>by
  unfold both
  split
  · exact hx
  split
  · exact hy
  · exact hf _ _
 have he:∀t:Tm,0≤t.ev.2:=by
  intro t
  induction t using Tm.ind with
  | h k n s ts ih=>
   rw[Tm.x6]
   split
   · simp
   split
   · simp
   split
   · match ts,ih with
     | [],_=>simp [two]
     | [x],_=>simp [two]
     | [x,y],ih=>exact hb _ _ _ (har s) (ih x (by simp)) (ih y (by simp))
     | x::y::z::l,_=>simp [two]
   · simp
 match ks with
 | []=>exact hc _
 | [x]=>exact hc _
 | [x,y]=>
  simp only[dD]
  split
  · exact hb _ _ _ (fun _ _=>hc _) (he x) (he y)
  split
  · exact hc _
  split
  · exact hc _
  split
  · exact hc _
  split
  · exact he y
  · exact hc _
 | [x,y,z]=>
  simp only[dD,vP]
  split
  · simp
  split
  · simp
  split
  · exact hc _
  · simp
 | a::b::c::d::l=>simp [dD]
end Go.AW
namespace Go.AW
open Go.Proofs.Tryz
theorem aQ7(σ:Sub)(x y z:Tm):vP σ x y z=if(rN x y).2=0 then sG σ z (rN x y).1 else((rN x y).2,σ,[]):=by
 unfold vP rN
 split
 · simp
 split
 · simp
 cases m7 x y<;>rfl
def rK(N bb:Nat)(st:aB)(x:Int×Sub×List Int)(r:AV)(st':aB):Prop:=r=.int .i64 x.1∧AN N bb st x.2.1 st'
theorem rK.same{N bb:Nat}{st:aB}{σ:Sub}{r:AV}(h:fL N st bb σ)(k:Int)(hr:r=.int .i64 k):rK N bb st (k,σ,[]) r st:=⟨hr,AN.refl h⟩
theorem FX{N:Nat}(hN:N≤1048576){σ:Sub}(hg:cS σ)(ho:cV (bG N) σ)(a b:Tm)(ha:bG N a)(hb:bG N b)(bb:Nat)(st:aB)(hS:fL N st bb σ) :
 aD prog 290 [a.av,b.av,.mslice bb 0 N 4] st (fun r st'=>r=.bool (jE σ a b).1∧AN N bb st (jE σ a b).2.1 st'):=by
 obtain⟨r,σ',tr',hU⟩:=tS hg ho ha hb
 obtain⟨g,kQ⟩:=hU.run
 rw[hU.eq]
 exact W1 N hN bb g σ a b r σ' tr' hg ho ha hb kQ st hS
abbrev q9:=zi aX (zi bZ (zi cJ (zi bS bQ)))
theorem aSB{N:Nat}(hN:N≤1048576){σ:Sub}(hg:cS σ)(ho:cV (bG N) σ)(n:Int)(s:ByteArray)(ks:List Tm)(hb:isBuiltin s (ks.length:Int)=true)(hne:s≠⟨#[92,61]⟩)(hv:∀x∈ks,bG N x)(bb:Nat)(st:aB)(hS:fL N st bb σ) :
 aD prog 226 [(Tm.mk 3 n s ks).av,.mslice bb 0 N 4] st (rK N bb st (dD σ s ks)):=by
 have hcs:=WU hb
 have DJ:=fun x y (hxy:ks= [x,y])=>aUL n s x y (hv x (by simp [hxy])).1 (hv y (by simp [hxy])).1
 have aKH:=fun x y z (hxy:ks= [x,y,z])=>aUK n s x y z (hv y (by simp [hxy])).1
 have aKJ:=fun x (hxy:ks= [x]) h=>aUQ n s x h
 simp only[aU] at DJ aKH aKJ ⊢
 refine wF [1000000] 2 func226 ntmps226 rfl rfl ?_
 intro _
 simp only[aA,seval,q9]
 refine aP (fun h=>?_) (fun h=>?_)
 · have hs:s=⟨#[116,114,117,101]⟩:=by simpa using h
   have hk:=LO (ts:=ks) (by subst hs;simpa [isBuiltin] using hb)
   subst hk
   simp only[aA,seval]
   exact rK.same hS _ (by simp [iO,hs])
 have ht:s≠⟨#[116,114,117,101]⟩:=by simpa using h
 simp only[aA,seval]
 refine aP (fun h=>?_) (fun h=>?_)
 · have hs:s=⟨#[102,97,105,108]⟩:=by simpa using h
   have hk:=LO (ts:=ks) (by subst hs;simpa [isBuiltin] using hb)
   subst hk
   simp only[aA,seval]
   exact rK.same hS _ (by simp [iO,hs])
 have hf:s≠⟨#[102,97,105,108]⟩:=by simpa using h
 simp only[aA,seval]
 refine aP (fun h=>?_) (fun h=>?_)
 · have hs:s=⟨#[61]⟩:=by simpa using h
   obtain⟨x,y,rfl⟩:=uS (ts:=ks) (by subst hs;simp [isBuiltin] at hb;omega)
   have e:dD σ s [x,y]=sG σ x y:=by subst hs;rfl
   rw[e]
   have dR:c9 prog 34 (.slice [x.av,y.av]) (.int .i64 0)=some (.pptr x.av):=bD (av:=Tm.av) (l:=[x,y]) (i:=0) a8 rfl (aH x)
   have fR:c9 prog 34 (.slice [x.av,y.av]) (.int .i64 1)=some (.pptr y.av):=bD (av:=Tm.av) (l:=[x,y]) (i:=1) a8 rfl (aH y)
   simp only[aA,seval]
   refine wX [(0,1),(1,1),(2,1),(3,1),(4,1),(5,1),(6,1),(7,1),(8,1),(9,0),(10,0),(11,1)] [0,1,2,3,4,5,6,7,8,11] eR mixed rfl fN ?_
   simp only[dR,fR,aT,aH,aA,seval,q9]
   refine(FX hN hg ho x y (hv x (by simp)) (hv y (by simp)) bb _ hS).mono ?_
   rintro _ s2 ⟨rfl,hP⟩
   simp only[aA,seval]
   refine⟨fN,?_⟩
   refine(sT _ _).to ?_
   simp only[aA,seval]
   exact⟨fN,rfl,hP⟩
 have he:s≠⟨#[61]⟩:=by simpa using h
 simp only[aA,seval]
 refine aP (fun h=>absurd (by simpa using h) hne) (fun h=>?_)
 simp only[aA,seval]
 refine aP (fun h=>?_) (fun h=>?_)
 · have hs:s=⟨#[61,61]⟩:=by simpa using h
   obtain⟨x,y,rfl⟩:=uS (ts:=ks) (by subst hs;simp [isBuiltin] at hb;omega)
   have e:dD σ s [x,y]=(iO (x.same y),σ,[]):=by subst hs;rfl
   rw[e]
   have dR:c9 prog 34 (.slice [x.av,y.av]) (.int .i64 0)=some (.pptr x.av):=bD (av:=Tm.av) (l:=[x,y]) (i:=0) a8 rfl (aH x)
   have fR:c9 prog 34 (.slice [x.av,y.av]) (.int .i64 1)=some (.pptr y.av):=bD (av:=Tm.av) (l:=[x,y]) (i:=1) a8 rfl (aH y)
   simp only[aA,seval]
   refine CT mixed (by decide +kernel) (by decide +kernel) ?_
   simp only[dR,fR,aT,aH,aA,seval,q9]
   refine fK (YL x y _) ?_
   simp only[aA,seval]
   refine fK (sT _ _) ?_
   simp only[aA,seval]
   exact rK.same hS _ rfl
 have hee:s≠⟨#[61,61]⟩:=by simpa using h
 simp only[aA,seval]
 refine aP (fun h=>?_) (fun h=>?_)
 · have hs:s=⟨#[105,115]⟩:=by simpa using h
   obtain⟨x,y,rfl⟩:=uS (ts:=ks) (by subst hs;simp [isBuiltin] at hb;omega)
   have e:dD σ s [x,y]=if y.ev.2≠0 then(y.ev.2,σ,[]) else sG σ x (nZ y.ev.1):=by subst hs;rfl
   rw[e]
   have hy:=hv y (by simp)
   have hin:=LM (N:=N) (Tm.uG y hy.1)
   have har:=fun st=>J2 y st hy.1
   generalize y.ev.1=a at *
   generalize y.ev.2=ca at *
   have dR:c9 prog 34 (.slice [x.av,y.av]) (.int .i64 0)=some (.pptr x.av):=bD (av:=Tm.av) (l:=[x,y]) (i:=0) a8 rfl (aH x)
   have fR:c9 prog 34 (.slice [x.av,y.av]) (.int .i64 1)=some (.pptr y.av):=bD (av:=Tm.av) (l:=[x,y]) (i:=1) a8 rfl (aH y)
   simp only[fR,aT,aH,aA,seval,q9]
   refine(har _).to ?_
   simp only[aA,seval]
   refine aP (fun h4=>?_) (fun h4=>?_)
   · simp only[aA,seval]
     have h4':ca≠0:=by simpa using h4
     rw[aJ h4']
     exact rK.same hS _ rfl
   have h4':ca=0:=by simpa using h4
   subst h4'
   rw[aF (by simp)]
   simp only[aA,seval]
   refine wX [(0,1),(1,1),(2,1),(3,1),(4,1),(6,1),(5,0),(7,0),(8,0),(9,1)] [0,1,2,3,4,6,9] eR mixed rfl fN ?_
   simp only[dR,aT,aH,aA,seval,q9]
   refine(CV a _).to ?_
   rw[←a2E]
   simp only[aA,seval]
   refine⟨fN,?_⟩
   refine(FX hN hg ho x (nZ a) (hv x (by simp)) hin bb _ hS).mono ?_
   rintro _ s2 ⟨rfl,hP⟩
   simp only[aA,seval]
   refine⟨fN,?_⟩
   refine(sT _ _).to ?_
   simp only[aA,seval]
   exact⟨fN,rfl,hP⟩
 have his:s≠⟨#[105,115]⟩:=by simpa using h
 simp only[aA,seval]
 refine aP (fun h=>?_) (fun h=>?_)
 · have hs:s=⟨#[97,114,103]⟩:=by simpa using h
   obtain⟨x,y,z,rfl⟩:=aLJ (ts:=ks) (by subst hs;simp [isBuiltin] at hb;omega)
   have e:dD σ s [x,y,z]=vP σ x y z:=rfl
   rw[e,aQ7]
   have hz:=hv z (by simp)
   have hy:=hv y (by simp)
   have hga:=aKH x y z rfl
   have hgv:(rN x y).2=0→bG N (rN x y).1:=fun h=>by
    unfold rN at h ⊢
    split at h
    · cases h
    rename_i h1
    rw[aF h1]
    split at h
    · cases h
    rename_i h2
    rw[aF h2]
    cases hu:m7 x y with
    | none=>rw[hu] at h;cases h
    | some u=>exact qS N y (fun h=>h1 (.inr h)) hy u (WJ hu)
   generalize (rN x y).1=u at *
   generalize (rN x y).2=cu at *
   have qJ:c9 prog 34 (.slice [x.av,y.av,z.av]) (.int .i64 2)=some (.pptr z.av):=bD (av:=Tm.av) (l:=[x,y,z]) (i:=2) a8 rfl (aH z)
   simp only[aZ,aV] at hga
   simp only[aA,seval,q9]
   refine(hga _).to ?_
   simp only[aH,cC,bT,aA,↓aR,seval,q9]
   refine aP (fun h4=>?_) (fun h4=>?_)
   · simp only[aA,seval]
     have h4':cu≠0:=by simpa using h4
     rw[aF h4']
     exact rK.same hS _ rfl
   have h4':cu=0:=by simpa using h4
   subst h4'
   rw[aJ rfl]
   simp only[aA,seval]
   refine wX [(0,1),(1,1),(2,1),(3,1),(4,1),(5,1),(6,0),(7,0),(8,1)] [0,1,2,3,4,5,8] eR mixed rfl fN ?_
   simp only[qJ,aT,aH,aA,seval,q9]
   refine(FX hN hg ho z u hz (hgv rfl) bb _ hS).mono ?_
   rintro _ s2 ⟨rfl,hP⟩
   simp only[aA,seval]
   refine⟨fN,?_⟩
   refine(sT _ _).to ?_
   simp only[aA,seval]
   exact⟨fN,rfl,hP⟩
 have aJ8:s≠⟨#[97,114,103]⟩:=by simpa using h
 simp only[aA,seval,q9]
 refine(aUM s _).to ?_
 simp only[aA,seval]
 refine aP (fun h=>?_) (fun h=>?_)
 · have hlen:ks.length=2:=by
    rcases hcs with ⟨h2,h3⟩ | ⟨h2,h3⟩ | ⟨h2,h3⟩ | ⟨h2,h3⟩
    · exact h2
    · simp [ht,hf] at h3
    · rcases h3 with rfl | rfl | rfl | rfl<;>exact absurd h (by decide)
    · exact absurd h3 aJ8
   obtain⟨x,y,rfl⟩:=uS hlen
   have e:dD σ s [x,y]=(xW s x y,σ,[]):=by simp only[dD];rw[aJ h]
   rw[e]
   have hc:=DJ x y rfl
   simp only[aZ,aV] at hc
   simp only[aA,seval,q9]
   refine(hc _).to ?_
   simp only[aA,seval]
   exact rK.same hS _ rfl
 · have hlen:ks.length=1∧(s=⟨#[118,97,114]⟩∨s=⟨#[110,111,110,118,97,114]⟩∨s=⟨#[97,116,111,109]⟩∨s=⟨#[105,110,116]⟩):=by
    rcases hcs with ⟨h2,h3⟩ | ⟨h2,h3⟩ | ⟨h2,h3⟩ | ⟨h2,h3⟩
    · simp [h,he,hne,hee,his] at h3
    · simp [ht,hf] at h3
    · exact⟨h2,h3⟩
    · exact absurd h3 aJ8
   obtain⟨x,rfl⟩:=G6 hlen.1
   have e:dD σ s [x]=(iO (tL s x),σ,[]):=rfl
   rw[e]
   have hc:=aKJ x rfl hlen.2
   simp only[aZ,aV] at hc
   simp only[aA,seval,q9]
   refine(hc _).to ?_
   simp only[aA,seval]
   exact rK.same hS _ rfl
theorem WN(N:Nat)(σ:Sub):vO 4 (cX N σ):=by
 intro e h
 simp only[cX,cI] at h
 obtain⟨i,_,rfl⟩:=h
 refine⟨J7 _,?_⟩
 cases σ (i:Int) with
 | none=>rfl
 | some u=>exact bT u
theorem FT(N:Nat)(σ:Sub):∀e∈cX N σ,e.cE=false:=by
 intro e h
 simp only[cX,cI] at h
 obtain⟨i,_,rfl⟩:=h
 cases σ (i:Int) with
 | none=>rfl
 | some u=>exact cC u
theorem uB(N:Nat)(σ:Sub):(cX N σ).length=N:=by simp [cX]
theorem OG{N:Nat}(h0:0<N)(hN:N≤1048576)(σ:Sub){st:aB}{K:AV→aB→Prop}(hK:∀b,st b=none→fL N (st.aC b (.cells ((cX N σ).flatMap AV.cells))) b σ→K (.mslice b 0 N 4) (st.aC b (.cells ((cX N σ).flatMap AV.cells)))) :
 kD prog 34 st (.fslice []) (.slice (cX N σ)) K:=by
 have hl:=uB N σ
 refine eD (P:=prog) (st:=st) (b:=0) (l:=[]) (xs:=cX N σ) (x:=.slice (cX N σ)) (K:=K) a8 fW fX rfl rfl (WN N σ) (by simp) (by simp) (by simp only[aW,hl];omega) (by simp only[aW,hl];omega) (fun b hb=>?_)
 have hne: []++cX N σ≠[]:=by
  rw[eL]
  intro e
  rw[e] at hl
  simp at hl
  omega
 rw[pA hne,jR hne,eL,hl]
 exact hK b (hb hne) (aB.aO _ _ _)
theorem aSD{N:Nat}(h0:0<N)(hN:N≤1048576){σ:Sub}(hg:cS σ)(ho:cV (bG N) σ)(n:Int)(s:ByteArray)(x y:Tm)(hs:s=⟨#[92,61]⟩)(hx:bG N x)(hy:bG N y)(st:aB) :
 aD prog 226 [(Tm.mk 3 n s [x,y]).av,.slice (cX N σ)] st (fun r st'=>r=.int .i64 (iO (!(jE σ x y).1))∧st'=st):=by
 have ht:s≠⟨#[116,114,117,101]⟩:=by subst hs;decide
 have hf:s≠⟨#[102,97,105,108]⟩:=by subst hs;decide
 have he:s≠⟨#[61]⟩:=by subst hs;decide
 refine aD.done ?_
 simp only[aU 3,aZ,aV]
 refine wF [1000000] 2 func226 ntmps226 rfl rfl ?_
 intro _
 have dR:c9 prog 34 (.slice [x.av,y.av]) (.int .i64 0)=some (.pptr x.av):=bD (av:=Tm.av) (l:=[x,y]) (i:=0) a8 rfl (aH x)
 have fR:c9 prog 34 (.slice [x.av,y.av]) (.int .i64 1)=some (.pptr y.av):=bD (av:=Tm.av) (l:=[x,y]) (i:=1) a8 rfl (aH y)
 simp only[aA,seval,q9]
 refine aP (fun h=>absurd (by simpa using h) ht) (fun h=>?_)
 simp only[aA,seval]
 refine aP (fun h=>absurd (by simpa using h) hf) (fun h=>?_)
 simp only[aA,seval]
 refine aP (fun h=>absurd (by simpa using h) he) (fun h=>?_)
 simp only[aA,seval]
 refine aP (fun h=>?_) (fun h=>absurd hs (by simpa using h))
 simp only[aA,seval]
 refine wX [(0,1),(1,1),(2,1),(3,1),(4,1),(5,1),(6,1),(7,1),(8,1),(9,1),(10,0),(11,0),(12,1),(13,0),(14,1)] [0,1,2,3,4,5,6,7,8,9,12,14] eR mixed rfl fN ?_
 simp only[dR,fR,aT,aH,aA,seval,q9]
 refine OG h0 hN σ fun b hb hA0=>?_
 have hD0:aL (st.aC b (.cells ((cX N σ).flatMap AV.cells))) st:=(aL.refl _).aC hb
 generalize st.aC b (.cells ((cX N σ).flatMap AV.cells))=s0 at *
 simp only[aA,seval]
 refine⟨fN,?_⟩
 refine(FX hN hg ho x y hx hy b _ hA0).mono ?_
 rintro _ s2 ⟨rfl,hA,hk⟩
 simp only[aA,seval]
 refine⟨fN,?_⟩
 refine(sT _ _).to ?_
 simp only[aA,seval]
 refine⟨fN,rfl,fun q=>?_⟩
 have key:∀o,st q=some o→s2 q=some o:=fun o h=>hk q o ((hD0 q).2 o h) (by rintro rfl;rw[hb] at h;cases h)
 refine⟨fun h=>?_,key⟩
 cases hq:st q with
 | none=>rfl
 | some o=>rw[key o hq] at h;cases h
theorem aSC{N:Nat}(h0:0<N)(hN:N≤1048576){σ:Sub}(hg:cS σ)(ho:cV (bG N) σ)(n:Int)(s:ByteArray)(ks:List Tm)(hb:isBuiltin s (ks.length:Int)=true)(hv:∀x∈ks,bG N x)(bb:Nat)(st:aB)(hS:fL N st bb σ) :
 aD prog 226 [(Tm.mk 3 n s ks).av,.mslice bb 0 N 4] st (rK N bb st (dD σ s ks)):=by
 by_cases hs:s=⟨#[92,61]⟩
 · obtain⟨x,y,rfl⟩:=uS (ts:=ks) (by subst hs;simp [isBuiltin] at hb;omega)
   have e:dD σ s [x,y]=(iO (!(jE σ x y).1),σ,[]):=by subst hs;rfl
   rw[e]
   have hc:=aSD h0 hN hg ho n s x y hs (hv x (by simp)) (hv y (by simp)) eR
   refine(aD.aJV (args':=[(Tm.mk 3 n s [x,y]).av,.mslice bb 0 N 4]) (st:=st) rfl hc fun h vs S V=>?_).mono ?_
   · simp only[dA] at V ⊢
     obtain⟨v,vs',rfl,V1,w,ws',rfl,V2,rfl⟩:=V
     refine⟨v,[w],rfl,V1.mono ((aL.eR st).step h),w,[],rfl,?_,rfl⟩
     have h2:=V2.fz S hS (FT N σ) ⟨4,CS N σ⟩
     have h3:(AV.mslice bb 0 N 4).fz bb (cX N σ)=.slice (cX N σ):=by simp [AV.fz,uB]
     rw[h3] at h2
     exact h2.mono ((aL.eR (st.erase bb)).step h)
   · rintro _ _ ⟨rfl,rfl⟩
     exact rK.same hS _ rfl
 · exact aSB hN hg ho n s ks hb hs hv bb st hS
abbrev EI:=zi aX (zi bS bQ)
theorem aR9{N:Nat}{σ:Sub}(hok:cV (cM N) σ){f:Nat}{t u:Tm}(hw:f0 σ f t u)(ht:cM N t)(st:aB):aD prog 329 [t.av,.slice (cX N σ)] st (fun r st'=>r=u.av∧st'=st):=by
 refine aD.done ?_
 refine wF [1000000,2] 2 func329 ntmps329 rfl rfl ?_
 intro _
 have hlen:(cX N σ).length=N:=by simp [cX]
 simp only[aA,seval,EI]
 intro b2 h2 b4 h4
 have hne:b4≠b2:=by rintro rfl;rw[aB.aO] at h4;cases h4
 have hn4:st b4=none:=by rw[aB.aM st _ hne] at h4;exact h4
 refine iG (σ:=Nat×Tm) [1000000,2] [1,2,4] (fun p=>f0 σ p.1 p.2 u∧cM N p.2) (fun p=>[]) (fun p=>(st.aC b2 (.cells p.2.av.cells)).aC b4 (.cells [.int .i64 0,.int .i64 0,.str ⟨#[]⟩,.fslice []])) (fun p=>p.1) (by decide +kernel) ⟨(f,t),⟨hw,ht⟩,aN.mk (by simp only[aA,seval])⟩ ?_
 rintro⟨g,t⟩ ⟨hw,ht⟩
 obtain⟨k,n,s,ts⟩:=t
 simp only at hw ht
 simp only[aU]
 have iR:k≠1∨σ n=none→u=.mk k n s ts:=fun h=>by
  cases hw with
  | stop _=>rfl
  | go h1 h2 _=>
   simp only[Tm.k] at h1
   rcases h with h | h
   · exact absurd h1 h
   · rw[show σ n=some _ from h2] at h;cases h
 simp only[hne.symm,aA,seval,EI]
 refine cU (fun h=>?_) (fun h=>?_)
 case refine_2=>
  simp only[h,aK,hne.symm,aA,seval,EI]
  simp only[fU,dB] at h
  rw[iR (.inl h),←aU]
  exact⟨Tm.soft _,((aL.refl _).aC h2).aC hn4⟩
 simp only[bO] at h
 subst h
 obtain⟨hn0,hn1,_⟩:=ht.var
 obtain⟨i,rfl⟩:∃i:Nat,n=i:=⟨n.toNat,by omega⟩
 have hi:i<N:=by omega
 have hi':decide ((i:Int)<(N:Int))=true:=by simp;omega
 simp only[bF,hi',eX,hne.symm,hlen,aA,seval,EI]
 have hat:c9 prog 34 (.slice (cX N σ)) (.int .i64 (i:Int))=some (.pptr (cellOf (σ (i:Int)))):=bD (av:=fun i:Nat=>cellOf (σ (i:Int))) a8 (List.getElem?_range hi) (J7 _)
 cases hw with
 | stop hs=>
  rw[show σ (i:Int)=none from hs rfl] at hat
  simp only[cellOf] at hat
  simp only[hat,bF,aK,hne.symm,aA,seval,EI]
  exact⟨by rw[←aU,Tm.soft],((aL.refl _).aC h2).aC hn4⟩
 | go h1 h2' h3=>
  simp only[Tm.n] at h2'
  have ho:=hok _ _ h2'
  rename_i g' u'
  obtain⟨k',n',s',ts'⟩:=u'
  have hk':¬k'=0:=by have:=ho.kind.1;omega
  rw[h2'] at hat
  simp only[cellOf,aU] at hat
  simp only[hat,hk',bP,aK,hne.symm,aA,seval,EI]
  rw[aB.w5 hne,aB.n9 _ _ _ hne]
  refine⟨(g',.mk k' n' s' ts'),I8 _,⟨h3,ho⟩,?_⟩
  simp only[aU]
  exact aN.mk (by simp only[aA,seval])
abbrev tM:=zi aX (zi cJ (zi bS bQ))
theorem WZ{N:Nat}{σ:Sub}{R:Int→Tm}{rk:Int→Nat}{B:Nat}(G:Good σ R rk B)(hok:cV (bG N) σ) :
 ∀(room:Nat) (t:Tm) (st:aB),room≤120→bG N t→aD prog 286 [t.av,.slice (cX N σ),.int .i64 (room:Int)] st (Full (t.aG R) room st)
 | room,t,st,hr,ht=>by
  have IH:=fun(L5:Nat) (hlt:L5<room) (x:Tm) st=>WZ G hok L5 x st
  obtain⟨f,hw⟩:=G.wk t
  generalize wk σ t=u at *
  have LD:cV (cM N) σ:=fun n u hu=>(hok n u hu).1
  have hsu:=hw.all (p:=bG N) hok ht
  have hcw:=fun st=>aR9 LD hw ht.1 st
  obtain⟨k,n,s,ts⟩:=u
  have hv:=aJ1 G hw (hsu.1.2.1)
  rw[hv]
  obtain⟨hlen,mN⟩:=Tm.nF (hsu.1.small)
  have a9U:=hsu.1.kind.2
  have hkn:=hsu.1.all.2
  have hkk:∀x∈ts,bG N x:=fun x hx=>by
   refine⟨hkn x hx,?_⟩
   have:=hsu.2
   rw[Tm.gK] at this
   have:=HQ (f:=Tm.nodes) hx
   omega
  refine aD.mL (aD.fin ?_)
  refine wF [1000000,3,8] 3 func286 ntmps286 rfl rfl ?_
  intro _
  simp only[aA,seval,tM]
  intro b3 h3 b6 h6
  have h63:b6≠b3:=by rintro rfl;rw[aB.aO] at h6;cases h6
  have hn6:st b6=none:=by rw[aB.aM st _ h63] at h6;exact h6
  have hwr:∀z:Int,-1≤z→z≤200→IntKind.i64.wrap z=z:=fun z h1 h2=>wrap64 (by omega) (by omega)
  have hw1:=hwr ((room:Int) - 1) (by omega) (by omega)
  refine aP (fun h=>?_) (fun h=>?_)
  · simp only[bO] at h
    obtain rfl:room=0:=by omega
    simp only[aK,aA,↓aR,seval,tM]
    refine⟨0,[],_,rfl,by simp,by simp,⟨4,by simp⟩,st,(fun x=>by by_cases e3:x=b3<;>by_cases e6:x=b6<;>simp_all [aB.aC]),rfl,Tm.zero,-1,?_,Int.le_refl _,?_⟩
    · simp only[Tm.zero,aU,fO,jS,dZ,iD,nW,aZ,aV]
    · rw[aF (by rw[Tm.gK];omega)];decide
  simp only[dB] at h
  simp only[h63.symm,aA,seval,tM]
  refine(hcw _).to ?_
  simp only[aU]
  simp only[aK,h63.symm,hw1,aA,↓aR,seval,tM]
  intro b8 h8
  have h83:b8≠b3:=by rintro rfl;simp [aB.aC] at h8
  have h86:b8≠b6:=by rintro rfl;simp [aB.aC,h63] at h8
  have hn8:st b8=none:=by rw[aB.aM _ _ h83,aB.aM _ _ h86,aB.aM _ _ h83] at h8;exact h8
  rw[aB.w5 h63]
  have hW6:((st.aC b6 (.cells [.int .i64 0,.int .i64 0,.str ⟨#[]⟩,.fslice []])).aC b3 (.cells [.int .i64 k,.int .i64 n,.str s,.slice (ts.map Tm.av)])) b6=some (.cells [.int .i64 0,.int .i64 0,.str ⟨#[]⟩,.fslice []]):=by rw[aB.aM _ _ h63,aB.aO]
  have hW3:((st.aC b6 (.cells [.int .i64 0,.int .i64 0,.str ⟨#[]⟩,.fslice []])).aC b3 (.cells [.int .i64 k,.int .i64 n,.str s,.slice (ts.map Tm.av)])) b3=some (.cells [.int .i64 k,.int .i64 n,.str s,.slice (ts.map Tm.av)]):=aB.aO _ _ _
  have hWd:∀Y Z,aL ((((st.aC b6 (.cells [.int .i64 0,.int .i64 0,.str ⟨#[]⟩,.fslice []])).aC b3 (.cells [.int .i64 k,.int .i64 n,.str s,.slice (ts.map Tm.av)])).aC b8 Z).aC b6 Y) st:=fun Y Z x=>by
   by_cases e3:x=b3<;>by_cases e6:x=b6<;>by_cases e8:x=b8<;>simp_all [aB.aC]
  generalize ((st.aC b6 (.cells [.int .i64 0,.int .i64 0,.str ⟨#[]⟩,.fslice []])).aC b3 (.cells [.int .i64 k,.int .i64 n,.str s,.slice (ts.map Tm.av)]))=W at *
  have yE:(Tm.mk k n s (ts.map (Tm.aG R))).nodes=1+bK Tm.nodes (ts.map (Tm.aG R)):=Tm.gK _ _ _ _
  refine dV (σ:=Nat×List Tm×Int) [1000000,3,8] [1,3,6,7,8] ts
   (fun i p=>(p.2.1.map Tm.av≠[]→(W.aC b8 (.cells ([.int .i64 k,.int .i64 n,.str s]++ [bE 4 p.1 (p.2.1.map Tm.av)]))) p.1=none)∧p.2.1.length=i∧-1≤p.2.2 ∧
    (0≤p.2.2→p.2.1=(ts.take i).map (Tm.aG R)∧p.2.2=(room:Int) - 1 - bK Tm.nodes p.2.1)∧(p.2.2<0→room<1+bK Tm.nodes (ts.map (Tm.aG R))))
   (fun i p=>[(9,.int .i64 p.2.2),(10,.int .i64 i)])
   (fun i p=>eY W b8 p.1 [.int .i64 k,.int .i64 n,.str s] (p.2.1.map Tm.av)) (by decide +kernel)
   ⟨(0,[],(room:Int) - 1),⟨fun h=>absurd rfl h,rfl,by simp only;omega,fun _=>⟨by simp,by simp [bK]⟩,fun h=>by simp only at h;omega⟩,aN.mk (by simp only[aA,↓aR,seval])⟩ (fun i x p hx hlt bH AL hinv=>?_) (fun p hge hinv=>?_)
  · obtain⟨b,acc,left⟩:=p
    obtain⟨i1,i2,i3,i4,i5⟩:=hinv
    simp only at i1 i2 i3 i4 i5
    have h3o:=gJ i1 (x:=b3) (by rw[hW3];simp) h83.symm
    rw[hW3] at h3o
    simp only[bH,bF,eX,aE,h3o,aA,seval,tM]
    refine aP (fun h9=>?_) (fun h9=>?_)
    case refine_2=>
     simp only[dB] at h9
     have hbo:=eF i1
     have h6o:=gJ i1 (x:=b6) (by rw[hW6];simp) h86.symm
     rw[hW6] at h6o
     simp only[aK,hbo,h6o,eT,aA,seval,tM]
     obtain⟨g5,g6⟩:=jW (o:=.cells [.int .i64 k,.int .i64 n,.str s,bE 4 b (acc.map Tm.av)]) i1 (show W b6≠none by rw[hW6];simp) h86.symm
     refine⟨b,_,_,g5,g6,iM _,⟨4,dS _⟩,st,hWd _ _,rfl,.mk k n s acc,left,?_,i3,?_⟩
     · simp only[jS,fO,aZ,aV,dZ,iD,iJ,aU]
     · rw[yE]
       skip
       rw[aF (by have:=i5 (by omega);omega)]
       omega
    simp only[bO] at h9
    obtain⟨e1,e2⟩:=i4 h9
    have gO:=cD hx
    have hsl:=a5Y Tm.nodes (ts.map (Tm.aG R)) (i+1)
    rw[←E7,eA,hx] at hsl
    simp only[B7,sK,aZ,aV,ED,bK,←e1] at hsl
    obtain⟨L5,rfl⟩:∃r:Nat,left=r:=⟨left.toNat,by omega⟩
    have cF:(acc.map Tm.av).length=i:=by rw[aE,i2]
    have hw:=bL (n:=(i:Int)+1)
    have hbo:=eF i1
    simp only[h3o,bD (av:=Tm.av) a8 hx (aH x),aT,aH,aA,seval,tM]
    refine(IH L5 (by omega) x _ (by omega) (hkk x gO)).mono ?_
    rintro _ _ ⟨rfl,y,a2O,rfl,hl1,hl2⟩
    simp only[aT,aH,bT,cC,hbo,lQ,aA,↓aR,seval,tM]
    refine eD a8 fW fX rfl rfl (eO (aH _) (bT _)) (dS _) i1 (by simp only[cF,aS,aW];omega) (by simp only[cF,aS,aW];omega) (fun b' hb'=>?_)
    rw[show acc.map Tm.av++ [y.av]=(acc++ [y]).map Tm.av by simp] at hb' ⊢
    obtain⟨g1,g2,g3⟩:=nB hb'
    simp only[fC,eL] at g1 g3
    simp only[g3,lR,eT,g1,hw,aK,aA,seval,tM]
    refine⟨(b',acc++ [y],a2O),⟨g2,by simp [i2],hl1,fun h=>?_,fun h=>?_⟩,aN.mk (by simp only[aA,seval])⟩
    · simp only at h
      split at hl2
      · obtain⟨rfl,hl3⟩:=hl2
        refine⟨by rw[eA,hx];simp [e1],?_⟩
        simp only[ED,bK]
        omega
      · omega
    · simp only at h
      split at hl2
      · omega
      · omega
  · obtain⟨b,acc,left⟩:=p
    obtain⟨i1,i2,i3,i4,i5⟩:=hinv
    simp only at i1 i2 i3 i4 i5
    rw[dW] at i4
    have h3o:=gJ i1 (x:=b3) (by rw[hW3];simp) h83.symm
    rw[hW3] at h3o
    simp only[hge,aE,h3o,aA,seval,tM]
    have hbo:=eF i1
    have h6o:=gJ i1 (x:=b6) (by rw[hW6];simp) h86.symm
    rw[hW6] at h6o
    simp only[aK,hbo,h6o,eT,aA,seval,tM]
    obtain⟨g5,g6⟩:=jW (o:=.cells [.int .i64 k,.int .i64 n,.str s,bE 4 b (acc.map Tm.av)]) i1 (show W b6≠none by rw[hW6];simp) h86.symm
    refine⟨b,_,_,g5,g6,iM _,⟨4,dS _⟩,st,hWd _ _,rfl,.mk k n s acc,left,?_,i3,?_⟩
    · simp only[jS,fO,aZ,aV,dZ,iD,iJ,aU]
    · rw[yE]
      skip
      rcases Int.lt_or_le left 0 with h9 | h9
      · rw[aF (by have:=i5 h9;omega)];exact h9
      · obtain⟨e1,e2⟩:=i4 h9
        rw[←e1] at i5 ⊢
        rw[aJ (by omega)]
        exact⟨rfl,by omega⟩
termination_by room=>room
decreasing_by exact hlt
end Go.AW
namespace Go.AW
abbrev Cl:=Tm×List Tm
def bX:Cl→AV
 | (.mk k n s ts,b)=>.agg [.int .i64 k,.int .i64 n,.str s,.slice (ts.map Tm.av),.slice (b.map Tm.av)]
theorem gN(k n:Int)(s:ByteArray)(ts b:List Tm):bX (.mk k n s ts,b)=.agg [.int .i64 k,.int .i64 n,.str s,.slice (ts.map Tm.av),.slice (b.map Tm.av)]:=rfl
theorem C4(c:Cl):(bX c).isAgg=true:=by obtain⟨⟨k,n,s,ts⟩,b⟩:=c;rfl
theorem oG(c:Cl):(bX c).width=5:=by obtain⟨⟨k,n,s,ts⟩,b⟩:=c;rfl
theorem YW(c:Cl):(bX c).cells.length=5:=by obtain⟨⟨k,n,s,ts⟩,b⟩:=c;rfl
theorem YX(c:Cl):(bX c).cells.all AV.storable=true:=by obtain⟨⟨k,n,s,ts⟩,b⟩:=c;rfl
theorem J9(c:Cl):(bX c).cE=false:=by obtain⟨⟨k,n,s,ts⟩,b⟩:=c;rfl
def SE:Tm→Bool | .mk k _ s ts=>qX k s (ts.length:Int)
def lT(c:Cl):Bool:=c.1.valid&&SE c.1&&(decide (c.2.length≤6)&&c.2.all Tm.goal)
def qY(p:List Cl):Bool:=decide (p.length≤20)&&p.all lT
def GG(c:Cl):Int:=(aY (c.1::c.2) []).foldl (fun n v=>if n≤v then v+1 else n) 0
def oI(c:Cl):Nat:=(GG c).toNat
def dE(N:Nat)(t:Tm):Tm:=bV (fun v=>v+(N:Int)) t
def eW(t:Tm):Bool:=t.flat 30&&decide (t.nodes≤120)
def rR(t:Tm):Bool:=decide (t.k=3)&&decide (t.s=⟨#[33]⟩)&&decide ((t.ts.length:Int)=0)
def GQ(c:Cl)(t:Tm):Bool:=decide (c.1.s=t.s)&&decide ((c.1.ts.length:Int)=(t.ts.length:Int))
def eP(p:List Cl)(t:Tm):List Nat:=(List.range p.length).filter fun i=>match p[i]? with
 | some c=>GQ c t
 | none=>false
def rV(c:Int):Int:=if c=2 then 4 else if c=3 then 5 else if c=4 then 6 else 7
noncomputable def j8(σ:Sub)(vars:List Int):Option (List Tm):=
 if((vars.map (rs σ)).all eW=true)∧(aY (vars.map (rs σ)) []).length≤26 then some (kJ (vars.map (rs σ))) else none
structure RG where
 t:Tm
 bB:Nat
structure RC where
 goal:Tm
 rest:List RG
 left:List Nat
 σ:Sub
 N:Nat
structure RS where
 goals:List RG
 σ:Sub
 N:Nat
 chs:List RC
inductive RO where
 | go (s:RS)
 | fail
 | stop (e:Int)
noncomputable def iS(p:List Cl)(chs:List RC)(goal:Tm)(rest:List RG)(σ:Sub)(N:Nat):List Nat→Option RS
 | []=>none
 | i::l=>match p[i]? with
  | none=>none
  | some x=>if(jE σ goal (dE N x.1)).1=true then
   some ⟨x.2.map (fun t=>⟨dE N t,chs.length⟩)++rest,(jE σ goal (dE N x.1)).2.1,N+oI x,if l= [] then chs else chs++ [⟨goal,rest,l,σ,N⟩]⟩
   else iS p chs goal rest σ N l
noncomputable def gY(p:List Cl):Nat→List RC→Option RS
 | 0,_=>none
 | n+1,chs=>match chs.getLast? with
  | none=>none
  | some c=>match iS p chs.dropLast c.goal c.rest c.σ c.N c.left with
   | some s=>some s
   | none=>gY p n chs.dropLast
noncomputable def k6(p:List Cl)(cnd:Tm→List Nat→List Nat)(s:RS)(g:RG)(rest:List RG):RO:=
 if eW (g.t.aG (rs s.σ))=false then .stop 3
 else if rR (g.t.aG (rs s.σ))=true then .go ⟨rest,s.σ,s.N,s.chs.take g.bB⟩
 else if isBuiltin (g.t.aG (rs s.σ)).s ((g.t.aG (rs s.σ)).ts.length:Int)=true then
  if(dD s.σ (g.t.aG (rs s.σ)).s (g.t.aG (rs s.σ)).ts).1=0 then .go ⟨rest,(dD s.σ (g.t.aG (rs s.σ)).s (g.t.aG (rs s.σ)).ts).2.1,s.N,s.chs⟩
  else if(dD s.σ (g.t.aG (rs s.σ)).s (g.t.aG (rs s.σ)).ts).1=1 then .fail
  else .stop (rV (dD s.σ (g.t.aG (rs s.σ)).s (g.t.aG (rs s.σ)).ts).1)
 else if eP p (g.t.aG (rs s.σ))= [] then .stop 8
 else match iS p s.chs (g.t.aG (rs s.σ)) rest s.σ s.N (cnd (g.t.aG (rs s.σ)) (eP p (g.t.aG (rs s.σ)))) with
  | some s'=>.go s'
  | none=>.fail
noncomputable def kS(p:List Cl)(cnd:Tm→List Nat→List Nat)(vars:List Int)(most fuel:Nat)(s:RS):List (List Tm)×Int:=
 match s.goals with
 | []=>if h:most=0 then([],1) else match j8 s.σ vars with
  | none=>([],3)
  | some a=>match gY p s.chs.length s.chs with
   | none=>([a],0)
   | some s'=>(a::(kS p cnd vars (most - 1) fuel s').1,(kS p cnd vars (most - 1) fuel s').2)
 | g::rest=>if h:fuel=0 then([],2) else match k6 p cnd s g rest with
  | .stop e=>([],e)
  | .go s'=>kS p cnd vars most (fuel - 1) s'
  | .fail=>match gY p s.chs.length s.chs with
   | none=>([],0)
   | some s'=>kS p cnd vars most (fuel - 1) s'
termination_by most+fuel
decreasing_by all_goals omega
def lJ(q:List Tm):RS:=⟨q.map fun t=>⟨t,0⟩,Sub.none,26,[]⟩
noncomputable def wT(p:List Cl)(cnd:Tm→List Nat→List Nat)(q:List Tm)(most fuel:Nat):List (List Tm)×Int:=kS p cnd (aY q []) most fuel (lJ q)
structure IG where
 t:Tm
 cut:Nat
 up:Int
structure IC where
 goal:Tm
 node:Nat
 rest:List IG
 list:List Nat
 fG:Nat
 taken:Nat
structure IS where
 goals:List IG
 σ:Sub
 tr:List Int
 chs:List IC
 fresh:Nat
 nn:Nat
inductive xD where
 | go (s:IS)
 | fail (s:IS)
 | stop (e:Int)
noncomputable def fS(p:List Cl)(goal:Tm)(at':Nat)(rest:List IG):List Nat→IS→Bool×IS
 | [],s=>(false,s)
 | i::l,s=>match p[i]? with
  | none=>(false,s)
  | some x=>if(jE s.σ goal (dE s.fresh x.1)).1=true then
   (true,⟨x.2.map (fun t=>⟨dE s.fresh t,s.chs.length,at'⟩)++rest,(jE s.σ goal (dE s.fresh x.1)).2.1,s.tr++(jE s.σ goal (dE s.fresh x.1)).2.2,if l= [] then s.chs else s.chs++ [⟨goal,at',rest,l,s.tr.length,s.nn⟩],s.fresh+26,s.nn⟩)
   else fS p goal at' rest l { s with fresh:=s.fresh+26 }
def IS.pop(s:IS)(c:IC):IS:={ s with chs:=s.chs.dropLast,σ:=s.σ.out (s.tr.drop c.fG),tr:=s.tr.take c.fG,nn:=c.taken }
noncomputable def gQ(p:List Cl):Nat→IS→Option IS
 | 0,_=>none
 | n+1,s=>match s.chs.getLast? with
  | none=>none
  | some c=>if(fS p c.goal c.node c.rest c.list (s.pop c)).1=true then some (fS p c.goal c.node c.rest c.list (s.pop c)).2 else gQ p n (fS p c.goal c.node c.rest c.list (s.pop c)).2
noncomputable def lW(p:List Cl)(cnd:Tm→List Nat→List Nat)(s:IS)(g:IG)(rest:List IG):xD:=
 if eW (g.t.aG (rs s.σ))=false then .stop 3
 else if rR (g.t.aG (rs s.σ))=true then .go { s with goals:=rest,chs:=s.chs.take g.cut,nn:=s.nn+1 }
 else if isBuiltin (g.t.aG (rs s.σ)).s ((g.t.aG (rs s.σ)).ts.length:Int)=true then
  if(dD s.σ (g.t.aG (rs s.σ)).s (g.t.aG (rs s.σ)).ts).1=0 then .go { s with goals:=rest,σ:=(dD s.σ (g.t.aG (rs s.σ)).s (g.t.aG (rs s.σ)).ts).2.1,tr:=s.tr++(dD s.σ (g.t.aG (rs s.σ)).s (g.t.aG (rs s.σ)).ts).2.2,nn:=s.nn+1 }
  else if(dD s.σ (g.t.aG (rs s.σ)).s (g.t.aG (rs s.σ)).ts).1=1 then .fail { s with σ:=(dD s.σ (g.t.aG (rs s.σ)).s (g.t.aG (rs s.σ)).ts).2.1,tr:=s.tr++(dD s.σ (g.t.aG (rs s.σ)).s (g.t.aG (rs s.σ)).ts).2.2,nn:=s.nn+1 }
  else .stop (rV (dD s.σ (g.t.aG (rs s.σ)).s (g.t.aG (rs s.σ)).ts).1)
 else if eP p (g.t.aG (rs s.σ))= [] then .stop 8
 else if(fS p (g.t.aG (rs s.σ)) s.nn rest (cnd (g.t.aG (rs s.σ)) (eP p (g.t.aG (rs s.σ)))) { s with nn:=s.nn+1 }).1=true then .go (fS p (g.t.aG (rs s.σ)) s.nn rest (cnd (g.t.aG (rs s.σ)) (eP p (g.t.aG (rs s.σ)))) { s with nn:=s.nn+1 }).2
 else .fail (fS p (g.t.aG (rs s.σ)) s.nn rest (cnd (g.t.aG (rs s.σ)) (eP p (g.t.aG (rs s.σ)))) { s with nn:=s.nn+1 }).2
noncomputable def jL(p:List Cl)(cnd:Tm→List Nat→List Nat)(vars:List Int)(most fuel:Nat)(s:IS):List (List Tm)×Int:=
 match s.goals with
 | []=>if h:most=0 then([],1) else match j8 s.σ vars with
  | none=>([],3)
  | some a=>match gQ p s.chs.length s with
   | none=>([a],0)
   | some s'=>(a::(jL p cnd vars (most - 1) fuel s').1,(jL p cnd vars (most - 1) fuel s').2)
 | g::rest=>if h:fuel=0 then([],2) else match lW p cnd s g rest with
  | .stop e=>([],e)
  | .go s'=>jL p cnd vars most (fuel - 1) s'
  | .fail s'=>match gQ p s'.chs.length s' with
   | none=>([],0)
   | some s''=>jL p cnd vars most (fuel - 1) s''
termination_by most+fuel
decreasing_by all_goals omega
def oL(q:List Tm):IS:=⟨q.map fun t=>⟨t,0,-1⟩,Sub.none,[],[],26,0⟩
structure oC (ρ:Int→Int) (N F:Nat) (σ τ:Sub):Prop where
 sim:fM ρ N σ τ
 rng:∀v,0≤v→v<(N:Int)→0≤ρ v∧ρ v<(F:Int)
 g1:cS σ
 o1:cV (bG N) σ
 g2:cS τ
 o2:cV (bG F) τ
 d1:∀n,¬(0≤n∧n<(N:Int))→σ n=none
 d2:∀n,¬(0≤n∧n<(F:Int))→τ n=none
 h26:26≤N
 idn:∀v,0≤v→v<26→ρ v=v
theorem oC.mono{ρ:Int→Int}{N F F':Nat}{σ τ:Sub}(S:oC ρ N F σ τ)(h:F≤F'):oC ρ N F' σ τ:=
 ⟨S.sim,fun v h0 h1=>⟨(S.rng v h0 h1).1,by have:=(S.rng v h0 h1).2;omega⟩,S.g1,S.o1,S.g2,S.o2.imp fun t ht=>ht.mono (by omega),S.d1,fun n hn=>S.d2 n fun h'=>hn ⟨h'.1,by omega⟩,S.h26,S.idn⟩
def sX(ρ:Int→Int)(N F:Nat):Int→Int:=fun v=>if v<(N:Int) then ρ v else v - N+F
theorem uH{ρ:Int→Int}{N F:Nat}{v:Int}(h:v<(N:Int)):sX ρ N F v=ρ v:=aJ h
theorem oC.ext{ρ:Int→Int}{N F:Nat}{σ τ:Sub}(S:oC ρ N F σ τ){k:Nat}(hk:k≤26):oC (sX ρ N F) (N+k) (F+26) σ τ:=by
 have mM:∀v:Int,¬v<(N:Int)→sX ρ N F v=v - N+F:=fun v h=>aF h
 refine⟨⟨fun v w hv0 hv1 hw0 hw1 e=>?_,fun v h0 h1=>?_⟩,fun v h0 h1=>?_,S.g1,S.o1.imp fun t ht=>ht.mono (by omega),S.g2,S.o2.imp fun t ht=>ht.mono (by omega),fun n hn=>S.d1 n fun h=>hn ⟨h.1,by omega⟩,fun n hn=>S.d2 n fun h=>hn ⟨h.1,by omega⟩,by have:=S.h26;omega,fun v h0 h1=>by rw[uH (by have:=S.h26;omega)];exact S.idn v h0 h1⟩
 · by_cases hv:v<(N:Int)<;>by_cases hw:w<(N:Int)
   · rw[uH hv,uH hw] at e;exact S.sim.inj v w hv0 hv hw0 hw e
   · rw[uH hv,mM w hw] at e
     have:=S.rng v hv0 hv
     omega
   · rw[uH hw,mM v hv] at e
     have:=S.rng w hw0 hw
     omega
   · rw[mM v hv,mM w hw] at e
     omega
 · by_cases hv:v<(N:Int)
   · rw[uH hv,S.sim.map v h0 hv]
     cases hs:σ v with
     | none=>rfl
     | some u=>
      simp only[oZ,Option.some.injEq]
      refine ST fun w hw=>?_
      rw[uH ((S.o1 v u hs).1.2.2 w hw).2]
   · rw[mM v hv,S.d1 v (fun h=>hv h.2),S.d2 _ (fun h=>by omega)]
     try rfl
 · by_cases hv:v<(N:Int)
   · rw[uH hv]
     have:=S.rng v h0 hv
     omega
   · rw[mM v hv];omega
theorem aJU(l:List Int):∀n:Int,n≤l.foldl (fun n v=>if n≤v then v+1 else n) n∧(∀v∈l,v<l.foldl (fun n v=>if n≤v then v+1 else n) n)∧∀m:Int,n≤m→(∀v∈l,v<m)→l.foldl (fun n v=>if n≤v then v+1 else n) n≤m:=by
 induction l with
 | nil=>intro n;exact⟨Int.le_refl _,by simp,fun m h _=>h⟩
 | cons x l ih=>
  intro n
  simp only[tX]
  obtain⟨h1,h2,h3⟩:=ih (if n≤x then x+1 else n)
  refine⟨?_,fun v hv=>?_,fun m hm hl=>h3 m ?_ fun v hv=>hl v (by simp [hv])⟩
  · split at h1<;>rename_i h<;>split<;>omega
  · rcases c8.1 hv with rfl | hv
    · split at h1<;>rename_i h<;>split<;>omega
    · exact h2 v hv
  · have:=hl x (by simp)
    split<;>omega
structure gF (c:Cl):Prop where
 head:bG 26 c.1
 body:∀t∈c.2,bG 26 t∧t.k=3
theorem gF.vars{c:Cl}(h:gF c){v:Int}:v∈aY (c.1::c.2) []↔∃t∈c.1::c.2,v∈t.vl:=by
 rw[tP]
 · simp
 · intro t ht
   rcases c8.1 ht with rfl | ht
   · exact h.head.1.2.1
   · exact(h.body t ht).1.1.2.1
theorem gF.D1{c:Cl}(h:gF c):∀t∈c.1::c.2,bG 26 t:=fun t ht=>by
 rcases c8.1 ht with rfl | ht
 · exact h.head
 · exact(h.body t ht).1
theorem gF.fr{c:Cl}(h:gF c):oI c≤26∧∀t∈c.1::c.2,∀v∈t.vl,v<(oI c:Int):=by
 obtain⟨h1,h2,h3⟩:=aJU (aY (c.1::c.2) []) 0
 have hle:=h3 26 (by omega) fun v hv=>by
  obtain⟨t,ht,hv⟩:=h.vars.1 hv
  exact((h.D1 t ht).1.2.2 v hv).2
 unfold oI GG
 refine⟨by omega,fun t ht v hv=>?_⟩
 have:=h2 v (h.vars.2 ⟨t,ht,hv⟩)
 omega
theorem gF.dE{c:Cl}(h:gF c)(N:Nat):∀t∈c.1::c.2,bG ((N+oI c:Nat):Int) (dE N t):=fun t ht=>by
 refine(h.D1 t ht).bV fun v hv=>?_
 have h1:=((h.D1 t ht).1.2.2 v hv).1
 have h2:=h.fr.2 t ht v hv
 omega
theorem SZ{ρ:Int→Int}{N F:Nat}{c:Cl}(h:gF c):∀t∈c.1::c.2,bV (sX ρ N F) (dE N t)=dE F t:=fun t ht=>by
 unfold AW.dE
 rw[show bV (sX ρ N F) (bV (fun v=>v+(N:Int)) t)=t.aG fun v=>vr (sX ρ N F (v+N)) from HK _ _ t]
 refine n6 t fun v hv=>?_
 have h1:=((h.D1 t ht).1.2.2 v hv).1
 show vr (sX ρ N F (v+(N:Int)))=vr (v+(F:Int))
 unfold sX
 rw[aF (by omega)]
 congr 1
 omega
theorem aM8{N:Nat}(t:Tm):(dE N t).k=t.k:=yM _ t
def GL(ρ:Int→Int)(N:Nat)(gs:List RG)(hs:List IG):Prop:=hs.map (fun h=>(h.t,h.cut))=gs.map (fun g=>(bV ρ g.t,g.bB))∧∀g∈gs,bG N g.t∧g.t.k=3
theorem GL.ext{ρ ρ':Int→Int}{N N':Nat}{gs:List RG}{hs:List IG}(h:GL ρ N gs hs)(hN:N≤N')(hr:∀v,0≤v→v<(N:Int)→ρ' v=ρ v):GL ρ' N' gs hs:=by
 refine⟨h.1.trans (pW fun g hg=>?_),fun g hg=>⟨(h.2 g hg).1.mono (by omega),(h.2 g hg).2⟩⟩
 rw[ST (ρ:=ρ) (ρ':=ρ') fun v hv=>(hr v ((h.2 g hg).1.1.2.2 v hv).1 ((h.2 g hg).1.1.2.2 v hv).2).symm]
theorem GL.app{ρ:Int→Int}{N:Nat}{gs gs':List RG}{hs hs':List IG}(h:GL ρ N gs hs)(h':GL ρ N gs' hs'):GL ρ N (gs++gs') (hs++hs'):=by
 refine⟨by rw[sK,sK,h.1,h'.1],fun g hg=>?_⟩
 rcases fQ.1 hg with hg | hg
 · exact h.2 g hg
 · exact h'.2 g hg
def C1(F:Nat)(c:RC)(d:IC)(τ:Sub):Prop:=∃ρ,oC ρ c.N F c.σ τ∧d.goal=bV ρ c.goal∧bG c.N c.goal∧GL ρ c.N c.rest d.rest∧d.list=c.left
inductive iQ (F:Nat):List RC→List IC→Sub→List Int→Prop
 | nil {τ:Sub} {tr:List Int}:iQ F [] [] τ tr
 | snoc {cs:List RC} {ds:List IC} {c:RC} {d:IC} {τ:Sub} {tr:List Int} (h:iQ F cs ds (τ.out (tr.drop d.fG)) (tr.take d.fG)) (h1:C1 F c d (τ.out (tr.drop d.fG))) (h2:d.fG≤tr.length):iQ F (cs++ [c]) (ds++ [d]) τ tr
theorem iQ.len{F:Nat}{cs:List RC}{ds:List IC}{τ:Sub}{tr:List Int}(h:iQ F cs ds τ tr):ds.length=cs.length:=by
 induction h with
 | nil=>rfl
 | snoc _ _ _ ih=>simp [ih]
theorem iQ.mono{F F':Nat}(hF:F≤F'){cs:List RC}{ds:List IC}{τ:Sub}{tr:List Int}(h:iQ F cs ds τ tr):iQ F' cs ds τ tr:=by
 induction h with
 | nil=>exact .nil
 | snoc _ h1 h2 ih=>exact .snoc ih (by obtain⟨ρ,h3,h4⟩:=h1;exact⟨ρ,h3.mono hF,h4⟩) h2
theorem aWI(tr:List Int){a m:Nat}(h:a≤m)(n:Int):n∈tr.drop m++(tr.take m).drop a↔n∈tr.drop a:=by
 have e:tr.drop a=(tr.take m).drop a++tr.drop m:=by
  conv=>lhs;rw[←sL m tr]
  rw[List.drop_append]
  by_cases hm:m≤tr.length
  · rw[dC,lP hm,show a - m=0 by omega,rG]
  · rw[List.drop_of_length_le (show tr.length≤m by omega)]
    simp
 rw[e,fQ,fQ,or_comm]
theorem iQ.lift{F:Nat}{cs:List RC}{ds:List IC}{τ:Sub}{tr:List Int}{m:Nat}(h:iQ F cs ds (τ.out (tr.drop m)) (tr.take m))(hm:m≤tr.length):iQ F cs ds τ tr:=by
 generalize hτ:τ.out (tr.drop m)=τ' at h
 generalize htr:tr.take m=tr' at h
 cases h with
 | nil=>exact .nil
 | @snoc cs ds c d _ _ h h1 h2=>
  subst hτ htr
  have hd:d.fG≤m:=by rw[dC] at h2;omega
  have e1:(τ.out (tr.drop m)).out ((tr.take m).drop d.fG)=τ.out (tr.drop d.fG):=by
   rw[Sub.a3U]
   exact Sub.a3V τ (aWI tr hd)
  have e2:(tr.take m).take d.fG=tr.take d.fG:=by rw[xG,lP hd]
  rw[e1,e2] at h
  rw[e1] at h1
  exact .snoc h h1 (by omega)
theorem iQ.more{F:Nat}{cs:List RC}{ds:List IC}{τ τ':Sub}{tr add:List Int}(h:iQ F cs ds τ tr)(e:τ'.out add=τ):iQ F cs ds τ' (tr++add):=by
 refine iQ.lift (m:=tr.length) ?_ (by simp)
 rw[E3,FA,e]
 exact h
theorem iQ.take{F:Nat}{cs:List RC}{ds:List IC}{τ:Sub}{tr:List Int}(h:iQ F cs ds τ tr)(k:Nat):iQ F (cs.take k) (ds.take k) τ tr:=by
 induction h with
 | nil=>simp;exact .nil
 | @snoc cs ds c d τ tr h h1 h2 ih=>
  have hl:=h.len
  by_cases hk:k≤cs.length
  · rw[B4 hk,B4 (by omega)]
    exact ih.lift h2
  · rw[lC (by simp;omega),lC (by simp;omega)]
    exact .snoc h h1 h2
def Rl(s:RS)(i:IS):Prop:=∃ρ,oC ρ s.N i.fresh s.σ i.σ∧GL ρ s.N s.goals i.goals∧iQ i.fresh s.chs i.chs i.σ i.tr
theorem zO.A6{N:Int}{σ:Sub}{a b:Tm}{r:Bool}{σ':Sub}{tr:List Int}(h:zO N σ a b r σ' tr):σ'.out tr=σ:=funext fun n=>h.out n
theorem m6.A6{N:Int}{σ σ':Sub}{add:List Int}(h:m6 N σ σ' add):σ'.out add=σ:=by
 funext n
 unfold Sub.out
 split
 · rename_i hn;exact((h.new n hn).1).symm
 · rename_i hn;exact h.bB n hn
theorem m6.vV{N:Nat}{σ σ':Sub}{add:List Int}(h:m6 N σ σ' add)(hd:∀n,¬(0≤n∧n<(N:Int))→σ n=none):∀n,¬(0≤n∧n<(N:Int))→σ' n=none:=fun n hn=>by
 rw[h.bB n fun h'=>hn (h.gC n h')]
 exact hd n hn
theorem oC.grow{ρ:Int→Int}{N F:Nat}{σ τ σ' τ':Sub}{add aQU:List Int}(S:oC ρ N F σ τ)(h:m6 N σ σ' add)(h':m6 F τ τ' aQU)(s:fM ρ N σ' τ'):oC ρ N F σ' τ':=
 ⟨s,S.rng,h.gW,h.ok,h'.gW,h'.ok,h.vV S.d1,h'.vV S.d2,S.h26,S.idn⟩
theorem oC.BB{ρ:Int→Int}{N F:Nat}{σ τ:Sub}(S:oC ρ N F σ τ){t:Tm}(h:bG N t):bG F (bV ρ t):=h.bV fun v hv=>S.rng v (h.1.2.2 v hv).1 (h.1.2.2 v hv).2
section
variable {p:List Cl} (hp:∀c∈p,gF c)
include hp
theorem M8{cs:List RC}{goal:Tm}{rest:List RG}{σ:Sub}{N:Nat}{ρ:Int→Int}{SV:List IG}{τ:Sub}{tr:List Int}{ds:List IC}{nn at':Nat}(hg:bG N goal)(hr:GL ρ N rest SV) :
 ∀(l:List Nat) (F:Nat) (gl:List IG),oC ρ N F σ τ→iQ F cs ds τ tr →
 match iS p cs goal rest σ N l with
 | none=>∃F',F≤F'∧fS p (bV ρ goal) at' SV l ⟨gl,τ,tr,ds,F,nn⟩=(false,⟨gl,τ,tr,ds,F',nn⟩)
 | some s=>∃i,fS p (bV ρ goal) at' SV l ⟨gl,τ,tr,ds,F,nn⟩=(true,i)∧Rl s i:=by
 intro l
 induction l with
 | nil=>intro F gl S C;exact⟨F,cZ _,rfl⟩
 | cons j l ih=>
  intro F gl S C
  unfold iS fS
  cases hj:p[j]? with
  | none=>exact⟨F,cZ _,rfl⟩
  | some x=>
   have hx:=hp x (cD hj)
   have S2:=S.ext hx.fr.1
   have hgo:bV (sX ρ N F) goal=bV ρ goal:=ST fun v hv=>uH (hg.1.2.2 v hv).2
   have hhd:=hx.dE N x.1 (by simp)
   have hgN:bG ((N+oI x:Nat):Int) goal:=hg.mono (by omega)
   obtain⟨r,σ',add,U⟩:=tS S2.g1 S2.o1 hgN hhd
   obtain⟨g,kQ⟩:=U.run
   obtain⟨τ',e,S',_⟩:=S2.sim.jE S2.g1 S2.g2 S2.o1.lY hgN.1 hhd.1 kQ
   rw[hgo,SZ hx x.1 (by simp)] at e
   have hF1:bG ((F+26:Nat):Int) (bV ρ goal):=by rw[←hgo];exact S2.BB hgN
   have hF2:bG ((F+26:Nat):Int) (dE F x.1):=by rw[←SZ (ρ:=ρ) (N:=N) (F:=F) hx x.1 (by simp)];exact S2.BB hhd
   obtain⟨r2,τ2,aQV,U2⟩:=tS S2.g2 S2.o2 hF1 hF2
   have e2:=U2.eq
   rw[e] at e2
   obtain⟨rfl,rfl,rfl⟩:r=r2∧τ'=τ2∧add.map (sX ρ N F)=aQV:=by simpa using e2
   simp only[U.eq,e]
   cases r with
   | false=>
    simp only[gE,d5]
    have:=ih (F+26) gl (S.mono (by omega)) (C.mono (by omega))
    cases hq:iS p cs goal rest σ N l with
    | none=>
     rw[hq] at this
     obtain⟨F',h1,h2⟩:=this
     exact⟨F',by omega,h2⟩
    | some s=>
     rw[hq] at this
     exact this
   | true=>
    simp only[gB]
    refine⟨_,rfl,sX ρ N F,S2.grow U.wS U2.wS S',?_,?_⟩
    · refine GL.app ⟨?_,fun g hg=>?_⟩ (hr.ext (show N≤N+oI x by omega) fun v _ hv=>uH hv)
      · simp only[rI]
        refine pW fun t ht=>?_
        simp only[E0]
        rw[SZ hx t (by simp [ht]),C.len]
      · obtain⟨t,ht,rfl⟩:=cI.1 hg
        exact⟨hx.dE N t (by simp [ht]),by rw[aM8];exact(hx.body t ht).2⟩
    · have C2:=(C.mono (show F≤F+26 by omega)).more U2.A6
      by_cases hl:l= []
      · simp only[aJ hl]
        exact C2
      · simp only[aF hl]
        refine .snoc ?_ ?_ (by simp)
        · simp only[E3,FA,U2.A6]
          exact C.mono (by omega)
        · simp only[E3,U2.A6]
          exact⟨ρ,S.mono (by omega),rfl,hg,hr,rfl⟩
theorem OJ:∀(n:Nat) (cs:List RC) (i:IS),iQ i.fresh cs i.chs i.σ i.tr →
 match gY p n cs with
 | none=>gQ p n i=none
 | some s=>∃i',gQ p n i=some i'∧Rl s i':=by
 intro n
 induction n with
 | zero=>intro cs i C;simp only[gY,gQ]
 | succ n ih=>
  intro cs i C
  obtain⟨gl,τ,tr,ds,F,nn⟩:=i
  simp only at C
  cases C with
  | nil=>simp only[gY,gQ,List.getLast?_nil]
  | @snoc cs ds c d _ _ h h1 h2=>
   obtain⟨ρ,S,e1,hok,hG,e2⟩:=h1
   have key:=M8 hp (cs:=cs) (nn:=d.taken) (at':=d.node) (tr:=tr.take d.fG) hok hG c.left F gl S h
   simp only[gY,gQ,List.getLast?_append,List.getLast?_singleton,Option.some_or,NP]
   have e3:(IS.pop ⟨gl,τ,tr,ds++ [d],F,nn⟩ d)=⟨gl,τ.out (tr.drop d.fG),tr.take d.fG,ds,F,d.taken⟩:=by simp only[IS.pop,NP]
   rw[e1,e2,e3]
   cases ht:iS p cs c.goal c.rest c.σ c.N c.left with
   | none=>
    rw[ht] at key
    obtain⟨F',hF,e⟩:=key
    simp only[e,gE,d5]
    exact ih cs _ (h.mono hF)
   | some s=>
    rw[ht] at key
    obtain⟨i',e,hR⟩:=key
    simp only[e,gB]
    exact⟨i',rfl,hR⟩
variable {cnd:Tm→List Nat→List Nat} (hc:∀(ρ:Int→Int) (t:Tm) (l:List Nat),cnd (bV ρ t) l=cnd t l)
omit hp in
theorem aMQ{ρ:Int→Int}{t:Tm}(h:t.k=3):(bV ρ t).s=t.s∧(bV ρ t).ts=t.ts.map (bV ρ)∧(bV ρ t).k=3:=by
 rw[EA ρ (by omega)]
 exact⟨rfl,rfl,h⟩
omit hp in
theorem aZF{ρ:Int→Int}{t:Tm}(h:t.k=3):eP p (bV ρ t)=eP p t:=by
 obtain⟨h1,h2,_⟩:=aMQ (ρ:=ρ) h
 unfold eP GQ
 simp only[h1,h2,aE]
include hc
theorem aNI{s:RS}{i:IS}{g:RG}{gs:List RG}(hR:Rl s i)(hgs:s.goals=g::gs) :
 ∃h hs,i.goals=h::hs∧match k6 p cnd s g gs with
 | .stop e=>lW p cnd i h hs=.stop e
 | .go s'=>∃i',lW p cnd i h hs=.go i'∧Rl s' i'
 | .fail=>∃i',lW p cnd i h hs=.fail i'∧iQ i'.fresh s.chs i'.chs i'.σ i'.tr:=by
 obtain⟨ρ,S,hG,C⟩:=hR
 rw[hgs] at hG
 obtain⟨gl,τ,tr,ds,F,nn⟩:=i
 simp only at S hG C ⊢
 cases gl with
 | nil=>exact absurd hG.1 (by simp)
 | cons h hs=>
  refine⟨h,hs,rfl,?_⟩
  have hGt:GL ρ s.N gs hs:=⟨(List.cons.inj hG.1).2,fun x hx=>hG.2 x (by simp [hx])⟩
  have he:=(List.cons.inj hG.1).1
  simp only[Prod.mk.injEq] at he
  obtain⟨e1,e2⟩:=he
  obtain⟨hgX,hg3⟩:=hG.2 g (by simp)
  have hT:=S.sim.rsT S.g1 S.g2 S.o1.lY hgX.1
  obtain⟨rk,B,G⟩:=S.g1.rs
  have hV:=G.R6 S.o1.lY hgX.1
  unfold k6 lW
  simp only[e1,hT]
  have ht3:(g.t.aG (rs s.σ)).k=3:=by rw[Tm.qR _ (by omega)];exact hg3
  generalize g.t.aG (rs s.σ)=t at *
  obtain⟨r1,r2,r3⟩:=aMQ (ρ:=ρ) ht3
  have fF:eW (bV ρ t)=eW t:=by unfold eW;rw[SU ρ hV.2.1,L4 ρ hV.2.1]
  have yA:rR (bV ρ t)=rR t:=by unfold rR;rw[r1,r2,r3,ht3,aE]
  simp only[fF,yA,aZF (p:=p) (ρ:=ρ) ht3,hc,r1,r2,aE]
  by_cases c1:eW t=false
  · rw[aJ c1,aJ c1]
  rw[aF c1,aF c1]
  have hX:bG s.N t:=⟨hV,by
   have:eW t=true:=by simpa using c1
   unfold eW at this
   simp only[cB,bO] at this
   exact this.2⟩
  by_cases c2:rR t=true
  · rw[aJ c2,aJ c2]
    refine⟨_,rfl,ρ,S,hGt,?_⟩
    simp only[e2]
    exact C.take g.bB
  rw[aF c2,aF c2]
  by_cases c3:isBuiltin t.s (t.ts.length:Int)=true
  · rw[aJ c3,aJ c3]
    have hk:∀x∈t.ts,bG s.N x:=qS _ t (by omega) hX
    obtain⟨q1,q2,q3⟩:=S.sim.dD S.g1 S.g2 S.o1 t.s t.ts hk
    have q4:=L7 S.g1 S.o1 t.s t.ts hk
    have q5:=L7 S.g2 S.o2 t.s (t.ts.map (bV ρ)) (fun x hx=>by
     obtain⟨y,hy,rfl⟩:=cI.1 hx
     exact S.BB (hk y hy))
    rw[q1]
    by_cases c4:(dD s.σ t.s t.ts).1=0
    · rw[aJ c4,aJ c4]
      exact⟨_,rfl,ρ,S.grow q4 q5 q3,hGt,C.more q5.A6⟩
    rw[aF c4,aF c4]
    by_cases c5:(dD s.σ t.s t.ts).1=1
    · rw[aJ c5,aJ c5]
      exact⟨_,rfl,C.more q5.A6⟩
    rw[aF c5,aF c5]
  rw[aF c3,aF c3]
  by_cases c6:eP p t= []
  · rw[aJ c6,aJ c6]
  rw[aF c6,aF c6]
  have key:=M8 hp (at':=nn) (nn:=nn+1) hX hGt (cnd t (eP p t)) F (h::hs) S C
  cases hq:iS p s.chs t gs s.σ s.N (cnd t (eP p t)) with
  | none=>
   rw[hq] at key
   obtain⟨F',hF,e⟩:=key
   simp only[e,gE,d5]
   exact⟨_,rfl,C.mono hF⟩
  | some s'=>
   rw[hq] at key
   obtain⟨i',e,hR⟩:=key
   simp only[e,gB]
   exact⟨i',rfl,hR⟩
end
theorem aO9{ρ:Int→Int}{N:Int}{σ τ:Sub}(S:fM ρ N σ τ):∀(l:List Tm) (acc:List Int),(∀t∈l,cM N t)→(∀v∈acc,0≤v∧v<N)→aY (l.map (bV ρ)) (acc.map ρ)=(aY l acc).map ρ∧∀v∈aY l acc,0≤v∧v<N
 | [],acc,_,ha=>⟨rfl,ha⟩
 | t::l,acc,h,ha=>by
  obtain⟨e1,e2⟩:=aPR (D:=fun v=>0≤v∧v<N) (h:=ρ) (fun v w hv hw e=>S.inj v w hv.1 hv.2 hw.1 hw.2 e) (f:=fun v=>vr (ρ v)) (fun _ _=>rfl) t (Tm.rS t (h t (by simp)).2.1) (h t (by simp)).2.2 acc ha
  simp only[aZ,aY]
  rw[show(bV ρ t).vars (acc.map ρ)=(t.vars acc).map ρ from e1]
  exact aO9 S l _ (fun x hx=>h x (by simp [hx])) e2
theorem a4V{ρ:Int→Int}{N:Int}{σ τ:Sub}(S:fM ρ N σ τ){l:List Tm}(h:∀t∈l,cM N t):kJ (l.map (bV ρ))=kJ l∧(aY (l.map (bV ρ)) []).length=(aY l []).length:=by
 obtain⟨e1,e2⟩:=aO9 S l [] h (by simp)
 rw[aV] at e1
 refine⟨?_,by rw[e1,aE]⟩
 unfold kJ
 rw[e1,rI]
 refine pW fun t ht=>?_
 simp only[E0]
 rw[HK]
 refine n6 t fun v hv=>?_
 rw[RJ (D:=fun v=>0≤v∧v<N) (fun v w hv hw e=>S.inj v w hv.1 hv.2 hw.1 hw.2 e) v ((h t ht).2.2 v hv) _ _ e2]
theorem aQ0{ρ:Int→Int}{N F:Nat}{σ τ:Sub}(S:oC ρ N F σ τ){vars:List Int}(hv:∀v∈vars,0≤v∧v<26):j8 τ vars=j8 σ vars:=by
 obtain⟨rk,B,G⟩:=S.g1.rs
 have hid:=S.idn
 have h26:=S.h26
 have e:vars.map (rs τ)=(vars.map (rs σ)).map (bV ρ):=by
  rw[rI]
  refine pW fun v h=>?_
  obtain⟨h0,h1⟩:=hv v h
  have:=S.sim.rs S.g1 S.g2 S.o1.lY v h0 (by omega)
  rw[hid v h0 h1] at this
  exact this
 have hok:∀t∈vars.map (rs σ),cM N t:=fun t ht=>by
  obtain⟨v,h,rfl⟩:=cI.1 ht
  obtain⟨h0,h1⟩:=hv v h
  exact G.lY S.o1.lY v h0 (by omega)
 obtain⟨e1,e2⟩:=a4V S.sim hok
 have e3:((vars.map (rs σ)).map (bV ρ)).all eW=(vars.map (rs σ)).all eW:=by
  rw[List.all_map,u9,dQ,dQ]
  have:∀t∈vars.map (rs σ),eW (bV ρ t)=eW t:=fun t ht=>by unfold eW;rw[SU ρ (hok t ht).2.1,L4 ρ (hok t ht).2.1]
  constructor
  · intro h t ht;rw[←this t ht];exact h t ht
  · intro h t ht;simp only[E0];rw[this t ht];exact h t ht
 unfold j8
 rw[e,e1,e2,e3]
section
variable {p:List Cl} (hp:∀c∈p,gF c) {cnd:Tm→List Nat→List Nat} (hc:∀(ρ:Int→Int) (t:Tm) (l:List Nat),cnd (bV ρ t) l=cnd t l)
include hp hc
theorem a43{vars:List Int}(hv:∀v∈vars,0≤v∧v<26):∀(n most fuel:Nat) (s:RS) (i:IS),most+fuel≤n→Rl s i→jL p cnd vars most fuel i=kS p cnd vars most fuel s:=by
 intro n
 induction n with
 | zero=>
  intro most fuel s i hn hR
  obtain⟨rfl,rfl⟩:most=0∧fuel=0:=by omega
  obtain⟨ρ,S,hG,C⟩:=hR
  rw[jL,kS]
  cases hgs:s.goals with
  | nil=>
   rw[hgs] at hG
   have hi:i.goals= []:=List.map_eq_nil_iff.1 hG.1
   simp [hi]
  | cons g gs=>
   rw[hgs] at hG
   cases hi:i.goals with
   | nil=>rw[hi] at hG;exact absurd hG.1 (by simp)
   | cons h hs=>simp
 | succ n ih=>
  intro most fuel s i hn hR
  cases hgs:s.goals with
  | nil=>
   obtain⟨ρ,S,hG,C⟩:=hR
   rw[hgs] at hG
   have hi:i.goals= []:=List.map_eq_nil_iff.1 hG.1
   rw[jL,kS]
   simp only[hgs,hi]
   by_cases hm:most=0
   · simp [hm]
   simp only[hm,dif_neg,HA]
   rw[aQ0 S hv]
   cases j8 s.σ vars with
   | none=>rfl
   | some a=>
    simp only
    have key:=OJ hp s.chs.length s.chs i C
    rw[C.len]
    cases hb:gY p s.chs.length s.chs with
    | none=>rw[hb] at key;simp only[key]
    | some s'=>
     rw[hb] at key
     obtain⟨i',e,hR'⟩:=key
     simp only[e]
     rw[ih (most - 1) fuel s' i' (by omega) hR']
  | cons g gs=>
   obtain⟨h,hs,hi,key⟩:=aNI hp hc hR hgs
   rw[jL,kS]
   simp only[hgs,hi]
   by_cases hf:fuel=0
   · simp [hf]
   simp only[hf,dif_neg,HA]
   cases hq:k6 p cnd s g gs with
   | stop e=>
    rw[hq] at key
    simp only[key]
   | go s'=>
    rw[hq] at key
    obtain⟨i',e,hR'⟩:=key
    simp only[e]
    exact ih most (fuel - 1) s' i' (by omega) hR'
   | fail=>
    rw[hq] at key
    obtain⟨i',e,C'⟩:=key
    simp only[e]
    have LN:=OJ hp s.chs.length s.chs i' C'
    rw[C'.len]
    cases hb:gY p s.chs.length s.chs with
    | none=>rw[hb] at LN;simp only[LN]
    | some s'=>
     rw[hb] at LN
     obtain⟨i'',e2,hR'⟩:=LN
     simp only[e2]
     exact ih most (fuel - 1) s' i'' (by omega) hR'
omit hp hc in
theorem aNH{q:List Tm}(hq:∀t∈q,bG 26 t∧t.k=3):Rl (lJ q) (oL q):=by
 refine⟨fun v=>v,⟨⟨fun v w _ _ _ _ e=>e,fun v _ _=>rfl⟩,fun v h0 h1=>⟨h0,h1⟩,cS.none,fun n u h=>(by cases h),cS.none,fun n u h=>(by cases h),fun _ _=>rfl,fun _ _=>rfl,cZ _,fun _ _ _=>rfl⟩,⟨?_,fun g hg=>?_⟩,.nil⟩
 · simp only[oL,lJ,rI]
   refine pW fun t ht=>?_
   simp only[E0]
   rw[show bV (fun v=>v) t=t from G8 t (hq t ht).1.1.2.1]
 · simp only[lJ] at hg
   obtain⟨t,ht,rfl⟩:=cI.1 hg
   exact hq t ht
theorem a5U{q:List Tm}(hq:∀t∈q,bG 26 t∧t.k=3)(most fuel:Nat):jL p cnd (aY q []) most fuel (oL q)=wT p cnd q most fuel:=by
 refine a43 hp hc (fun v hv=>?_) _ most fuel _ _ (cZ _) (aNH hq)
 rw[tP _ _ fun t ht=>(hq t ht).1.1.2.1] at hv
 rcases hv with hv | ⟨t,ht,hv⟩
 · cases hv
 · exact(hq t ht).1.1.2.2 v hv
end
theorem aV4{c:Cl}(h:lT c=true):gF c:=by
 simp only[lT,cB,bO,dQ] at h
 refine⟨⟨Tm.IV h.1.1,Tm.w6 h.1.1⟩,fun t ht=>?_⟩
 have hg:=h.2.2 t ht
 have hk:t.valid=true∧t.k=3:=by
  obtain⟨k,n,s,ts⟩:=t
  simp only[Tm.goal,cB] at hg
  refine⟨hg.1,?_⟩
  have:=hg.2
  simp only[x8,qX,rE,cB,bO] at this
  simp only[Tm.k]
  rcases this with (h | h) | h<;>first | exact h.1 | exact h.1.1 | exact h.1.1.1
 exact⟨⟨Tm.IV hk.1,Tm.w6 hk.1⟩,hk.2⟩
end Go.AW
namespace Go.AW
open Go.Proofs.Tryz
abbrev cG (l:List Tm):AV:=.agg [.slice (l.map Tm.av)]
theorem Tm.P2{t:Tm}(h:t.goal=true):t.valid=true:=by
 cases t;simp only[Tm.goal,cB] at h;exact h.1
theorem D8{q:List Tm}(h:gX q=true):(∀t∈q,t.valid=true)∧q.length≤6:=by
 simp only[gX,cB,bO,dQ] at h
 exact⟨fun t ht=>Tm.P2 (h.2 t ht),h.1⟩
theorem D7{q:List Tm}(h:gX q=true):bK Tm.nodes q≤1099511627776:=by
 obtain⟨h1,h2⟩:=D8 h
 have:=aNN h1
 omega
def valOf(vars:List Int)(cH:List Tm)(n:Int):Tm:=(cH[(d4 n vars 0).toNat]?).getD (vr n)
def jT(q cH:List Tm):Bool:=gX q&&decide (cH.length=(aY q []).length)&&cH.all Tm.valid
def kN(q cH:List Tm):Option (List Tm):=
 if jT q cH=true∧(q.map (Tm.aG (valOf (aY q []) cH))).all Tm.valid=true then some (q.map (Tm.aG (valOf (aY q []) cH))) else none
theorem LK(v:Int):∀(l:List Int) (i:Int),v∈l→∃j:Nat,d4 v l i=i+j∧j<l.length∧l[j]?=some v∧∀k:Nat,k<j→l[k]?≠some v
 | [],i,h=>by simp at h
 | x::xs,i,h=>by
  simp only[d4]
  by_cases e:v=x
  · exact⟨0,by rw[aJ e];simp,by simp,by simp [e],fun k hk=>absurd hk (Nat.not_lt_zero k)⟩
  · obtain⟨j,h1,h2,h3,h4⟩:=LK v xs (i+1) (by simpa [e] using h)
    refine⟨j+1,by rw[aF e,h1];omega,by simp;omega,by simpa using h3,fun k hk=>?_⟩
    cases k with
    | zero=>simp;exact fun h=>e h.symm
    | succ k=>simpa using h4 k (by omega)
abbrev MB:=zi aX (zi bZ (zi fA (zi bS nM)))
theorem XB(cH q:List Tm)(st:aB):aD prog 56 [cG cH,.slice (q.map Tm.av)] st (fun r st'=>r=.bool (jT q cH)∧st'=st):=by
 refine wF [1000000] 2 func56 ntmps56 rfl rfl ?_
 simp only[d7,AV.fits,d9,aE]
 intro ⟨⟨hl,_⟩,⟨hl2,_⟩⟩
 unfold jT
 simp only[cG,aA,seval,MB]
 refine wP [(0,1),(1,2),(2,1),(3,1),(6,1),(4,1),(5,1),(7,0),(8,1),(9,1),(10,1),(11,1),(12,1),(13,2),(14,0),(15,1),(16,1)] [0,1,2,3,6,4,5,8,9,10,11,12,13,15,16] mixed ?_
 simp only[aA,seval]
 refine fK (OS q _) ?_
 simp only[aA,seval]
 refine cU (fun h=>?_) (fun h=>?_)
 case refine_2=>
  simp only[h,aA,seval]
  simp at h
  simp []
 simp only[h,aE,aA,seval,MB]
 refine(z6 q _ (D7 h)).to ?_
 simp only[aE,aA,seval,MB]
 refine cU (fun h2=>?_) (fun h2=>?_)
 case refine_2=>
  simp only[h2,aA,seval]
  simp at h2
  rw[show decide (cH.length=(aY q []).length)=false by simp;omega,fB]
 simp only[h2,aA,seval,MB]
 refine(OR cH _).to ?_
 simp only[aA,seval]
 simp at h2
 rw[show decide (cH.length=(aY q []).length)=true by simp;omega,dU]
abbrev S8:=zi aX (zi fA (zi bS (zi nM bQ)))
theorem aSE(cH:List Tm)(vars:List Int)(n:Int)(hn:n∈vars)(hl:cH.length=vars.length)(st:aB):aD prog 64 [.int .i64 n,.pptr (cG cH),.pptr (.slice (vars.map iv))] st (fun r st'=>r=(valOf vars cH n).av∧st'=st):=by
 refine aD.done ?_
 refine wF [1000000] 3 func64 ntmps64 rfl rfl ?_
 intro _
 obtain⟨j,h1,h2,h3,_⟩:=LK n vars 0 hn
 obtain⟨x,hx⟩:∃x,cH[j]?=some x:=⟨_,eN (by omega)⟩
 have hat:=bD (av:=Tm.av) a8 hx (aH x)
 rw[Int.zero_add] at h1
 simp only[cG,aA,seval,S8]
 intro b hb
 refine wP [(0,1),(3,1),(1,2),(2,2),(4,2),(5,1),(6,2),(7,0)] [0,3,1,2,4,5,6] mixed ?_
 simp only[aA,seval,S8]
 refine fK (OQ vars n _) ?_
 rw[h1]
 simp only[hat,aA,seval,S8]
 refine⟨by rw[Tm.soft,valOf,h1,kX,hx];try rfl,(aL.refl _).aC hb⟩
abbrev MA:=zi aX (zi bZ (zi fA (zi bS (zi nM bQ))))
theorem aS9(q cH:List Tm)(st:aB):aD prog 15 [.slice (q.map Tm.av),cG cH] st (fun r st'=>∃o,r=.tup [o,.bool (kN q cH).isSome]∧Made st (.slice (((kN q cH).getD []).map Tm.av)) o st'):=by
 refine wF [1000000] 2 func15 ntmps15 rfl rfl ?_
 simp only[d7,AV.fits,d9,aE]
 intro ⟨⟨hl2,_⟩,hl,_⟩
 simp only[aA,seval,MA]
 refine(XB cH q _).to ?_
 simp only[aA,seval]
 have nY:kN q cH=none→∃o,AV.tup [.fslice [],.bool false]=.tup [o,.bool (kN q cH).isSome]∧Made st (.slice (((kN q cH).getD []).map Tm.av)) o st:=fun h=>by
  rw[h]
  exact⟨_,rfl,[],oX,by simp,by simp [cO],fun _ _=>rfl⟩
 refine aP (fun h=>?_) (fun h=>?_)
 · simp only[iV] at h
   simp only[aA,seval]
   exact nY (by rw[kN,aF (by simp [h])])
 simp only[lO] at h
 have hq:gX q=true:=by simp only[jT,cB] at h;exact h.1.1
 have hvl:cH.length=(aY q []).length:=by simp only[jT,cB,bO] at h;exact h.1.2
 have hva:∀x∈cH,x.valid=true:=by simp only[jT,cB,dQ] at h;exact h.2
 obtain⟨hqv,hq6⟩:=D8 hq
 simp only[aA,seval]
 refine(z6 q _ (D7 hq)).to ?_
 simp only[aE,aA,↓aR,seval,MA]
 have hcl:∀x∈q,∀n∈x.vl,∀s,aD prog 64 [.int .i64 n,.pptr (cG cH),.pptr (.slice ((aY q []).map iv))] s (fun r s'=>r=(valOf (aY q []) cH n).av∧s'=s):=fun x hx n hn s=>
  aSE cH (aY q []) n ((tP q [] fun t ht=>Tm.IU (hqv t ht)).2 (.inr ⟨x,hx,hn⟩)) hvl s
 have hfs:∀n,(valOf (aY q []) cH n).small=true:=fun n=>by
  unfold valOf
  cases hv:cH[(d4 n (aY q []) 0).toNat]? with
  | none=>rfl
  | some x=>exact Tm.y8 (hva x (cD hv))
 generalize hF:valOf (aY q []) cH=F at *
 refine oA (σ:=Unit) [1000000] [3,4,5,6,16,17] (q) 4 7 (fun i _=>(((q).take i).map (Tm.aG F)).map Tm.av) (fun _ _=>True) (fun i _=>[(18,.int .i64 i)]) (fun _ _=>st) (fun i _ _ e he=>by simp only[cI] at he;obtain⟨t,_,rfl⟩:=he;exact⟨cC t,aH t⟩) (by decide +kernel) ⟨(),0,trivial,fun h=>absurd rfl h,aN.mk (by simp only[iK,jG,aV,aA,↓aR,seval])⟩ (fun i x s b hx hlt bH hdr hinv hb=>?_) (fun s b hge hinv=>?_)
 case refine_1=>
  have hw:=bL (n:=(i:Int)+1)
  have cF:((((q).take i).map (Tm.aG F)).map Tm.av).length=i:=by simp only[aE,dC];omega
  have htk:((((q).take i).map (Tm.aG F)).map Tm.av)++ [Tm.av ((Tm.aG F) x)]=(((q).take (i+1)).map (Tm.aG F)).map Tm.av:=by rw[eA,hx];simp
  have hat:=bD (av:=Tm.av) a8 hx (aH x)
  simp only[bH,hat,aA,↓aR,seval,MA]
  refine(J4 F _ [.pptr (cG cH),.pptr (.slice ((aY q []).map iv))] rfl x _ (Tm.y8 (hqv x (cD hx))) (hcl x (cD hx))).to ?_
  simp only[aA,seval,MA]
  refine eD a8 fW fX rfl rfl (eO (aH _) (bT _)) (by intro e he;simp only[cI] at he;obtain⟨t,_,rfl⟩:=he;exact aH t) hb (by simp only[cF,aS,aW];omega) (by simp only[cF,aS,aW];omega) (fun b' hb'=>?_)
  rw[htk] at hb' ⊢
  simp only[aA,seval]
  exact⟨(),b',hb',aN.mk (by simp only[hw,aA,seval])⟩
 simp only[hge,dZ,nV,gV,nW,uJ,kF,dW,aA,seval]
 refine(OR _ _).to ?_
 simp only[aA,seval]
 refine aP (fun h2=>?_) (fun h2=>?_)
 · simp only[iV] at h2
   simp only[aA,seval]
   exact nY (by rw[kN,aF (by rw[hF];simp [h2])])
 simp only[lO] at h2
 simp only[aA,seval]
 have hsm:∀x∈q.map (Tm.aG F),x.small=true:=fun x hx=>by
  obtain⟨y,hy,rfl⟩:=cI.1 hx
  exact Tm.a3C hfs y (Tm.y8 (hqv y hy))
 refine(RZ (q.map (Tm.aG F)) _ (by rw[aE];omega) fun x hx s=>RY x s (hsm x hx)).mono ?_
 rintro o s1 hm
 have hoj:o.cE=false:=by obtain⟨bs,_,_,h3,_⟩:=hm;exact(cO.shape h3).2.2.1
 simp only[hoj,aA,seval]
 rw[kN,hF,aJ ⟨h,h2⟩]
 exact⟨o,rfl,hm⟩
end Go.AW
