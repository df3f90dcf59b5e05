import Derived.Test.YtkkihpokegenbaaGreatDoorVak
import Derived.Test.YtkkihpokegenbaaGreatDoorVai
import Derived.Test.YtkkihpokegenbaaGreatDoorVaf
set_option linter.unusedSimpArgs false
set_option linter.unusedVariables false
set_option maxRecDepth 100000
namespace Go.AW
open Go.Proofs.Tryz
def cJ(N:Nat)(σ:Sub):List AV:=(List.range N).map fun i:Nat=>cellOf (σ (i:Int))
theorem BD(N:Nat)(σ:Sub):∀e∈cJ N σ,e.width=4:=by intro e h;simp only[cJ,cM] at h;obtain⟨i,_,rfl⟩:=h;exact H6 _
theorem yC(N:Nat)(σ:Sub){i:Nat}(h:i<N):(cJ N σ)[i]?=some (cellOf (σ (i:Int))):=by
 simp only[cJ,lK,List.getElem?_range h,oT]
theorem aNG(N:Nat)(σ:Sub){i:Nat}(h:i<N)(u:Tm):(cJ N σ).set i u.av=cJ N (σ.set (i:Int) u):=by
 apply G9
 intro j
 by_cases hj:j<N
 · rw[yC N _ hj,List.getElem?_set]
   by_cases e:i=j
   · subst e
     simp [cJ,hj,Sub.set,cellOf]
   · rw[aK e,yC N _ hj]
     simp only[Sub.set]
     rw[aK (by omega)]
 · rw[uD (by simp [cJ];omega),uD (by simp [cJ];omega)]
def eH(N:Nat)(st:aA)(b:Nat)(σ:Sub):Prop:=st b=some (.cells ((cJ N σ).flatMap AV.cells))
theorem eH.mid{N:Nat}{st:aA}{b:Nat}{σ:Sub}(h:eH N st b σ){i:Nat}(hi:i<N) :
 ∃A B,st b=some (.cells (A++(cellOf (σ (i:Int))).cells++B))∧A.length=i*4∧∀(u:Tm),eH N (st.aC b (.cells (A++u.av.cells++B))) b (σ.set (i:Int) u):=by
 obtain⟨A,B,h1,h2,h3⟩:=aV9 (BD N σ) (yC N σ hi)
 refine⟨A,B,by rw[←h1];exact h,h2,fun u=>?_⟩
 unfold eH
 rw[aA.aH,←aNG N σ hi,h3]
theorem eH.aC{N:Nat}{st:aA}{b x:Nat}{σ:Sub}{o:AO}(h:eH N st b σ)(hx:x≠b):eH N (st.aC x o) b σ:=by
 unfold eH
 rw[aA.aJ _ _ (dM hx)]
 exact h
theorem eH.none{N:Nat}{st:aA}{b:Nat}{σ:Sub}(h:eH N st b σ){i:Nat}(hi:i<N)(hn:σ (i:Int)=Option.none) :
 ∃D,st b=some (.cells D)∧D[i*4+0]?=some (.int .i64 0)∧i*4+4≤D.length:=by
 obtain⟨A,B,e1,e2,_⟩:=h.mid hi
 rw[hn] at e1
 obtain⟨r1,r2,r3⟩:=SU (B:=B) (C:=(cellOf Option.none).cells) e2 rfl
 exact⟨_,e1,r3,r1⟩
theorem eH.some{N:Nat}{st:aA}{b:Nat}{σ:Sub}(h:eH N st b σ){i:Nat}(hi:i<N){k n:Int}{s:ByteArray}{ts:List Tm}(hn:σ (i:Int)=Option.some (.mk k n s ts)) :
 ∃D,st b=Option.some (.cells D)∧D[i*4+0]?=Option.some (.int .i64 k)∧i*4+4≤D.length∧List.take 4 (List.drop (i*4) D)= [.int .i64 k,.int .i64 n,.str s,.slice (ts.map Tm.av)]:=by
 obtain⟨A,B,e1,e2,_⟩:=h.mid hi
 rw[hn] at e1
 simp only[cellOf,bU,AV.cells] at e1
 obtain⟨r1,r2,r3⟩:=SU (B:=B) (C:=[.int .i64 k,.int .i64 n,.str s,.slice (ts.map Tm.av)]) e2 rfl
 exact⟨_,e1,r3,r1,r2⟩
theorem eH.set{N:Nat}{st:aA}{b:Nat}{σ:Sub}(h:eH N st b σ){i:Nat}(hi:i<N)(u:Tm) :
 ∃D D',st b=Option.some (.cells D)∧i*4+4≤D.length∧aG D (i*4) u.av.cells=D'∧eH N (st.aC b (.cells D')) b (σ.set (i:Int) u):=by
 obtain⟨A,B,e1,e2,e3⟩:=h.mid hi
 obtain⟨p1,p2⟩:=PF (B:=B) (C:=(cellOf (σ (i:Int))).cells) (x:=u.av.cells) e2 (aR8 _) (cI u)
 exact⟨_,_,e1,p2,p1,e3 u⟩
abbrev DC:=zi aS (zi cB cC)
theorem S9{N:Nat}{σ:Sub}(hok:dI (dD N) σ){f:Nat}{t u:Tm}(hw:fN σ f t u)(ht:dD N t)(b:Nat)(st:aA)(hS:eH N st b σ):aD prog 307 [t.av,.mslice b 0 N 4] st (fun r st'=>r=u.av∧st'=st):=by
 refine aD.done ?_
 refine wF [1000000,2] 2 func307 ntmps307 rfl rfl ?_
 intro _
 simp only[aB,seval,DC]
 intro b2 h2 b4 h4
 have hne:b4≠b2:=by rintro rfl;rw[aA.aH] at h4;cases h4
 have hn4:st b4=none:=by rw[aA.aJ st _ hne] at h4;exact h4
 have hb2:b2≠b:=by rintro rfl;rw[eH,h2] at hS;cases hS
 have hb4:b4≠b:=by rintro rfl;rw[eH,hn4] at hS;cases hS
 refine i8 (σ:=Nat×Tm) [1000000,2] [1,2,4] (fun p=>fN σ p.1 p.2 u∧dD N p.2) (fun p=>[]) (fun p=>(st.aC b2 (.cells p.2.av.cells)).aC b4 (.cells [.int .i64 0,.int .i64 0,.str ⟨#[]⟩,.fslice []])) (fun p=>p.1) (by decide +kernel) ⟨(f,t),⟨hw,ht⟩,aO.mk (by simp only[aB,seval])⟩ ?_
 rintro⟨g,t⟩ ⟨hw,ht⟩
 obtain⟨k,n,s,ts⟩:=t
 simp only at hw ht
 simp only[bU]
 have fX:k≠1∨σ n=none→u=.mk k n s ts:=fun h=>by
  cases hw with
  | stop _=>rfl
  | go h1 h2 _=>
   simp only[Tm.k] at h1
   rcases h with h | h
   · exact absurd h1 h
   · rw[show σ n=some _ from h2] at h;cases h
 simp only[hne.symm,aB,seval,DC]
 refine cK (fun h=>?_) (fun h=>?_)
 case refine_2=>
  simp only[h,aG,hne.symm,aB,seval,DC]
  simp only[eA,dC] at h
  rw[fX (.inl h),←bU]
  exact⟨Tm.soft _,((aL.refl _).aC h2).aC hn4⟩
 simp only[bA] at h
 subst h
 obtain⟨hn0,hn1,_⟩:=ht.var
 obtain⟨i,rfl⟩:∃i:Nat,n=i:=⟨n.toNat,by omega⟩
 have hi:i<N:=by omega
 have hi':decide ((i:Int)<(N:Int))=true:=by simp;omega
 simp only[aZ,hi',dV,hne.symm,aB,seval,DC]
 have hat:=B3 (P:=prog) (b:=b) (len:=N) cF hi
 cases hw with
 | stop hs=>
  obtain⟨D,e1,e2,_⟩:=hS.none hi (hs rfl)
  simp only[hat,e1,e2,aZ,aG,hne.symm,hb2.symm,hb4.symm,aB,seval,DC]
  exact⟨by rw[←bU,Tm.soft],((aL.refl _).aC h2).aC hn4⟩
 | go h1 h2' h3=>
  simp only[Tm.n] at h2'
  have ho:=hok _ _ h2'
  rename_i g' u'
  obtain⟨k',n',s',ts'⟩:=u'
  have hk':¬k'=0:=by have:=ho.kind.1;omega
  obtain⟨D,e1,e2,e3,e4⟩:=hS.some hi h2'
  have e5:i*4+0+4≤D.length:=e3
  simp only[hat,e1,e2,e3,e4,hk',bB,aG,hne.symm,hb2.symm,hb4.symm,aB,seval,DC]
  rw[aA.LC hne,aA.sK _ _ _ hne]
  refine⟨(g',.mk k' n' s' ts'),Nat.lt_succ_self _,⟨h3,ho⟩,?_⟩
  simp only[bU]
  exact aO.mk (by simp only[aB,seval])
theorem eH.acc{N:Nat}{st:aA}{b bW:Nat}{σ:Sub}{l:List AV}(h:eH N st b σ)(hb:l≠[]→st bW=Option.none):eH N (a9 st bW l) b σ:=by
 cases l with
 | nil=>exact h
 | cons x l=>exact h.aC (by rintro rfl;rw[eH,hb (by simp)] at h;cases h)
abbrev GJ:=zi aS (zi bV (zi cB (zi mG cC)))
theorem aOK{N:Nat}{σ:Sub}{R:Int→Tm}{rk:Int→Nat}{B:Nat}(G:Good σ R rk B)(hok:dI (bY N) σ)(hN:N≤1048576){n:Int}(hn:σ n=none)(t:Tm)(ht:bY N t)(b:Nat)(st:aA)(hS:eH N st b σ) :
 aD prog 308 [.int .i64 n,t.av,.mslice b 0 N 4] st (fun r st'=>r=.bool (decide (n∈(t.aV R).vl))∧st'=st):=by
 refine aD.done ?_
 refine wF [1000000] 3 func308 ntmps308 rfl rfl ?_
 intro _
 simp only[aB,seval,GJ]
 have h0:=EW t [] 0 st (Tm.tA t (ht.1.2.1)) (fun h=>absurd rfl h) (by have:=ht.2;simp only[a8];omega)
 simp only[bE,j8,rQ] at h0
 refine h0.mono ?_
 rintro _ _ ⟨b0,rfl,rfl,hb0⟩
 obtain⟨v1,v2,_⟩:=RA t (Tm.tA t (ht.1.2.1)) []
 simp only[aB,seval]
 refine i8 (σ:=Nat×List Int×Nat) [1000000] [0,2]
  (fun p=>p.1≤p.2.1.length∧p.2.1.Nodup∧(∀w∈p.2.1,w∈VN N)∧(p.2.1.map iv≠[]→st p.2.2=none)∧(∀w∈p.2.1.take p.1,w≠n∧∀u,σ w=some u→∀v∈u.vl,v∈p.2.1)∧(∀w∈p.2.1,n∈(R w).vl→n∈(t.aV R).vl)∧(n∈(t.aV R).vl→∃w∈p.2.1,n∈(R w).vl))
  (fun p=>[(6,.bool false),(7,bK 1 p.2.2 (p.2.1.map iv)),(8,.int .i64 p.1)]) (fun p=>a9 st p.2.2 (p.2.1.map iv)) (fun p=>N - p.1) (by decide +kernel)
  ⟨(0,t.vars [],b0),⟨iI _,v2 nR,fun w hw=>?_,hb0,by simp,fun w hw hm=>?_,fun hm=>?_⟩,aO.mk (by simp only[aB,↓aU,seval])⟩ ?_
 · rcases (v1 w).1 hw with h | h
   · cases h
   · exact vM.2 (ht.1.2.2 w h)
 · rcases (v1 w).1 hw with h | h
   · cases h
   · exact(zZ t).2 ⟨w,h,hm⟩
 · obtain⟨w,hw,hm⟩:=(zZ t).1 hm
   exact⟨w,(v1 w).2 (.inr hw),hm⟩
 rintro⟨i,W,bW⟩ ⟨i1,i2,i3,i4,i5,i6,i7⟩
 simp only at i1 i2 i3 i4 i5 i6 i7
 have haL:=EN (w:=1) (b:=bW) (l:=W.map iv) aK9
 have hWl:=aHI i2 (fun m hm=>vM.1 (i3 m hm))
 simp only[haL,aE,aB,seval]
 refine aQ (fun h=>?_) (fun h=>?_)
 case refine_2=>
  simp only[dC,lX] at h
  obtain rfl:i=W.length:=by omega
  rw[d6] at i5
  simp only[aB,seval]
  have hno:n∉(t.aV R).vl:=fun hm=>by
   obtain⟨w,hw,hnw⟩:=i7 hm
   exact a3G G i5 w hw hnw
  exact⟨by simp only[hno,bB,sD],aL.a9 (aL.refl _) i4⟩
 simp only[bA,lX] at h
 obtain⟨w,hx⟩:∃w,W[i]?=some w:=⟨_,eL h⟩
 have fQ:=cQ hx
 have hat:=SH (b:=bW) (l:=W.map iv) (i:=i) (x:=iv w) qO (by rw[lK,hx];try rfl)
 obtain⟨eT,B4⟩:=SJ (st:=st) (b:=bW) hx
 have hw:=bC (n:=(i:Int)+1)
 simp only[hat,eT,B4,AJ,aB,seval,GJ]
 refine aQ (fun h2=>?_) (fun h2=>?_)
 · simp only[bA] at h2
   subst h2
   simp only[aB,seval]
   have hm:w∈(t.aV R).vl:=i6 w fQ (by rw[G.free hn,DT];simp)
   exact⟨by simp only[hm,aZ,sD],aL.a9 (aL.refl _) i4⟩
 simp only[dC] at h2
 simp only[hat,eT,B4,AJ,aB,seval,GJ]
 obtain⟨hw0,hw1⟩:=vM.1 (i3 w fQ)
 obtain⟨j,rfl⟩:∃j:Nat,w=j:=⟨w.toNat,by omega⟩
 have hj:j<N:=by omega
 have hj':decide ((j:Int)<(N:Int))=true:=by simp;omega
 have aF3:=B3 (P:=prog) (b:=b) (len:=N) cF hj
 have hSA:=hS.acc i4
 have htk:W.take (i+1)=W.take i++ [(j:Int)]:=by rw[eS,hx];try rfl
 have step:∀W':List Int,(∀v∈W,v∈W')→(∀u,σ (j:Int)=some u→∀v∈u.vl,v∈W')→∀w∈W'.take (i+1),W'.take (i+1)=W.take (i+1)→w≠n∧∀u,σ w=some u→∀v∈u.vl,v∈W':=by
  intro W' B6 wQ w hw' hte
  rw[hte,htk] at hw'
  rcases fG.1 hw' with hw' | hw'
  · exact⟨(i5 w hw').1,fun u hu v hv=>B6 v ((i5 w hw').2 u hu v hv)⟩
  · simp only[cL,c8,dP] at hw'
    subst hw'
    exact⟨h2,wQ⟩
 cases hs:σ (j:Int) with
 | none=>
  obtain⟨D,e1,e2,_⟩:=hSA.none hj hs
  simp only[hj',aF3,e1,e2,aZ,dV,hat,eT,B4,AJ,hw,aB,seval,GJ]
  exact⟨(i+1,W,bW),by simp only;omega,⟨h,i2,i3,i4,fun w hw'=>step W (fun _ h=>h) (fun u hu=>by rw[hs] at hu;cases hu) w hw' rfl,i6,i7⟩,aO.mk (by simp only[aB,seval])⟩
 | some u=>
  obtain⟨k',n',s',ts'⟩:=u
  have ho:=hok _ _ hs
  have hk':¬k'=0:=by have:=ho.1.kind.1;omega
  obtain⟨D,e1,e2,e3,e4⟩:=hSA.some hj hs
  simp only[hj',aF3,e1,e2,e3,e4,hk',bB,dV,hat,eT,B4,AJ,aB,seval,GJ]
  have hwf:=Tm.tA _ (ho.1.2.1)
  have hc:=EW (.mk k' n' s' ts') W bW st hwf i4 (by have:=ho.2;omega)
  obtain⟨u1,u2,m,u3⟩:=RA _ hwf W
  rw[bU] at hc
  refine hc.mono ?_
  rintro _ _ ⟨b',rfl,rfl,hb'⟩
  generalize (Tm.mk k' n' s' ts').vars W=W' at *
  have hte:W'.take (i+1)=W.take (i+1):=by rw[u3,HC (by omega)]
  have hbd:(Tm.mk k' n' s' ts').aV R=R (j:Int):=(G.bound hs).symm
  simp only[hw,aB,seval]
  refine⟨(i+1,W',b'),by simp only;omega,⟨by rw[u3];simp only[dO];omega,u2 i2,fun w hw'=>?_,hb',fun w hw'=>step W' (fun v hv=>(u1 v).2 (.inl hv)) (fun u hu v hv=>?_) w hw' hte,fun w hw' hm=>?_,fun hm=>?_⟩,aO.mk (by simp only[aB,seval])⟩
  · rcases (u1 w).1 hw' with h | h
    · exact i3 w h
    · exact vM.2 (ho.1.2.2 w h)
  · rw[hs] at hu
    cases hu
    exact(u1 v).2 (.inr hv)
  · rcases (u1 w).1 hw' with h | h
    · exact i6 w h hm
    · refine i6 (j:Int) fQ ?_
      rw[←hbd]
      exact(zZ _).2 ⟨w,h,hm⟩
  · obtain⟨w,h,hm⟩:=i7 hm
    exact⟨w,(u1 w).2 (.inl h),hm⟩
def AN(N b:Nat)(st:aA)(σ':Sub)(st':aA):Prop:=eH N st' b σ'∧∀x o,st x=some o→x≠b→st' x=some o
theorem AN.refl{N b:Nat}{st:aA}{σ:Sub}(h:eH N st b σ):AN N b st σ st:=⟨h,fun _ _ h _=>h⟩
theorem AN.trans{N b:Nat}{st s2 s3:aA}{σ2 σ3:Sub}(x:AN N b st σ2 s2)(y:AN N b s2 σ3 s3):AN N b st σ3 s3:=⟨y.1,fun q o h hn=>y.2 q o (x.2 q o h hn) hn⟩
def D5(N:Nat)(f:Nat)(b:Nat)(σ:Sub)(a c:Tm)(r:Bool)(σ':Sub):Prop:=∀st,eH N st b σ→aD prog f [a.av,c.av,.mslice b 0 N 4] st (fun r' st'=>r'=.bool r∧AN N b st σ' st')
abbrev mC:=zi aS (zi bV (zi cH (zi cB cC)))
theorem aG3(N:Nat)(hN:N≤1048576)(g:Nat)(bb:Nat)(IH:∀(σ:Sub) (a b:Tm) (r:Bool) (σ':Sub) (add:List Int),dN σ→dI (bY N) σ→bY N a→bY N b→dF g σ a b=some (r,σ',add)→D5 N 253 bb σ a b r σ')
 (σ:Sub) (a b:Tm) (r:Bool) (σ':Sub) (add:List Int) (hg:dN σ) (hok:dI (bY N) σ) (ha0:bY N a) (hb0:bY N b) (h:dF (g+1) σ a b=some (r,σ',add))
 (aGW:(wk σ a).k≠1→(wk σ b).k=1→D5 N 253 bb σ (wk σ b) (wk σ a) r σ'):D5 N 253 bb σ a b r σ':=by
 intro st hS
 obtain⟨rk,B,G⟩:=hg.rs
 obtain⟨fa,wa⟩:=G.wk a
 obtain⟨fb,wb⟩:=G.wk b
 have JB:dI (dD N) σ:=fun n u hu=>(hok n u hu).1
 have hca:=fun st (hS:eH N st bb σ)=>S9 JB wa ha0.1 bb st hS
 have hcb:=fun st (hS:eH N st bb σ)=>S9 JB wb hb0.1 bb st hS
 have ea:=wa.end
 have eb:=wb.end
 have hsa:=wa.all (p:=bY N) hok ha0
 have hsb:=wb.all (p:=bY N) hok hb0
 replace h:=aLA h
 generalize wk σ a=a1 at *
 generalize wk σ b=b1 at *
 clear wa wb
 refine wF [1000000,3,4] 3 func253 ntmps253 rfl rfl ?_
 intro eU
 simp only[aB,seval,mC]
 intro b4 h4 b5 h5
 have h54:b5≠b4:=by rintro rfl;rw[aA.aH] at h5;cases h5
 have hn5:st b5=none:=by rw[aA.aJ st _ h54] at h5;exact h5
 have h4b:b4≠bb:=by rintro rfl;rw[eH,h4] at hS;cases hS
 have h5b:b5≠bb:=by rintro rfl;rw[eH,hn5] at hS;cases hS
 have hS':∀o o',eH N ((st.aC b4 o).aC b5 o') bb σ:=fun o o'=>(hS.aC h4b).aC h5b
 have hQ:∀o o',AN N bb st σ ((st.aC b4 o).aC b5 o'):=fun o o'=>⟨hS' o o',fun x p h _=>by
  rw[aA.aJ _ _ (by rintro rfl;rw[hn5] at h;cases h),aA.aJ _ _ (by rintro rfl;rw[h4] at h;cases h)];exact h⟩
 simp only[cI,fL (cI a),fJ (bM a),h54.symm,aB,seval]
 refine(hca _ (hS' _ _)).to ?_
 simp only[cI,fL (cI b),fJ (bM b),cR,aG,h54,h54.symm,aB,seval,mC]
 rw[aA.LC h54,aA.sK _ _ _ h54]
 refine(hcb _ (hS' _ _)).to ?_
 obtain⟨ka,na,sa,tsa⟩:=a1
 obtain⟨kb,nb,sb',tsb⟩:=b1
 obtain⟨hla,a4W⟩:=Tm.xD (hsa.1.small)
 obtain⟨hlb,a4X⟩:=Tm.xD (hsb.1.small)
 have fP:∀o o',AN N bb st σ ((st.aC b4 o).aC b5 o'):=hQ
 have hka:=fun h=>(wZ N) _ h hsa
 have hkb:=fun h=>(wZ N) _ h hsb
 simp only[bU]
 simp only[Tm.k,Tm.n,Tm.ts] at h ea eb aGW hka hkb
 simp only[dW,aG,h54.symm,aB,seval,mC]
 have var:∀ {n:Int} {t:Tm},n∈VN N→σ n=none→bY N t→mN σ n t=(r,σ',add)→∀s0,eH N s0 bb σ→aD prog 308 [.int .i64 n,t.av,.mslice bb 0 N 4] s0 (fun r' st'=>r'=.bool (!r)∧st'=s0):=by
  intro n t _ hn ht hb s0 hs0
  have:=aOK G hok hN hn t ht bb s0 hs0
  unfold mN at hb
  split at hb
  · rename_i hm
    cases hb
    simpa [hm] using this
  · rename_i hm
    cases hb
    simpa [hm] using this
 rcases h with ⟨h1,h2,h3,rfl,rfl,rfl⟩ | ⟨h1,h2,h3⟩ | ⟨h1,h2,h3⟩ | ⟨h1,h2,h3,h4⟩ | ⟨h1,h2,h3,rfl,rfl,rfl⟩
 · subst h1 h2 h3
   simp only[aZ,dV,h54.symm,aB,seval,mC]
   exact fP _ _
 · subst h1
   have hin:=vM.2 (hsa.1.2.2 na (by rw[Tm.oN rfl];simp))
   obtain⟨hn0,hn1⟩:=vM.1 hin
   have hcw:=var hin (ea rfl) hsb h3 _ (hS' (.cells [.int .i64 1,.int .i64 na,.str sa,.slice (tsa.map Tm.av)]) (.cells [.int .i64 kb,.int .i64 nb,.str sb',.slice (tsb.map Tm.av)]))
   have hna:=ea rfl
   rw[bU] at hcw
   obtain⟨i,rfl⟩:∃i:Nat,na=i:=⟨na.toNat,by omega⟩
   have hi:i<N:=by omega
   have hat:=B3 (P:=prog) (b:=bb) (len:=N) cF hi
   have h6:kb=1→¬(i:Int)=nb:=fun e1 e=>h2 ⟨e1,e⟩
   have tail:∀(s0:aA),s0=((st.aC b4 (.cells [.int .i64 1,.int .i64 i,.str sa,.slice (tsa.map Tm.av)])).aC b5 (.cells [.int .i64 kb,.int .i64 nb,.str sb',.slice (tsb.map Tm.av)]))→r=true →
    ∃D D',s0 bb=some (.cells D)∧i*4+4≤D.length∧aG D (i*4) [.int .i64 kb,.int .i64 nb,.str sb',.slice (tsb.map Tm.av)]=D'∧AN N bb st σ' (s0.aC bb (.cells D')):=by
    rintro _ rfl rfl
    unfold mN at h3
    split at h3
    · cases h3
    · cases h3
      obtain⟨D,D',e1,e2,e3,e4⟩:=(hS' (.cells [.int .i64 1,.int .i64 i,.str sa,.slice (tsa.map Tm.av)]) (.cells [.int .i64 kb,.int .i64 nb,.str sb',.slice (tsb.map Tm.av)])).set hi (.mk kb nb sb' tsb)
      refine⟨D,D',e1,e2,by rw[←e3,bU];try rfl,e4,fun x o hx hxb=>?_⟩
      rw[aA.aJ _ _ hxb]
      exact(hQ _ _).2 x o hx hxb
   by_cases h5:kb=1
   · subst h5
     simp only[aZ,h6 rfl,bB,dV,h54.symm,aB,seval,mC]
     refine hcw.to ?_
     cases r with
     | false=>
      simp only[aB,seval]
      unfold mN at h3
      split at h3
      · cases h3
        exact fP _ _
      · cases h3
     | true=>
      obtain⟨D,D',e1,e2,e3,e4⟩:=tail _ rfl rfl
      simp only[hat,e1,e2,aG,h54.symm,aB,seval,mC]
      rw[←e3] at e4
      exact e4
   · simp only[aZ,h5,bB,dV,h54.symm,aB,seval,mC]
     refine hcw.to ?_
     cases r with
     | false=>
      simp only[aB,seval]
      unfold mN at h3
      split at h3
      · cases h3
        exact fP _ _
      · cases h3
     | true=>
      obtain⟨D,D',e1,e2,e3,e4⟩:=tail _ rfl rfl
      simp only[hat,e1,e2,aG,h54.symm,aB,seval,mC]
      rw[←e3] at e4
      exact e4
 · subst h2
   have hsw:=aGW h1 rfl
   simp only[D5,bU] at hsw
   simp only[aZ,h1,bB,dV,h54.symm,aB,seval,mC]
   refine(hsw _ (hS' _ _)).mono ?_
   rintro _ s2 ⟨rfl,hp⟩
   simp only[aB,seval]
   exact(hQ _ _).trans hp
 · rw[yU] at h3
   simp only[Tm.k,Tm.n,Tm.s,Tm.ts] at h3
   obtain⟨rfl,rfl,rfl,hlen⟩:=h3
   have cU:decide ((tsa.length:Int)=(tsb.length:Int))=true:=by simp [hlen]
   simp only[aZ,bB,cU,dV,h54.symm,aE,h1,aB,seval,mC]
   have hS0:=hS' (.cells [.int .i64 ka,.int .i64 na,.str sa,.slice (tsa.map Tm.av)]) (.cells [.int .i64 ka,.int .i64 na,.str sa,.slice (tsb.map Tm.av)])
   have hQ0:=hQ (.cells [.int .i64 ka,.int .i64 na,.str sa,.slice (tsa.map Tm.av)]) (.cells [.int .i64 ka,.int .i64 na,.str sa,.slice (tsb.map Tm.av)])
   have e4:((st.aC b4 (.cells [.int .i64 ka,.int .i64 na,.str sa,.slice (tsa.map Tm.av)])).aC b5 (.cells [.int .i64 ka,.int .i64 na,.str sa,.slice (tsb.map Tm.av)])) b4=some (.cells [.int .i64 ka,.int .i64 na,.str sa,.slice (tsa.map Tm.av)]):=by rw[aA.aJ _ _ h54.symm,aA.aH]
   have e5:((st.aC b4 (.cells [.int .i64 ka,.int .i64 na,.str sa,.slice (tsa.map Tm.av)])).aC b5 (.cells [.int .i64 ka,.int .i64 na,.str sa,.slice (tsb.map Tm.av)])) b5=some (.cells [.int .i64 ka,.int .i64 na,.str sa,.slice (tsb.map Tm.av)]):=aA.aH _ _ _
   generalize (st.aC b4 (.cells [.int .i64 ka,.int .i64 na,.str sa,.slice (tsa.map Tm.av)])).aC b5 (.cells [.int .i64 ka,.int .i64 na,.str sa,.slice (tsb.map Tm.av)])=s0 at *
   refine dX (σ:=Sub×List Int×aA) [1000000,3,4] [2,3,4] tsa
    (fun i p=>dN p.1∧dI (bY N) p.1∧AN N bb s0 p.1 p.2.2∧fF g p.1 (tsa.drop i) (tsb.drop i)=some (r,σ',p.2.1))
    (fun i _=>[(6,.bool false),(7,.int .i64 i)]) (fun _ p=>p.2.2) (by decide +kernel)
    ⟨(σ,add,s0),⟨hg,hok,AN.refl hS0,h4⟩,aO.mk (by simp only[aB,↓aU,seval])⟩ (fun i x p hx hlt bP hdr hinv=>?_) (fun p hge hinv=>?_)
   case refine_2=>
    obtain⟨σi,rest,si⟩:=p
    obtain⟨i1,i2,i3,i5⟩:=hinv
    simp only at i1 i2 i3 i5
    have f4:=i3.2 b4 _ e4 h4b
    rw[mJ,hlen,mJ] at i5
    simp only[fF,Option.some.injEq,Prod.mk.injEq] at i5
    obtain⟨rfl,rfl,rfl⟩:=i5
    simp only[hge,f4,aE,aB,seval,mC]
    exact hQ0.trans i3
   obtain⟨σi,rest,si⟩:=p
   obtain⟨i1,i2,i3,i5⟩:=hinv
   simp only at i1 i2 i3 i5
   obtain⟨y,hy⟩:∃y,tsb[i]?=some y:=⟨_,eL (by omega)⟩
   have aGC:tsb.drop i=y::tsb.drop (i+1):=by
    obtain⟨h1,h2⟩:=fM.1 hy
    rw[uA h1,h2]
   rw[hdr,aGC,fF] at i5
   have f4:=i3.2 b4 _ e4 h4b
   have f5:=i3.2 b5 _ e5 h5b
   have hw:=bC (n:=(i:Int)+1)
   simp only[bP,aE,f4,aB,seval,mC]
   refine wP [(0,1),(2,1),(5,1),(7,1),(10,1),(1,2),(3,1),(4,2),(6,2),(8,1),(9,2),(11,0),(12,1)] [0,2,5,7,10,1,3,4,6,8,9,12] mixed ?_
   simp only[f4,f5,bS (av:=Tm.av) cF hx (aP x),bS (av:=Tm.av) cF hy (aP y),aB,seval,mC]
   cases hu:dF g σi x y with
   | none=>rw[hu] at i5;cases i5
   | some p1=>
    obtain⟨r1,σ1,tr1⟩:=p1
    rw[hu] at i5
    have hx1:bY N x:=hka h1 x (cQ hx)
    have hy1:bY N y:=hkb h2 y (cQ hy)
    have hU:=GZ i1 hu
    have hA:=(aLB (wZ N) g).1 σi x y r1 σ1 tr1 i1 hu i2 hx1 hy1
    refine(IH σi x y r1 σ1 tr1 i1 i2 hx1 hy1 hu si i3.1).mono ?_
    rintro _ s2 ⟨rfl,hp2⟩
    cases r1 with
    | false=>
     simp only[Option.some.injEq,Prod.mk.injEq] at i5
     obtain⟨rfl,rfl,rfl⟩:=i5
     simp only[aB,seval]
     exact hQ0.trans (i3.trans hp2)
    | true=>
     simp only at i5
     cases hu2:fF g σ1 (tsa.drop (i+1)) (tsb.drop (i+1)) with
     | none=>rw[hu2] at i5;cases i5
     | some p2=>
      obtain⟨r2,σ2,tr2⟩:=p2
      rw[hu2] at i5
      simp only[Option.some.injEq,Prod.mk.injEq] at i5
      obtain⟨rfl,rfl,_⟩:=i5
      simp only[aB,seval]
      exact⟨(σ1,tr2,s2),⟨hU.iL,hA,i3.trans hp2,hu2⟩,aO.mk (by simp only[hw,aB,seval])⟩
 · have hd:ka=kb→na=nb→sa=sb'→¬(tsa.length:Int)=(tsb.length:Int):=by
    intro e1 e2 e3 e4
    have:yT (Tm.mk ka na sa tsa) (Tm.mk kb nb sb' tsb)=true:=yU.2 ⟨e1,e2,e3,by simp only[Tm.ts];omega⟩
    rw[h3] at this;cases this
   by_cases e1:ka=kb
   · by_cases e2:na=nb
     · by_cases e3:sa=sb'
       · have e4:=hd e1 e2 e3
         subst e1 e2 e3
         simp only[bB,aZ,dV,h54.symm,h1,aE,e4,aB,seval,mC]
         exact fP _ _
       · subst e1 e2
         simp only[bB,aZ,dV,h54.symm,h1,e3,aB,seval,mC]
         exact fP _ _
     · subst e1
       simp only[bB,aZ,dV,h54.symm,h1,e2,aB,seval,mC]
       exact fP _ _
   · clear hd
     simp only[bB,dV,h54.symm,h1,h2,e1,aB,seval,mC]
     exact fP _ _
theorem S8(N:Nat)(hN:N≤1048576)(bb:Nat):∀(g:Nat) (σ:Sub) (a b:Tm) (r:Bool) (σ':Sub) (add:List Int),dN σ→dI (bY N) σ→bY N a→bY N b→dF g σ a b=some (r,σ',add)→D5 N 253 bb σ a b r σ'
 | 0,σ,a,b,r,σ',add,hg,hok,ha,hb,h=>by simp only[dF] at h;cases h
 | g+1,σ,a,b,r,σ',add,hg,hok,ha,hb,h=>by
  refine aG3 N hN g bb (S8 N hN bb g) σ a b r σ' add hg hok ha hb h fun h1 h2=>?_
  obtain⟨rk,B,G⟩:=hg.rs
  obtain⟨fa,wa⟩:=G.wk a
  obtain⟨fb,wb⟩:=G.wk b
  have eb:=aLS wb
  have ea:=aLS wa
  have hbn:mN σ (wk σ b).n (wk σ a)=(r,σ',add):=by
   rcases aLA h with h | h | h | h | h
   · exact absurd h.1 h1
   · exact absurd h.1 h1
   · exact h.2.2
   · exact absurd h2 h.2.1
   · exact absurd h2 h.2.1
  refine aG3 N hN 0 bb (fun σ a b r σ' add _ _ _ _ h=>by simp only[dF] at h;cases h) σ (wk σ b) (wk σ a) r σ' add hg hok (wb.all (p:=bY N) hok hb) (wa.all (p:=bY N) hok ha) ?_ fun h3=>?_
  · rw[dF,eb,ea,aK (fun h=>h1 h.2.1),aN h2,hbn]
  · rw[eb] at h3;exact absurd h2 h3
end Go.AW
namespace Go.AW
noncomputable def DQ(σ:Sub)(a b:Tm):Int×Sub×List Int:=(lN (nP σ a b).1,(nP σ a b).2)
noncomputable def BC(σ:Sub)(x y z:Tm):Int×Sub×List Int:=
 if x.k=1∨y.k=1 then(2,σ,[]) else if x.k≠2∨y.k≠3∨y.ts.length=0 then(3,σ,[]) else match sX x y with
  | some u=>DQ σ z u
  | none=>(1,σ,[])
noncomputable def gV(σ:Sub)(s:ByteArray):List Tm→Int×Sub×List Int
 | []=>(lN (decide (s=⟨#[116,114,117,101]⟩)),σ,[])
 | [x]=>(lN (J8 s x),σ,[])
 | [x,y]=>if iM BQ s=true then(ID s x y,σ,[]) else if s=⟨#[61]⟩ then DQ σ x y else if s=⟨#[92,61]⟩ then(lN (!(nP σ x y).1),σ,[])
  else if s=⟨#[61,61]⟩ then(lN (x.same y),σ,[]) else if y.ev.2≠0 then(y.ev.2,σ,[]) else DQ σ x (tM y.ev.1)
 | [x,y,z]=>BC σ x y z
 | _=>(0,σ,[])
structure sP (N:Int) (σ:Sub) (σ':Sub) (add:List Int):Prop where
 iL:dN σ'
 ok:dI (bY N) σ'
 aY:∀n,n∉add→σ' n=σ n
 new:∀n∈add,σ n=none∧σ' n≠none
 nodup:add.Nodup
 iM:∀n∈add,0≤n∧n<N
theorem sP.same{N:Int}{σ:Sub}(hg:dN σ)(ho:dI (bY N) σ):sP N σ σ []:=⟨hg,ho,fun _ _=>rfl,by simp,nR,by simp⟩
theorem L2.F9{N:Int}{σ:Sub}{a b:Tm}{r:Bool}{σ':Sub}{tr:List Int}(h:L2 N σ a b r σ' tr):sP N σ σ' tr:=⟨h.xQ.iL,h.ok,h.xQ.aY,h.xQ.new,h.xQ.nodup,h.iM⟩
theorem sP.xQ{N:Nat}{σ:Sub}{a b:Tm}(hg:dN σ)(ho:dI (bY N) σ)(ha:bY N a)(hb:bY N b):sP N σ (nP σ a b).2.1 (nP σ a b).2.2:=by
 obtain⟨r,σ',tr,h⟩:=Q8 hg ho ha hb
 rw[h.eq]
 exact h.F9
theorem aG1{N:Int}{n:Int}(h:iR n):bY N (tM n):=by
 have h1:=aYD h
 have h2:=Tm.G0 h1
 refine⟨⟨h2.1,h2.2.1,fun v hv=>?_⟩,Tm.rH h1⟩
 unfold tM at hv
 rw[Tm.nQ (by decide)] at hv
 obtain⟨t,ht,_⟩:=hv
 cases ht
theorem aND{N:Int}{x y u:Tm}(hy:bY N y)(hk:y.k≠1)(h:sX x y=some u):bY N u:=wZ N y hk hy u (SR h)
theorem a1Q{N:Nat}{σ:Sub}(hg:dN σ)(ho:dI (bY N) σ)(s:ByteArray)(ks:List Tm)(hv:∀x∈ks,bY N x):sP N σ (gV σ s ks).2.1 (gV σ s ks).2.2:=by
 have hs:=sP.same hg ho
 match ks,hv with
 | [],_=>exact hs
 | [x],_=>exact hs
 | [x,y],hv=>
  have hx:=hv x (by simp)
  have hy:=hv y (by simp)
  simp only[gV]
  split
  · exact hs
  split
  · exact sP.xQ hg ho hx hy
  split
  · exact hs
  split
  · exact hs
  split
  · exact hs
  · exact sP.xQ hg ho hx (aG1 (Tm.wL y hy.1))
 | [x,y,z],hv=>
  have hy:=hv y (by simp)
  have hz:=hv z (by simp)
  simp only[gV,BC]
  split
  · exact hs
  rename_i h1
  split
  · exact hs
  split
  · rename_i u hu
    exact sP.xQ hg ho hz (aND hy (fun h=>h1 (.inr h)) hu)
  · exact hs
 | a::b::c::d::l,_=>exact hs
section
variable {ρ:Int→Int} {N:Int} {σ τ:Sub}
end
section
variable {ρ:Int→Int} {N:Nat} {σ τ:Sub}
end
theorem a1P(σ:Sub)(s:ByteArray)(ks:List Tm):0≤(gV σ s ks).1:=by
 have hc:∀b,0≤lN b:=fun b=>by unfold lN;split<;>omega
 have hr:∀n,0≤(gS n).2:=fun n=>by unfold gS;split<;>simp
 have har:∀s a b,0≤(qH s a b).2:=fun s a b=>by
  unfold qH
  split
  · exact hr _
  split
  · exact hr _
  split
  · exact hr _
  split
  · simp
  split
  · simp
  · simp
 have hb:∀(f:Int→Int→Int×Int) (x y:Int×Int),(∀a b,0≤(f a b).2)→0≤x.2→0≤y.2→0≤(both f x y).2:=fun f x y hf hx hy=>by
  unfold both
  split
  · exact hx
  split
  · exact hy
  · exact hf _ _
 have he:∀t:Tm,0≤t.ev.2:=by
  intro t
  induction t using Tm.ind with
  | h k n s ts ih=>
   rw[Tm.IP]
   split
   · simp
   split
   · simp
   split
   · match ts,ih with
     | [],_=>simp [two]
     | [x],_=>simp [two]
     | [x,y],ih=>exact hb _ _ _ (har s) (ih x (by simp)) (ih y (by simp))
     | x::y::z::l,_=>simp [two]
   · simp
 match ks with
 | []=>exact hc _
 | [x]=>exact hc _
 | [x,y]=>
  simp only[gV]
  split
  · exact hb _ _ _ (fun _ _=>hc _) (he x) (he y)
  split
  · exact hc _
  split
  · exact hc _
  split
  · exact hc _
  split
  · exact he y
  · exact hc _
 | [x,y,z]=>
  simp only[gV,BC]
  split
  · simp
  split
  · simp
  split
  · exact hc _
  · simp
 | a::b::c::d::l=>simp [gV]
end Go.AW
namespace Go.AW
open Go.Proofs.Tryz
theorem aNC(σ:Sub)(x y z:Tm):BC σ x y z=if(qJ x y).2=0 then DQ σ z (qJ x y).1 else((qJ x y).2,σ,[]):=by
 unfold BC qJ
 split
 · simp
 split
 · simp
 cases sX x y<;>rfl
def qC(N bb:Nat)(st:aA)(x:Int×Sub×List Int)(r:AV)(st':aA):Prop:=r=.int .i64 x.1∧AN N bb st x.2.1 st'
theorem qC.same{N bb:Nat}{st:aA}{σ:Sub}{r:AV}(h:eH N st bb σ)(k:Int)(hr:r=.int .i64 k):qC N bb st (k,σ,[]) r st:=⟨hr,AN.refl h⟩
theorem ET{N:Nat}(hN:N≤1048576){σ:Sub}(hg:dN σ)(ho:dI (bY N) σ)(a b:Tm)(ha:bY N a)(hb:bY N b)(bb:Nat)(st:aA)(hS:eH N st bb σ) :
 aD prog 253 [a.av,b.av,.mslice bb 0 N 4] st (fun r st'=>r=.bool (nP σ a b).1∧AN N bb st (nP σ a b).2.1 st'):=by
 obtain⟨r,σ',tr',hU⟩:=Q8 hg ho ha hb
 obtain⟨g,kT⟩:=hU.run
 rw[hU.eq]
 exact S8 N hN bb g σ a b r σ' tr' hg ho ha hb kT st hS
abbrev pX:=zi aS (zi bV (zi cH (zi cB cC)))
theorem aOL{N:Nat}(hN:N≤1048576){σ:Sub}(hg:dN σ)(ho:dI (bY N) σ)(n:Int)(s:ByteArray)(ks:List Tm)(hb:isBuiltin s (ks.length:Int)=true)(hne:s≠⟨#[92,61]⟩)(hv:∀x∈ks,bY N x)(bb:Nat)(st:aA)(hS:eH N st bb σ) :
 aD prog 196 [(Tm.mk 3 n s ks).av,.mslice bb 0 N 4] st (qC N bb st (gV σ s ks)):=by
 have hcs:=aOC hb
 have aF9:=fun x y (hxy:ks= [x,y])=>aQ4 n s x y (hv x (by simp [hxy])).1 (hv y (by simp [hxy])).1
 have aF7:=fun x y z (hxy:ks= [x,y,z])=>aQ3 n s x y z (hv y (by simp [hxy])).1
 have aGA:=fun x (hxy:ks= [x]) h=>aQ9 n s x h
 simp only[bU] at aF9 aF7 aGA ⊢
 refine wF [1000000] 2 func196 ntmps196 rfl rfl ?_
 intro _
 simp only[aB,seval,pX]
 refine aQ (fun h=>?_) (fun h=>?_)
 · have hs:s=⟨#[116,114,117,101]⟩:=by simpa using h
   have hk:=aG2 (ts:=ks) (by subst hs;simpa [isBuiltin] using hb)
   subst hk
   simp only[aB,seval]
   exact qC.same hS _ (by simp [lN,hs])
 have ht:s≠⟨#[116,114,117,101]⟩:=by simpa using h
 simp only[aB,seval]
 refine aQ (fun h=>?_) (fun h=>?_)
 · have hs:s=⟨#[102,97,105,108]⟩:=by simpa using h
   have hk:=aG2 (ts:=ks) (by subst hs;simpa [isBuiltin] using hb)
   subst hk
   simp only[aB,seval]
   exact qC.same hS _ (by simp [lN,hs])
 have hf:s≠⟨#[102,97,105,108]⟩:=by simpa using h
 simp only[aB,seval]
 refine aQ (fun h=>?_) (fun h=>?_)
 · have hs:s=⟨#[61]⟩:=by simpa using h
   obtain⟨x,y,rfl⟩:=FL (ts:=ks) (by subst hs;simp [isBuiltin] at hb;omega)
   have e:gV σ s [x,y]=DQ σ x y:=by subst hs;rfl
   rw[e]
   have gO:dT prog 56 (.slice [x.av,y.av]) (.int .i64 0)=some (.pptr x.av):=bS (av:=Tm.av) (l:=[x,y]) (i:=0) cF rfl (aP x)
   have kS:dT prog 56 (.slice [x.av,y.av]) (.int .i64 1)=some (.pptr y.av):=bS (av:=Tm.av) (l:=[x,y]) (i:=1) cF rfl (aP y)
   simp only[aB,seval]
   refine wX [(0,1),(1,1),(2,1),(3,1),(4,1),(5,1),(6,1),(7,1),(8,1),(9,0),(10,0),(11,1)] [0,1,2,3,4,5,6,7,8,11] eF mixed rfl d4 ?_
   simp only[gO,kS,bM,aP,aB,seval,pX]
   refine(ET hN hg ho x y (hv x (by simp)) (hv y (by simp)) bb _ hS).mono ?_
   rintro _ s2 ⟨rfl,hP⟩
   simp only[aB,seval]
   refine⟨d4,?_⟩
   refine(rU _ _).to ?_
   simp only[aB,seval]
   exact⟨d4,rfl,hP⟩
 have he:s≠⟨#[61]⟩:=by simpa using h
 simp only[aB,seval]
 refine aQ (fun h=>absurd (by simpa using h) hne) (fun h=>?_)
 simp only[aB,seval]
 refine aQ (fun h=>?_) (fun h=>?_)
 · have hs:s=⟨#[61,61]⟩:=by simpa using h
   obtain⟨x,y,rfl⟩:=FL (ts:=ks) (by subst hs;simp [isBuiltin] at hb;omega)
   have e:gV σ s [x,y]=(lN (x.same y),σ,[]):=by subst hs;rfl
   rw[e]
   have gO:dT prog 56 (.slice [x.av,y.av]) (.int .i64 0)=some (.pptr x.av):=bS (av:=Tm.av) (l:=[x,y]) (i:=0) cF rfl (aP x)
   have kS:dT prog 56 (.slice [x.av,y.av]) (.int .i64 1)=some (.pptr y.av):=bS (av:=Tm.av) (l:=[x,y]) (i:=1) cF rfl (aP y)
   simp only[aB,seval]
   refine MJ mixed (by decide +kernel) (by decide +kernel) ?_
   simp only[gO,kS,bM,aP,aB,seval,pX]
   refine gG (UJ x y _) ?_
   simp only[aB,seval]
   refine gG (rU _ _) ?_
   simp only[aB,seval]
   exact qC.same hS _ rfl
 have hee:s≠⟨#[61,61]⟩:=by simpa using h
 simp only[aB,seval]
 refine aQ (fun h=>?_) (fun h=>?_)
 · have hs:s=⟨#[105,115]⟩:=by simpa using h
   obtain⟨x,y,rfl⟩:=FL (ts:=ks) (by subst hs;simp [isBuiltin] at hb;omega)
   have e:gV σ s [x,y]=if y.ev.2≠0 then(y.ev.2,σ,[]) else DQ σ x (tM y.ev.1):=by subst hs;rfl
   rw[e]
   have hy:=hv y (by simp)
   have hin:=aG1 (N:=N) (Tm.wL y hy.1)
   have har:=fun st=>H3 y st hy.1
   generalize y.ev.1=a at *
   generalize y.ev.2=ca at *
   have gO:dT prog 56 (.slice [x.av,y.av]) (.int .i64 0)=some (.pptr x.av):=bS (av:=Tm.av) (l:=[x,y]) (i:=0) cF rfl (aP x)
   have kS:dT prog 56 (.slice [x.av,y.av]) (.int .i64 1)=some (.pptr y.av):=bS (av:=Tm.av) (l:=[x,y]) (i:=1) cF rfl (aP y)
   simp only[kS,bM,aP,aB,seval,pX]
   refine(har _).to ?_
   simp only[aB,seval]
   refine aQ (fun h4=>?_) (fun h4=>?_)
   · simp only[aB,seval]
     have h4':ca≠0:=by simpa using h4
     rw[aN h4']
     exact qC.same hS _ rfl
   have h4':ca=0:=by simpa using h4
   subst h4'
   rw[aK (by simp)]
   simp only[aB,seval]
   refine wX [(0,1),(1,1),(2,1),(3,1),(4,1),(6,1),(5,0),(7,0),(8,0),(9,1)] [0,1,2,3,4,6,9] eF mixed rfl d4 ?_
   simp only[gO,bM,aP,aB,seval,pX]
   refine(MX a _).to ?_
   rw[←aYC]
   simp only[aB,seval]
   refine⟨d4,?_⟩
   refine(ET hN hg ho x (tM a) (hv x (by simp)) hin bb _ hS).mono ?_
   rintro _ s2 ⟨rfl,hP⟩
   simp only[aB,seval]
   refine⟨d4,?_⟩
   refine(rU _ _).to ?_
   simp only[aB,seval]
   exact⟨d4,rfl,hP⟩
 have his:s≠⟨#[105,115]⟩:=by simpa using h
 simp only[aB,seval]
 refine aQ (fun h=>?_) (fun h=>?_)
 · have hs:s=⟨#[97,114,103]⟩:=by simpa using h
   obtain⟨x,y,z,rfl⟩:=aYI (ts:=ks) (by subst hs;simp [isBuiltin] at hb;omega)
   have e:gV σ s [x,y,z]=BC σ x y z:=rfl
   rw[e,aNC]
   have hz:=hv z (by simp)
   have hy:=hv y (by simp)
   have hga:=aF7 x y z rfl
   have hgv:(qJ x y).2=0→bY N (qJ x y).1:=fun h=>by
    unfold qJ at h ⊢
    split at h
    · cases h
    rename_i h1
    rw[aK h1]
    split at h
    · cases h
    rename_i h2
    rw[aK h2]
    cases hu:sX x y with
    | none=>rw[hu] at h;cases h
    | some u=>exact wZ N y (fun h=>h1 (.inr h)) hy u (SR hu)
   generalize (qJ x y).1=u at *
   generalize (qJ x y).2=cu at *
   have OB:dT prog 56 (.slice [x.av,y.av,z.av]) (.int .i64 2)=some (.pptr z.av):=bS (av:=Tm.av) (l:=[x,y,z]) (i:=2) cF rfl (aP z)
   simp only[bL,bE] at hga
   simp only[aB,seval,pX]
   refine(hga _).to ?_
   simp only[aP,cT,cR,aB,↓aU,seval,pX]
   refine aQ (fun h4=>?_) (fun h4=>?_)
   · simp only[aB,seval]
     have h4':cu≠0:=by simpa using h4
     rw[aK h4']
     exact qC.same hS _ rfl
   have h4':cu=0:=by simpa using h4
   subst h4'
   rw[aN rfl]
   simp only[aB,seval]
   refine wX [(0,1),(1,1),(2,1),(3,1),(4,1),(5,1),(6,0),(7,0),(8,1)] [0,1,2,3,4,5,8] eF mixed rfl d4 ?_
   simp only[OB,bM,aP,aB,seval,pX]
   refine(ET hN hg ho z u hz (hgv rfl) bb _ hS).mono ?_
   rintro _ s2 ⟨rfl,hP⟩
   simp only[aB,seval]
   refine⟨d4,?_⟩
   refine(rU _ _).to ?_
   simp only[aB,seval]
   exact⟨d4,rfl,hP⟩
 have aF0:s≠⟨#[97,114,103]⟩:=by simpa using h
 simp only[aB,seval,pX]
 refine(aQ5 s _).to ?_
 simp only[aB,seval]
 refine aQ (fun h=>?_) (fun h=>?_)
 · have hlen:ks.length=2:=by
    rcases hcs with ⟨h2,h3⟩ | ⟨h2,h3⟩ | ⟨h2,h3⟩ | ⟨h2,h3⟩
    · exact h2
    · simp [ht,hf] at h3
    · rcases h3 with rfl | rfl | rfl | rfl<;>exact absurd h (by decide)
    · exact absurd h3 aF0
   obtain⟨x,y,rfl⟩:=FL hlen
   have e:gV σ s [x,y]=(ID s x y,σ,[]):=by simp only[gV];rw[aN h]
   rw[e]
   have hc:=aF9 x y rfl
   simp only[bL,bE] at hc
   simp only[aB,seval,pX]
   refine(hc _).to ?_
   simp only[aB,seval]
   exact qC.same hS _ rfl
 · have hlen:ks.length=1∧(s=⟨#[118,97,114]⟩∨s=⟨#[110,111,110,118,97,114]⟩∨s=⟨#[97,116,111,109]⟩∨s=⟨#[105,110,116]⟩):=by
    rcases hcs with ⟨h2,h3⟩ | ⟨h2,h3⟩ | ⟨h2,h3⟩ | ⟨h2,h3⟩
    · simp [h,he,hne,hee,his] at h3
    · simp [ht,hf] at h3
    · exact⟨h2,h3⟩
    · exact absurd h3 aF0
   obtain⟨x,rfl⟩:=aYH hlen.1
   have e:gV σ s [x]=(lN (J8 s x),σ,[]):=rfl
   rw[e]
   have hc:=aGA x rfl hlen.2
   simp only[bL,bE] at hc
   simp only[aB,seval,pX]
   refine(hc _).to ?_
   simp only[aB,seval]
   exact qC.same hS _ rfl
theorem SS(N:Nat)(σ:Sub):uO 4 (cJ N σ):=by
 intro e h
 simp only[cJ,cM] at h
 obtain⟨i,_,rfl⟩:=h
 refine⟨H6 _,?_⟩
 cases σ (i:Int) with
 | none=>rfl
 | some u=>exact cR u
theorem ER(N:Nat)(σ:Sub):∀e∈cJ N σ,e.bR=false:=by
 intro e h
 simp only[cJ,cM] at h
 obtain⟨i,_,rfl⟩:=h
 cases σ (i:Int) with
 | none=>rfl
 | some u=>exact cT u
theorem sY(N:Nat)(σ:Sub):(cJ N σ).length=N:=by simp [cJ]
theorem MH{N:Nat}(h0:0<N)(hN:N≤1048576)(σ:Sub){st:aA}{K:AV→aA→Prop}(hK:∀b,st b=none→eH N (st.aC b (.cells ((cJ N σ).flatMap AV.cells))) b σ→K (.mslice b 0 N 4) (st.aC b (.cells ((cJ N σ).flatMap AV.cells)))) :
 iT prog 56 st (.fslice []) (.slice (cJ N σ)) K:=by
 have hl:=sY N σ
 refine eY (P:=prog) (st:=st) (b:=0) (l:=[]) (xs:=cJ N σ) (x:=.slice (cJ N σ)) (K:=K) cF kP kQ rfl rfl (SS N σ) (by simp) (by simp) (by simp only[a8,hl];omega) (by simp only[a8,hl];omega) (fun b hb=>?_)
 have hne: []++cJ N σ≠[]:=by
  rw[dL]
  intro e
  rw[e] at hl
  simp at hl
  omega
 rw[rR hne,l5 hne,dL,hl]
 exact hK b (hb hne) (aA.aH _ _ _)
theorem aON{N:Nat}(h0:0<N)(hN:N≤1048576){σ:Sub}(hg:dN σ)(ho:dI (bY N) σ)(n:Int)(s:ByteArray)(x y:Tm)(hs:s=⟨#[92,61]⟩)(hx:bY N x)(hy:bY N y)(st:aA) :
 aD prog 196 [(Tm.mk 3 n s [x,y]).av,.slice (cJ N σ)] st (fun r st'=>r=.int .i64 (lN (!(nP σ x y).1))∧st'=st):=by
 have ht:s≠⟨#[116,114,117,101]⟩:=by subst hs;decide
 have hf:s≠⟨#[102,97,105,108]⟩:=by subst hs;decide
 have he:s≠⟨#[61]⟩:=by subst hs;decide
 refine aD.done ?_
 simp only[bU 3,bL,bE]
 refine wF [1000000] 2 func196 ntmps196 rfl rfl ?_
 intro _
 have gO:dT prog 56 (.slice [x.av,y.av]) (.int .i64 0)=some (.pptr x.av):=bS (av:=Tm.av) (l:=[x,y]) (i:=0) cF rfl (aP x)
 have kS:dT prog 56 (.slice [x.av,y.av]) (.int .i64 1)=some (.pptr y.av):=bS (av:=Tm.av) (l:=[x,y]) (i:=1) cF rfl (aP y)
 simp only[aB,seval,pX]
 refine aQ (fun h=>absurd (by simpa using h) ht) (fun h=>?_)
 simp only[aB,seval]
 refine aQ (fun h=>absurd (by simpa using h) hf) (fun h=>?_)
 simp only[aB,seval]
 refine aQ (fun h=>absurd (by simpa using h) he) (fun h=>?_)
 simp only[aB,seval]
 refine aQ (fun h=>?_) (fun h=>absurd hs (by simpa using h))
 simp only[aB,seval]
 refine wX [(0,1),(1,1),(2,1),(3,1),(4,1),(5,1),(6,1),(7,1),(8,1),(9,1),(10,0),(11,0),(12,1),(13,0),(14,1)] [0,1,2,3,4,5,6,7,8,9,12,14] eF mixed rfl d4 ?_
 simp only[gO,kS,bM,aP,aB,seval,pX]
 refine MH h0 hN σ fun b hb hA0=>?_
 have hD0:aL (st.aC b (.cells ((cJ N σ).flatMap AV.cells))) st:=(aL.refl _).aC hb
 generalize st.aC b (.cells ((cJ N σ).flatMap AV.cells))=s0 at *
 simp only[aB,seval]
 refine⟨d4,?_⟩
 refine(ET hN hg ho x y hx hy b _ hA0).mono ?_
 rintro _ s2 ⟨rfl,hA,hk⟩
 simp only[aB,seval]
 refine⟨d4,?_⟩
 refine(rU _ _).to ?_
 simp only[aB,seval]
 refine⟨d4,rfl,fun q=>?_⟩
 have key:∀o,st q=some o→s2 q=some o:=fun o h=>hk q o ((hD0 q).2 o h) (by rintro rfl;rw[hb] at h;cases h)
 refine⟨fun h=>?_,key⟩
 cases hq:st q with
 | none=>rfl
 | some o=>rw[key o hq] at h;cases h
theorem aOM{N:Nat}(h0:0<N)(hN:N≤1048576){σ:Sub}(hg:dN σ)(ho:dI (bY N) σ)(n:Int)(s:ByteArray)(ks:List Tm)(hb:isBuiltin s (ks.length:Int)=true)(hv:∀x∈ks,bY N x)(bb:Nat)(st:aA)(hS:eH N st bb σ) :
 aD prog 196 [(Tm.mk 3 n s ks).av,.mslice bb 0 N 4] st (qC N bb st (gV σ s ks)):=by
 by_cases hs:s=⟨#[92,61]⟩
 · obtain⟨x,y,rfl⟩:=FL (ts:=ks) (by subst hs;simp [isBuiltin] at hb;omega)
   have e:gV σ s [x,y]=(lN (!(nP σ x y).1),σ,[]):=by subst hs;rfl
   rw[e]
   have hc:=aON h0 hN hg ho n s x y hs (hv x (by simp)) (hv y (by simp)) eF
   refine(aD.aWF (args':=[(Tm.mk 3 n s [x,y]).av,.mslice bb 0 N 4]) (st:=st) rfl hc fun h vs S V=>?_).mono ?_
   · simp only[cO] at V ⊢
     obtain⟨v,vs',rfl,V1,w,ws',rfl,V2,rfl⟩:=V
     refine⟨v,[w],rfl,V1.mono ((aL.eF st).step h),w,[],rfl,?_,rfl⟩
     have h2:=V2.fz S hS (ER N σ) ⟨4,BD N σ⟩
     have h3:(AV.mslice bb 0 N 4).fz bb (cJ N σ)=.slice (cJ N σ):=by simp [AV.fz,sY]
     rw[h3] at h2
     exact h2.mono ((aL.eF (st.erase bb)).step h)
   · rintro _ _ ⟨rfl,rfl⟩
     exact qC.same hS _ rfl
 · exact aOL hN hg ho n s ks hb hs hv bb st hS
abbrev DD:=zi aS (zi cB cC)
theorem aOJ{N:Nat}{σ:Sub}(hok:dI (dD N) σ){f:Nat}{t u:Tm}(hw:fN σ f t u)(ht:dD N t)(st:aA):aD prog 307 [t.av,.slice (cJ N σ)] st (fun r st'=>r=u.av∧st'=st):=by
 refine aD.done ?_
 refine wF [1000000,2] 2 func307 ntmps307 rfl rfl ?_
 intro _
 have hlen:(cJ N σ).length=N:=by simp [cJ]
 simp only[aB,seval,DD]
 intro b2 h2 b4 h4
 have hne:b4≠b2:=by rintro rfl;rw[aA.aH] at h4;cases h4
 have hn4:st b4=none:=by rw[aA.aJ st _ hne] at h4;exact h4
 refine i8 (σ:=Nat×Tm) [1000000,2] [1,2,4] (fun p=>fN σ p.1 p.2 u∧dD N p.2) (fun p=>[]) (fun p=>(st.aC b2 (.cells p.2.av.cells)).aC b4 (.cells [.int .i64 0,.int .i64 0,.str ⟨#[]⟩,.fslice []])) (fun p=>p.1) (by decide +kernel) ⟨(f,t),⟨hw,ht⟩,aO.mk (by simp only[aB,seval])⟩ ?_
 rintro⟨g,t⟩ ⟨hw,ht⟩
 obtain⟨k,n,s,ts⟩:=t
 simp only at hw ht
 simp only[bU]
 have fX:k≠1∨σ n=none→u=.mk k n s ts:=fun h=>by
  cases hw with
  | stop _=>rfl
  | go h1 h2 _=>
   simp only[Tm.k] at h1
   rcases h with h | h
   · exact absurd h1 h
   · rw[show σ n=some _ from h2] at h;cases h
 simp only[hne.symm,aB,seval,DD]
 refine cK (fun h=>?_) (fun h=>?_)
 case refine_2=>
  simp only[h,aG,hne.symm,aB,seval,DD]
  simp only[eA,dC] at h
  rw[fX (.inl h),←bU]
  exact⟨Tm.soft _,((aL.refl _).aC h2).aC hn4⟩
 simp only[bA] at h
 subst h
 obtain⟨hn0,hn1,_⟩:=ht.var
 obtain⟨i,rfl⟩:∃i:Nat,n=i:=⟨n.toNat,by omega⟩
 have hi:i<N:=by omega
 have hi':decide ((i:Int)<(N:Int))=true:=by simp;omega
 simp only[aZ,hi',dV,hne.symm,hlen,aB,seval,DD]
 have hat:dT prog 56 (.slice (cJ N σ)) (.int .i64 (i:Int))=some (.pptr (cellOf (σ (i:Int)))):=bS (av:=fun i:Nat=>cellOf (σ (i:Int))) cF (List.getElem?_range hi) (H6 _)
 cases hw with
 | stop hs=>
  rw[show σ (i:Int)=none from hs rfl] at hat
  simp only[cellOf] at hat
  simp only[hat,aZ,aG,hne.symm,aB,seval,DD]
  exact⟨by rw[←bU,Tm.soft],((aL.refl _).aC h2).aC hn4⟩
 | go h1 h2' h3=>
  simp only[Tm.n] at h2'
  have ho:=hok _ _ h2'
  rename_i g' u'
  obtain⟨k',n',s',ts'⟩:=u'
  have hk':¬k'=0:=by have:=ho.kind.1;omega
  rw[h2'] at hat
  simp only[cellOf,bU] at hat
  simp only[hat,hk',bB,aG,hne.symm,aB,seval,DD]
  rw[aA.LC hne,aA.sK _ _ _ hne]
  refine⟨(g',.mk k' n' s' ts'),Nat.lt_succ_self _,⟨h3,ho⟩,?_⟩
  simp only[bU]
  exact aO.mk (by simp only[aB,seval])
abbrev sG:=zi aS (zi cH (zi cB cC))
theorem S7{N:Nat}{σ:Sub}{R:Int→Tm}{rk:Int→Nat}{B:Nat}(G:Good σ R rk B)(hok:dI (bY N) σ) :
 ∀(room:Nat) (t:Tm) (st:aA),room≤120→bY N t→aD prog 249 [t.av,.slice (cJ N σ),.int .i64 (room:Int)] st (Full (t.aV R) room st)
 | room,t,st,hr,ht=>by
  have IH:=fun(J0:Nat) (hlt:J0<room) (x:Tm) st=>S7 G hok J0 x st
  obtain⟨f,hw⟩:=G.wk t
  generalize wk σ t=u at *
  have JB:dI (dD N) σ:=fun n u hu=>(hok n u hu).1
  have hsu:=hw.all (p:=bY N) hok ht
  have hcw:=fun st=>aOJ JB hw ht.1 st
  obtain⟨k,n,s,ts⟩:=u
  have hv:=aWM G hw (hsu.1.2.1)
  rw[hv]
  obtain⟨hlen,wS⟩:=Tm.xD (hsu.1.small)
  have a4Y:=hsu.1.kind.2
  have hkn:=hsu.1.all.2
  have hkk:∀x∈ts,bY N x:=fun x hx=>by
   refine⟨hkn x hx,?_⟩
   have:=hsu.2
   rw[Tm.gR] at this
   have:=GD (f:=Tm.nodes) hx
   omega
  refine aD.o9 (aD.fin ?_)
  refine wF [1000000,3,8] 3 func249 ntmps249 rfl rfl ?_
  intro _
  simp only[aB,seval,sG]
  intro b3 h3 b6 h6
  have h63:b6≠b3:=by rintro rfl;rw[aA.aH] at h6;cases h6
  have hn6:st b6=none:=by rw[aA.aJ st _ h63] at h6;exact h6
  have hwr:∀z:Int,-1≤z→z≤200→IntKind.i64.wrap z=z:=fun z h1 h2=>wrap64 (by omega) (by omega)
  have hw1:=hwr ((room:Int) - 1) (by omega) (by omega)
  refine aQ (fun h=>?_) (fun h=>?_)
  · simp only[bA] at h
    obtain rfl:room=0:=by omega
    simp only[aG,aB,↓aU,seval,sG]
    refine⟨0,[],_,rfl,by simp,by simp,⟨4,by simp⟩,st,(fun x=>by by_cases e3:x=b3<;>by_cases e6:x=b6<;>simp_all [aA.aC]),rfl,Tm.zero,-1,?_,Int.le_refl _,?_⟩
    · simp only[Tm.zero,bU,hY,gB,fW,rZ,pF,bL,bE]
    · rw[aK (by rw[Tm.gR];omega)];decide
  simp only[dC] at h
  simp only[h63.symm,aB,seval,sG]
  refine(hcw _).to ?_
  simp only[bU]
  simp only[aG,h63.symm,hw1,aB,↓aU,seval,sG]
  intro b8 h8
  have h83:b8≠b3:=by rintro rfl;simp [aA.aC] at h8
  have h86:b8≠b6:=by rintro rfl;simp [aA.aC,h63] at h8
  have hn8:st b8=none:=by rw[aA.aJ _ _ h83,aA.aJ _ _ h86,aA.aJ _ _ h83] at h8;exact h8
  rw[aA.LC h63]
  have hW6:((st.aC b6 (.cells [.int .i64 0,.int .i64 0,.str ⟨#[]⟩,.fslice []])).aC b3 (.cells [.int .i64 k,.int .i64 n,.str s,.slice (ts.map Tm.av)])) b6=some (.cells [.int .i64 0,.int .i64 0,.str ⟨#[]⟩,.fslice []]):=by rw[aA.aJ _ _ h63,aA.aH]
  have hW3:((st.aC b6 (.cells [.int .i64 0,.int .i64 0,.str ⟨#[]⟩,.fslice []])).aC b3 (.cells [.int .i64 k,.int .i64 n,.str s,.slice (ts.map Tm.av)])) b3=some (.cells [.int .i64 k,.int .i64 n,.str s,.slice (ts.map Tm.av)]):=aA.aH _ _ _
  have hWd:∀Y Z,aL ((((st.aC b6 (.cells [.int .i64 0,.int .i64 0,.str ⟨#[]⟩,.fslice []])).aC b3 (.cells [.int .i64 k,.int .i64 n,.str s,.slice (ts.map Tm.av)])).aC b8 Z).aC b6 Y) st:=fun Y Z x=>by
   by_cases e3:x=b3<;>by_cases e6:x=b6<;>by_cases e8:x=b8<;>simp_all [aA.aC]
  generalize ((st.aC b6 (.cells [.int .i64 0,.int .i64 0,.str ⟨#[]⟩,.fslice []])).aC b3 (.cells [.int .i64 k,.int .i64 n,.str s,.slice (ts.map Tm.av)]))=W at *
  have FJ:(Tm.mk k n s (ts.map (Tm.aV R))).nodes=1+bH Tm.nodes (ts.map (Tm.aV R)):=Tm.gR _ _ _ _
  refine dX (σ:=Nat×List Tm×Int) [1000000,3,8] [1,3,6,7,8] ts
   (fun i p=>(p.2.1.map Tm.av≠[]→(W.aC b8 (.cells ([.int .i64 k,.int .i64 n,.str s]++ [bK 4 p.1 (p.2.1.map Tm.av)]))) p.1=none)∧p.2.1.length=i∧-1≤p.2.2 ∧
    (0≤p.2.2→p.2.1=(ts.take i).map (Tm.aV R)∧p.2.2=(room:Int) - 1 - bH Tm.nodes p.2.1)∧(p.2.2<0→room<1+bH Tm.nodes (ts.map (Tm.aV R))))
   (fun i p=>[(9,.int .i64 p.2.2),(10,.int .i64 i)])
   (fun i p=>n9 W b8 p.1 [.int .i64 k,.int .i64 n,.str s] (p.2.1.map Tm.av)) (by decide +kernel)
   ⟨(0,[],(room:Int) - 1),⟨fun h=>absurd rfl h,rfl,by simp only;omega,fun _=>⟨by simp,by simp [bH]⟩,fun h=>by simp only at h;omega⟩,aO.mk (by simp only[aB,↓aU,seval])⟩ (fun i x p hx hlt bP aGC hinv=>?_) (fun p hge hinv=>?_)
  · obtain⟨b,acc,left⟩:=p
    obtain⟨i1,i2,i3,i4,i5⟩:=hinv
    simp only at i1 i2 i3 i4 i5
    have h3o:=tN i1 (x:=b3) (by rw[hW3];simp) h83.symm
    rw[hW3] at h3o
    simp only[bP,aZ,dV,aE,h3o,aB,seval,sG]
    refine aQ (fun h9=>?_) (fun h9=>?_)
    case refine_2=>
     simp only[dC] at h9
     have hbo:=nC i1
     have h6o:=tN i1 (x:=b6) (by rw[hW6];simp) h86.symm
     rw[hW6] at h6o
     simp only[aG,hbo,h6o,iJ,aB,seval,sG]
     obtain⟨g5,g6⟩:=wV (o:=.cells [.int .i64 k,.int .i64 n,.str s,bK 4 b (acc.map Tm.av)]) i1 (show W b6≠none by rw[hW6];simp) h86.symm
     refine⟨b,_,_,g5,g6,oM _,⟨4,gE _⟩,st,hWd _ _,rfl,.mk k n s acc,left,?_,i3,?_⟩
     · simp only[gB,hY,bL,bE,fW,rZ,mV,bU]
     · rw[FJ]
       skip
       rw[aK (by have:=i5 (by omega);omega)]
       omega
    simp only[bA] at h9
    obtain⟨e1,e2⟩:=i4 h9
    have fQ:=cQ hx
    have hsl:=a1Y Tm.nodes (ts.map (Tm.aV R)) (i+1)
    rw[←List.map_take,eS,hx] at hsl
    simp only[LY,rM,bL,bE,J7,bH,←e1] at hsl
    obtain⟨J0,rfl⟩:∃r:Nat,left=r:=⟨left.toNat,by omega⟩
    have cU:(acc.map Tm.av).length=i:=by rw[aE,i2]
    have hw:=bC (n:=(i:Int)+1)
    have hbo:=nC i1
    simp only[h3o,bS (av:=Tm.av) cF hx (aP x),bM,aP,aB,seval,sG]
    refine(IH J0 (by omega) x _ (by omega) (hkk x fQ)).mono ?_
    rintro _ _ ⟨rfl,y,aYK,rfl,hl1,hl2⟩
    simp only[bM,aP,cR,cT,hbo,sV,aB,↓aU,seval,sG]
    refine eY cF kP kQ rfl rfl (gN (aP _) (cR _)) (gE _) i1 (by simp only[cU,aX,a8];omega) (by simp only[cU,aX,a8];omega) (fun b' hb'=>?_)
    rw[show acc.map Tm.av++ [y.av]=(acc++ [y]).map Tm.av by simp] at hb' ⊢
    obtain⟨g1,g2,g3⟩:=yX hb'
    simp only[fU,dL] at g1 g3
    simp only[g3,mU,iJ,g1,hw,aG,aB,seval,sG]
    refine⟨(b',acc++ [y],aYK),⟨g2,by simp [i2],hl1,fun h=>?_,fun h=>?_⟩,aO.mk (by simp only[aB,seval])⟩
    · simp only at h
      split at hl2
      · obtain⟨rfl,hl3⟩:=hl2
        refine⟨by rw[eS,hx];simp [e1],?_⟩
        simp only[J7,bH]
        omega
      · omega
    · simp only at h
      split at hl2
      · omega
      · omega
  · obtain⟨b,acc,left⟩:=p
    obtain⟨i1,i2,i3,i4,i5⟩:=hinv
    simp only at i1 i2 i3 i4 i5
    rw[d6] at i4
    have h3o:=tN i1 (x:=b3) (by rw[hW3];simp) h83.symm
    rw[hW3] at h3o
    simp only[hge,aE,h3o,aB,seval,sG]
    have hbo:=nC i1
    have h6o:=tN i1 (x:=b6) (by rw[hW6];simp) h86.symm
    rw[hW6] at h6o
    simp only[aG,hbo,h6o,iJ,aB,seval,sG]
    obtain⟨g5,g6⟩:=wV (o:=.cells [.int .i64 k,.int .i64 n,.str s,bK 4 b (acc.map Tm.av)]) i1 (show W b6≠none by rw[hW6];simp) h86.symm
    refine⟨b,_,_,g5,g6,oM _,⟨4,gE _⟩,st,hWd _ _,rfl,.mk k n s acc,left,?_,i3,?_⟩
    · simp only[gB,hY,bL,bE,fW,rZ,mV,bU]
    · rw[FJ]
      skip
      rcases Int.lt_or_le left 0 with h9 | h9
      · rw[aK (by have:=i5 h9;omega)];exact h9
      · obtain⟨e1,e2⟩:=i4 h9
        rw[←e1] at i5 ⊢
        rw[aN (by omega)]
        exact⟨rfl,by omega⟩
termination_by room=>room
decreasing_by exact hlt
end Go.AW
namespace Go.AW
abbrev Cl:=Tm×List Tm
def aF:Cl→AV
 | (.mk k n s ts,b)=>.agg [.int .i64 k,.int .i64 n,.str s,.slice (ts.map Tm.av),.slice (b.map Tm.av)]
theorem gK(k n:Int)(s:ByteArray)(ts b:List Tm):aF (.mk k n s ts,b)=.agg [.int .i64 k,.int .i64 n,.str s,.slice (ts.map Tm.av),.slice (b.map Tm.av)]:=rfl
theorem nY(c:Cl):(aF c).isAgg=true:=by obtain⟨⟨k,n,s,ts⟩,b⟩:=c;rfl
theorem gM(c:Cl):(aF c).width=5:=by obtain⟨⟨k,n,s,ts⟩,b⟩:=c;rfl
theorem H8(c:Cl):(aF c).cells.length=5:=by obtain⟨⟨k,n,s,ts⟩,b⟩:=c;rfl
theorem BM(c:Cl):(aF c).cells.all AV.storable=true:=by obtain⟨⟨k,n,s,ts⟩,b⟩:=c;rfl
theorem BL(c:Cl):(aF c).bR=false:=by obtain⟨⟨k,n,s,ts⟩,b⟩:=c;rfl
def PG:Tm→Bool | .mk k _ s ts=>pT k s (ts.length:Int)
def jS(c:Cl):Bool:=c.1.valid&&PG c.1&&(decide (c.2.length≤6)&&c.2.all Tm.goal)
def fD(p:List Cl):Bool:=decide (p.length≤20)&&p.all jS
theorem aZX{st:aA}{k n:Int}{s:ByteArray}{ts b:List Tm}{o:AV}{bs:List Nat} :
 bX st (aF (.mk k n s ts,b)) o bs↔∃q b1 q' b2,o=.agg [.int .i64 k,.int .i64 n,.str s,q,q']∧bs=b1++b2∧bX st (.slice (ts.map Tm.av)) q b1∧bX st (.slice (b.map Tm.av)) q' b2:=by
 rw[gK]
 generalize AV.slice (ts.map Tm.av)=x
 generalize AV.slice (b.map Tm.av)=y
 simp only[bX,bN]
 constructor
 · rintro⟨os,rfl,o1,os1,b1,b1',rfl,rfl,⟨rfl,rfl⟩,o2,os2,b2,b2',rfl,rfl,⟨rfl,rfl⟩,o3,os3,b3,b3',rfl,rfl,⟨rfl,rfl⟩,o4,os4,b4,b4',rfl,rfl,h,o6,os6,b6,b6',rfl,rfl,h',rfl,rfl⟩
   exact⟨o4,b4,o6,b6,rfl,by simp,h,h'⟩
 · rintro⟨q,b1,q',b2,rfl,rfl,h,h'⟩
   exact⟨_,rfl,_,_,[],b1++b2,rfl,rfl,⟨rfl,rfl⟩,_,_,[],b1++b2,rfl,rfl,⟨rfl,rfl⟩,_,_,[],b1++b2,rfl,rfl,⟨rfl,rfl⟩,q,_,b1,b2,rfl,rfl,h,q',[],b2,[],rfl,by simp,h',rfl,rfl⟩
def E8(c:Cl):Int:=(cE (c.1::c.2) []).foldl (fun n v=>if n≤v then v+1 else n) 0
def pH(c:Cl):Nat:=(E8 c).toNat
def fS(N:Nat)(t:Tm):Tm:=iQ (fun v=>v+(N:Int)) t
def kD(t:Tm):Bool:=t.flat 30&&decide (t.nodes≤120)
def IE(t:Tm):Bool:=decide (t.k=3)&&decide (t.s=⟨#[33]⟩)&&decide ((t.ts.length:Int)=0)
def aGB(c:Cl)(t:Tm):Bool:=decide (c.1.s=t.s)&&decide ((c.1.ts.length:Int)=(t.ts.length:Int))
def qR(p:List Cl)(t:Tm):List Nat:=(List.range p.length).filter fun i=>match p[i]? with
 | some c=>aGB c t
 | none=>false
def uY(c:Int):Int:=if c=2 then 4 else if c=3 then 5 else if c=4 then 6 else 7
noncomputable def oY(σ:Sub)(vars:List Int):Option (List Tm):=
 if((vars.map (rs σ)).all kD=true)∧(cE (vars.map (rs σ)) []).length≤26 then some (zH (vars.map (rs σ))) else none
structure RG where
 t:Tm
 aY:Nat
structure RC where
 goal:Tm
 rest:List RG
 left:List Nat
 σ:Sub
 N:Nat
structure RS where
 goals:List RG
 σ:Sub
 N:Nat
 chs:List RC
inductive RO where
 | go (s:RS)
 | fail
 | stop (e:Int)
noncomputable def kF(p:List Cl)(chs:List RC)(goal:Tm)(rest:List RG)(σ:Sub)(N:Nat):List Nat→Option RS
 | []=>none
 | i::l=>match p[i]? with
  | none=>none
  | some x=>if(nP σ goal (fS N x.1)).1=true then
   some ⟨x.2.map (fun t=>⟨fS N t,chs.length⟩)++rest,(nP σ goal (fS N x.1)).2.1,N+pH x,if l= [] then chs else chs++ [⟨goal,rest,l,σ,N⟩]⟩
   else kF p chs goal rest σ N l
noncomputable def fK(p:List Cl):Nat→List RC→Option RS
 | 0,_=>none
 | n+1,chs=>match chs.getLast? with
  | none=>none
  | some c=>match kF p chs.dropLast c.goal c.rest c.σ c.N c.left with
   | some s=>some s
   | none=>fK p n chs.dropLast
noncomputable def jI(p:List Cl)(cnd:Tm→List Nat→List Nat)(s:RS)(g:RG)(rest:List RG):RO:=
 if kD (g.t.aV (rs s.σ))=false then .stop 3
 else if IE (g.t.aV (rs s.σ))=true then .go ⟨rest,s.σ,s.N,s.chs.take g.aY⟩
 else if isBuiltin (g.t.aV (rs s.σ)).s ((g.t.aV (rs s.σ)).ts.length:Int)=true then
  if(gV s.σ (g.t.aV (rs s.σ)).s (g.t.aV (rs s.σ)).ts).1=0 then .go ⟨rest,(gV s.σ (g.t.aV (rs s.σ)).s (g.t.aV (rs s.σ)).ts).2.1,s.N,s.chs⟩
  else if(gV s.σ (g.t.aV (rs s.σ)).s (g.t.aV (rs s.σ)).ts).1=1 then .fail
  else .stop (uY (gV s.σ (g.t.aV (rs s.σ)).s (g.t.aV (rs s.σ)).ts).1)
 else if qR p (g.t.aV (rs s.σ))= [] then .stop 8
 else match kF p s.chs (g.t.aV (rs s.σ)) rest s.σ s.N (cnd (g.t.aV (rs s.σ)) (qR p (g.t.aV (rs s.σ)))) with
  | some s'=>.go s'
  | none=>.fail
noncomputable def iY(p:List Cl)(cnd:Tm→List Nat→List Nat)(vars:List Int)(most fuel:Nat)(s:RS):List (List Tm)×Int:=
 match s.goals with
 | []=>if h:most=0 then([],1) else match oY s.σ vars with
  | none=>([],3)
  | some a=>match fK p s.chs.length s.chs with
   | none=>([a],0)
   | some s'=>(a::(iY p cnd vars (most - 1) fuel s').1,(iY p cnd vars (most - 1) fuel s').2)
 | g::rest=>if h:fuel=0 then([],2) else match jI p cnd s g rest with
  | .stop e=>([],e)
  | .go s'=>iY p cnd vars most (fuel - 1) s'
  | .fail=>match fK p s.chs.length s.chs with
   | none=>([],0)
   | some s'=>iY p cnd vars most (fuel - 1) s'
termination_by most+fuel
decreasing_by all_goals omega
def pU(q:List Tm):RS:=⟨q.map fun t=>⟨t,0⟩,Sub.none,26,[]⟩
noncomputable def xF(p:List Cl)(cnd:Tm→List Nat→List Nat)(q:List Tm)(most fuel:Nat):List (List Tm)×Int:=iY p cnd (cE q []) most fuel (pU q)
structure IG where
 t:Tm
 cut:Nat
 up:Int
structure IC where
 goal:Tm
 node:Nat
 rest:List IG
 list:List Nat
 a5E:Nat
 taken:Nat
structure IS where
 goals:List IG
 σ:Sub
 tr:List Int
 chs:List IC
 fresh:Nat
 nn:Nat
structure aL3 (ρ:Int→Int) (N F:Nat) (σ τ:Sub):Prop where
 sim:Sim ρ N σ τ
 rng:∀v,0≤v→v<(N:Int)→0≤ρ v∧ρ v<(F:Int)
 g1:dN σ
 o1:dI (bY N) σ
 g2:dN τ
 o2:dI (bY F) τ
 d1:∀n,¬(0≤n∧n<(N:Int))→σ n=none
 d2:∀n,¬(0≤n∧n<(F:Int))→τ n=none
 h26:26≤N
 idn:∀v,0≤v→v<26→ρ v=v
theorem aFR(l:List Int):∀n:Int,n≤l.foldl (fun n v=>if n≤v then v+1 else n) n∧(∀v∈l,v<l.foldl (fun n v=>if n≤v then v+1 else n) n)∧∀m:Int,n≤m→(∀v∈l,v<m)→l.foldl (fun n v=>if n≤v then v+1 else n) n≤m:=by
 induction l with
 | nil=>intro n;exact⟨Int.le_refl _,by simp,fun m h _=>h⟩
 | cons x l ih=>
  intro n
  simp only[uC]
  obtain⟨h1,h2,h3⟩:=ih (if n≤x then x+1 else n)
  refine⟨?_,fun v hv=>?_,fun m hm hl=>h3 m ?_ fun v hv=>hl v (by simp [hv])⟩
  · split at h1<;>rename_i h<;>split<;>omega
  · rcases cL.1 hv with rfl | hv
    · split at h1<;>rename_i h<;>split<;>omega
    · exact h2 v hv
  · have:=hl x (by simp)
    split<;>omega
structure iG (c:Cl):Prop where
 head:bY 26 c.1
 body:∀t∈c.2,bY 26 t∧t.k=3
theorem iG.vars{c:Cl}(h:iG c){v:Int}:v∈cE (c.1::c.2) []↔∃t∈c.1::c.2,v∈t.vl:=by
 rw[DN]
 · simp
 · intro t ht
   rcases cL.1 ht with rfl | ht
   · exact h.head.1.2.1
   · exact(h.body t ht).1.1.2.1
theorem iG.FS{c:Cl}(h:iG c):∀t∈c.1::c.2,bY 26 t:=fun t ht=>by
 rcases cL.1 ht with rfl | ht
 · exact h.head
 · exact(h.body t ht).1
theorem iG.fr{c:Cl}(h:iG c):pH c≤26∧∀t∈c.1::c.2,∀v∈t.vl,v<(pH c:Int):=by
 obtain⟨h1,h2,h3⟩:=aFR (cE (c.1::c.2) []) 0
 have hle:=h3 26 (by omega) fun v hv=>by
  obtain⟨t,ht,hv⟩:=h.vars.1 hv
  exact((h.FS t ht).1.2.2 v hv).2
 unfold pH E8
 refine⟨by omega,fun t ht v hv=>?_⟩
 have:=h2 v (h.vars.2 ⟨t,ht,hv⟩)
 omega
theorem iG.fS{c:Cl}(h:iG c)(N:Nat):∀t∈c.1::c.2,bY ((N+pH c:Nat):Int) (fS N t):=fun t ht=>by
 refine(h.FS t ht).iQ fun v hv=>?_
 have h1:=((h.FS t ht).1.2.2 v hv).1
 have h2:=h.fr.2 t ht v hv
 omega
theorem a05{N:Nat}(t:Tm):(fS N t).k=t.k:=a0T _ t
def GL(ρ:Int→Int)(N:Nat)(gs:List RG)(hs:List IG):Prop:=hs.map (fun h=>(h.t,h.cut))=gs.map (fun g=>(iQ ρ g.t,g.aY))∧∀g∈gs,bY N g.t∧g.t.k=3
def C1(F:Nat)(c:RC)(d:IC)(τ:Sub):Prop:=∃ρ,aL3 ρ c.N F c.σ τ∧d.goal=iQ ρ c.goal∧bY c.N c.goal∧GL ρ c.N c.rest d.rest∧d.list=c.left
section
variable {p:List Cl} (hp:∀c∈p,iG c)
include hp
variable {cnd:Tm→List Nat→List Nat} (hc:∀(ρ:Int→Int) (t:Tm) (l:List Nat),cnd (iQ ρ t) l=cnd t l)
omit hp in
end
section
variable {p:List Cl} (hp:∀c∈p,iG c) {cnd:Tm→List Nat→List Nat} (hc:∀(ρ:Int→Int) (t:Tm) (l:List Nat),cnd (iQ ρ t) l=cnd t l)
include hp hc
end
theorem aSK{c:Cl}(h:jS c=true):iG c:=by
 simp only[jS,bD,bA,c6] at h
 refine⟨⟨Tm.G0 h.1.1,Tm.rH h.1.1⟩,fun t ht=>?_⟩
 have hg:=h.2.2 t ht
 have hk:t.valid=true∧t.k=3:=by
  obtain⟨k,n,s,ts⟩:=t
  simp only[Tm.goal,bD] at hg
  refine⟨hg.1,?_⟩
  have:=hg.2
  simp only[wN,pT,kZ,bD,bA] at this
  simp only[Tm.k]
  rcases this with (h | h) | h<;>first | exact h.1 | exact h.1.1 | exact h.1.1.1
 exact⟨⟨Tm.G0 hk.1,Tm.rH hk.1⟩,hk.2⟩
end Go.AW
namespace Go.AW
open Go.Proofs.Tryz
theorem QX:∀(a b:List Tm) (l:List Int),cE (a++b) l=cE b (cE a l)
 | [],_,_=>rfl
 | t::a,b,l=>by simp only[fU,cE,QX a b]
abbrev P1:=zi aS (zi cB (zi mG cC))
theorem M3(q:List Tm)(st:aA)(hwf:∀t∈q,t.wf=true)(hsz:bH Tm.nodes q≤1099511627776):aD prog 139 [.slice (q.map Tm.av)] st (fun r st'=>r=.slice ((cE q []).map iv)∧st'=st):=by
 refine aD.done ?_
 refine wF [1000000] 1 func139 ntmps139 rfl rfl ?_
 simp only[dS,AV.fits,dU,aE]
 intro ⟨hl,_⟩
 simp only[aB,seval,P1]
 refine DU (σ:=Unit) [1000000] [0,2] q 1 3 (fun i _=>(cE (q.take i) []).map iv) (fun _ _=>True) (fun i _=>[(4,.int .i64 i)]) (fun _ _=>st) (fun i _ _ e he=>by simp only[cM] at he;obtain⟨t,_,rfl⟩:=he;exact⟨rfl,rfl⟩) (by decide +kernel) ⟨(),0,trivial,fun h=>absurd rfl h,aO.mk (by simp only[j8,mK,cE,bE,aB,↓aU,seval])⟩ (fun i x s b hx hlt bP hdr hinv hb=>?_) (fun s b hge hinv=>?_)
 case refine_2=>
  simp only[hge,fW,kC,pF,lP,d6,aE,aB,seval,P1]
  exact⟨rfl,aL.refl _⟩
 have hw:=bC (n:=(i:Int)+1)
 have hat:=bS (av:=Tm.av) cF hx (aP x)
 have hst:=GE Tm.nodes hx
 have hvl:=zX (q.take i) []
 simp only[a8,j7] at hvl
 have htk:x.vars (cE (q.take i) [])=cE (q.take (i+1)) []:=by
  rw[eS,hx,QX]
  try rfl
 simp only[bP,aE,hat,aB,seval,P1]
 refine(EW x (cE (q.take i) []) b st (hwf x (cQ hx)) hb (by omega)).mono ?_
 rintro _ _ ⟨b',rfl,rfl,hb'⟩
 rw[htk] at hb' ⊢
 simp only[aB,seval]
 exact⟨(),b',hb',aO.mk (by simp only[hw,aB,seval])⟩
abbrev a10:=zi bV (zi cB mG)
theorem aO7(q:List Tm)(st:aA):aD prog 200 [.slice (q.map Tm.av)] st (fun r st'=>r=.slice ((if eP q=true then cE q [] else[]).map iv)∧st'=st):=by
 refine aD.done ?_
 refine wF [1000000] 1 func200 ntmps200 rfl rfl ?_
 intro _
 simp only[aB,seval]
 refine(EX q _).to ?_
 simp only[aB,seval]
 refine aQ (fun h=>?_) (fun h=>?_)
 · simp only[i9] at h
   simp only[aB,seval,a10]
   rw[aK (by simp [h])]
   exact⟨rfl,aL.refl _⟩
 simp only[rJ] at h
 obtain⟨hqv,hq6⟩:=aID h
 simp only[aB,seval]
 refine(M3 q _ (fun t ht=>Tm.tA t (Tm.a3D (hqv t ht))) (a0B h)).to ?_
 simp only[aB,seval]
 rw[aN h]
 exact⟨rfl,aL.refl _⟩
end Go.AW
namespace Go.AW
theorem bQ.of{h:a7}{st st':aA}(hk:∀x,st x=none→st' x=none):bQ h st h st':=⟨cX _,fun x _ e=>⟨rfl,hk x e⟩,fun _ c _ _ e=>⟨c,e,rfl⟩⟩
theorem fA.aWH{φ:AF}{st:aA}{b c:Nat}{es cs:List AV}(hbc:b≠c)(h1:st b=some (.cells (es.flatMap AV.cells)))(h2:∀e∈es,e.bR=false)(h3:gW es)(hc:st c=some (.cells cs)) :
 fA φ st φ ((st.erase b).aC c (.cells (jE b es cs))):=fun h tmps S F=>by
 have T2:bQ h (st.erase b) h ((st.erase b).aC c (.cells (jE b es cs))):=bQ.of fun x hx=>by
  have:x≠c:=by rintro rfl;simp [aA.erase,dM hbc,hc] at hx
  rw[aA.aJ _ _ this];exact hx
 have T:bQ h st h ((st.erase b).aC c (.cells (jE b es cs))):=((hH st b).step h).trans T2
 refine⟨fun x o hx=>?_,T,fun d=>(F d).mono T⟩
 by_cases e:x=c
 · subst e
   rw[aA.aH] at hx
   cases hx
   obtain⟨hl,c0,t,e1,e2,vs,e3,e4⟩:=S x _ hc
   refine⟨hl,c0,t,e1,?_,vs,e3,aR.mono T2 _ _ (aR.fz S h1 h2 h3 cs vs e4)⟩
   rw[yO,aE];exact e2
 · rw[aA.aJ _ _ e] at hx
   have hx':st x=some o:=by
    simp only[aA.erase] at hx
    split at hx
    · cases hx
    · exact hx
   obtain⟨hl,y⟩:=S x o hx'
   exact⟨hl,lA.mono T rfl y⟩
end Go.AW
namespace Go.AW
open Go.Proofs.Tryz
mutual
def Tm.sh(m:Int):Tm→Tm
 | .mk k n s ts=>.mk k (if k=1 then IntKind.i64.wrap (n+m) else n) s (K0 m ts)
def K0(m:Int):List Tm→List Tm
 | []=>[]
 | t::ts=>t.sh m::K0 m ts
end
theorem aKW(m:Int):∀ts:List Tm,K0 m ts=ts.map (Tm.sh m)
 | []=>rfl
 | t::ts=>by simp only[K0,bL,aKW m ts]
theorem Tm.PV(m k n:Int)(s:ByteArray)(ts:List Tm):(Tm.mk k n s ts).sh m=.mk k (if k=1 then IntKind.i64.wrap (n+m) else n) s (ts.map (Tm.sh m)):=by simp only[Tm.sh,aKW]
abbrev oJ:=zi aS (zi cH (zi cB cC))
theorem M1(m:Int):∀(t:Tm) (st:aA),t.small=true→aD prog 248 [t.av,.int .i64 m] st (fun r st'=>r=(t.sh m).av∧st'=st)
 | .mk k n s ts,st,hsm=>by
  obtain⟨hlen,wS⟩:=Tm.xD hsm
  have IH:=fun(x:Tm) (hx:x∈ts) st=>M1 m x st (wS x hx)
  refine aD.jT (aD.fin ?_)
  simp only[bU]
  refine wF [1000000,5] 2 func248 ntmps248 rfl rfl ?_
  simp only[dS,AV.fits,dU,aE]
  intro ⟨_,_,_,hl,_⟩
  simp only[aG,aB,↓aU,seval,oJ]
  intro b2 hb2 c hc
  have hne:c≠b2:=by rintro rfl;rw[aA.aH] at hc;cases hc
  have hn2:st c=none:=by rw[aA.aJ st _ hne] at hc;exact hc
  have pL:b2≠c:=dM hne
  have hS:(st.aC b2 (.cells [AV.int .i64 0,AV.int .i64 0,AV.str ⟨#[]⟩,AV.fslice []])) b2≠none:=by rw[aA.aH];simp
  refine aQ (fun h=>?_) (fun h=>?_)
  · simp only[bA] at h
    simp only[aG,dW,aB,seval,oJ]
    refine dX (σ:=Nat) [1000000] [1,2,4,5] ts (fun i b=>(((ts.take i).map (Tm.sh m)).map Tm.av≠[]→(aA.aC (st.aC b2 (.cells [AV.int .i64 0,AV.int .i64 0,AV.str ⟨#[]⟩,AV.fslice []])) c (.cells ([AV.int .i64 k,AV.int .i64 (IntKind.i64.wrap (n+m)),AV.str s]++ [bK 4 b (((ts.take i).map (Tm.sh m)).map Tm.av)]))) b=none)) (fun i b=>[(6,.int .i64 i)]) (fun i b=>n9 (st.aC b2 (.cells [AV.int .i64 0,AV.int .i64 0,AV.str ⟨#[]⟩,AV.fslice []])) c b [AV.int .i64 k,AV.int .i64 (IntKind.i64.wrap (n+m)),AV.str s] (((ts.take i).map (Tm.sh m)).map Tm.av)) (by decide +kernel)
     ⟨0,fun h=>absurd rfl h,aO.mk (by simp only[aB,↓aU,seval])⟩ (fun i x b hx hlt bP hdr hinv=>?_) (fun b hge hinv=>?_)
    case refine_1=>
     have hw:=bC (n:=(i:Int)+1)
     have cU:(((ts.take i).map (Tm.sh m)).map Tm.av).length=i:=by simp only[aE,dK];omega
     have htk:(ts.take (i+1)).map (Tm.sh m)=(ts.take i).map (Tm.sh m)++ [(Tm.sh m) x]:=by rw[eS,hx];simp
     have hbo:=nC hinv
     simp only[aE,bP,aB,seval,oJ]
     refine wP [(0,1),(2,1),(4,1),(7,1),(1,2),(3,2),(5,1),(6,2),(8,2),(9,1),(10,0),(11,1),(12,0)] [0,2,4,7,1,3,5,6,8,9,11] mixed ?_
     simp only[bS (av:=Tm.av) cF hx (aP x),bM,aP,hbo,sV,j7,aB,seval,oJ]
     refine gG (IH x (cQ hx) _) ?_
     simp only[bM,aP,cT,j7,aB,seval,oJ]
     refine eY cF kP kQ rfl rfl (gN (aP _) (cR _)) (gE _) hinv (by simp only[cU,aX,a8];omega) (by simp only[cU,aX,a8];omega) (fun b' hb'=>?_)
     rw[show(((ts.take i).map (Tm.sh m)).map Tm.av)++ [((Tm.sh m) x).av]=((ts.take (i+1)).map (Tm.sh m)).map Tm.av by rw[htk];simp] at hb' ⊢
     obtain⟨g1,g2,g3⟩:=yX hb'
     simp only[fU,dL] at g1 g3
     simp only[g3,mU,iJ,aG,g1,hw,aG,aB,seval,oJ]
     exact⟨b',g2,aO.mk (by simp only[aB,seval])⟩
    have hbo:=nC hinv
    rw[d6] at hinv hbo ⊢
    simp only[aE,hge,aB,seval,oJ]
    simp only[hbo,aG,aB,seval,oJ]
    have h1:=tN hinv hS pL
    rw[aA.aH] at h1
    simp only[h1,iJ,aB,seval]
    obtain⟨h2,h3⟩:=wV (o:=.cells [AV.int .i64 k,AV.int .i64 (IntKind.i64.wrap (n+m)),AV.str s,bK 4 b ((ts.map (Tm.sh m)).map Tm.av)]) hinv hS pL
    refine⟨b,_,_,h2,h3,oM _,⟨4,gE _⟩,?_,(((aL.refl _).aC hb2).aC hn2).aC hb2⟩
    simp only[hY,bL,bE,fW,rZ,mV,←bU]
    rw[Tm.PV,aN h]
  · simp only[dC] at h
    simp only[aB,seval]
    refine dX (σ:=Nat) [1000000] [1,2,4,5] ts (fun i b=>(((ts.take i).map (Tm.sh m)).map Tm.av≠[]→(aA.aC (st.aC b2 (.cells [AV.int .i64 0,AV.int .i64 0,AV.str ⟨#[]⟩,AV.fslice []])) c (.cells ([AV.int .i64 k,AV.int .i64 (n),AV.str s]++ [bK 4 b (((ts.take i).map (Tm.sh m)).map Tm.av)]))) b=none)) (fun i b=>[(6,.int .i64 i)]) (fun i b=>n9 (st.aC b2 (.cells [AV.int .i64 0,AV.int .i64 0,AV.str ⟨#[]⟩,AV.fslice []])) c b [AV.int .i64 k,AV.int .i64 (n),AV.str s] (((ts.take i).map (Tm.sh m)).map Tm.av)) (by decide +kernel)
     ⟨0,fun h=>absurd rfl h,aO.mk (by simp only[aB,↓aU,seval])⟩ (fun i x b hx hlt bP hdr hinv=>?_) (fun b hge hinv=>?_)
    case refine_1=>
     have hw:=bC (n:=(i:Int)+1)
     have cU:(((ts.take i).map (Tm.sh m)).map Tm.av).length=i:=by simp only[aE,dK];omega
     have htk:(ts.take (i+1)).map (Tm.sh m)=(ts.take i).map (Tm.sh m)++ [(Tm.sh m) x]:=by rw[eS,hx];simp
     have hbo:=nC hinv
     simp only[aE,bP,aB,seval,oJ]
     refine wP [(0,1),(2,1),(4,1),(7,1),(1,2),(3,2),(5,1),(6,2),(8,2),(9,1),(10,0),(11,1),(12,0)] [0,2,4,7,1,3,5,6,8,9,11] mixed ?_
     simp only[bS (av:=Tm.av) cF hx (aP x),bM,aP,hbo,sV,j7,aB,seval,oJ]
     refine gG (IH x (cQ hx) _) ?_
     simp only[bM,aP,cT,j7,aB,seval,oJ]
     refine eY cF kP kQ rfl rfl (gN (aP _) (cR _)) (gE _) hinv (by simp only[cU,aX,a8];omega) (by simp only[cU,aX,a8];omega) (fun b' hb'=>?_)
     rw[show(((ts.take i).map (Tm.sh m)).map Tm.av)++ [((Tm.sh m) x).av]=((ts.take (i+1)).map (Tm.sh m)).map Tm.av by rw[htk];simp] at hb' ⊢
     obtain⟨g1,g2,g3⟩:=yX hb'
     simp only[fU,dL] at g1 g3
     simp only[g3,mU,iJ,aG,g1,hw,aG,aB,seval,oJ]
     exact⟨b',g2,aO.mk (by simp only[aB,seval])⟩
    have hbo:=nC hinv
    rw[d6] at hinv hbo ⊢
    simp only[aE,hge,aB,seval,oJ]
    simp only[hbo,aG,aB,seval,oJ]
    have h1:=tN hinv hS pL
    rw[aA.aH] at h1
    simp only[h1,iJ,aB,seval]
    obtain⟨h2,h3⟩:=wV (o:=.cells [AV.int .i64 k,AV.int .i64 (n),AV.str s,bK 4 b ((ts.map (Tm.sh m)).map Tm.av)]) hinv hS pL
    refine⟨b,_,_,h2,h3,oM _,⟨4,gE _⟩,?_,(((aL.refl _).aC hb2).aC hn2).aC hb2⟩
    simp only[hY,bL,bE,fW,rZ,mV,←bU]
    rw[Tm.PV,aK h]
termination_by t=>SizeOf.sizeOf t
decreasing_by have:=List.sizeOf_lt_of_mem hx;simp only[Tm.mk.sizeOf_spec];omega
abbrev aJH:=zi aS (zi jK lV)
theorem aOX(l:List Cl)(g:FuncId)(dB:List AV)(p:Cl→Bool)(st:aA)(hc:∀x∈l,aD prog g ([aF x]++dB) st (fun r st'=>r=.bool (p x)∧st'=st)) :
 aD prog 232 [.slice (l.map aF),.func g dB] st (fun r st'=>∃j:Int,r=.int .i64 j∧decide (0≤j)=l.any p∧st'=st):=by
 refine wF [] 2 func232 ntmps232 rfl rfl ?_
 simp only[dS,AV.fits,dU,aE]
 intro ⟨hl,_⟩
 simp only[aE,aB,seval,aJH]
 refine dX (σ:=Unit) [] [0,1,7] l (fun i _=>(l.drop i).any p=l.any p) (fun i _=>[(8,.int .i64 i)]) (fun _ _=>st) (by decide +kernel) ⟨(),rfl,aO.mk (by simp only[aB,↓aU,seval])⟩ (fun i x _ hx hlt bP hdr hinv=>?_) (fun _ hge hinv=>?_)
 case refine_2=>
  simp only[hge,aB,seval]
  rw[mJ] at hinv
  exact⟨-1,rfl,by rw[←hinv];try rfl⟩
 rw[hdr,t9] at hinv
 have hw:=bC (n:=(i:Int)+1)
 simp only[bP,bS (av:=aF) m9 hx (gM x),nY,gM,aB,seval,aJH]
 refine(hc x (cQ hx)).to ?_
 simp only[aB,seval]
 refine aQ (fun h=>?_) (fun h=>?_)
 · simp only[aB,seval]
   exact⟨i,rfl,by rw[←hinv,h];simp⟩
 · rw[h,mT] at hinv
   simp only[aB,seval]
   exact⟨(),hinv,aO.mk (by simp only[hw,aB,seval])⟩
theorem aOO(l:List Cl)(g:FuncId)(dB:List AV)(p:Cl→Bool)(st:aA)(hc:∀x∈l,aD prog g ([aF x]++dB) st (fun r st'=>r=.bool (p x)∧st'=st)) :
 aD prog 167 [.slice (l.map aF),.func g dB] st (fun r st'=>r=.bool (l.any p)∧st'=st):=by
 refine wF [] 2 func167 ntmps167 rfl rfl ?_
 intro _
 simp only[aB,seval]
 refine(aOX l g dB p st hc).mono ?_
 rintro _ _ ⟨j,rfl,hj,rfl⟩
 simp only[hj,aB,seval]
abbrev P4:=zi bV (zi cB (zi cC lV))
theorem aPF(c:Cl)(st:aA):aD prog 169 [aF c] st (fun r st'=>r=.bool (jS c)∧st'=st):=by
 obtain⟨⟨k,n,s,ts⟩,b⟩:=c
 have hv:=fun st=>TC (.mk k n s ts) st
 have hp:=fun st=>TF k n s ts st
 simp only[bU] at hv hp
 have hg:=fun st=>aPC b st
 simp only[gK,jS,PG]
 simp only[eP] at hg
 generalize (Tm.mk k n s ts).valid=v at *
 refine wF [1000000] 1 func169 ntmps169 rfl rfl ?_
 intro _
 simp only[aB,seval,P4]
 refine(hv _).to ?_
 cases v with
 | false=>simp only[eJ,aB,seval]
 | true=>
  simp only[dV,cZ,aB,seval,P4]
  refine(hp _).to ?_
  cases hpl:pT k s (ts.length:Int) with
  | false=>simp only[eJ,aB,seval]
  | true=>
   simp only[dV,cZ,aB,seval,P4]
   refine(hg _).to ?_
   simp only[aB,seval]
abbrev a13:=zi bV lV
theorem aO6(c:Cl)(st:aA):aD prog 168 [aF c] st (fun r st'=>r=.bool (!jS c)∧st'=st):=by
 refine wF [1000000] 1 func168 ntmps168 rfl rfl ?_
 intro _
 simp only[BL,nY,gM,aB,seval,a13]
 refine(aPF c st).to ?_
 simp only[aB,seval]
abbrev a12:=zi aS (zi bV jK)
theorem aPL(p:List Cl)(st:aA):aD prog 114 [.slice (p.map aF)] st (fun r st'=>r=.bool (fD p)∧st'=st):=by
 refine wF [1000000] 1 func114 ntmps114 rfl rfl ?_
 simp only[dS,AV.fits,dU,aE]
 intro _
 unfold fD
 simp only[aE,aB,seval,a12]
 refine cK (fun h=>?_) (fun h=>?_)
 · simp only[bA] at h
   rw[show decide (p.length≤20)=true by simp;omega]
   simp only[h,aB,seval]
   refine(aOO p _ [] (fun t=> !jS t) st fun x _=>aO6 x st).to ?_
   simp only[EP,aB,seval]
 · simp only[eA,dC] at h
   rw[show decide (p.length≤20)=false by simp;omega]
   simp only[h,aB,seval]
   rfl
abbrev C9:=zi aS (zi bV (zi cB (zi cC lV)))
theorem UF(c:Cl)(st:aA):aD prog 176 [aF c] st (fun r st'=>r=.bool (jS c)∧st'=st):=by
 obtain⟨⟨k,n,s,ts⟩,l⟩:=c
 have hv:=fun st=>M6 (.mk k n s ts) st
 have hp:=fun st=>TZ k n s ts st
 simp only[bU] at hv hp
 simp only[gK,jS,PG]
 generalize (Tm.mk k n s ts).valid=v at *
 refine wF [1000000] 1 func176 ntmps176 rfl rfl ?_
 simp only[dS,AV.fits,dU,aE]
 intro ⟨_,_,_,_,hl,_⟩
 have fX:l.all Tm.goal=true∨l.length>6→(decide ((l.length:Int)≤6)&&v&&pT k s (ts.length:Int))=(v&&pT k s (ts.length:Int)&&(decide (l.length≤6)&&l.all Tm.goal)):=fun h=>by
  by_cases h6:l.length≤6
  · have hg:l.all Tm.goal=true:=h.resolve_right (by omega)
    rw[hg,show decide ((l.length:Int)≤6)=true from d9 (by omega),show decide (l.length≤6)=true from d9 h6]
    simp
  · rw[show decide ((l.length:Int)≤6)=false from eM (by omega),show decide (l.length≤6)=false from eM h6]
    simp
 simp only[aB,seval,C9]
 refine dX (σ:=Unit) [1000000] [1] l (fun i _=>i≤7∧(l.take i).all Tm.goal=true) (fun i _=>[(2,.bool false),(3,.int .i64 i)]) (fun _ _=>st) (by decide +kernel) ⟨(),⟨by omega,by simp⟩,aO.mk (by simp only[aB,↓aU,seval])⟩ (fun i x _ hx hlt bP hdr hinv=>?_) (fun _ hge hinv=>?_)
 · obtain⟨i1,i2⟩:=hinv
   have hw:=bC (n:=(i:Int)+1)
   by_cases h7:i≤6
   · have h7':decide ((i:Int)≤6)=true:=d9 (by omega)
     have hat:=bS (av:=Tm.av) cF hx (aP x)
     simp only[bP,aZ,dV,aE,h7',hat,bM,aP,aB,seval,C9]
     refine(UH x st).to ?_
     simp only[aB,seval]
     refine aQ (fun h2=>?_) (fun h2=>?_)
     · simp only[i9] at h2
       simp only[aB,seval]
       have:l.all Tm.goal=false:=rS hx h2
       rw[this];simp
     · simp only[rJ] at h2
       simp only[aB,seval]
       refine⟨(),⟨by omega,?_⟩,aO.mk (by simp only[hw,aB,seval])⟩
       rw[eS,hx,AC,i2]
       simp [h2]
   · have h7':decide ((i:Int)≤6)=false:=eM (by omega)
     have h8:decide ((l.length:Int)≤6)=false:=eM (by omega)
     rw[←fX (.inr (by omega)),h8]
     simp only[bP,aZ,dV,h8,eJ,aE,h7',aB,seval,C9]
 · obtain⟨i1,i2⟩:=hinv
   rw[d6] at i2
   rw[←fX (.inl i2)]
   cases h8:decide ((l.length:Int)≤6) with
   | false=>
    simp only[hge,aE,h8,eJ,aB,seval,C9]
   | true=>
    simp only[hge,dV,aE,h8,cZ,aB,seval,C9]
    refine(hv _).to ?_
    cases v with
    | false=>simp only[eJ,aB,seval]
    | true=>
     simp only[dV,cZ,aB,seval,C9]
     refine(hp _).to ?_
     simp only[aB,seval]
abbrev P3:=zi aS (zi bV (zi jK lV))
theorem H5(l:List Cl)(st:aA):aD prog 127 [.slice (l.map aF)] st (fun r st'=>r=.bool (fD l)∧st'=st):=by
 refine wF [1000000] 1 func127 ntmps127 rfl rfl ?_
 simp only[dS,AV.fits,dU,aE]
 intro ⟨hl,_⟩
 simp only[aB,seval]
 refine dX (σ:=Unit) [1000000] [0] l (fun i _=>i≤21∧(l.take i).all jS=true) (fun i _=>[(2,.bool false),(3,.int .i64 i)]) (fun _ _=>st) (by decide +kernel) ⟨(),⟨by omega,by simp⟩,aO.mk (by simp only[aB,↓aU,seval])⟩ (fun i x _ hx hlt bP hdr hinv=>?_) (fun _ hge hinv=>?_)
 · obtain⟨i1,i2⟩:=hinv
   have hw:=bC (n:=(i:Int)+1)
   by_cases h7:i≤20
   · have h7':decide ((i:Int)≤20)=true:=d9 (by omega)
     have hat:=bS (av:=aF) m9 hx (gM x)
     simp only[bP,aZ,dV,aE,h7',hat,nY,gM,aB,seval,P3]
     refine(UF x st).to ?_
     simp only[aB,seval]
     refine aQ (fun h2=>?_) (fun h2=>?_)
     · simp only[i9] at h2
       simp only[aB,seval]
       have:l.all jS=false:=rS hx h2
       simp only[fD,this,rI]
     · simp only[rJ] at h2
       simp only[aB,seval]
       refine⟨(),⟨by omega,?_⟩,aO.mk (by simp only[hw,aB,seval])⟩
       rw[eS,hx,AC,i2]
       simp [h2]
   · have h7':decide ((i:Int)≤20)=false:=eM (by omega)
     have h8:decide ((l.length:Int)≤20)=false:=eM (by omega)
     have h9:decide (l.length≤20)=false:=eM (by omega)
     simp only[bP,aZ,dV,aE,h7',h8,fD,h9,eJ,aB,seval,P3]
 · obtain⟨i1,i2⟩:=hinv
   rw[d6] at i2
   simp only[hge,aE,aB,seval,P3]
   simp only[fD,i2,xS,AV.bool.injEq,qM]
   omega
end Go.AW
namespace Go.AW
theorem cO.fz{h:a7}{st:aA}{b:Nat}{es:List AV}(S:cA h st)(hb:st b=some (.cells (es.flatMap AV.cells)))(hj:∀e∈es,e.bR=false)(hE:gW es):∀ {us:List AV} {vs:List Value},cO h st us vs→cO h (st.erase b) (jE b es us) vs
 | [],vs,x=>by simp only[cO] at x;simp [jE,cO,x]
 | a::us,vs,x=>by
  simp only[cO] at x
  obtain⟨v,r,rfl,x1,x2⟩:=x
  simp only[jE,cO]
  exact⟨v,r,rfl,x1.fz S hb hj hE,cO.fz S hb hj hE x2⟩
theorem bQ.unerase{h h':a7}{st st':aA}{b:Nat}(x:bQ h (st.erase b) h' st'):bQ h st h' st':=
 ⟨x.size,fun c hc e=>x.aY c hc (aA.aTB st e),x.shape⟩
theorem aD.aWI{P:Program}{g:FuncId}{args:List AV}{st:aA}{Q:AV→aA→Prop}(b:Nat)(es:List AV)(hb:st b=some (.cells (es.flatMap AV.cells)))(hj:∀e∈es,e.bR=false)(hE:gW es)(x:aD P g (jE b es args) (st.erase b) Q):aD P g args st Q:=
 ⟨x.1,fun w vs S V=>(x.2 w vs ((hH st b).CY S) (V.fz S hb hj hE)).mono fun _ _ ⟨v,r,st',e,a,b',c,d,q⟩=>⟨v,r,st',e,a,b',c.unerase,d,q⟩⟩
def Lit(st:aA)(w:Nat)(l:List AV)(q:AV)(s:aA):Prop:=(q=.fslice l∧s=st)∨∃b,st b=none∧q=.mslice b 0 l.length w∧s=st.aC b (.cells (l.flatMap AV.cells))
theorem SQ{P:Program}{t:TypeId}{ag:Bool}{w bytes:Nat}{zs:List AV}{st:aA}{es xs:List AV}{x:AV}{K:AV→aA→Prop}(hI:eI P t=some (ag,w))(hB:eB P t=some bytes)(hZ:eZ P t=some zs)(hz:zs.length=w)(hx:x=.slice xs∨x=.fslice xs)(hes:∀e∈es,e.width=w)(eU:uO w xs)(hl:(es.length+xs.length)*bytes≤140737488355328)(hl2:es.length+xs.length≤9223372036854775807)
 (hK:∀q s,Lit st w (es++xs) q s→K q s):iT P t st (.fslice es) x K:=by
 unfold iT
 have he:AR x=some xs:=by rcases hx with rfl | rfl<;>rfl
 simp only[hI,hB,hZ,he]
 refine⟨hz,eU,hl,hl2,hes,fun h=>?_,fun _ b hb=>?_⟩
 · subst h
   exact hK _ _ (.inl ⟨by rw[jO],rfl⟩)
 · exact hK _ _ (.inr ⟨b,hb,by rw[dO],rfl⟩)
theorem Lit.call{P:Program}{g:FuncId}{st s:aA}{w:Nat}{l:List AV}{q:AV}{post:List AV}{Q:AV→aA→Prop}(h:Lit st w l q s)(hj:∀e∈l,e.bR=false)(hw:∀e∈l,e.width=w)(hp:∀b,jE b l post=post)(x:aD P g (.slice l::post) st Q):aD P g (q::post) s Q:=by
 rcases h with ⟨rfl,rfl⟩ | ⟨b,hb,rfl,rfl⟩
 · refine aD.args x fun hp vs S V=>?_
   simp only[cO] at V ⊢
   obtain⟨v,r,rfl,V1,V2⟩:=V
   exact⟨v,r,rfl,V1.E9,V2⟩
 · refine aD.aWI b l (aA.aH _ _ _) hj ⟨w,hw⟩ ?_
   rw[aA.yI st b _ hb]
   have:jE b l (.mslice b 0 l.length w::post)=.slice l::post:=by
    show(AV.mslice b 0 l.length w).fz b l::jE b l post=_
    rw[hp]
    simp [AV.fz]
   rw[this]
   exact x
end Go.AW
namespace Go.AW
open Go.Proofs.Tryz
def nv(i:Nat):AV:=.int .i64 (i:Int)
def d5:RG→AV
 | ⟨.mk k n s ts,aY⟩=>.agg [.int .i64 k,.int .i64 n,.str s,.slice (ts.map Tm.av),.int .i64 (aY:Int)]
theorem zJ(k n:Int)(s:ByteArray)(ts:List Tm)(aY:Nat):d5 ⟨.mk k n s ts,aY⟩=.agg [.int .i64 k,.int .i64 n,.str s,.slice (ts.map Tm.av),.int .i64 (aY:Int)]:=rfl
theorem a0X(g:RG):d5 g=.agg (g.t.av.cells++ [.int .i64 (g.aY:Int)]):=by obtain⟨⟨k,n,s,ts⟩,aY⟩:=g;rw[bU];try rfl
theorem CV(g:RG):(d5 g).width=5:=by obtain⟨⟨k,n,s,ts⟩,aY⟩:=g;rfl
theorem a0Y(g:RG):(d5 g).cells.all AV.storable=true:=by obtain⟨⟨k,n,s,ts⟩,aY⟩:=g;rfl
theorem a0W(g:RG):(d5 g).bR=false:=by obtain⟨⟨k,n,s,ts⟩,aY⟩:=g;rfl
def eQ:RC→AV
 | ⟨.mk k n s ts,rest,left,σ,N⟩=>.agg [.int .i64 k,.int .i64 n,.str s,.slice (ts.map Tm.av),.slice (rest.map d5),.slice (left.map nv),.slice (cJ N σ)]
theorem JY(g:RC):(eQ g).width=7:=by obtain⟨⟨k,n,s,ts⟩,_,_,_,_⟩:=g;rfl
theorem a0M(g:RC):(eQ g).cells.all AV.storable=true:=by obtain⟨⟨k,n,s,ts⟩,_,_,_,_⟩:=g;rfl
theorem a0L(g:RC):(eQ g).bR=false:=by obtain⟨⟨k,n,s,ts⟩,_,_,_,_⟩:=g;rfl
def nH(s:RS):AV:=.agg [.slice (s.goals.map d5),.slice (cJ s.N s.σ),.slice (s.chs.map eQ)]
abbrev QF:=zi aS (zi bV (zi cB cC))
theorem T8:∀(t:Tm) (d:Nat) (st:aA),d≤1000→t.small=true→aD prog 250 [t.av,.int .i64 (d:Int)] st (fun r st'=>r=.bool (t.flat d)∧st'=st)
 | .mk k n s ts,d,st,hd,hsm=>by
  obtain⟨hlen,wS⟩:=Tm.xD hsm
  have IH:=fun(x:Tm) (hx:x∈ts) d st h=>T8 x d st h (wS x hx)
  simp only[bU]
  refine wF [1000000] 2 func250 ntmps250 rfl rfl ?_
  intro _
  simp only[aB,seval,QF]
  refine aQ (fun h=>?_) (fun h=>?_)
  · simp only[bA] at h
    obtain rfl:d=0:=by omega
    simp only[aB,↓aU,seval]
    rw[Tm.IT]
  simp only[dC] at h
  obtain⟨e,rfl⟩:∃e,d=e+1:=⟨d - 1,by omega⟩
  rw[Tm.yL]
  have hw1:IntKind.i64.wrap ((e:Int)+1 - 1)=(e:Int):=by rw[wrap64 (by omega) (by omega)];omega
  simp only[aB,seval]
  refine dX (σ:=Unit) [1000000] [1,2] ts (fun i _=>((ts.drop i).all fun t=>t.flat e)=(ts.all fun t=>t.flat e)) (fun i _=>[(5,.int .i64 i)]) (fun _ _=>st) (by decide +kernel) ⟨(),rfl,aO.mk (by simp only[aB,↓aU,seval])⟩ (fun i x _ hx hlt bP hdr hinv=>?_) (fun _ hge hinv=>?_)
  case refine_2=>
   simp only[hge,aE,aB,seval,QF]
   rw[←hinv,mJ]
   try rfl
  have hw:=bC (n:=(i:Int)+1)
  rw[hdr,iS] at hinv
  simp only[bP,aE,bS (av:=Tm.av) cF hx (aP x),bM,aP,hw1,aB,seval,QF]
  refine(IH x (cQ hx) e _ (by omega)).to ?_
  simp only[aB,seval]
  refine aQ (fun h2=>?_) (fun h2=>?_)
  · simp only[aB,seval]
    simp only[i9] at h2
    rw[←hinv,h2]
    try rfl
  · simp only[rJ] at h2
    rw[h2,cZ] at hinv
    simp only[aB,seval]
    exact⟨(),hinv,aO.mk (by simp only[hw,aB,seval])⟩
termination_by t=>SizeOf.sizeOf t
decreasing_by have:=List.sizeOf_lt_of_mem hx;simp only[Tm.mk.sizeOf_spec];omega
abbrev GK:=zi aS (zi bV (zi iE (zi cB cC)))
theorem UA{N:Nat}{σ:Sub}(hg:dN σ)(ho:dI (bY N) σ)(t:Tm)(ht:bY N t)(st:aA) :
 aD prog 190 [t.av,.slice (cJ N σ)] st (fun r st'=>st'=st∧∃x:Tm,r=.tup [x.av,.bool (kD (t.aV (rs σ)))]∧(kD (t.aV (rs σ))=true→x=t.aV (rs σ))):=by
 obtain⟨rk,B,G⟩:=hg.rs
 have OK:=fun st=>S7 G ho 120 t st (cX _) ht
 have hV:=G.aZQ ho.zB ht.1
 refine aD.o9 (aD.soft ?_)
 refine wF [1000000] 2 func190 ntmps190 rfl rfl ?_
 intro _
 simp only[bM,aP,cT,aB,seval,GK]
 intro b4 h4
 refine(OK _).mono ?_
 rintro _ _ ⟨rfl,x,left,rfl,h1,h2⟩
 simp only[aP,cR,cT,aB,↓aU,seval,GK]
 refine wP [(1,1),(2,1),(3,1),(4,2),(0,1),(5,0),(6,1),(7,0),(8,1)] [1,2,3,4,0,6,8] mixed ?_
 simp only[aB,seval]
 refine cK (fun h=>?_) (fun h=>?_)
 · have h3:0≤left:=by simpa using h
   have h4:(t.aV (rs σ)).nodes≤120:=G6 fun h5=>by rw[aK h5] at h2;omega
   rw[aN h4] at h2
   obtain⟨rfl,_⟩:=h2
   have h5:kD (t.aV (rs σ))=(t.aV (rs σ)).flat 30:=by unfold kD;simp [h4]
   simp only[h,bM,aP,aB,seval,GK]
   refine(T8 _ 30 _ (by omega) hV.small).to ?_
   simp only[aG,cR,cT,cI,aB,seval,GK]
   refine⟨st,(aL.refl _).aC ‹_›,rfl,_,by simp only[kG,sD,Tm.soft,bL,bE];rw[h5],fun _=>rfl⟩
 · have hx0:=trivial
   have h3:left<0:=by simpa using h
   have h4:¬(t.aV (rs σ)).nodes≤120:=fun h5=>by rw[aN h5] at h2;omega
   have h5:kD (t.aV (rs σ))=false:=by unfold kD;simp [h4]
   simp only[h,aG,bM,aP,cR,cT,cI,fL (cI x),fJ (bM x),aB,seval,GK]
   refine⟨st,(aL.refl _).aC ‹_›,rfl,x,by simp only[kG,sD,Tm.soft,bL,bE];rw[h5],fun h6=>?_⟩
   rw[h5] at h6;cases h6
theorem aWD(c:Cl):E8 c=(cE (c.1::c.2) []).foldl (fun n v=>if n≤v then v+1 else n) 0:=rfl
abbrev KG:=zi aS (zi cB (zi mG (zi cC lV)))
theorem aRC(c:Cl)(hc:iG c)(h6:c.2.length≤6)(st:aA):aD prog 261 [aF c] st (fun r st'=>r=.int .i64 (pH c:Int)∧st'=st):=by
 have hvr:=fun v=>hc.vars (v:=v)
 have hok:=hc.FS
 have hfr:(pH c:Int)=E8 c:=by
  have:=(aFR (cE (c.1::c.2) []) 0).1
  unfold pH E8
  omega
 rw[hfr,aWD]
 have hnd:bH Tm.nodes (c.1::c.2)≤1099511627776:=by
  have:∀l:List Tm,(∀t∈l,bY 26 t)→bH Tm.nodes l≤l.length*120:=by
   intro l
   induction l with
   | nil=>intro _;simp [bH]
   | cons x l ih=>intro h;simp only[bH,aX];have:=ih fun y hy=>h y (by simp [hy]);have:=(h x (by simp)).2;omega
  have:=this _ hok
  simp only[aX] at this
  omega
 have hvl:=zX (c.1::c.2) []
 obtain⟨⟨k,n,s,ts⟩,bd⟩:=c
 simp only at h6 hnd hvl hvr hok
 rw[gK]
 refine aD.done ?_
 refine wF [1000000] 1 func261 ntmps261 rfl rfl ?_
 intro _
 simp only[aB,seval,KG]
 refine SQ cF kP kQ rfl (.inl rfl) (by intro e he;simp only[cL,c8,dP] at he;subst he;rfl) (fun e he=>by simp only[cM] at he;obtain⟨t,_,rfl⟩:=he;exact⟨aP _,cR _⟩) (by simp only[aX,a8,aE];omega) (by simp only[aX,a8,aE];omega) (fun q s2 hq=>?_)
 rw[←bU] at hq
 rw[show[(Tm.mk k n s ts).av]++bd.map Tm.av=((Tm.mk k n s ts)::bd).map Tm.av from rfl] at hq
 simp only[aB,seval]
 refine Lit.call hq (oM _) (gE _) (fun _=>rfl) ?_
 refine(M3 _ _ (fun t ht=>Tm.tA t (hok t ht).1.2.1) hnd).to ?_
 generalize cE ((Tm.mk k n s ts)::bd) []=vs at *
 simp only[a8] at hvl
 simp only[aB,seval]
 refine dX (σ:=Int) [1000000] [2,3] vs (fun i n=>(vs.drop i).foldl (fun n v=>if n≤v then v+1 else n) n=vs.foldl (fun n v=>if n≤v then v+1 else n) 0) (fun i n=>[(4,.int .i64 n),(5,.int .i64 i)]) (fun _ _=>st) (by decide +kernel) ⟨0,rfl,aO.mk (by simp only[aB,↓aU,seval])⟩ (fun i x n hx hlt bP hdr hinv=>?_) (fun n hge hinv=>?_)
 case refine_2=>
  rw[mJ] at hinv
  simp only[aE,hge,aB,seval,KG]
  refine⟨?_,aL.refl _⟩
  rw[←hinv]
  try rfl
 rw[hdr,uC] at hinv
 have hw:=bC (n:=(i:Int)+1)
 obtain⟨t,ht,hv⟩:=(hvr x).1 (cQ hx)
 have a45:=(hok t ht).1.2.2 x hv
 have hw2:=bC (n:=x+1)
 have hat:dT prog 98 (.slice (vs.map iv)) (.int .i64 (i:Int))=some (.pptr (.int .i64 x)):=bS (av:=iv) qO hx rfl
 simp only[aE,bP,hat,aB,seval,KG]
 refine aQ (fun h=>?_) (fun h=>?_)
 · rw[aN (by simpa using h)] at hinv
   simp only[hat,hw2,hw,aB,seval,KG]
   exact⟨x+1,hinv,aO.mk (by simp only[aB,seval])⟩
 · rw[aK (by simpa using h)] at hinv
   simp only[hw,aB,seval]
   exact⟨n,hinv,aO.mk (by simp only[aB,seval])⟩
end Go.AW
