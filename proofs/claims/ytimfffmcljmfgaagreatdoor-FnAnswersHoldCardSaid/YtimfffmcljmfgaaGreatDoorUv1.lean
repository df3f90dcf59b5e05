import Derived.Test.YtimfffmcljmfgaaGreatDoorUua
import Derived.Test.YtimfffmcljmfgaaGreatDoorUub
import Derived.Test.YtimfffmcljmfgaaGreatDoorUuc
import Derived.Test.YtimfffmcljmfgaaGreatDoorUud
import Derived.Test.YtimfffmcljmfgaaGreatDoorUue
import Derived.Test.YtimfffmcljmfgaaGreatDoorUuf
import Derived.Test.YtimfffmcljmfgaaGreatDoorUug
import Derived.Test.YtimfffmcljmfgaaGreatDoorUuh
import Derived.Test.YtimfffmcljmfgaaGreatDoorUui
import Derived.Test.YtimfffmcljmfgaaGreatDoorUuj
import Derived.Test.YtimfffmcljmfgaaGreatDoorUuk
import Derived.Test.YtimfffmcljmfgaaGreatDoorUul
import Derived.Test.YtimfffmcljmfgaaGreatDoorUum
import Derived.Test.YtimfffmcljmfgaaGreatDoorUun
import Derived.Test.YtimfffmcljmfgaaGreatDoorUuo
import Derived.Test.YtimfffmcljmfgaaGreatDoorUup
import Derived.Test.YtimfffmcljmfgaaGreatDoorUuq
import Derived.Test.YtimfffmcljmfgaaGreatDoorUur
import Derived.Test.YtimfffmcljmfgaaGreatDoorUus
import Derived.Test.YtimfffmcljmfgaaGreatDoorUuu
set_option linter.unusedSimpArgs false
set_option linter.unusedVariables false
set_option maxRecDepth 100000
namespace Go.AW
section
variable {p:List Cl} {goal:Tm} {σ0:Sub} {N0 k:Nat}
end
theorem I6.aG{t:Tm}(h:I6 t)(f:Int→Tm):I6 (t.aG f):=by
 refine⟨h.1.aG f,?_⟩
 rw[Tm.pM f (by rw[h.1.1];decide)]
 simp only[Tm.s,Tm.ts,aF]
 exact h.2
theorem rTry_chs{p:List Cl}{chs:List RC}{goal:Tm}{rest:List RG}{σ:Sub}{N:Nat}{s':RS}:∀l:List Nat,gJ p chs goal rest σ N l=some s'→∃e,s'.chs=chs++e
 | [],h=>by rw[gJ] at h;cases h
 | i::l,h=>by
  cases hx:p[i]? with
  | none=>rw[gJ] at h;simp only[hx] at h;cases h
  | some x=>
   rw[LT hx] at h
   split at h
   · simp only[Option.some.injEq] at h
     subst h
     simp only
     split
     · exact⟨[],by simp⟩
     · exact⟨_,rfl⟩
   · exact rTry_chs l h
theorem rTry_pu{p:List Cl}{chs:List RC}{goal:Tm}{rest:List RG}{σ:Sub}{N:Nat}{s':RS}(hp:PuP p)(hr:∀g∈rest,I6 g.t)(hc:∀c∈chs,∀g∈c.rest,I6 g.t):∀l:List Nat,gJ p chs goal rest σ N l=some s'→PuS s'
 | [],h=>by rw[gJ] at h;cases h
 | i::l,h=>by
  cases hx:p[i]? with
  | none=>rw[gJ] at h;simp only[hx] at h;cases h
  | some x=>
   rw[LT hx] at h
   split at h
   · simp only[Option.some.injEq] at h
     subst h
     refine⟨fun g hg=>?_,fun c hcm g hg=>?_⟩
     · rcases fF.1 hg with hg | hg
       · obtain⟨t,ht,rfl⟩:=cS.1 hg
         exact(hp x (cP hx) t ht).aG _
       · exact hr g hg
     · simp only at hcm
       split at hcm
       · exact hc c hcm g hg
       · rcases fF.1 hcm with hcm | hcm
         · exact hc c hcm g hg
         · simp only[cX,dN,dV] at hcm
           subst hcm
           exact hr g hg
   · exact rTry_pu hp hr hc l h
theorem rBack_pu{p:List Cl}(hp:PuP p){s':RS}:∀(n:Nat) (chs:List RC),(∀c∈chs,∀g∈c.rest,I6 g.t)→fU p n chs=some s'→PuS s'
 | 0,chs,_,h=>by rw[fU] at h;cases h
 | n+1,chs,hc,h=>by
  rcases List.eq_nil_or_concat chs with rfl | ⟨cs',c,rfl⟩
  · rw[fU] at h;cases h
  · rw[List.concat_eq_append] at hc h
    unfold fU at h
    simp only[NI,I2,Option.some_or,IY] at h
    have hc':∀d∈cs',∀g∈d.rest,I6 g.t:=fun d hd=>hc d (by simp [hd])
    cases ht:gJ p cs' c.goal c.rest c.σ c.N c.left with
    | some s2=>
     rw[ht] at h
     cases h
     exact rTry_pu hp (fun g hg=>hc c (by simp) g hg) hc' _ ht
    | none=>rw[ht] at h;exact rBack_pu hp n _ hc' h
abbrev gls (τ:Int→Tm) (l:List RG):List Tm:=l.map fun g=>g.t.aG τ
theorem head_user{x:Cl}(h:HF x.1=true)(μ:Int→Tm):(x.1.aG μ).k=3∧(x.1.aG μ).s=x.1.s∧(x.1.aG μ).ts.length=x.1.ts.length∧isBuiltin (x.1.aG μ).s ((x.1.aG μ).ts.length:Int)=false:=by
 obtain⟨h1,h2,_⟩:=aLR h
 rw[Tm.pM μ (by rw[h1];decide)]
 simp only[Tm.k,Tm.s,Tm.ts,aF]
 exact⟨h1,trivial,trivial,h2⟩
theorem mapv_fun{t:Tm}(h:t.k≠1)(f:Int→Tm):(t.aG f).k=t.k∧(t.aG f).s=t.s∧(t.aG f).ts=t.ts.map (Tm.aG f):=by
 rw[Tm.pM f h]
 exact⟨rfl,rfl,rfl⟩
theorem bl_eq{n:Int}(h:isBuiltin SE n=true):n=2:=by simpa [isBuiltin] using h
theorem bl_true{n:Int}(h:isBuiltin SF n=true):n=0:=by simpa [isBuiltin] using h
theorem bl_fail{n:Int}(h:isBuiltin aMC n=true):n=0:=by simpa [isBuiltin] using h
theorem bl_true0:isBuiltin SF 0=true:=by decide
theorem bl_eq2:isBuiltin SE 2=true:=by decide
section
variable {p:List Cl} {τ0:Int→Tm}
def HasW(p:List Cl)(τ0:Int→Tm)(goal:Tm)(rest:List RG)(σ:Sub)(l:List Nat):Prop:=
 ∃τ,n7 τ σ∧(∀v,0≤v→v<26→τ v=τ0 v)∧∃i∈l,∃x μ,p[i]?=some x∧goal.aG τ=x.1.aG μ∧y6 p (x.2.map (Tm.aG μ)++gls τ rest)
def HasC(p:List Cl)(τ0:Int→Tm)(c:RC):Prop:=HasW p τ0 c.goal c.rest c.σ c.left
def CvG(p:List Cl)(τ0:Int→Tm)(s:RS):Prop:=∃τ,n7 τ s.σ∧(∀v,0≤v→v<26→τ v=τ0 v)∧y6 p (gls τ s.goals)
def CvS(p:List Cl)(τ0:Int→Tm)(s:RS):Prop:=CvG p τ0 s∨∃c∈s.chs,HasC p τ0 c
theorem rTry_cv(hp:∀c∈p,gE c∧c.2.length≤6){chs:List RC}{goal:Tm}{rest:List RG}{σ:Sub}{N:Nat}(hg:cO σ)(ho:cW (bB N) σ)(hd:∀n,¬(0≤n∧n<(N:Int))→σ n=none)(hgo:bB N goal)(hr:∀g∈rest,bB N g.t∧g.t.k=3)(hN:26≤N) :
 ∀l:List Nat,(∀i∈l,i<p.length)→HasW p τ0 goal rest σ l→∃s',gJ p chs goal rest σ N l=some s'∧CvS p τ0 s'
 | [],_,⟨_,_,_,i,hi,_⟩=>by cases hi
 | j::l,hl,⟨τ,hS,hag,i,hi,x,μ,hx,he,hP⟩=>by
  obtain⟨y,hy⟩:∃y,p[j]?=some y:=⟨_,eE (hl j (by simp))⟩
  by_cases hij:i=j
  · subst hij
    rw[hx] at hy
    cases hy
    obtain⟨hX,_⟩:=hp x (cP hx)
    let τ':Int→Tm:=fun v=>if v<(N:Int) then τ v else μ (v - N)
    have hτ:∀t,bB N t→t.aG τ'=t.aG τ:=fun t ht=>mN t fun v hv=>aH (ht.1.2.2 v hv).2
    have hsh:∀t,bB 26 t→(cQ N t).aG τ'=t.aG μ:=fun t ht=>by
     unfold cQ b7
     rw[pN]
     refine mN t fun v hv=>?_
     have:=(ht.1.2.2 v hv).1
     rw[qI]
     show(if v+(N:Int)<N then τ (v+N) else μ (v+N - N))=μ v
     rw[aE (by omega),show v+(N:Int) - N=v by omega]
    have hS':n7 τ' σ:=fun n u h=>by
     have hn:0≤n∧n<(N:Int):=by
      by_cases hn:0≤n∧n<(N:Int)
      · exact hn
      · rw[hd n hn] at h;cases h
     rw[hτ u (ho n u h)]
     show(if n<(N:Int) then τ n else _)=_
     rw[aH hn.2]
     exact hS n u h
    obtain⟨r,σ',tr,U⟩:=rS (N:=N+mL x) hg (ho.upN (by omega)) (hgo.mono (by omega)) (hX.cQ N x.1 (by simp))
    obtain⟨rfl,hS2⟩:=U.mA.gen τ' hS' (by simp only[bA,aW,hτ goal hgo,hsh x.1 hX.head,he])
    refine⟨_,by rw[LT hx,U.eq,aH rfl],.inl ⟨τ',hS2,fun v h0 h1=>?_,?_⟩⟩
    · show(if v<(N:Int) then τ v else _)=_
      rw[aH (by omega)]
      exact hag v h0 h1
    · have e1:gls τ' (x.2.map (fun t=>(⟨cQ N t,chs.length⟩:RG))++rest)=x.2.map (Tm.aG μ)++gls τ rest:=by
       unfold gls
       rw[tM,tN]
       congr 1
       · exact qU fun t ht=>hsh t (hX.body t ht).1
       · exact qU fun g hg=>hτ g.t (hr g hg).1
      rw[e1]
      exact hP
  · have hil:i∈l:=by
     rcases cX.1 hi with e | e
     · exact absurd e hij
     · exact e
    have hW:HasW p τ0 goal rest σ l:=⟨τ,hS,hag,i,hil,x,μ,hx,he,hP⟩
    rw[LT hy]
    split
    · refine⟨_,rfl,.inr ⟨⟨goal,rest,l,σ,N⟩,?_,hW⟩⟩
      simp only
      rw[aE (by rintro rfl;cases hil)]
      simp
    · exact rTry_cv hp hg ho hd hgo hr hN l (fun k hk=>hl k (by simp [hk])) hW
theorem rBack_cv(hp:∀c∈p,gE c∧c.2.length≤6):∀(n:Nat) (chs:List RC),chs.length≤n→(∀c∈chs,w6 p c∧26≤c.N)→(∃c∈chs,HasC p τ0 c)→∃s',fU p n chs=some s'∧CvS p τ0 s'
 | 0,chs,hn,_,⟨c,hc,_⟩=>by cases chs with | nil=>cases hc | cons a l=>simp at hn
 | n+1,chs,hn,hok,⟨c,hc,hH⟩=>by
  rcases List.eq_nil_or_concat chs with rfl | ⟨cs',d,rfl⟩
  · cases hc
  · rw[List.concat_eq_append] at hc hn hok ⊢
    unfold fU
    simp only[NI,I2,Option.some_or,IY]
    obtain⟨hd,hdN⟩:=hok d (by simp)
    have hthis:HasC p τ0 d→∃s',gJ p cs' d.goal d.rest d.σ d.N d.left=some s'∧CvS p τ0 s':=fun h=>rTry_cv hp hd.gQ hd.ok hd.vJ hd.goal hd.rest hdN d.left hd.left h
    cases ht:gJ p cs' d.goal d.rest d.σ d.N d.left with
    | some s'=>
     refine⟨s',rfl,?_⟩
     rcases fF.1 hc with hc | hc
     · obtain⟨e,he⟩:=rTry_chs _ ht
       exact .inr ⟨c,by rw[he];exact List.mem_append_left _ hc,hH⟩
     · simp only[cX,dN,dV] at hc
       subst hc
       obtain⟨s2,h1,h2⟩:=hthis hH
       rw[ht] at h1
       cases h1
       exact h2
    | none=>
     refine rBack_cv hp n cs' (by simp at hn;omega) (fun e he=>hok e (by simp [he])) ⟨c,?_,hH⟩
     rcases fF.1 hc with hc | hc
     · exact hc
     · simp only[cX,dN,dV] at hc
       subst hc
       obtain⟨s2,h1,_⟩:=hthis hH
       rw[ht] at h1
       cases h1
theorem solveG_true(σ:Sub):dE σ SF []=(0,σ,[]):=by simp [dE,iM]
theorem solveG_fail(σ:Sub):dE σ aMC []=(1,σ,[]):=by simp [dE,iM,aMC]
theorem solveG_eqn(σ:Sub)(x y:Tm):dE σ SE [x,y]=(iM (gD σ x y).1,(gD σ x y).2):=by
 rw[dE]
 simp only
 rw[aE (by decide)]
 try rfl
theorem step_cv(hp:∀c∈p,gE c∧c.2.length≤6)(hpl:∀x∈p,HF x.1=true){B:Nat}{s:RS}{g:RG}{rest:List RG}(hA:mG p B s)(hPu:PuS s)(hgs:s.goals=g::rest)(hC:CvS p τ0 s) :
 match iJ p (fun _ l=>l) s g rest with
 | .stop e=>True
 | .go s'=>CvS p τ0 s'
 | .fail=>∃c∈s.chs,HasC p τ0 c:=by
 have hgm:g∈s.goals:=by rw[hgs];simp
 have hgp:=hPu.g g hgm
 have hg1:g.t.k≠1:=by rw[hgp.1.1];decide
 obtain⟨rk,B',G⟩:=hA.a.gQ.rs
 unfold iJ
 by_cases h1:eL (g.t.aG (rs s.σ))=false
 · rw[aH h1];trivial
 rw[aE h1,aE (by rw[(hgp.1.aG _).cut];decide)]
 have hok:=KN hA.a.gQ hA.a.ok (hA.a.goals g hgm).1 (by simpa using h1)
 have hfac:∀τ,n7 τ s.σ→(g.t.aG (rs s.σ)).aG τ=g.t.aG τ:=fun τ h=>G.KK h g.t
 have hpu:=hgp.aG (rs s.σ)
 have hk3:(g.t.aG (rs s.σ)).k=3:=(hpu.1).1
 generalize hy:g.t.aG (rs s.σ)=y at *
 have hy1:y.k≠1:=by rw[hk3];decide
 have hyf:∀τ,n7 τ s.σ→(g.t.aG τ).s=y.s∧(g.t.aG τ).ts=y.ts.map (Tm.aG τ):=fun τ h=>by
  rw[←hfac τ h]
  exact(mapv_fun hy1 τ).2
 have hnocls:∀ {τ:Int→Tm} {x:Cl} {μ:Int→Tm},n7 τ s.σ→isBuiltin y.s (y.ts.length:Int)=true→x∈p→g.t.aG τ=x.1.aG μ→False:=fun {τ x μ} hτ hb hx he=>by
  have h2:=(head_user (hpl x hx) μ).2.2.2
  rw[←he] at h2
  obtain⟨e1,e2⟩:=hyf τ hτ
  rw[e1,e2,aF,hb] at h2
  cases h2
 by_cases hb:isBuiltin y.s (y.ts.length:Int)=true
 · rw[aH hb]
   rcases hpu.2 hb with hs | hs | hs
   · -- equality
     rw[hs] at hb ⊢
     have hl:=bl_eq hb
     obtain⟨u,v,huv⟩:∃u v,y.ts= [u,v]:=by
      match hts:y.ts with
      | []=>rw[hts] at hl;simp at hl
      | [_]=>rw[hts] at hl;simp at hl
      | [u,v]=>exact⟨u,v,rfl⟩
      | _::_::_::_=>rw[hts] at hl;simp at hl;omega
     rw[huv,solveG_eqn]
     obtain⟨r,σ',tr,U⟩:=rS hA.a.gQ hA.a.ok (qJ _ y hy1 hok u (by rw[huv];simp)) (qJ _ y hy1 hok v (by rw[huv];simp))
     have hcur:CvG p τ0 s→r=true∧CvG p τ0 ⟨rest,σ',s.N,s.chs⟩:=fun⟨τ,hS,hag,hP⟩=>by
      rw[hgs] at hP
      simp only[gls,bA] at hP
      obtain⟨e1,e2⟩:=hyf τ hS
      cases hP with
      | tru _ h h2 _=>rw[e1,hs] at h;exact absurd h (by decide)
      | eqn _ h h2 hP=>
       rw[e2,huv] at h2
       simp only[bA,aW,List.cons.injEq,eF] at h2
       obtain⟨h3,h4⟩:=U.mA.gen τ hS (by simp only[bA,aW,h2.1,h2.2])
       exact⟨h3,τ,h4,hag,hP⟩
      | cls hx he _=>exact(hnocls hS (by rw[hs];exact hb) hx he).elim
     rw[U.eq]
     cases r with
     | true=>
      simp only[iM,gA]
      rcases hC with hC | hC
      · exact .inl (hcur hC).2
      · exact .inr hC
     | false=>
      simp only[iM,iL,dY]
      rw[aE (by decide),aH trivial]
      rcases hC with hC | hC
      · exact absurd (hcur hC).1 (by decide)
      · exact hC
   · -- truth
     rw[hs] at hb ⊢
     have hl:=bl_true hb
     have hts:y.ts= []:=pT (by omega)
     rw[hts,solveG_true]
     simp only[gA]
     rcases hC with ⟨τ,hS,hag,hP⟩ | hC
     · rw[hgs] at hP
       simp only[gls,bA] at hP
       obtain⟨e1,e2⟩:=hyf τ hS
       cases hP with
       | tru _ h h2 hP=>exact .inl ⟨τ,hS,hag,hP⟩
       | eqn _ h h2 hP=>rw[e1,hs] at h;exact absurd h (by decide)
       | cls hx he _=>exact(hnocls hS (by rw[hs];exact hb) hx he).elim
     · exact .inr hC
   · -- falsity
     rw[hs] at hb ⊢
     have hl:=bl_fail hb
     have hts:y.ts= []:=pT (by omega)
     rw[hts,solveG_fail]
     simp only
     rw[aE (by decide),aH trivial]
     rcases hC with ⟨τ,hS,hag,hP⟩ | hC
     · rw[hgs] at hP
       simp only[gls,bA] at hP
       obtain⟨e1,e2⟩:=hyf τ hS
       cases hP with
       | tru _ h h2 hP=>rw[e1,hs] at h;exact absurd h (by decide)
       | eqn _ h h2 hP=>rw[e1,hs] at h;exact absurd h (by decide)
       | cls hx he _=>exact(hnocls hS (by rw[hs];exact hb) hx he).elim
     · exact hC
 rw[aE hb]
 by_cases hf:d8 p y= []
 · rw[aH hf];trivial
 rw[aE hf]
 have hcur:CvG p τ0 s→∃s',gJ p s.chs y rest s.σ s.N (d8 p y)=some s'∧CvS p τ0 s':=fun⟨τ,hS,hag,hP⟩=>by
  rw[hgs] at hP
  simp only[gls,bA] at hP
  obtain⟨e1,e2⟩:=hyf τ hS
  refine rTry_cv hp hA.a.gQ hA.a.ok hA.a.vJ hok (fun g' hg'=>hA.a.goals g' (by rw[hgs];simp [hg'])) hA.l.1 (d8 p y) (aWL p y) ?_
  cases hP with
  | tru _ h h2 hP=>
   rw[e1] at h
   rw[e2] at h2
   have:y.ts.length=0:=by simpa using gV List.length h2
   rw[h,this] at hb
   exact absurd bl_true0 hb
  | eqn _ h h2 hP=>
   rw[e1] at h
   rw[e2] at h2
   have:y.ts.length=2:=by simpa using gV List.length h2
   rw[h,this] at hb
   exact absurd bl_eq2 hb
  | @cls _ _ x μ hx he hP=>
   obtain⟨i,hi⟩:=BS hx
   refine⟨τ,hS,hag,i,E2.2 ⟨rX.2 (gP.1 hi).1,?_⟩,x,μ,hi,by rw[hfac τ hS];exact he,hP⟩
   obtain⟨_,f2,f3,_⟩:=head_user (hpl x hx) μ
   rw[←he,e1] at f2
   rw[←he,e2,aF] at f3
   simp only[hi,DB,f2,f3,bU,Bool.and_self]
 cases ht:gJ p s.chs y rest s.σ s.N (d8 p y) with
 | some s'=>
  rcases hC with hC | ⟨c,hc,hH⟩
  · obtain⟨s2,h3,h4⟩:=hcur hC
    rw[ht] at h3
    cases h3
    exact h4
  · obtain⟨e,he⟩:=rTry_chs _ ht
    exact .inr ⟨c,by rw[he];exact List.mem_append_left _ hc,hH⟩
 | none=>
  rcases hC with hC | hC
  · obtain⟨s2,h3,_⟩:=hcur hC
    rw[ht] at h3
    cases h3
  · exact hC
theorem step_pu(hp:PuP p){s s':RS}{g:RG}{rest:List RG}(hPu:PuS s)(hgs:s.goals=g::rest)(h:iJ p (fun _ l=>l) s g rest=.go s'):PuS s':=by
 have hr:∀g'∈rest,I6 g'.t:=fun g' hg'=>hPu.g g' (by rw[hgs];simp [hg'])
 have xW:=(hPu.g g (by rw[hgs];simp)).1.aG (rs s.σ) |>.cut
 unfold iJ at h
 split at h
 · cases h
 · rw[aE (by rw[xW];decide)] at h
   split at h
   · split at h
     · simp only[RO.go.injEq] at h
       subst h
       exact⟨hr,hPu.c⟩
     · split at h<;>cases h
   · split at h
     · cases h
     · split at h
       · rename_i s2 ht
         simp only[RO.go.injEq] at h
         subst h
         exact rTry_pu hp hr hPu.c _ ht
       · cases h
def SubOk(σ:Sub):Prop:=cO σ∧∃M:Nat,26≤M∧cW (bB M) σ
theorem run_cv(hp:∀c∈p,gE c∧c.2.length≤6)(hpl20:p.length≤20)(hpl:∀x∈p,HF x.1=true)(hpu:PuP p)(vars:List Int):∀(n most fuel:Nat) (s:RS) (B:Nat),most+fuel≤n→mG p B s→B+26*fuel≤8000→PuS s→CvS p τ0 s→(jL p (fun _ l=>l) vars most fuel s).2=0 →
 ∃σ a,iA σ vars=some a∧a∈(jL p (fun _ l=>l) vars most fuel s).1∧SubOk σ∧∃τ,n7 τ σ∧∀v,0≤v→v<26→τ v=τ0 v:=by
 have hd:∀(t:Tm) (l:List Nat),(∀i∈(fun _ l=>l:Tm→List Nat→List Nat) t l,i∈l)∧((fun _ l=>l:Tm→List Nat→List Nat) t l).length≤l.length:=fun _ l=>⟨fun _ h=>h,c7 _⟩
 intro n
 induction n with
 | zero=>
  intro most fuel s B hn hs hB _ _ h
  obtain rfl:most=0:=by omega
  obtain rfl:fuel=0:=by omega
  cases hg:s.goals with
  | nil=>rw[A2 hg,aH rfl] at h;cases h
  | cons g rest=>rw[wH hg,aH rfl] at h;cases h
 | succ n ih=>
  intro most fuel s B hn hs hB hPu hC h
  have GR:(∃c∈s.chs,HasC p τ0 c)→∃s',fU p s.chs.length s.chs=some s'∧CvS p τ0 s':=fun h=>rBack_cv hp _ _ (c7 _) (fun c hc=>⟨(hs.a.chs c hc).1,hs.l.2 c hc⟩) h
  cases hg:s.goals with
  | nil=>
   rw[A2 hg] at h ⊢
   by_cases hm:most=0
   · rw[aH hm] at h;cases h
   rw[aE hm] at h ⊢
   cases ha:iA s.σ vars with
   | none=>rw[ha] at h;cases h
   | some a=>
    rw[ha] at h
    simp only at h ⊢
    rcases hC with ⟨τ,hS,hag,_⟩ | hC
    · refine⟨s.σ,a,ha,?_,⟨hs.a.gQ,s.N,hs.l.1,hs.a.ok⟩,τ,hS,hag⟩
      split<;>exact List.mem_cons_self
    · obtain⟨s',h1,h2⟩:=GR hC
      rw[h1] at h ⊢
      simp only at h ⊢
      obtain⟨σ,a',e1,e2,e3⟩:=ih (most - 1) fuel s' B (by omega) (hs.back hp (by omega) h1) hB (rBack_pu hpu _ _ hPu.c h1) h2 h
      exact⟨σ,a',e1,List.mem_cons_of_mem _ e2,e3⟩
  | cons g rest=>
   rw[wH hg] at h ⊢
   by_cases hf:fuel=0
   · rw[aH hf] at h;cases h
   rw[aE hf] at h ⊢
   have aYT:=step_cv hp hpl hs hPu hg hC
   cases hst:iJ p (fun _ l=>l) s g rest with
   | stop e=>
    rw[hst] at h
    exact absurd h (a1N hst)
   | go s'=>
    rw[hst] at h aYT
    exact ih most (fuel - 1) s' (B+26) (by omega) (hs.step hp (by omega) (by omega) hd hg hst) (by omega) (step_pu hpu hPu hg hst) aYT h
   | fail=>
    rw[hst] at h aYT
    obtain⟨s',h1,h2⟩:=GR aYT
    simp only[h1] at h ⊢
    exact ih most (fuel - 1) s' B (by omega) (hs.back hp (by omega) h1) (by omega) (rBack_pu hpu _ _ hPu.c h1) h2 h
end
end Go.AW
namespace Go.AW
open Go.Proofs.Tryz
end Go.AW
namespace Go.AW

end Go.AW
namespace Go.AW
open Go.Proofs.Tryz

end Go.AW
namespace Go.AW
open Go.ChangeShapes Go.WideShapes Go.ChangeAt Go.RowKit
section
variable {H:Type} {enc:TypeId×Value→H} {P:Program} {w:World}
end
end Go.AW


set_option linter.unusedSimpArgs false
set_option linter.unusedVariables false
set_option maxRecDepth 100000
namespace Go.AW
open Go.Proofs.Tryz
section
variable {H:Type} {enc:TypeId×Value→H} {w:World}
end
section
variable {H:Type} {enc:TypeId×Value→H} {w:World}
end
end Go.AW
namespace Go.AW
section
variable {p:List Cl} {q:List Tm}
def SdG(p:List Cl)(q:List Tm)(goals:List RG)(σ:Sub):Prop:=∀τ,n7 τ σ→y6 p (gls τ goals)→y6 p (q.map (Tm.aG τ))
def SdC(p:List Cl)(q:List Tm)(goal:Tm)(rest:List RG)(σ:Sub):Prop:=∀τ,n7 τ σ→y6 p (goal.aG τ::gls τ rest)→y6 p (q.map (Tm.aG τ))
structure Sd (p:List Cl) (q:List Tm) (s:RS):Prop where
 g:SdG p q s.goals s.σ
 c:∀c∈s.chs,SdC p q c.goal c.rest c.σ
theorem rTry_sd(hp:∀c∈p,gE c∧c.2.length≤6){chs:List RC}{goal:Tm}{rest:List RG}{σ:Sub}{N:Nat}(hg:cO σ)(ho:cW (bB N) σ)(hgo:bB N goal)(hC:SdC p q goal rest σ)(hcs:∀c∈chs,SdC p q c.goal c.rest c.σ){s':RS} :
 ∀l:List Nat,gJ p chs goal rest σ N l=some s'→Sd p q s'
 | [],h=>by rw[gJ] at h;cases h
 | i::l,h=>by
  cases hx:p[i]? with
  | none=>rw[gJ] at h;simp only[hx] at h;cases h
  | some x=>
   have hxm:=cP hx
   obtain⟨hX,_⟩:=hp x hxm
   obtain⟨r,σ',tr,U⟩:=rS (N:=N+mL x) hg (ho.upN (by omega)) (hgo.mono (by omega)) (hX.cQ N x.1 (by simp))
   rw[LT hx,U.eq] at h
   cases r with
   | true=>
    rw[aH rfl] at h
    simp only[Option.some.injEq] at h
    subst h
    obtain⟨rk,B,G⟩:=U.mA.gQ.rs
    refine⟨fun τ hS hP=>?_,fun c hcm=>?_⟩
    · have hS0:n7 τ σ:=n7.sub hS U.mA.a8 U.mA.new
      have he:=U.mA.eq rfl
      simp only[bA,aW,List.cons.injEq,eF] at he
      have he2:goal.aG τ=(cQ N x.1).aG τ:=by rw[←G.KK hS goal,←G.KK hS (cQ N x.1),he]
      have hsh:∀t,(cQ N t).aG τ=t.aG fun v=>τ (v+(N:Int)):=fun t=>by
       unfold cQ b7
       rw[pN]
       exact mN t fun v _=>qI _ _
      refine hC τ hS0 (.cls (μ:=fun v=>τ (v+(N:Int))) hxm (by rw[he2,hsh]) ?_)
      have e1:gls τ (x.2.map (fun t=>(⟨cQ N t,chs.length⟩:RG))++rest)=x.2.map (Tm.aG fun v=>τ (v+(N:Int)))++gls τ rest:=by
       unfold gls
       rw[tM,tN]
       congr 1
       exact qU fun t _=>hsh t
      rw[←e1]
      exact hP
    · simp only at hcm
      split at hcm
      · exact hcs c hcm
      · rcases fF.1 hcm with hcm | hcm
        · exact hcs c hcm
        · simp only[cX,dN,dV] at hcm
          subst hcm
          exact hC
   | false=>
    rw[aE (by simp)] at h
    exact rTry_sd hp hg ho hgo hC hcs l h
theorem rBack_sd(hp:∀c∈p,gE c∧c.2.length≤6){s':RS}:∀(n:Nat) (chs:List RC),(∀c∈chs,w6 p c)→(∀c∈chs,SdC p q c.goal c.rest c.σ)→fU p n chs=some s'→Sd p q s'
 | 0,chs,_,_,h=>by rw[fU] at h;cases h
 | n+1,chs,hok,hc,h=>by
  rcases List.eq_nil_or_concat chs with rfl | ⟨cs',c,rfl⟩
  · rw[fU] at h;cases h
  · rw[List.concat_eq_append] at hc h hok
    unfold fU at h
    simp only[NI,I2,Option.some_or,IY] at h
    have hc':∀d∈cs',SdC p q d.goal d.rest d.σ:=fun d hd=>hc d (by simp [hd])
    have hk:=hok c (by simp)
    cases ht:gJ p cs' c.goal c.rest c.σ c.N c.left with
    | some s2=>
     rw[ht] at h
     cases h
     exact rTry_sd hp hk.gQ hk.ok hk.goal (hc c (by simp)) hc' _ ht
    | none=>rw[ht] at h;exact rBack_sd hp n _ (fun d hd=>hok d (by simp [hd])) hc' h
theorem step_sd(hp:∀c∈p,gE c∧c.2.length≤6){B:Nat}{s s':RS}{g:RG}{rest:List RG}(hA:mG p B s)(hPu:PuS s)(hgs:s.goals=g::rest)(hC:Sd p q s)(h:iJ p (fun _ l=>l) s g rest=.go s'):Sd p q s':=by
 have hgm:g∈s.goals:=by rw[hgs];simp
 have hgp:=hPu.g g hgm
 obtain⟨rk,B',G⟩:=hA.a.gQ.rs
 unfold iJ at h
 by_cases h1:eL (g.t.aG (rs s.σ))=false
 · rw[aH h1] at h;cases h
 rw[aE h1,aE (by rw[(hgp.1.aG _).cut];decide)] at h
 have hok:=KN hA.a.gQ hA.a.ok (hA.a.goals g hgm).1 (by simpa using h1)
 have hfac:∀τ,n7 τ s.σ→(g.t.aG (rs s.σ)).aG τ=g.t.aG τ:=fun τ h=>G.KK h g.t
 have hpu:=hgp.aG (rs s.σ)
 have hk3:(g.t.aG (rs s.σ)).k=3:=(hpu.1).1
 generalize hy:g.t.aG (rs s.σ)=y at *
 have hy1:y.k≠1:=by rw[hk3];decide
 have hyf:∀τ,n7 τ s.σ→(g.t.aG τ).s=y.s∧(g.t.aG τ).ts=y.ts.map (Tm.aG τ):=fun τ h=>by
  rw[←hfac τ h]
  exact(mapv_fun hy1 τ).2
 have hyk:∀τ,n7 τ s.σ→(g.t.aG τ).k=3:=fun τ h=>by
  rw[←hfac τ h,(mapv_fun hy1 τ).1]
  exact hk3
 have hG:∀τ,n7 τ s.σ→y6 p (g.t.aG τ::gls τ rest)→y6 p (q.map (Tm.aG τ)):=fun τ hS hP=>hC.g τ hS (by rw[hgs];exact hP)
 by_cases hb:isBuiltin y.s (y.ts.length:Int)=true
 · rw[aH hb] at h
   rcases hpu.2 hb with hs | hs | hs
   · rw[hs] at hb h
     have hl:=bl_eq hb
     obtain⟨u,v,huv⟩:∃u v,y.ts= [u,v]:=by
      match hts:y.ts with
      | []=>rw[hts] at hl;simp at hl
      | [_]=>rw[hts] at hl;simp at hl
      | [u,v]=>exact⟨u,v,rfl⟩
      | _::_::_::_=>rw[hts] at hl;simp at hl;omega
     rw[huv,solveG_eqn] at h
     obtain⟨r,σ',tr,U⟩:=rS hA.a.gQ hA.a.ok (qJ _ y hy1 hok u (by rw[huv];simp)) (qJ _ y hy1 hok v (by rw[huv];simp))
     rw[U.eq] at h
     cases r with
     | true=>
      simp only[iM,gA,RO.go.injEq] at h
      subst h
      obtain⟨rk2,B2,G2⟩:=U.mA.gQ.rs
      refine⟨fun τ hS hP=>?_,hC.c⟩
      have hS0:n7 τ s.σ:=n7.sub hS U.mA.a8 U.mA.new
      have he:=U.mA.eq rfl
      simp only[bA,aW,List.cons.injEq,eF] at he
      have he2:u.aG τ=v.aG τ:=by rw[←G2.KK hS u,←G2.KK hS v,he]
      obtain⟨e1,e2⟩:=hyf τ hS0
      refine hG τ hS0 (.eqn (x:=u.aG τ) (hyk τ hS0) (by rw[e1,hs]) ?_ hP)
      rw[e2,huv,bA,bA,aW,he2]
     | false=>
      simp only[iM,iL,dY] at h
      rw[aE (by decide),aH trivial] at h
      cases h
   · rw[hs] at hb h
     have hl:=bl_true hb
     have hts:y.ts= []:=pT (by omega)
     rw[hts,solveG_true] at h
     simp only[gA,RO.go.injEq] at h
     subst h
     refine⟨fun τ hS hP=>?_,hC.c⟩
     obtain⟨e1,e2⟩:=hyf τ hS
     exact hG τ hS (.tru (hyk τ hS) (by rw[e1,hs]) (by rw[e2,hts];try rfl) hP)
   · rw[hs] at hb h
     have hl:=bl_fail hb
     have hts:y.ts= []:=pT (by omega)
     rw[hts,solveG_fail] at h
     simp only at h
     rw[aE (by decide),aH trivial] at h
     cases h
 rw[aE hb] at h
 by_cases hf:d8 p y= []
 · rw[aH hf] at h;cases h
 rw[aE hf] at h
 split at h
 · rename_i s2 ht
   simp only[RO.go.injEq] at h
   subst h
   exact rTry_sd hp hA.a.gQ hA.a.ok hok (fun τ hS hP=>hG τ hS (by rw[←hfac τ hS];exact hP)) hC.c _ ht
 · cases h
theorem run_sd(hp:∀c∈p,gE c∧c.2.length≤6)(hpl20:p.length≤20)(hpu:PuP p)(vars:List Int):∀(n most fuel:Nat) (s:RS) (B:Nat),most+fuel≤n→mG p B s→B+26*fuel≤8000→PuS s→Sd p q s →
 ∀a∈(jL p (fun _ l=>l) vars most fuel s).1,∃σ,iA σ vars=some a∧SubOk σ∧∀τ,n7 τ σ→y6 p (q.map (Tm.aG τ)):=by
 have hd:∀(t:Tm) (l:List Nat),(∀i∈(fun _ l=>l:Tm→List Nat→List Nat) t l,i∈l)∧((fun _ l=>l:Tm→List Nat→List Nat) t l).length≤l.length:=fun _ l=>⟨fun _ h=>h,c7 _⟩
 intro n
 induction n with
 | zero=>
  intro most fuel s B hn hs hB _ _ a h
  obtain rfl:most=0:=by omega
  obtain rfl:fuel=0:=by omega
  cases hg:s.goals with
  | nil=>rw[A2 hg,aH rfl] at h;cases h
  | cons g rest=>rw[wH hg,aH rfl] at h;cases h
 | succ n ih=>
  intro most fuel s B hn hs hB hPu hC a h
  have GR:∀s',fU p s.chs.length s.chs=some s'→Sd p q s':=fun s' h=>rBack_sd hp _ _ (fun c hc=>(hs.a.chs c hc).1) hC.c h
  cases hg:s.goals with
  | nil=>
   rw[A2 hg] at h
   by_cases hm:most=0
   · rw[aH hm] at h;cases h
   rw[aE hm] at h
   cases ha:iA s.σ vars with
   | none=>rw[ha] at h;cases h
   | some b=>
    rw[ha] at h
    simp only at h
    have hthis:∃σ,iA σ vars=some b∧SubOk σ∧∀τ,n7 τ σ→y6 p (q.map (Tm.aG τ)):=⟨s.σ,ha,⟨hs.a.gQ,s.N,hs.l.1,hs.a.ok⟩,fun τ hS=>hC.g τ hS (by rw[hg];exact .nil)⟩
    cases hbk:fU p s.chs.length s.chs with
    | none=>
     rw[hbk] at h
     simp only[cX,dN,dV] at h
     subst h
     exact hthis
    | some s'=>
     rw[hbk] at h
     simp only[cX] at h
     rcases h with rfl | h
     · exact hthis
     · exact ih (most - 1) fuel s' B (by omega) (hs.back hp (by omega) hbk) hB (rBack_pu hpu _ _ hPu.c hbk) (GR s' hbk) a h
  | cons g rest=>
   rw[wH hg] at h
   by_cases hf:fuel=0
   · rw[aH hf] at h;cases h
   rw[aE hf] at h
   cases hst:iJ p (fun _ l=>l) s g rest with
   | stop e=>rw[hst] at h;cases h
   | go s'=>
    rw[hst] at h
    exact ih most (fuel - 1) s' (B+26) (by omega) (hs.step hp (by omega) (by omega) hd hg hst) (by omega) (step_pu hpu hPu hg hst) (step_sd hp hs hPu hg hC hst) a h
   | fail=>
    rw[hst] at h
    simp only at h
    cases hbk:fU p s.chs.length s.chs with
    | none=>rw[hbk] at h;cases h
    | some s'=>
     rw[hbk] at h
     exact ih most (fuel - 1) s' B (by omega) (hs.back hp (by omega) hbk) (by omega) (rBack_pu hpu _ _ hPu.c hbk) (GR s' hbk) a h
end
theorem pure_sound{p:List Cl}{q:List Tm}{most fuel:Int}(hok:jM p q most fuel=true)(hpu:PuP p)(hqu:∀t∈q,I6 t):∀a∈(iK p (fun _ l=>l) q most fuel).1,∃σ,iA σ (bL q [])=some a∧SubOk σ∧∀τ,n7 τ σ→y6 p (q.map (Tm.aG τ)):=by
 obtain⟨kp,kq,_,_,_,hf⟩:=aMP.1 hok
 obtain⟨p1,p2⟩:=HH kp
 obtain⟨q1,q2⟩:=HJ kq
 intro a ha
 unfold iK at ha
 rw[aH hok] at ha
 refine run_sd p2 p1 hpu _ _ most.toNat fuel.toNat (k6 q) 26 (c7 _) (mG.start q2 q1) (by omega) ⟨fun g hg=>?_,fun c hc=>by cases hc⟩ ⟨fun τ _ hP=>?_,fun c hc=>by cases hc⟩ a ha
 · simp only[k6,cS] at hg
   obtain⟨t,ht,rfl⟩:=hg
   exact hqu t ht
 · simpa only[gls,k6,tN,Function.comp_def] using hP
theorem pure_complete{p:List Cl}{q:List Tm}{most fuel:Int}(hok:jM p q most fuel=true)(hpu:PuP p)(hqu:∀t∈q,I6 t){τ0:Int→Tm}(hP:y6 p (q.map (Tm.aG τ0)))(h0:(iK p (fun _ l=>l) q most fuel).2=0) :
 ∃σ a,iA σ (bL q [])=some a∧a∈(iK p (fun _ l=>l) q most fuel).1∧SubOk σ∧∃τ,n7 τ σ∧∀v,0≤v→v<26→τ v=τ0 v:=by
 obtain⟨kp,kq,_,_,_,hf⟩:=aMP.1 hok
 obtain⟨p1,p2⟩:=HH kp
 obtain⟨q1,q2⟩:=HJ kq
 have hpl:∀x∈p,HF x.1=true:=fun x hx=>by
  simp only[l7,cA,dW] at kp
  have:=kp.2 x hx
  simp only[j9,cA] at this
  exact this.1.2
 unfold iK at h0 ⊢
 rw[aH hok] at h0 ⊢
 refine run_cv p2 p1 hpl hpu _ _ most.toNat fuel.toNat (k6 q) 26 (c7 _) (mG.start q2 q1) (by omega) ⟨fun g hg=>?_,fun c hc=>by cases hc⟩ (.inl ⟨τ0,n7.none τ0,fun _ _ _=>rfl,?_⟩) h0
 · simp only[k6,cS] at hg
   obtain⟨t,ht,rfl⟩:=hg
   exact hqu t ht
 · simpa only[gls,k6,tN,Function.comp_def] using hP
theorem variantL{l:List Tm}{f g:Int→Tm}(hc:∀t∈l,t.cv=true)(hf:∀t∈l,∀v∈t.vl,(f v).cv=true)(h:∀t∈l,(t.aG f).aG g=t):nW (l.map (Tm.aG f))=nW l:=by
 have hk:(0:Int)≠1:=by decide
 have hW:∀l:List Tm,rJ (.mk 0 0 ⟨#[]⟩ l)=.mk 0 0 ⟨#[]⟩ (nW l):=fun l=>by
  have e:(Tm.mk 0 0 ⟨#[]⟩ l).vars []=bL l []:=by simp [Tm.vars]
  unfold rJ nW
  rw[Tm.j4 _ hk,e]
 have:=variant (x:=.mk 0 0 ⟨#[]⟩ l) (y:=.mk 0 0 ⟨#[]⟩ (l.map (Tm.aG f))) (f:=f) (g:=g) (Tm.lR.2 ⟨fun h=>absurd h hk,hc⟩) (fun v hv=>by
  obtain⟨t,ht,hvt⟩:=(Tm.k8 hk).1 hv
  exact hf t ht v hvt) (by rw[Tm.j4 f hk]) (by
  rw[Tm.j4 g hk,tN]
  congr 1
  conv=>lhs;rw[←List.map_id l]
  exact qU fun t ht=>(h t ht).symm)
 rw[hW,hW] at this
 injection this with _ _ _ e
 exact e.symm
theorem ans_back{σ:Sub}{vars:List Int}{a:List Tm}(hσ:SubOk σ)(ha:iA σ vars=some a)(hv26:∀v∈vars,0≤v∧v<26){τ:Int→Tm}(hS:n7 τ σ)(hag:∀v,0≤v→v<26→τ v=vr v) :
 ∃g:Int→Tm,∀t:Tm,bB 26 t→(∀v∈t.vl,v∈vars)→(t.aG (valOf vars a)).aG g=t:=by
 obtain⟨hg,M,hM,hoM⟩:=hσ
 obtain⟨rk,B,G⟩:=hg.rs
 generalize hvs:bL (vars.map (rs σ)) []=vs
 refine⟨fun i=>τ ((vs[i.toNat]?).getD 0),fun t ht hvt=>?_⟩
 rw[aP8 ha hvt,hvs,pN]
 have hyv:∀v∈(t.aG (rs σ)).vl,v∈vs:=fun v hv=>by
  obtain⟨w,hw,hvw⟩:=(wR t).1 hv
  rw[←hvs]
  refine(tC _ [] fun u hu=>?_).2 (.inr ⟨rs σ w,cS.2 ⟨w,hvt w hw,rfl⟩,hvw⟩)
  obtain⟨z,hz,rfl⟩:=cS.1 hu
  have hz26:=hv26 z hz
  exact(G.k0 (N:=(M:Int)) hoM.k0 z hz26.1 (by omega)).2.1
 have e1:(t.aG (rs σ)).aG (fun v=>(vr (d5 v vs 0)).aG fun i=>τ ((vs[i.toNat]?).getD 0))=(t.aG (rs σ)).aG τ:=by
  refine mN _ fun v hv=>?_
  rw[qI]
  obtain⟨j,h1,h2,h3,_⟩:=G5 v vs 0 (hyv v hv)
  rw[h1,show((0:Int)+(j:Nat)).toNat=j by omega,h3]
  try rfl
 rw[e1,G.KK hS t]
 conv=>rhs;rw[←AM t ht.1.2.1]
 exact mN t fun v hv=>hag v (ht.1.2.2 v hv).1 (ht.1.2.2 v hv).2
theorem valOf_valid{vars:List Int}{a:List Tm}(hl:a.length=vars.length)(ha:a.all Tm.valid=true){v:Int}(hv:v∈vars):(valOf vars a v).valid=true:=by
 obtain⟨j,h1,h2,h3,_⟩:=G5 v _ 0 hv
 unfold valOf
 rw[h1,show((0:Int)+(j:Nat)).toNat=j by omega]
 obtain⟨y,hy⟩:∃y,a[j]?=some y:=⟨_,eE (by rw[hl];exact h2)⟩
 rw[hy]
 exact dW.1 ha y (cP hy)
theorem found_again{p:List Cl}{G:List Tm}{most fuel:Int}(hok:jM p G most fuel=true)(hpu:PuP p)(hqu:∀t∈G,I6 t)(hP:y6 p G)(h0:(iK p (fun _ l=>l) G most fuel).2=0) :
 ∃a∈(iK p (fun _ l=>l) G most fuel).1,∃G',nM G a=some G'∧G'.all Tm.valid=true∧nW G'=nW G:=by
 have hSo:=aMQ p (cnd:=fun _ l=>l) (fun _ l=>⟨fun _ h=>h,c7 _⟩) G most fuel
 obtain⟨kp,kq,_⟩:=aMP.1 hok
 obtain⟨q1,q2⟩:=HJ kq
 obtain⟨v1,_⟩:=aLT kq
 have hcv:∀t∈G,t.cv=true:=fun t ht=>(q2 t ht).1.1.2.1
 have hid:G.map (Tm.aG vr)=G:=by
  conv=>rhs;rw[←List.map_id G]
  exact qU fun t ht=>AM t (hcv t ht)
 obtain⟨σ,a,ha,hal,hσ,τ,hS,hag⟩:=pure_complete hok hpu hqu (τ0:=vr) (by rw[hid];exact hP) h0
 have DK:∀t∈G,∀v∈t.vl,v∈bL G []:=fun t ht v hv=>(tC G [] hcv).2 (.inr ⟨t,ht,hv⟩)
 have hv26:∀v∈bL G [],0≤v∧v<26:=fun v hv=>by
  rcases (tC G [] hcv).1 hv with h | ⟨t,ht,h⟩
  · cases h
  · exact(q2 t ht).1.1.2.2 v h
 obtain⟨g,GR⟩:=ans_back hσ ha hv26 hS hag
 have hlen:=aP6 ha
 obtain⟨_,hav⟩:=hSo.2 a hal
 have hvv:∀t∈G,∀v∈t.vl,(valOf (bL G []) a v).valid=true:=fun t ht v hv=>valOf_valid hlen hav (DK t ht v hv)
 have hb:∀t∈G,(t.aG (valOf (bL G []) a)).aG g=t:=fun t ht=>GR t (q2 t ht).1 (DK t ht)
 have rF:(G.map (Tm.aG (valOf (bL G []) a))).all Tm.valid=true:=by
  rw[dW]
  intro u hu
  obtain⟨t,ht,rfl⟩:=cS.1 hu
  exact a41 (f:=g) (aK2 t (Tm.EQ (v1 t ht)) fun v hv=>Tm.EQ (hvv t ht v hv)) (by rw[hb t ht];exact v1 t ht)
 refine⟨a,hal,_,?_,rF,variantL hcv (fun t ht v hv=>Tm.LJ _ (Tm.EQ (hvv t ht v hv))) hb⟩
 have hq1:xU G a=true:=by
  simp only[xU,cA,bJ]
  exact⟨⟨kq,hlen⟩,hav⟩
 unfold nM
 rw[aH ⟨hq1,rF⟩]
theorem hold_law{p:List Cl}{q G:List Tm}{most fuel RA fuel':Int}(hpu:PuP p)(hqu:∀t∈q,I6 t){a:List Tm}(ha:a∈(iK p (fun _ l=>l) q most fuel).1)(hG:nM q a=some G)(h0:(iK p (fun _ l=>l) G RA fuel').2=0) :
 ∃b∈(iK p (fun _ l=>l) G RA fuel').1,∃G',nM G b=some G'∧G'.all Tm.valid=true∧nW G'=nW G:=by
 have hok:jM p q most fuel=true:=by
  cases h:jM p q most fuel with
  | true=>rfl
  | false=>unfold iK at ha;rw[h,aE (by decide)] at ha;cases ha
 have hok2:jM p G RA fuel'=true:=by
  cases h:jM p G RA fuel' with
  | true=>rfl
  | false=>unfold iK at h0;rw[h,aE (by decide)] at h0;cases h0
 obtain⟨kp,kq,_⟩:=aMP.1 hok
 obtain⟨q1,q2⟩:=HJ kq
 have hcv:∀t∈q,t.cv=true:=fun t ht=>(q2 t ht).1.1.2.1
 obtain⟨σ,hσa,hσ,hsd⟩:=pure_sound hok hpu hqu a ha
 obtain⟨rk,B,Gd⟩:=hσ.1.rs
 unfold nM at hG
 split at hG
 · simp only[Option.some.injEq] at hG
   have hGq:G=q.map (Tm.aG fun v=>(rs σ v).aG fun v=>vr (d5 v (bL ((bL q []).map (rs σ)) []) 0)):=by
    rw[←hG]
    refine qU fun t ht=>?_
    rw[aP8 hσa fun v hv=>(tC q [] hcv).2 (.inr ⟨t,ht,hv⟩),pN]
   refine found_again hok2 hpu (fun u hu=>?_) ?_ h0
   · rw[←hG] at hu
     obtain⟨t,ht,rfl⟩:=cS.1 hu
     exact(hqu t ht).aG _
   · rw[hGq]
     refine hsd _ fun n u h=>?_
     show(rs σ n).aG _=_
     rw[Gd.bound h,pN]
 · cases hG
end Go.AW
namespace Go.AW
open Go.Proofs.Tryz
instance tmDec:DecidableEq Tm:=fun a b=>decidable_of_iff (a.same b=true) (Tm.HQ a b)
theorem take_step{α:Type}{l l':List α}{i:Nat}{x y:α}(h:l.take i=l'.take i)(hx:l[i]?=some x)(hy:l'[i]?=some y)(e:x=y):l.take (i+1)=l'.take (i+1):=by
 rw[fG,fG,h,hx,hy,e]
abbrev tf_Pv_54:=zi tI_3 (zi zI_3 (zi aX (zi tI_4 (zi zI_4 (zi cE (zi tI_31 (zi zI_31 (zi aN (zi bG (zi bH (zi b9 (zi tI_66 (zi zI_66 (zi bQ (zi bR (zi bS (zi bT bP)))))))))))))))))
theorem c_pgTerms(l l':List Tm)(st:aB):aD prog 54 [.slice (l.map Tm.av),.slice (l'.map Tm.av)] st (fun r st'=>r=.bool (decide (l=l'))∧st'=st):=by
 refine wF [1000000] 2 func54 ntmps54 rfl rfl ?_
 simp only[eC,AV.fits,eF,aF]
 intro ⟨⟨hl,_⟩,⟨hl',_⟩⟩
 simp -implicitDefEqProofs only[aF,aA,seval,tf_Pv_54]
 refine aQ (fun h=>?_) (fun h=>?_)
 · simp only[kQ,dJ] at h
   rw[fS (show l≠l' from fun e=>h (by rw[e]))]
   simp -implicitDefEqProofs only[aA,seval]
 simp only[qR,bJ] at h
 have hle:l.length=l'.length:=by omega
 simp -implicitDefEqProofs only[aA,seval]
 refine eP (σ:=Unit) [1000000] [0,1] l (fun i _=>l.take i=l'.take i) (fun i _=>[(4,.bool false),(5,.int .i64 i)]) (fun _ _=>st) (by decide +kernel) ⟨(),by simp,aO.mk (by simp -implicitDefEqProofs only[aA,↓aU,seval])⟩ (fun i x _ hx hlt bV hdr hin=>?_) (fun _ hge hin=>?_)
 case refine_2=>
  rw[eS,hle,eS] at hin
  simp -implicitDefEqProofs only[hge,aF,aA,seval,tf_Pv_54]
  rw[gM hin]
 have hw:=bO (n:=(i:Int)+1)
 obtain⟨y,hy⟩:∃y,l'[i]?=some y:=⟨_,eE (hle▸hlt)⟩
 have hat:dF prog 31 (.slice (l.map Tm.av)) (.int .i64 (i:Int))=some (.pptr x.av):=bM (av:=Tm.av) aN hx (aJ x)
 have hat':dF prog 31 (.slice (l'.map Tm.av)) (.int .i64 (i:Int))=some (.pptr y.av):=bM (av:=Tm.av) aN hy (aJ y)
 simp -implicitDefEqProofs only[bV,aF,aA,seval,tf_Pv_54]
 refine wX [(0,1),(1,1),(2,1),(3,1),(4,1),(5,1),(6,1),(7,1),(8,0),(9,1)] [0,1,2,3,4,5,6,7,9] eH mixed rfl eT ?_
 simp -implicitDefEqProofs only[hat,hat',aT,aJ,aA,seval,tf_Pv_54]
 refine(JU x y _).to ?_
 cases hs:x.same y with
 | true=>
  simp -implicitDefEqProofs only[kI,hw,aA,seval]
  refine⟨eT,?_⟩
  exact⟨(),take_step hin hx hy ((Tm.HQ x y).1 hs),aO.mk (by simp -implicitDefEqProofs only[aA,seval])⟩
 | false=>
  simp -implicitDefEqProofs only[lN,aA,seval]
  refine⟨eT,?_⟩
  rw[fS (show l≠l' from fun e=>by rw[←e,hx] at hy;cases hy;rw[a4C] at hs;cases hs)]
theorem c_impl_RenumberTerms(l:List Tm)(hln:l.length≤1048576)(hsz:bF Tm.nodes l≤1099511627776)(hv:∀t∈l,t.valid=true)(st:aB):aD prog 66 [.slice (l.map Tm.av)] st (fun r st'=>r=.tup [.slice ((nW l).map Tm.av),.bool true]∧st'=st):=by
 have ha:=V9 l
 rw[show l.all Tm.valid=true from dW.2 hv] at ha
 refine wF [1000000] 1 func66 ntmps66 rfl rfl ?_
 intro _
 simp -implicitDefEqProofs only[aA,seval]
 refine(ha _).to ?_
 simp -implicitDefEqProofs only[kI,aA,seval]
 refine(W9 l hln hsz (fun t ht=>Tm.IP (hv t ht)) _).to ?_
 simp -implicitDefEqProofs only[aA,seval]
theorem c_pgVariants(a b:List Tm)(ha:a.length≤1048576∧bF Tm.nodes a≤1099511627776∧∀t∈a,t.valid=true)(hb:b.length≤1048576∧bF Tm.nodes b≤1099511627776∧∀t∈b,t.valid=true)(st:aB):aD prog 64 [.slice (a.map Tm.av),.slice (b.map Tm.av)] st (fun r st'=>r=.bool (decide (nW a=nW b))∧st'=st):=by
 have hA:=c_impl_RenumberTerms a ha.1 ha.2.1 ha.2.2
 have hB:=c_impl_RenumberTerms b hb.1 hb.2.1 hb.2.2
 generalize nW b=c at *
 generalize nW a=d at *
 refine wF [1000000] 2 func64 ntmps64 rfl rfl ?_
 intro _
 simp -implicitDefEqProofs only[aA,seval]
 refine(hA _).to ?_
 simp -implicitDefEqProofs only[aA,seval]
 refine(hB _).to ?_
 simp -implicitDefEqProofs only[fR,aA,seval]
 refine(c_pgTerms d c _).to ?_
 simp -implicitDefEqProofs only[aA,seval]
def plainQ(t:Tm):Bool:= !(decide (t.s=⟨#[33]⟩))&&(decide (t.s=⟨#[61]⟩)||(decide (t.s=⟨#[116,114,117,101]⟩)|| !isBuiltin t.s (t.ts.length:Int)))
abbrev tf_Ph_63:=zi tI_3 (zi zI_3 (zi aX (zi tI_4 (zi zI_4 (zi cE (zi tI_9 (zi zI_9 (zi cI (zi tI_31 (zi zI_31 (zi aN (zi bG (zi bH (zi b9 (zi tI_66 (zi zI_66 (zi bQ (zi bR (zi bS (zi bT bP))))))))))))))))))))
set_option maxHeartbeats 2000000 in
theorem c_pgPlain(q:List Tm)(st:aB):aD prog 63 [.slice (q.map Tm.av)] st (fun r st'=>r=.bool (q.all plainQ)∧st'=st):=by
 refine wF [1000000] 1 func63 ntmps63 rfl rfl ?_
 simp only[eC,AV.fits,eF,aF]
 intro ⟨hl,_⟩
 simp -implicitDefEqProofs only[aA,seval]
 refine eP (σ:=Unit) [1000000] [0] q (fun i _=>(q.take i).all plainQ=true) (fun i _=>[(2,.bool false),(3,.int .i64 i)]) (fun _ _=>st) (by decide +kernel) ⟨(),by simp,aO.mk (by simp -implicitDefEqProofs only[aA,↓aU,seval])⟩ (fun i x _ hx hlt bV hdr hin=>?_) (fun _ hge hin=>?_)
 case refine_2=>
  rw[eS] at hin
  simp -implicitDefEqProofs only[hge,aF,aA,seval,tf_Ph_63]
  rw[hin]
 have hw:=bO (n:=(i:Int)+1)
 have pF:plainQ x=false→q.all plainQ=false:=fun h=>List.all_eq_false.2 ⟨x,cP hx,by rw[h];decide⟩
 have aJ1:plainQ x=true→(q.take (i+1)).all plainQ=true:=fun h=>by
  rw[fG,hx,BP,hin]
  simp [h]
 have hat:dF prog 31 (.slice (q.map Tm.av)) (.int .i64 (i:Int))=some (.pptr x.av):=bM (av:=Tm.av) aN hx (aJ x)
 obtain⟨k,n,s,ts⟩:=x
 simp only[aV] at hat
 simp only[plainQ,Tm.s,Tm.ts] at pF aJ1
 have hB:=fun st=>aR5 s (ts.length:Int) st
 generalize isBuiltin s (ts.length:Int)=bi at *
 simp -implicitDefEqProofs only[bV,aF,aA,seval,tf_Ph_63]
 refine wX [(0,1),(1,1),(2,1),(3,1),(4,1),(5,1),(6,1),(7,1),(8,1),(9,1),(10,1),(11,1),(12,1),(13,1),(14,1),(15,1),(16,1),(17,1),(18,1),(19,1),(20,1),(21,1),(22,1),(23,1),(24,1),(25,1),(26,1),(27,1),(28,1),(29,1),(30,1),(31,1),(32,1),(33,0),(34,1),(35,1)] [0,1,2,3,4,5,6,7,8,9,10,11,12,13,14,15,16,17,18,19,20,21,22,23,24,25,26,27,28,29,30,31,32,34,35] eH mixed rfl eT ?_
 by_cases h1:s=⟨#[33]⟩
 · have h1':=dB h1
   rw[pF (by simp [h1])]
   simp -implicitDefEqProofs only[h1',bU,fR,hat,aA,seval,tf_Ph_63]
   exact eT
 have h1':=cH h1
 by_cases h2:s=⟨#[61]⟩
 · have h2':=dB h2
   have hg:=aJ1 (by simp [h2])
   simp -implicitDefEqProofs only[h1',h2',bU,bZ,kI,fR,hat,hw,aA,seval,tf_Ph_63]
   exact⟨eT,(),hg,aO.mk (by simp -implicitDefEqProofs only[aA,seval])⟩
 have h2':=cH h2
 by_cases h3:s=⟨#[116,114,117,101]⟩
 · have h3':=dB h3
   have hg:=aJ1 (by simp [h3])
   simp -implicitDefEqProofs only[h1',h2',h3',bU,bZ,kI,lN,fR,hat,hw,aA,seval,tf_Ph_63]
   exact⟨eT,(),hg,aO.mk (by simp -implicitDefEqProofs only[aA,seval])⟩
 have h3':=cH h3
 simp -implicitDefEqProofs only[h1',h2',h3',bZ,lN,fR,aF,hat,aA,seval,tf_Ph_63]
 refine(hB _).to ?_
 cases bi with
 | true=>
  rw[pF (by simp [h1,h2,h3])]
  simp -implicitDefEqProofs only[fR,aA,seval]
  exact eT
 | false=>
  have hg:=aJ1 (by simp [h1,h2,h3])
  simp -implicitDefEqProofs only[fR,hw,aA,seval]
  exact⟨eT,(),hg,aO.mk (by simp -implicitDefEqProofs only[aA,seval])⟩
theorem goal_putQ{t:Tm}(h:t.goal=true)(hp:plainQ t=true):I6 t:=by
 obtain⟨k,n,s,ts⟩:=t
 simp only[plainQ,Tm.s,Tm.ts,cA,kQ,pS] at hp
 simp only[Tm.goal,cA,vT,pS,bJ] at h
 have hk:k=3:=by
  rcases h.2 with (h | h) | h
  · exact h.1.1
  · simp only[lH,cA,bJ] at h;exact h.1.1.1
  · exact h.1
 refine⟨⟨hk,fun⟨e,_⟩=>of_decide_eq_false hp.1 e⟩,fun hb=>?_⟩
 rcases hp.2 with h | h | h
 · exact .inl (of_decide_eq_true h)
 · exact .inr (.inl (of_decide_eq_true h))
 · simp only[Tm.s,Tm.ts] at hb
   rw[h] at hb;cases hb
abbrev renOk (a:List Tm):Prop:=a.length≤1048576∧bF Tm.nodes a≤1099511627776∧∀t∈a,t.valid=true
theorem ansGoals_ok{q a G:List Tm}(h:nM q a=some G):renOk G:=by
 unfold nM at h
 split at h
 · rename_i hh
   simp only[Option.some.injEq] at h
   have hq:kF q=true:=by have:=hh.1;simp only[xU,cA] at this;exact this.1.1
   have h6:=(aLT hq).2
   have hv:=dW.1 hh.2
   rw[h] at hv
   have hl:G.length≤6:=by rw[←h,aF];exact h6
   have:=a28 hv
   exact⟨by omega,by omega,hv⟩
 · cases h
theorem ansGoals_q{q a G:List Tm}(h:nM q a=some G):kF q=true:=by
 unfold nM at h
 split at h
 · rename_i hh
   have:=hh.1;simp only[xU,cA] at this;exact this.1.1
 · cases h
theorem queryOk_goal{q:List Tm}(h:kF q=true):∀t∈q,t.goal=true:=by
 simp only[kF,cA,dW] at h
 exact h.2
def goodB(G b:List Tm):Bool:=match nM G b with
 | some G'=>decide (nW G'=nW G)
 | none=>false
abbrev tf_La_12:=zi tI_3 (zi zI_3 (zi aX (zi tI_4 (zi zI_4 (zi cE (zi tI_26 (zi zI_26 (zi rA (zi vL (zi vN (zi BH (zi tI_29 (zi zI_29 (zi gW (zi kA (zi kB (zi lL (zi tI_31 (zi zI_31 (zi aN (zi bG (zi bH (zi b9 (zi tI_40 (zi zI_40 (zi sH (zi zS (zi zW (zi yN (zi tI_59 (zi zI_59 (zi t8 (zi tW (zi tI_300 (zi zI_300 (zi aV4 (zi aV5 (zi aV6 (zi aV7 (zi aV8 aQS))))))))))))))))))))))))))))))))))))))))
set_option maxHeartbeats 4000000 in
theorem c_FnAnswersHold(code:List Bt)(st:aB):aD prog 12 [.slice (code.map iQ)] st (fun r _=>r=.bool true):=by
 refine wF [1000000] 1 func12 ntmps12 rfl rfl ?_
 intro _
 simp -implicitDefEqProofs only[aF,aA,seval,tf_La_12]
 refine aQ (fun h1=>?_) (fun h1=>?_)
 · simp -implicitDefEqProofs only[aA,seval]
 simp -implicitDefEqProofs only[aA,seval]
 refine(aRD code _).mono ?_
 rintro _ s1 ⟨⟨p,q,most,fuel,⟨_,hf1,hf2⟩,rfl⟩,rfl⟩
 have hS1:=fun st=>(aR8 p q most fuel st).aKZ
 have hS2:=aT7 p q most fuel
 have hP:=fun(hpu:PuP p) (hqu:∀t∈q,I6 t) a ha G hG h0=>hold_law (p:=p) (q:=q) (G:=G) (most:=most) (fuel:=fuel) (RA:=20) (fuel':=300) hpu hqu (a:=a) ha hG h0
 have hL:=fun h=>a21 (p:=p) (cnd:=fun _ l=>l) (q:=q) (most:=most) (fuel:=fuel) h
 have h9:=a23 (p:=p) (cnd:=fun _ l=>l) (q:=q) (most:=most) (fuel:=fuel)
 have pF:jM p q most fuel=false→(iK p (fun _ l=>l) q most fuel).1= []:=fun h=>by unfold iK;rw[h,aE (by decide)]
 generalize iK p (fun _ l=>l) q most fuel=T at *
 obtain⟨L,e⟩:=T
 simp only at hS1 hS2 hP hL h9 pF
 have hpp:=fun st=>aR7 p st
 have hpq:=fun st=>c_pgPlain q st
 simp -implicitDefEqProofs only[aA,seval]
 refine(hS1 _).to ?_
 simp -implicitDefEqProofs only[aA,seval]
 refine(hS2 _).to ?_
 simp -implicitDefEqProofs only[bU,fR,aA,seval]
 refine(JZ L _).to ?_
 simp -implicitDefEqProofs only[fR,aA,seval]
 refine(hpp _).to ?_
 cases hpu:HI p with
 | false=>
  simp -implicitDefEqProofs only[bU,lN,fR,aA,seval]
  refine(JZ L _).to ?_
  simp -implicitDefEqProofs only[aA,seval]
 | true=>
  simp -implicitDefEqProofs only[kI,fR,aA,seval]
  refine(hpq _).to ?_
  cases hqu:q.all plainQ with
  | false=>
   simp -implicitDefEqProofs only[bU,lN,fR,aA,seval]
   refine(JZ L _).to ?_
   simp -implicitDefEqProofs only[aA,seval]
  | true=>
   simp -implicitDefEqProofs only[kI,fR,aA,seval]
   have hlen:L.length≤20:=by
    cases hk:jM p q most fuel with
    | true=>have:=hL hk;obtain⟨_,_,hm0,hm1,_,_⟩:=aMP.1 hk;omega
    | false=>rw[pF hk];simp
   have hM:(L.take 3).length≤L.length∧(L.take 3).length≤3:=by rw[dS];omega
   have hM2:(L.take 3).length=L.length∨(L.take 3).length=3:=by rw[dS];omega
   refine eP (σ:=Unit) [1000000] [3,4,7] (L.take 3) (fun _ _=>True) (fun i _=>[(2,.bool false),(11,.int .i64 i)]) (fun _ _=>s1) (by decide +kernel) ⟨(),trivial,aO.mk (by simp -implicitDefEqProofs only[aA,↓aU,seval])⟩ (fun i a _ ha hlt bV a6Z _=>?_) (fun _ hge _=>?_)
   case refine_2=>
    generalize (L.take 3).length=m at *
    by_cases h3:(m:Int)<(L.length:Int)
    · have h3':=dB h3
      have h4':=cH (show ¬((m:Int)<3) by omega)
      simp -implicitDefEqProofs only[h3',h4',bU,bZ,fR,aF,aA,seval,tf_La_12]
    · have h3':=cH h3
      simp -implicitDefEqProofs only[h3',bZ,kI,fR,aF,aA,seval,tf_La_12]
   have haL:L[i]?=some a:=by rw[List.getElem?_take] at ha;split at ha;exact ha;cases ha
   have h3':=dB (show((i:Int)<(L.length:Int)) by omega)
   have h4':=dB (show((i:Int)<3) by omega)
   have aW5:dF prog 26 (.slice (L.map cU)) (.int .i64 (i:Int))=some (.pptr (cU a)):=bM (av:=cU) rA haL rfl
   have hwi:=bO (n:=(i:Int)+1)
   have hAG:=fun st=>(a29 q a st).aKZ
   have gX:=cP haL
   simp -implicitDefEqProofs only[h3',h4',bU,fR,aF,aW5,aA,seval,tf_La_12]
   refine(hAG _).to ?_
   cases hG:nM q a with
   | none=>
    simp only[Option.isSome_none,Option.getD_none,aW]
    have hA2:=fun st=>(aR8 p [] 20 300 st).aKZ
    generalize iK p (fun _ l=>l) [] 20 300=T2 at *
    obtain⟨L2,e2⟩:=T2
    simp only[aW] at hA2
    simp -implicitDefEqProofs only[aA,seval]
    refine(hA2 _).to ?_
    simp -implicitDefEqProofs only[aA,seval]
    refine iE (σ:=Unit) [1000000] [2,3,4,7,11,12,13,14,15,73,74,75,76,77,78,79,80,83,84,85,86,87,88,89,90,91,92,93,94,95,96,97] (fun _=>True) (fun _=>[(16,.bool false),(17,.int .i64 0)]) (fun _=>s1) (fun _=>0) (by decide +kernel) ⟨(),trivial,aO.mk (by simp -implicitDefEqProofs only[aA,seval])⟩ ?_
    intro _ _
    simp -implicitDefEqProofs only[aF,aA,seval,tf_La_12]
    refine cV (fun hc=>?_) (fun hc=>?_)
    · simp -implicitDefEqProofs only[hc,fR,hwi,aA,seval]
      exact⟨(),aO.mk (by simp -implicitDefEqProofs only[aA,seval])⟩
    · simp -implicitDefEqProofs only[hc,fR,hwi,aA,seval]
      exact⟨(),aO.mk (by simp -implicitDefEqProofs only[aA,seval])⟩
   | some G=>
    simp only[NN,BW]
    have hA2:=fun st=>(aR8 p G 20 300 st).aKZ
    have hLaw:=fun h0=>hP (a1H hpu).2 (fun t ht=>goal_putQ (queryOk_goal (ansGoals_q hG) t ht) (dW.1 hqu t ht)) a gX G hG h0
    have hl2:=a21 (p:=p) (cnd:=fun _ l=>l) (q:=G) (most:=20) (fuel:=300)
    have hb2:jM p G 20 300=false→(iK p (fun _ l=>l) G 20 300).1= []:=fun h=>by unfold iK;rw[h,aE (by decide)]
    generalize iK p (fun _ l=>l) G 20 300=T2 at *
    obtain⟨L2,e2⟩:=T2
    simp only at hA2 hLaw hl2 hb2
    have hlen2:L2.length≤20:=by
     cases hk:jM p G 20 300 with
     | true=>have:=hl2 hk;omega
     | false=>rw[hb2 hk];simp
    simp -implicitDefEqProofs only[aA,seval]
    refine(hA2 _).to ?_
    simp -implicitDefEqProofs only[aA,seval]
    refine eP (σ:=Unit) [1000000] [2,3,4,7,11,12,13,14,15,73,74,75,76,77,78,79,80,83,84,85,86,87,88,89,90,91,92,93,94,95,96,97] L2 (fun _ _=>True) (fun k _=>[(16,.bool ((L2.take k).any (goodB G))),(17,.int .i64 k)]) (fun _ _=>s1) (by decide +kernel) ⟨(),trivial,aO.mk (by simp -implicitDefEqProofs only[kS,List.any_nil,aA,↓aU,seval])⟩ (fun k b _ hb hkl hkl' hdrop2 _=>?_) (fun _ hge _=>?_)
    case refine_2=>
     simp -implicitDefEqProofs only[hge,eS,aF,aA,seval,tf_La_12]
     by_cases he2:e2=0
     · have he2':=dB he2
       obtain⟨b,hb,G',hG',_,aYQ⟩:=hLaw he2
       have aW2:L2.any (goodB G)=true:=List.any_eq_true.2 ⟨b,hb,by unfold goodB;rw[hG'];simp only[aYQ,bU]⟩
       simp -implicitDefEqProofs only[he2',aW2,bU,kI,fR,hwi,aA,seval]
       exact⟨(),aO.mk (by simp -implicitDefEqProofs only[aA,seval])⟩
     · have he2':=cH he2
       simp -implicitDefEqProofs only[he2',bZ,kI,fR,hwi,aA,seval]
       exact⟨(),aO.mk (by simp -implicitDefEqProofs only[aA,seval])⟩
    have hatb:dF prog 26 (.slice (L2.map cU)) (.int .i64 (k:Int))=some (.pptr (cU b)):=bM (av:=cU) rA hb rfl
    have hwk:=bO (n:=(k:Int)+1)
    have hAG2:=fun st=>(a29 G b st).aKZ
    have iS:(L2.take (k+1)).any (goodB G)=((L2.take k).any (goodB G)||goodB G b):=by rw[fG,hb,List.any_append];simp
    have hgB:goodB G b=match nM G b with | some G'=>decide (nW G'=nW G) | none=>false:=rfl
    generalize (L2.take k).any (goodB G)=fd at *
    generalize goodB G b=gb at *
    simp -implicitDefEqProofs only[hkl',bU,fR,aF,hatb,aA,seval,tf_La_12]
    refine(hAG2 _).to ?_
    cases hG2:nM G b with
    | none=>
     rw[hG2] at hgB
     simp only at hgB
     subst hgB
     simp only[Option.isSome_none,Option.getD_none,aW]
     cases fd with
     | true=>
      simp -implicitDefEqProofs only[iS,hwk,aA,seval]
      exact⟨(),aO.mk (by simp -implicitDefEqProofs only[aA,seval])⟩
     | false=>
      simp -implicitDefEqProofs only[iS,hwk,aA,seval]
      exact⟨(),aO.mk (by simp -implicitDefEqProofs only[aA,seval])⟩
    | some G'=>
     have hV:=c_pgVariants G' G (ansGoals_ok hG2) (ansGoals_ok hG)
     rw[hG2] at hgB
     simp only at hgB
     rw[←hgB] at hV
     simp only[NN,BW]
     cases fd with
     | true=>
      simp -implicitDefEqProofs only[iS,uR,hwk,aA,seval]
      exact⟨(),aO.mk (by simp -implicitDefEqProofs only[aA,seval])⟩
     | false=>
      simp -implicitDefEqProofs only[iS,oV,fR,aA,seval]
      refine(hV _).to ?_
      simp -implicitDefEqProofs only[fR,hwk,aA,seval]
      exact⟨(),aO.mk (by simp -implicitDefEqProofs only[aA,seval])⟩
end Go.AW

