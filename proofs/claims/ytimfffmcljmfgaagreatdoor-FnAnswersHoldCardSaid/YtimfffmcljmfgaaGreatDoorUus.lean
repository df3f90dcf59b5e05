/- Searches without cuts: a choice that is left is taken, if the search comes to its end. -/
import Derived.Test.YtimfffmcljmfgaaGreatDoorUup
import Derived.Test.YtimfffmcljmfgaaGreatDoorUul
import Derived.Test.YtimfffmcljmfgaaGreatDoorUum
import Derived.Test.YtimfffmcljmfgaaGreatDoorUuo
import Derived.Test.YtimfffmcljmfgaaGreatDoorUui
import Derived.Test.YtimfffmcljmfgaaGreatDoorUuq
import Derived.Test.YtimfffmcljmfgaaGreatDoorUun
import Derived.Test.YtimfffmcljmfgaaGreatDoorUur
import Derived.Test.YtimfffmcljmfgaaGreatDoorUuf
import Derived.ProofKit
set_option linter.unusedSimpArgs false
set_option linter.unusedVariables false
set_option maxRecDepth 100000
namespace Go.AW
def mD(t:Tm):Prop:=t.k=3∧¬(t.s=⟨#[33]⟩∧t.ts= [])
theorem mD.aG{t:Tm}(h:mD t)(f:Int→Tm):mD (t.aG f):=by
 have hk:t.k≠1:=by rw[h.1];decide
 rw[Tm.pM f hk]
 refine⟨h.1,fun⟨h1,h2⟩=>h.2 ⟨h1,?_⟩⟩
 simpa [Tm.ts] using h2
theorem mD.cQ{t:Tm}(h:mD t)(N:Nat):mD (cQ N t):=h.aG _
theorem mD.cut{t:Tm}(h:mD t):oB t=false:=by
 cases hc:oB t with
 | false=>rfl
 | true=>
  simp only[oB,cA,bJ] at hc
  exact absurd ⟨hc.1.2,pT (by have:=hc.2;omega)⟩ h.2
structure BV (s:RS):Prop where
 g:∀g∈s.goals,mD g.t
 c:∀c∈s.chs,∀g∈c.rest,mD g.t
abbrev E5 (p:List Cl):Prop:=∀x∈p,∀t∈x.2,mD t
theorem LT{p:List Cl}{chs:List RC}{goal:Tm}{rest:List RG}{σ:Sub}{N i:Nat}{l:List Nat}{x:Cl}(hx:p[i]?=some x):gJ p chs goal rest σ N (i::l)=if(gD σ goal (cQ N x.1)).1=true then
 some ⟨x.2.map (fun t=>⟨cQ N t,chs.length⟩)++rest,(gD σ goal (cQ N x.1)).2.1,N+mL x,if l= [] then chs else chs++ [⟨goal,rest,l,σ,N⟩]⟩
 else gJ p chs goal rest σ N l:=by rw[gJ];simp only[hx]
theorem LU{p:List Cl}{chs:List RC}{goal:Tm}{rest:List RG}{σ:Sub}{N:Nat}{s':RS}(hp:E5 p)(hr:∀g∈rest,mD g.t)(hc:∀c∈chs,∀g∈c.rest,mD g.t):∀l:List Nat,gJ p chs goal rest σ N l=some s'→BV s'∧∃e,s'.chs=chs++e
 | [],h=>by rw[gJ] at h;cases h
 | i::l,h=>by
  cases hx:p[i]? with
  | none=>rw[gJ] at h;simp only[hx] at h;cases h
  | some x=>
   rw[LT hx] at h
   by_cases hu:(gD σ goal (cQ N x.1)).1=true
   · rw[aH hu] at h
     simp only[Option.some.injEq] at h
     subst h
     refine⟨⟨fun g hg=>?_,fun c hcm g hg=>?_⟩,?_⟩
     · rcases fF.1 hg with hg | hg
       · obtain⟨t,ht,rfl⟩:=cS.1 hg
         exact(hp x (cP hx) t ht).cQ N
       · exact hr g hg
     · simp only at hcm
       split at hcm
       · exact hc c hcm g hg
       · rcases fF.1 hcm with hcm | hcm
         · exact hc c hcm g hg
         · simp only[cX,dN,dV] at hcm
           subst hcm
           exact hr g hg
     · simp only
       split
       · exact⟨[],by simp⟩
       · exact⟨_,rfl⟩
   · rw[aE hu] at h
     exact LU hp hr hc l h
section
variable {p:List Cl} {goal:Tm} {σ0:Sub} {N0 k:Nat}
def w5(goal:Tm)(σ0:Sub)(N0 k:Nat)(chs:List RC):Prop:=∃l cs,chs=⟨goal,[],l,σ0,N0⟩::cs∧k∈l∧(∀i∈l,i<p.length)
def I8(p:List Cl)(goal:Tm)(σ0:Sub)(N0 k:Nat)(s:RS):Prop:=∃x,p[k]?=some x∧s.goals=x.2.map (fun t=>⟨cQ N0 t,0⟩)∧s.σ=(gD σ0 goal (cQ N0 x.1)).2.1
theorem R8(hp:E5 p)(hu:∀x,p[k]?=some x→(gD σ0 goal (cQ N0 x.1)).1=true):∀l:List Nat,k∈l→(∀i∈l,i<p.length)→∃s',gJ p [] goal [] σ0 N0 l=some s'∧BV s'∧(w5 (p:=p) goal σ0 N0 k s'.chs∨I8 p goal σ0 N0 k s')
 | [],h,_=>by cases h
 | i::l,h,hl=>by
  obtain⟨x,hx⟩:∃x,p[i]?=some x:=⟨_,eE (hl i (by simp))⟩
  by_cases huu:(gD σ0 goal (cQ N0 x.1)).1=true
  · refine⟨_,by rw[LT hx,aH huu],(LU (l:=i::l) (rest:=[]) (chs:=[]) hp (fun g hg=>by cases hg) (fun c hc=>by cases hc) (by rw[LT hx,aH huu])).1,?_⟩
    by_cases hik:i=k
    · subst hik
      exact .inr ⟨x,hx,by simp,rfl⟩
    · have hkl:k∈l:=by
       rcases cX.1 h with e | e
       · exact absurd e.symm hik
       · exact e
      refine .inl ⟨l,[],?_,hkl,fun j hj=>hl j (by simp [hj])⟩
      simp only
      rw[aE (by rintro rfl;cases hkl)]
      try rfl
  · have hik:i≠k:=by rintro rfl;exact huu (hu x hx)
    rw[LT hx,aE huu]
    exact R8 hp hu l (by rcases cX.1 h with e | e;exact absurd e.symm hik;exact e) fun j hj=>hl j (by simp [hj])
theorem aLY(hp:E5 p)(hu:∀x,p[k]?=some x→(gD σ0 goal (cQ N0 x.1)).1=true):∀(n:Nat) (chs:List RC),chs.length≤n→(∀c∈chs,∀g∈c.rest,mD g.t)→w5 (p:=p) goal σ0 N0 k chs→∃s',fU p n chs=some s'∧BV s'∧(w5 (p:=p) goal σ0 N0 k s'.chs∨I8 p goal σ0 N0 k s')
 | 0,chs,hn,_,⟨l,cs,e,_⟩=>by rw[e] at hn;simp at hn
 | n+1,chs,hn,hc,⟨l,cs,e,hk,hl⟩=>by
  subst e
  rcases List.eq_nil_or_concat cs with rfl | ⟨cs',c,rfl⟩
  · obtain⟨s',h1,h2,h3⟩:=R8 hp hu l hk hl
    refine⟨s',?_,h2,h3⟩
    unfold fU
    simp only[I2,List.dropLast_singleton,h1]
  · rw[List.concat_eq_append] at hc hn ⊢
    have hdl:(⟨goal,[],l,σ0,N0⟩::(cs'++ [c]):List RC)=(⟨goal,[],l,σ0,N0⟩::cs')++ [c]:=rfl
    rw[hdl] at hc hn ⊢
    unfold fU
    simp only[NI,I2,Option.some_or,IY]
    cases ht:gJ p (⟨goal,[],l,σ0,N0⟩::cs') c.goal c.rest c.σ c.N c.left with
    | some s'=>
     obtain⟨h1,e,h2⟩:=LU hp (fun g hg=>hc c (by simp) g hg) (fun d hd=>hc d (by simp only[fF];exact .inl hd)) _ ht
     exact⟨s',rfl,h1,.inl ⟨l,cs'++e,by rw[h2];try rfl,hk,hl⟩⟩
    | none=>exact aLY hp hu n _ (by simp only[dM,aS,aZ] at hn ⊢;omega) (fun d hd=>hc d (by simp only[fF];exact .inl hd)) ⟨l,cs',rfl,hk,hl⟩
theorem aVE(c:Int):oC c≠0:=by
 unfold oC
 split
 · decide
 · split
   · decide
   · split<;>decide
theorem a1N{p:List Cl}{cnd:Tm→List Nat→List Nat}{s:RS}{g:RG}{rest:List RG}{e:Int}(h:iJ p cnd s g rest=.stop e):e≠0:=by
 unfold iJ at h
 split at h
 · cases h;decide
 · split at h
   · cases h
   · split at h
     · split at h
       · cases h
       · split at h
         · cases h
         · simp only[RO.stop.injEq] at h
           rw[←h]
           exact aVE _
     · split at h
       · cases h;decide
       · split at h<;>cases h
theorem a19(hp:E5 p)(hu:∀x,p[k]?=some x→(gD σ0 goal (cQ N0 x.1)).1=true){x:Cl}(hx:p[k]?=some x)(hb:x.2= [])(vars:List Int):∀(n most fuel:Nat) (s:RS),most+fuel≤n→BV s→(w5 (p:=p) goal σ0 N0 k s.chs∨I8 p goal σ0 N0 k s)→(jL p (fun _ l=>l) vars most fuel s).2=0→∃a,iA (gD σ0 goal (cQ N0 x.1)).2.1 vars=some a∧a∈(jL p (fun _ l=>l) vars most fuel s).1:=by
 intro n
 induction n with
 | zero=>
  intro most fuel s hn hN hP h
  obtain rfl:most=0:=by omega
  obtain rfl:fuel=0:=by omega
  cases hg:s.goals with
  | nil=>rw[A2 hg,aH rfl] at h;cases h
  | cons g rest=>rw[wH hg,aH rfl] at h;cases h
 | succ n ih=>
  intro most fuel s hn hN hP h
  have GR:w5 (p:=p) goal σ0 N0 k s.chs→∃s',fU p s.chs.length s.chs=some s'∧BV s'∧(w5 (p:=p) goal σ0 N0 k s'.chs∨I8 p goal σ0 N0 k s'):=fun h=>aLY hp hu _ _ (c7 _) hN.c h
  cases hg:s.goals with
  | nil=>
   rw[A2 hg] at h ⊢
   by_cases hm:most=0
   · rw[aH hm] at h;cases h
   rw[aE hm] at h ⊢
   cases ha:iA s.σ vars with
   | none=>rw[ha] at h;cases h
   | some a=>
    rw[ha] at h
    simp only at h ⊢
    rcases hP with hP | hT
    · obtain⟨s',h1,h2,h3⟩:=GR hP
      rw[h1] at h ⊢
      simp only at h ⊢
      obtain⟨a',e1,e2⟩:=ih (most - 1) fuel s' (by omega) h2 h3 h
      exact⟨a',e1,List.mem_cons_of_mem _ e2⟩
    · obtain⟨x',hx',_,hs⟩:=hT
      rw[hx] at hx'
      cases hx'
      rw[←hs]
      refine⟨a,ha,?_⟩
      split<;>exact List.mem_cons_self
  | cons g rest=>
   have hP:w5 (p:=p) goal σ0 N0 k s.chs:=by
    rcases hP with hP | ⟨x',hx',hgs,_⟩
    · exact hP
    · rw[hx] at hx'
      cases hx'
      rw[hb,hg] at hgs
      cases hgs
   rw[wH hg] at h ⊢
   by_cases hf:fuel=0
   · rw[aH hf] at h;cases h
   rw[aE hf] at h ⊢
   have hgt:mD g.t:=hN.g g (by rw[hg];simp)
   have vY:∀g'∈rest,mD g'.t:=fun g' hg'=>hN.g g' (by rw[hg];simp [hg'])
   cases hst:iJ p (fun _ l=>l) s g rest with
   | stop e=>
    rw[hst] at h
    exact absurd h (a1N hst)
   | go s'=>
    rw[hst] at h
    simp only at h ⊢
    have hs':BV s'∧w5 (p:=p) goal σ0 N0 k s'.chs:=by
     unfold iJ at hst
     split at hst
     · cases hst
     · rw[aE (by rw[(hgt.aG _).cut];decide)] at hst
       split at hst
       · split at hst
         · simp only[RO.go.injEq] at hst
           subst hst
           exact⟨⟨vY,hN.c⟩,hP⟩
         · split at hst<;>cases hst
       · split at hst
         · cases hst
         · split at hst
           · rename_i s2 ht
             simp only[RO.go.injEq] at hst
             subst hst
             obtain⟨h1,e,h2⟩:=LU hp vY hN.c _ ht
             obtain⟨l,cs,e1,e2,e3⟩:=hP
             exact⟨h1,l,cs++e,by rw[h2,e1];try rfl,e2,e3⟩
           · cases hst
    exact ih most (fuel - 1) s' (by omega) hs'.1 (.inl hs'.2) h
   | fail=>
    rw[hst] at h
    obtain⟨s',h1,h2,h3⟩:=GR hP
    simp only[h1] at h ⊢
    exact ih most (fuel - 1) s' (by omega) h2 h3 h
end
theorem aWL(p:List Cl)(t:Tm):∀x∈d8 p t,x<p.length:=fun x hx=>rX.1 (E2.1 hx).1
theorem aN2{h:Tm}(hc:h.cv=true){v:Int}:v∈bL [h] []↔v∈h.vl:=by
 rw[tC [h] [] (by intro t ht;simp only[cX,dN,dV] at ht;rw[ht];exact hc)]
 constructor
 · rintro(h' | ⟨t,ht,hv⟩)
   · cases h'
   · simp only[cX,dN,dV] at ht;rw[←ht];exact hv
 · exact fun h'=>.inr ⟨h,by simp,h'⟩
theorem a4Z{vars:List Int}{f:Int→Tm}{v:Int}(h:v∈vars):valOf vars (vars.map f) v=f v:=by
 obtain⟨j,h1,h2,h3,_⟩:=G5 v vars 0 h
 unfold valOf
 rw[h1,show((0:Int)+(j:Nat)).toNat=j by omega,mW,h3]
 try rfl
theorem aP8{σ:Sub}{vars:List Int}{a:List Tm}(ha:iA σ vars=some a){h:Tm}(hv:∀v∈h.vl,v∈vars):h.aG (valOf vars a)=(h.aG (rs σ)).aG (fun v=>vr (d5 v (bL (vars.map (rs σ)) []) 0)):=by
 unfold iA at ha
 split at ha
 · simp only[Option.some.injEq] at ha
   rw[pN]
   refine mN h fun v hv'=>?_
   rw[←ha]
   unfold nW
   rw[tN,a4Z (hv v hv')]
   try rfl
 · cases ha
theorem aP6{σ:Sub}{vars:List Int}{a:List Tm}(ha:iA σ vars=some a):a.length=vars.length:=by
 unfold iA at ha
 split at ha
 · simp only[Option.some.injEq] at ha
   rw[←ha]
   unfold nW
   simp
 · cases ha
theorem a16:rs Sub.none=vr:=Good.none.rs
theorem aLR{t:Tm}(h:HF t=true):t.k=3∧isBuiltin t.s (t.ts.length:Int)=false∧mD t:=by
 obtain⟨k,n,s,ts⟩:=t
 simp only[HF,lH,cA,bJ,kQ] at h
 obtain⟨⟨⟨h1,h2⟩,h3⟩,h4⟩:=h
 refine⟨h1,h3,h1,fun⟨e,_⟩=>?_⟩
 simp only[Tm.s] at e
 rw[e] at h2
 exact absurd h2 (by decide)
theorem aWD{p:List Cl}{k:Nat}{x:Cl}(hok:jM p [x.1] 20 300=true)(hx:p[k]?=some x)(hb:x.2= [])(hp:E5 p)(h0:(iK p (fun _ l=>l) [x.1] 20 300).2=0) :
 ∃a∈(iK p (fun _ l=>l) [x.1] 20 300).1,∃h',nM [x.1] a=some [h']∧h'.valid=true∧rJ h'=rJ x.1:=by
 have hSo:=aMQ p (cnd:=fun _ l=>l) (fun _ l=>⟨fun _ h=>h,c7 _⟩) [x.1] 20 300
 obtain⟨kp,kq,_⟩:=aMP.1 hok
 obtain⟨p1,p2⟩:=HH kp
 obtain⟨q1,q2⟩:=HJ kq
 have hxm:=cP hx
 have hcl:j9 x=true:=by
  simp only[l7,cA,dW] at kp
  exact kp.2 x hxm
 simp only[j9,cA] at hcl
 obtain⟨⟨rF,hpl⟩,_⟩:=hcl
 obtain⟨hk3,hnb,hnc⟩:=aLR hpl
 obtain⟨hX,_⟩:=q2 x.1 (by simp)
 have hcv:=hX.1.2.1
 have hCX:=(p2 x hxm).1
 have aYA:x.1.aG (rs Sub.none)=x.1:=by rw[a16];exact AM _ hcv
 -- the head and its copy
 obtain⟨r,σ',tr,U⟩:=rS (N:=26+mL x) cO.none (fun n u h=>by cases h) (hX.mono (by omega)) (hCX.cQ 26 x.1 (by simp))
 let θ:Int→Tm:=fun v=>if v<26 then vr v else vr (v - 26)
 have hθ1:x.1.aG θ=x.1:=by
  rw[←AM x.1 hcv]
  rw[pN]
  refine mN x.1 fun v hv=>?_
  rw[qI]
  exact aH (hX.1.2.2 v hv).2
 have hθ2:(cQ 26 x.1).aG θ=x.1:=by
  unfold cQ b7
  rw[pN]
  conv=>rhs;rw[←AM x.1 hcv]
  refine mN x.1 fun v hv=>?_
  have:=(hX.1.2.2 v hv).1
  rw[qI]
  show(if v+((26:Nat):Int)<26 then vr (v+((26:Nat):Int)) else vr (v+((26:Nat):Int) - 26))=vr v
  rw[aE (by omega),show v+((26:Nat):Int) - 26=v by omega]
 obtain⟨rfl,hS⟩:=U.mA.gen θ (n7.none θ) (by simp only[bA,aW,hθ1,hθ2])
 have hu:∀y,p[k]?=some y→(gD Sub.none x.1 (cQ 26 y.1)).1=true:=fun y hy=>by
  rw[hx] at hy
  cases hy
  rw[U.eq]
 have hkf:k∈d8 p x.1:=by
  unfold d8
  refine E2.2 ⟨rX.2 (gP.1 hx).1,?_⟩
  simp only[hx,DB,bU,Bool.and_self]
 obtain⟨s',t1,t2,t3⟩:=R8 (p:=p) (goal:=x.1) (σ0:=Sub.none) (N0:=26) (k:=k) hp hu (d8 p x.1) hkf (aWL p x.1)
 have kX:iK p (fun _ l=>l) [x.1] 20 300=jL p (fun _ l=>l) (bL [x.1] []) 20 299 s':=by
  unfold iK
  rw[aH hok]
  unfold uK
  rw[wH (g:=⟨x.1,0⟩) (rest:=[]) rfl,aE (by decide)]
  have hst:iJ p (fun _ l=>l) (k6 [x.1]) ⟨x.1,0⟩ []=.go s':=by
   have hm:(⟨x.1,0⟩:RG).t.aG (rs (k6 [x.1]).σ)=x.1:=aYA
   have f1:eL x.1=true:=by rw[show eL x.1=x.1.valid from (Tm.IM (Tm.EQ rF)).symm,rF]
   have f2:=hnc.cut
   have f3:(d8 p x.1= [])=False:=cH (by intro e;rw[e] at hkf;cases hkf)
   unfold iJ
   simp only[hm,f1,f2,hnb,f3,dY,Bool.true_eq_false,iL]
   simp only[k6,t1]
  rw[hst]
  try rfl
 rw[kX] at h0 hSo ⊢
 obtain⟨a,ha,hal⟩:=a19 hp hu hx hb (bL [x.1] []) _ 20 299 s' (c7 _) t2 t3 h0
 refine⟨a,hal,?_⟩
 obtain⟨_,hav⟩:=hSo.2 a hal
 rw[U.eq] at ha
 simp only at ha
 have DK:∀v∈x.1.vl,v∈bL [x.1] []:=fun v hv=>(aN2 hcv).2 hv
 have hgo:=aP8 ha DK
 have hlen:=aP6 ha
 obtain⟨rk,B,G⟩:=U.mA.gQ.rs
 have aKJ:∀v∈x.1.vl,(valOf (bL [x.1] []) a v).valid=true:=fun v hv=>by
  obtain⟨j,h1,h2,h3,_⟩:=G5 v _ 0 (DK v hv)
  unfold valOf
  rw[h1,show((0:Int)+(j:Nat)).toNat=j by omega]
  obtain⟨y,hy⟩:∃y,a[j]?=some y:=⟨_,eE (by rw[hlen];exact h2)⟩
  rw[hy]
  exact dW.1 hav y (cP hy)
 have hT:rs σ'=rs σ':=rfl
 generalize hvs:bL ((bL [x.1] []).map (rs σ')) []=vs at hgo
 have hyv:∀v∈(x.1.aG (rs σ')).vl,v∈vs:=fun v hv=>by
  obtain⟨w,hw,hvw⟩:=(wR x.1).1 hv
  rw[←hvs]
  refine(tC _ [] fun t ht=>?_).2 (.inr ⟨rs σ' w,cS.2 ⟨w,DK w hw,rfl⟩,hvw⟩)
  obtain⟨u,hu',rfl⟩:=cS.1 ht
  have aYX:=hX.1.2.2 u ((aN2 hcv).1 hu')
  exact(G.k0 (N:=((26+mL x:Nat):Int)) U.ok.k0 u aYX.1 (by omega)).2.1
 let g:Int→Tm:=fun i=>θ ((vs[i.toNat]?).getD 0)
 have GR:(x.1.aG (valOf (bL [x.1] []) a)).aG g=x.1:=by
  rw[hgo,pN]
  have e1:(x.1.aG (rs σ')).aG (fun v=>(vr (d5 v vs 0)).aG g)=(x.1.aG (rs σ')).aG θ:=by
   refine mN _ fun v hv=>?_
   rw[qI]
   obtain⟨j,h1,h2,h3,_⟩:=G5 v vs 0 (hyv v hv)
   show θ ((vs[(d5 v vs 0).toNat]?).getD 0)=θ v
   rw[h1,show((0:Int)+(j:Nat)).toNat=j by omega,h3]
   try rfl
  rw[e1,G.KK hS x.1,hθ1]
 have DF:(x.1.aG (valOf (bL [x.1] []) a)).iZ=true:=aK2 _ (Tm.EQ rF) fun v hv=>Tm.EQ (aKJ v hv)
 have hv':(x.1.aG (valOf (bL [x.1] []) a)).valid=true:=a41 (f:=g) DF (by rw[GR];exact rF)
 refine⟨_,?_,hv',(variant hcv (fun v hv=>Tm.LJ _ (Tm.EQ (aKJ v hv))) rfl GR.symm).symm⟩
 have hq1:xU [x.1] a=true:=by
  simp only[xU,cA,bJ]
  exact⟨⟨kq,hlen⟩,hav⟩
 unfold nM
 rw[aH ⟨hq1,by simp only[bA,aW,kJ,List.all_nil,yR];exact hv'⟩]
 try rfl
abbrev SE:ByteArray:=⟨#[61]⟩
abbrev SF:ByteArray:=⟨#[116,114,117,101]⟩
abbrev aMC:ByteArray:=⟨#[102,97,105,108]⟩
def I6(t:Tm):Prop:=mD t∧(isBuiltin t.s (t.ts.length:Int)=true→t.s=SE∨t.s=SF∨t.s=aMC)
abbrev PuP (p:List Cl):Prop:=∀x∈p,∀t∈x.2,I6 t
structure PuS (s:RS):Prop where
 g:∀g∈s.goals,I6 g.t
 c:∀c∈s.chs,∀g∈c.rest,I6 g.t
inductive y6 (p:List Cl):List Tm→Prop
 | nil:y6 p []
 | tru {t:Tm} {rest:List Tm} (hk:t.k=3) (h:t.s=SF) (h2:t.ts= []) (r:y6 p rest):y6 p (t::rest)
 | eqn {t x:Tm} {rest:List Tm} (hk:t.k=3) (h:t.s=SE) (h2:t.ts= [x,x]) (r:y6 p rest):y6 p (t::rest)
 | cls {t:Tm} {rest:List Tm} {x:Cl} {μ:Int→Tm} (hx:x∈p) (h:t=x.1.aG μ) (r:y6 p (x.2.map (Tm.aG μ)++rest)):y6 p (t::rest)
section
variable {p:List Cl} {τ0:Int→Tm}
end
end Go.AW
namespace Go.AW
open Go.Proofs.Tryz
def D3:List ByteArray:=[⟨#[61]⟩,⟨#[116,114,117,101]⟩,⟨#[102,97,105,108]⟩]
def qM(t:Tm):Bool:=lH t.k t.s (t.ts.length:Int)||D3.any fun x=>decide (t.s=x)
def HI(p:List Cl):Bool:=l7 p&&p.all fun x=>x.2.all qM
abbrev aNM:=zi tI_4 (zi zI_4 (zi cE (zi tI_9 (zi zI_9 (zi cI (zi tI_66 (zi zI_66 (zi bQ (zi bR (zi bS (zi bT (zi bP (zi tI_147 (zi zI_147 (zi iR (zi lS (zi lT mR)))))))))))))))))
theorem aRO(t:Tm)(st:aB):aD prog 144 [t.av] st (fun r st'=>r=.bool (!qM t)∧st'=st):=by
 obtain⟨k,n,s,ts⟩:=t
 have hp:=fun st=>OM k n s ts st
 have hc:=fun st=>JR D3 s st
 unfold qM
 simp only[aV] at hp ⊢
 change aD prog 144 _ st (fun r st'=>r=.bool (!(lH k s (ts.length:Int)||D3.any fun x=>decide (s=x)))∧st'=st)
 generalize lH k s (ts.length:Int)=b at *
 generalize (D3.any fun x=>decide (s=x))=b2 at *
 simp only[D3,bA,aW] at hc
 refine wF [1000000] 1 func144 ntmps144 rfl rfl ?_
 intro _
 simp -implicitDefEqProofs only[aA,seval,aNM]
 refine(hp _).to ?_
 cases b with
 | true=>simp -implicitDefEqProofs only[uR,kI,aA,seval]
 | false=>
  simp -implicitDefEqProofs only[oV,lN,fR,aA,seval,aNM]
  refine(hc _).to ?_
  simp -implicitDefEqProofs only[fR,aA,seval]
abbrev a3W:=zi tI_4 (zi zI_4 (zi cE (zi tI_31 (zi zI_31 (zi aN (zi bG (zi bH (zi b9 (zi tI_84 (zi zI_84 (zi kV (zi kW kU))))))))))))
theorem aRP(x:Cl)(st:aB):aD prog 146 [bX x,.pptr (.func 144 [])] st (fun r st'=>r=.bool (!x.2.all qM)∧st'=st):=by
 have hc:=fun st=>OH x.2 144 [] (fun t=> !qM t) st fun y _=>aRO y st
 have e:(x.2.any fun t=> !qM t)= !x.2.all qM:=by rw[←CC,Bool.not_not]
 rw[e] at hc
 obtain⟨⟨k,n,s,ts⟩,l⟩:=x
 simp only[fY] at hc ⊢
 refine wF [1000000] 2 func146 ntmps146 rfl rfl ?_
 intro _
 simp -implicitDefEqProofs only[aA,seval,a3W]
 refine(hc _).to ?_
 simp -implicitDefEqProofs only[aA,seval]
theorem aWS{P:Program}{t:TypeId}{g:FuncId}{K:AV→Prop}(h:((zI P t).map List.length)=some 1)(ht:tI P t=some (false,1))(k:K (.pptr (.func g []))):uA (.func g []) K (zI P t) (tI P t):=by
 rw[ht]
 cases hz:zI P t with
 | none=>rw[hz] at h;cases h
 | some zs=>
  rw[hz] at h
  simp only[n0,Option.some.injEq] at h
  exact⟨h,rfl,rfl,rfl,k⟩
theorem aR7(p:List Cl)(st:aB):aD prog 61 [.slice (p.map bX)] st (fun r st'=>r=.bool (HI p)∧st'=st):=by
 have hp:=fun st=>OK p st
 have hc:=fun st=>V0 p 146 [.pptr (.func 144 [])] (fun x=> !x.2.all qM) st fun y _=>aRP y st
 rw[show(p.any fun x=> !x.2.all qM)= !p.all fun x=>x.2.all qM by rw[←CC,Bool.not_not]] at hc
 unfold HI
 generalize l7 p=b at *
 generalize (p.all fun x=>x.2.all qM)=b2 at *
 refine wF [1000000] 1 func61 ntmps61 rfl rfl ?_
 intro _
 simp -implicitDefEqProofs only[oJ,aA,↓aU,seval]
 refine aWS (by kernel_rfl) (by kernel_rfl) ?_
 simp -implicitDefEqProofs only[aA,seval]
 refine(hp _).to ?_
 cases b with
 | false=>simp -implicitDefEqProofs only[gK,aA,seval]
 | true=>
  simp -implicitDefEqProofs only[eV,fR,aA,seval]
  refine(hc _).to ?_
  simp -implicitDefEqProofs only[Bool.not_not,aA,seval]
theorem aWU{t:Tm}(h:t.goal=true)(hp:qM t=true):I6 t:=by
 unfold qM at hp
 by_cases h1:lH t.k t.s (t.ts.length:Int)=true
 · obtain⟨k,n,s,ts⟩:=t
   obtain⟨a1,a2,a3⟩:=aLR (t:=.mk k n s ts) h1
   exact⟨a3,fun hb=>by rw[a2] at hb;cases hb⟩
 rw[show lH t.k t.s (t.ts.length:Int)=false by simpa using h1,oV] at hp
 have hs:t.s=SE∨t.s=SF∨t.s=aMC:=by simpa [D3] using hp
 obtain⟨k,n,s,ts⟩:=t
 simp only[Tm.goal,cA,vT,pS,bJ] at h
 have hk:k=3:=by
  rcases h.2 with (h | h) | h
  · exact h.1.1
  · simp only[lH,cA,bJ] at h;exact h.1.1.1
  · exact h.1
 refine⟨⟨hk,fun⟨e,_⟩=>?_⟩,fun _=>hs⟩
 simp only[Tm.s] at e hs
 rw[e] at hs
 exact absurd hs (by decide)
theorem a1H{p:List Cl}(h:HI p=true):l7 p=true∧PuP p:=by
 simp only[HI,cA,dW] at h
 refine⟨h.1,fun x hx t ht=>?_⟩
 have h1:=h.1
 simp only[l7,cA,dW] at h1
 have h2:=h1.2 x hx
 simp only[j9,cA,dW] at h2
 exact aWU (h2.2.2 t ht) (h.2 x hx t ht)
end Go.AW
namespace Go.AW

end Go.AW
namespace Go.AW
open Go.Proofs.Tryz

def CZ(t:Tm)(a:List Tm):Bool:=match nM [t] a with
 | some (h'::_)=>(rJ h').same (rJ t)
 | _=>false
theorem aP5{t:Tm}{a G:List Tm}(h:nM [t] a=some G):∃h',G= [h']∧h'.valid=true:=by
 unfold nM at h
 split at h
 · rename_i hh
   simp only[Option.some.injEq] at h
   subst h
   refine⟨_,rfl,?_⟩
   have:=hh.2
   simpa using this
 · cases h
theorem aUV(c:Cl):(bX c).deep=bX c:=by
 obtain⟨⟨k,n,s,ks⟩,l⟩:=c
 rw[fY]
 simp only[AV.deep,jH,EM]
theorem O3:∀p:List Cl,jH (p.map bX)=p.map bX
 | []=>rfl
 | c::p=>by simp only[bA,jH,aUV c,O3 p]
abbrev wM:=zi tI_3 (zi zI_3 (zi aX (zi tI_4 (zi zI_4 (zi cE (zi tI_26 (zi zI_26 (zi rA (zi vL (zi vN (zi BH (zi tI_29 (zi zI_29 (zi gW (zi kA (zi kB (zi lL (zi tI_31 (zi zI_31 (zi aN (zi bG (zi bH (zi b9 (zi tI_40 (zi zI_40 (zi sH (zi zS (zi zW (zi yN (zi tI_59 (zi zI_59 (zi t8 (zi tW (zi tI_66 (zi zI_66 (zi bQ (zi bR (zi bS (zi bT (zi bP (zi tI_84 (zi zI_84 (zi kV (zi kW (zi kU (zi tI_300 (zi zI_300 (zi aV4 (zi aV5 (zi aV6 (zi aV7 (zi aV8 aQS))))))))))))))))))))))))))))))))))))))))))))))))))))
set_option maxHeartbeats 4000000 in
theorem aRE(code more:List Bt)(st:aB):aD prog 11 [.slice (code.map iQ),.slice (more.map iQ)] st (fun r _=>r=.bool true):=by
 refine wF [1000000] 2 func11 ntmps11 rfl rfl ?_
 simp only[eC,AV.fits,eF,aF]
 intro ⟨_,hml,_⟩
 simp -implicitDefEqProofs only[aF,aA,seval,wM]
 refine cV (fun h0=>?_) (fun h0=>?_)
 case refine_2=>
  simp -implicitDefEqProofs only[h0,aA,seval]
 simp -implicitDefEqProofs only[h0,aF,aA,seval,wM]
 refine aQ (fun h1=>?_) (fun h1=>?_)
 · simp -implicitDefEqProofs only[aA,seval]
 simp -implicitDefEqProofs only[aA,seval]
 refine(aRD code _).mono ?_
 rintro _ s1 ⟨⟨p,q,most,fuel,⟨_,hf1,hf2⟩,rfl⟩,rfl⟩
 have hv1:=fun st=>OK p st
 have hv2:=fun st=>XG p st
 have hpp:=fun st=>aR7 p st
 simp -implicitDefEqProofs only[aA,seval]
 refine(hv1 _).to ?_
 cases hok:l7 p with
 | false=>
  simp -implicitDefEqProofs only[lN,fR,aA,seval]
  refine(hv1 _).to ?_
  simp -implicitDefEqProofs only[aA,seval]
  refine(hv2 _).to ?_
  simp -implicitDefEqProofs only[hok,fR,aA,seval,wM]
 | true=>
  simp -implicitDefEqProofs only[kI,aF,aA,seval,wM]
  refine aQ (fun hpl=>?_) (fun hpl=>?_)
  · simp -implicitDefEqProofs only[aA,seval]
    refine(hv1 _).to ?_
    simp -implicitDefEqProofs only[aA,seval]
    refine(hv2 _).to ?_
    simp -implicitDefEqProofs only[hok,fR,aA,seval,wM]
  have aYM:0<p.length:=by simp only[dJ] at hpl;omega
  obtain⟨k,hk⟩:∃k,k=more.length % p.length:=⟨_,rfl⟩
  have hkl:k<p.length:=by rw[hk];exact yZ _ aYM
  have hr:((more.length:Int)).tmod (p.length:Int)=(k:Int):=by rw[hk,MI]
  have hz:((p.length:Int)=0)=False:=cH (by omega)
  obtain⟨x,hx⟩:∃x,p[k]?=some x:=⟨_,eE hkl⟩
  have a67:=(HH hok).1
  have hwk:=bO (n:=(k:Int))
  have hxv:x.1.valid=true:=by
   have h2:=hok
   simp only[l7,cA,dW] at h2
   have h3:=h2.2 x (cP hx)
   simp only[j9,cA] at h3
   exact h3.1.1
  have hat:dF prog 29 (.slice (p.map bX)) (.int .i64 (k:Int))=some (.pptr (bX x)):=bM (av:=bX) gW hx (nO x)
  have hS1:=fun st=>(aR8 p [x.1] 20 300 st).aKZ
  have hS2:=aT7 p [x.1] 20 300
  have hL:=fun h1 h2 h3 h4=>aWD (p:=p) (k:=k) (x:=x) h1 hx h2 h3 h4
  have h9:=a23 (p:=p) (cnd:=fun _ l=>l) (q:=[x.1]) (most:=20) (fuel:=300)
  have hlen:=fun h=>a21 (p:=p) (cnd:=fun _ l=>l) (q:=[x.1]) (most:=20) (fuel:=300) h
  have hAG:=fun a st=>(a29 [x.1] a st).aKZ
  have hVT:=fun h' (hh:h'.valid=true) st=>aSA h' x.1 hh hxv st
  generalize iK p (fun _ l=>l) [x.1] 20 300=T at *
  obtain⟨L,e⟩:=T
  obtain⟨⟨xk,xn,xs,xts⟩,xb⟩:=x
  simp only[fY] at hat hL h9 hlen
  simp only[bA,aW,aV] at hS1 hS2 hAG hVT
  simp -implicitDefEqProofs only[bZ,aF,hr,hz,hat,aA,seval,wM]
  refine aD.to (aD.O7 (by simp only[AV.deep,jH,EM,O3];exact hS1 _)) ?_
  simp -implicitDefEqProofs only[aA,seval]
  refine aD.to (aD.O7 (by simp only[AV.deep,jH,EM,O3];exact hS2 _)) ?_
  simp -implicitDefEqProofs only[bU,fR,kI,aA,seval]
  refine(JZ L _).to ?_
  simp -implicitDefEqProofs only[fR,kI,aA,seval]
  by_cases he:e=0
  case neg=>
   have he':=cH he
   simp -implicitDefEqProofs only[he',bZ,bU,lN,fR,aA,seval]
   refine(JZ L _).to ?_
   simp -implicitDefEqProofs only[aA,seval]
  subst he
  simp -implicitDefEqProofs only[bU,kI,fR,aF,hat,aA,seval,wM]
  by_cases hb:0<(xb.length:Int)
  · have hb':=dB hb
    simp -implicitDefEqProofs only[hb',bU,fR,aA,seval]
    refine(JZ L _).to ?_
    simp -implicitDefEqProofs only[aA,seval]
  have hb':=cH hb
  simp -implicitDefEqProofs only[hb',bZ,fR,aA,seval]
  refine(hpp _).to ?_
  cases hpu:HI p with
  | false=>
   simp -implicitDefEqProofs only[bU,lN,fR,aA,seval]
   refine(JZ L _).to ?_
   simp -implicitDefEqProofs only[aA,seval]
  | true=>
   have hxb:xb= []:=List.length_eq_zero_iff.1 (by omega)
   have aKF:jM p [.mk xk xn xs xts] 20 300=true:=by
    cases hk9:jM p [.mk xk xn xs xts] 20 300 with
    | true=>rfl
    | false=>have:=h9.2 hk9;simp at this
   have hll:=hlen aKF
   obtain⟨a0,ha0,h0',hg0,hv0,hr0⟩:=hL aKF hxb (fun y hy t ht=>((a1H hpu).2 y hy t ht).1) rfl
   have aJ1:CZ (.mk xk xn xs xts) a0=true:=by
    unfold CZ
    rw[hg0]
    simp only[hr0,a4C]
   simp -implicitDefEqProofs only[kI,fR,aA,seval]
   refine eP (σ:=Unit) [1000000] [5,9,10,11] L (fun i _=>∀a∈L.take i,CZ (.mk xk xn xs xts) a=false) (fun i _=>[(4,.bool false),(15,.int .i64 i)]) (fun _ _=>s1) (by decide +kernel) ⟨(),by simp,aO.mk (by simp -implicitDefEqProofs only[aA,↓aU,seval])⟩ (fun i a _ ha hlt bV a6Z hin=>?_) (fun _ hge hin=>?_)
   case refine_2=>
    rw[eS] at hin
    rw[hin a0 ha0] at aJ1
    cases aJ1
   have aW5:dF prog 26 (.slice (L.map cU)) (.int .i64 (i:Int))=some (.pptr (cU a)):=bM (av:=cU) rA ha rfl
   have hwi:=bO (n:=(i:Int)+1)
   have DE:CZ (.mk xk xn xs xts) a=false→∀b∈L.take (i+1),CZ (.mk xk xn xs xts) b=false:=fun hf b hb2=>by
    rw[fG,ha,fF] at hb2
    rcases hb2 with hb2 | hb2
    · exact hin b hb2
    · rw[show b=a by simpa using hb2];exact hf
   have aW0:=hAG a
   simp -implicitDefEqProofs only[bV,aF,aW5,aA,seval,wM]
   refine aD.to (aD.O7 (by simp only[AV.deep,jH,EM];exact aW0 _)) ?_
   unfold CZ at DE
   cases hgs:nM [.mk xk xn xs xts] a with
   | none=>
    rw[hgs] at DE
    simp only[Option.isSome_none,Option.getD_none,aW]
    simp -implicitDefEqProofs only[aA,seval]
    refine wX [(0,1),(1,1),(2,1),(3,1),(4,1),(5,1),(6,1),(7,1),(8,1),(9,1),(10,0),(11,1)] [0,1,2,3,4,5,6,7,8,9,11] eH mixed rfl eT ?_
    simp -implicitDefEqProofs only[kI,fR,hwi,aA,seval]
    exact⟨eT,(),DE rfl,aO.mk (by simp -implicitDefEqProofs only[aA,seval])⟩
   | some G=>
    obtain⟨z,rfl,hzv⟩:=aP5 hgs
    rw[hgs] at DE
    simp only at DE
    simp only[NN,BW,bA,aW]
    have sM:dF prog 31 (.slice [z.av]) (.int .i64 0)=some (.pptr z.av):=bM (av:=Tm.av) (l:=[z]) (i:=0) aN rfl (aJ z)
    simp -implicitDefEqProofs only[aA,seval]
    refine wX [(0,1),(1,1),(2,1),(3,1),(4,1),(5,1),(6,1),(7,1),(8,1),(9,1),(10,0),(11,1)] [0,1,2,3,4,5,6,7,8,9,11] eH mixed rfl eT ?_
    simp -implicitDefEqProofs only[fR,hat,sM,aT,aJ,aA,seval,wM]
    refine(hVT z hzv _).to ?_
    cases hsm:(rJ z).same (rJ (.mk xk xn xs xts)) with
    | true=>
     simp -implicitDefEqProofs only[fR,aA,seval]
     exact eT
    | false=>
     simp -implicitDefEqProofs only[fR,hwi,aA,seval]
     exact⟨eT,(),DE hsm,aO.mk (by simp -implicitDefEqProofs only[aA,seval])⟩
end Go.AW
namespace Go.AW
open Go.ChangeShapes Go.WideShapes Go.ChangeAt Go.RowKit
abbrev sV:aB:=fun _=>none
section
variable {H:Type} {enc:TypeId×Value→H} {P:Program} {w:World}
def Reads(enc:TypeId×Value→H)(P:Program)(w:World)(t n:Nat){α:Type}(av:α→AV):Prop:=
 ∀cs x,DataW.trod enc P w 0 (fun _=>true) true n t cs=some x→∃a:α,VC w.heap sV (av a) cs
theorem UG{h:bK}{st:aB}{b k:Nat}:∀ {es:List AV} {off:Nat},(∀e∈es,e.width=k)→(∀(i:Nat) e,es[i]?=some e→VE h st b (off+i*k) e)→c9 h st b off es
 | [],_,_,_=>by simp [c9]
 | e::es,off,hw,h=>by
  simp only[c9]
  refine⟨by simpa [VE] using h 0 e rfl,UG (fun x hx=>hw x (by simp [hx])) fun i x hx=>?_⟩
  have:=h (i+1) x (by simpa using hx)
  rw[hw e (by simp),yY,←Nat.a26 k i] 
  exact this
where Nat.a26 (k i:Nat):(i+1)*k=k+i*k:=by rw[qV];omega
theorem XN{a:Addr}{v:Value}(h:w.cell? a=some v):a.spot=none∧a.block<w.heap.size∧cellAt w.heap a.block a.off=some v:=by
 unfold World.cell? at h
 split at h
 · rename_i c t fr hb
   split at h
   · cases h
   · rename_i hs
     refine⟨by simpa using hs,(IU.1 hb).1,by simp [cellAt,hb,h]⟩
 · cases h
theorem aUJ{a:Addr}{n:Nat}{cs:List Value}(hs:a.spot=none)(h:w.cells? 0 a n=some cs):eY w.heap a.block a.off cs∧cs.length=n:=by
 obtain⟨_,hl,hc⟩:=World.cells?_some h
 refine⟨?_,hl⟩
 have:∀(l:List Value) (k:Nat),(∀i,i<l.length→w.cell? (a.add (k+i))=l[i]?)→eY w.heap a.block (a.off+k) l:=by
  intro l
  induction l with
  | nil=>intro _ _;trivial
  | cons v l ih=>
   intro k hk
   refine⟨?_,?_⟩
   · have:=(XN (hk 0 (by simp))).2.2
     obtain⟨b,off,sp⟩:=a
     simp only at hs
     subst hs
     simpa [Addr.o7] using this
   · have:=ih (k+1) (fun i hi=>by have:=hk (i+1) (by simp;omega);rw[show k+1+i=k+(i+1) by omega];simpa using this)
     simpa [yY] using this
 simpa using this cs 0 (fun i hi=>by simpa using hc i (by omega))
theorem a1V{t e n k:Nat}{α:Type}{av:α→AV}(ht:P.underlying t=some (.slice e))(hk:P.cellsOf e=k)(DG:0<k)(hw:∀a,(av a).width=k)(hr:∀m,m<n→Reads enc P w e m av) :
 Reads enc P w t n (fun l:List α=>.slice (l.map av)):=by
 intro cs x h
 rcases DataW.trod_slice ht h with ⟨rfl,_⟩ | ⟨a,len,cap,elems,rest,m,hm,rfl,rfl,_,hl,C7,hlen,hel,hsp,_⟩
 · exact⟨[],by simp only[aW];unfold VC;exact .inl ⟨⟨_,rfl⟩,rfl⟩⟩
 obtain⟨hrl,vY⟩:=hsp rfl
 rw[hk] at hel vY
 have get:∀i,i<cap→∃ds y,w.cells? 0 (a.add (i*k)) k=some ds∧DataW.trod enc P w 0 (fun _=>true) true m e ds=some y:=by
  intro i hi
  have hb:∃y,(w.cells? 0 (a.add (i*k)) k).bind (DataW.trod enc P w 0 (fun _=>true) true m e)=some y:=by
   by_cases hi':i<len
   · exact⟨elems[i]'(by omega),by rw[hel i hi'];simp [show i<elems.length by omega]⟩
   · have:=vY (i - len) (by omega)
     rw[show len+(i - len)=i by omega] at this
     exact⟨rest[i - len]'(by omega),by rw[this];simp [show i - len<rest.length by omega]⟩
  obtain⟨y,hy⟩:=hb
  obtain⟨ds,h1,h2⟩:=Option.bind_eq_some_iff.1 hy
  exact⟨ds,y,h1,h2⟩
 by_cases hc0:cap=0
 · subst hc0
   obtain rfl:len=0:=by omega
   exact⟨[],by simp only[aW];unfold VC;exact .inl ⟨⟨_,rfl⟩,rfl⟩⟩
 obtain⟨ds0,_,hd0,_⟩:=get 0 (by omega)
 have aKH:a.spot=none∧a.block<w.heap.size:=by
  obtain⟨_,hl0,hc⟩:=World.cells?_some hd0
  have:=hc 0 DG
  have h0:ds0[0]?=some (ds0[0]'(by omega)):=by simp [hl0,DG]
  rw[h0] at this
  have:=XN this
  obtain⟨b,off,sp⟩:=a
  simp only[Nat.zero_mul] at this
  cases sp with
  | none=>exact⟨rfl,by simpa [Addr.o7] using this.2.1⟩
  | some s=>exact absurd this.1 (by simp [Addr.add])
 obtain⟨b,off,sp⟩:=a
 simp only at aKH
 obtain⟨rfl,hbl⟩:=aKH
 have val:∀i,i<len→∃v:α,VE w.heap sV b (off+i*k) (av v):=by
  intro i hi
  obtain⟨ds,y,h1,h2⟩:=get i (by omega)
  obtain⟨v,hv⟩:=hr m (by omega) ds y h2
  obtain⟨c1,c2⟩:=aUJ (a:=(⟨b,off,none⟩:Addr).add (i*k)) (by simp [Addr.o7]) h1
  exact⟨v,ds,by simpa [Addr.o7] using c1,by rw[hw];exact c2,hv⟩
 have build:∀j,j≤len→∃l:List α,l.length=j∧∀(i:Nat) v,l[i]?=some v→VE w.heap sV b (off+i*k) (av v):=by
  intro j
  induction j with
  | zero=>intro _;exact⟨[],rfl,by simp⟩
  | succ j ih=>
   intro hj
   obtain⟨l,h1,h2⟩:=ih (by omega)
   obtain⟨v,hv⟩:=val j (by omega)
   refine⟨l++ [v],by simp [h1],fun i u hi=>?_⟩
   rw[List.getElem?_append] at hi
   split at hi
   · exact h2 i u hi
   · rename_i hge
     have:i=j:=by
      have:=(gP.1 hi).1
      simp at this
      omega
     subst this
     simp [h1] at hi
     subst hi
     exact hv
 obtain⟨l,h1,h2⟩:=build len (c7 _)
 refine⟨l,?_⟩
 unfold VC
 refine .inr ⟨b,off,cap,by simp [h1],by simp [h1];exact hl,C7,rfl,hbl,aV0 hw l,UG (k:=k) (by intro e he;simp only[cS] at he;obtain⟨v,_,rfl⟩:=he;exact hw v) fun i e he=>?_⟩
 rw[mW] at he
 obtain⟨v,hv,rfl⟩:=Option.map_eq_some_iff.1 he
 exact h2 i v hv
theorem aL1{t:TypeId}{α:Type}{av:α→AV}{v:Value}{d:DataW H}{ps:List MemPlace}(hr:∀n,Reads enc P w t n av)(hag:∀a,(av a).isAgg=mB v)(h:DataW.Trod enc P w 0 (fun _=>true) true t v d ps) :
 ∃a:α,aR w.heap sV (av a) v:=by
 obtain⟨n,hn⟩:=h
 obtain⟨a,ha⟩:=hr n _ _ hn
 refine⟨a,?_⟩
 have:=hag a
 cases hq:av a<;>rw[hq] at ha this<;>first | trivial | exact⟨this,ha⟩
theorem aOH(hl:laidOutB P=true){W W':World}{sp:Nat→Bool}:∀ {ts:List TypeId} {vs:List Value} {ds:List (DataW H)} {ps:List MemPlace},(ts.all fun t=>P.readableRec t&&decide (t<P.types.size))=true →
 DataW.TrodAll enc P W 0 (fun _=>true) true ts vs ds ps→(∀x∈ps,W.sameAt W' x)→(∀x∈ps,sp x.block=true)→DataW.TrodAll enc P W' 0 sp true ts vs ds ps
 | [],vs,ds,ps,_,h,_,_=>by
  cases vs<;>cases ds<;>simp [DataW.TrodAll] at h ⊢
  exact h
 | t::ts,vs,ds,ps,ht,h,h1,h2=>by
  obtain⟨v,vs',d,ds',p,q,rfl,rfl,rfl,hd,vY⟩:=trodAll_cons h
  simp only[kJ,cA,bJ] at ht
  refine⟨p,q,Go.WideElems.Trod_stays hl ht.1.1 ht.1.2 hd (fun x hx=>h1 x (by simp [hx])) (fun x hx=>h2 x (by simp [hx])),aOH hl ht.2 vY (fun x hx=>h1 x (by simp [hx])) (fun x hx=>h2 x (by simp [hx])),rfl⟩
theorem aQW{W W':World}{st':aB}(T:cB W.heap sV W'.heap st')(s:fP W W'):Below W.heap.size W W':=
 ⟨s.1,s.2.1,s.2.2,T.size,fun k hk=>(T.a8 k hk rfl).1⟩
theorem aZW{f:Func}{g:FuncId}{s:ChangeSpec}{W:World}{args:Array Value}{ds:List (DataW H)}{before:List MemPlace}{avs:List AV}{tb:TypeId}
 (hl:laidOutB P=true) (hts:(f.params.toList.all fun t=>P.readableRec t&&decide (t<P.types.size))=true) (hrt:f.resultTypes= #[tb]) (htb:P.underlying tb=some .bool) (hsv:s.vars= [])
 (hW:DataW.Whole enc P f.params.toList [] false W args.toList ds [] before) (hfn:s.fn H ds= { results:=[.lit (.bool true)],args:=ds }) (aYP:dA W.heap sV avs args.toList)
 (hc:aD P g avs sV (fun r _=>r=.bool true)) :
 Calls P g args W fun e W'=>∃v,e=.returned v∧s.post enc P f false true false false W args v W':=by
 have hS:cY W.heap sV:=fun b o h=>by cases h
 have:=hc.2 W args.toList hS aYP
 simp only[tH] at this
 refine this.mono ?_
 rintro e W' ⟨v,r,st',rfl,hv,_,T,sm,rfl⟩
 refine⟨v,rfl,?_⟩
 have hB:=aQW T sm
 rw[hv.zH]
 have hW':DataW.Whole enc P f.params.toList s.vars false W args.toList ds [] before:=by rw[hsv];exact hW
 obtain⟨p,q,hA,hV,rfl,hz,_⟩:=hW
 obtain⟨_,rfl⟩:=trodVars_none hV
 have hlt:∀x∈p,x.block<W.heap.size:=fun x hx=>hW'.lt x (by simp [hx])
 have AG:∀(b:Nat) (sp:Nat→Bool) (hd:Bool),DataW.TrodAll enc P W' b sp hd f.resultTypes.toList ((Value.bool true).resultList f.resultTypes.size) (s.fn H (ds++ [])).results []:=fun _ _ _=>by
  rw[g9,hfn,hrt]
  exact trodAll_mk1 (shut_bool htb true)
 have rD:∀sp:Nat→Bool,(∀x∈p,sp x.block=true)→DataW.TrodAll enc P W' 0 sp true f.params.toList args.toList (s.fn H (ds++ [])).args p:=fun sp hsp=>by
  rw[g9,hfn]
  exact aOH hl hts hA (fun x hx=>hB.same (hlt x hx)) hsp
 have DK:∀sp:Nat→Bool,DataW.TrodVars enc P W' sp s.vars (s.fn H (ds++ [])).vars []:=fun sp=>by
  rw[g9,hfn,hsv]
  exact rfl
 refine⟨ds,[],p++ [],[],p,[],hW',AG _ _ _,rD _ (fun x hx=>by simpa using hlt x hx),DK _,World.keptBut_mono (fun x hx=>⟨hx,by simpa using hx⟩) (hB.frame (·∈p++ [])),fun _=>?_⟩
 refine⟨ok_one hrt rfl (okWide_bool_mk htb true),_,_,([]++p)++ [],⟨[]++p,[],trodAll_append (rD _ (fun _ _=>rfl)) (AG _ _ _),DK _,rfl,?_,?_⟩,?_⟩
 · intro b off hp
   have hp':MemPlace.cell b off∈p:=by simpa using hp
   rw[hB.frozen (p:=⟨b,off,none⟩) (hlt _ hp')]
   exact hz b off (by simpa using hp')
 · intro ha;cases ha
 · intro x hx _
   simpa using hx
end
end Go.AW

