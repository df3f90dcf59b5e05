import Derived.Test.YtlepdbmhjkmelaaGreatWsl
import Derived.Test.YtlepdbmhjkmelaaGreatWsk
import Derived.Test.YtlepdbmhjkmelaaGreatWsf
import Derived.Test.YtlepdbmhjkmelaaGreatWsi
import Derived.Test.YtlepdbmhjkmelaaGreatWsj
import Derived.Shelf.LaysM
import Derived.Shelf.Strconv.Itoa3
import Derived.Shelf.Strings.OnBuilder
import Derived.Test.YtlepdbmhjkmelaaGreatWsh
set_option linter.unusedSimpArgs false
set_option linter.unusedVariables false
set_option maxRecDepth 100000
namespace Go.AW
open Go.Proofs.Tryz
theorem NZ{p:List Cl}(hp:∀c∈p,gX c∧c.2.length≤6){B:Nat}(hB:B≤524288){cs:List RC}{goal:Tm}{rest:List RG}{σ:Sub}{N:Nat}(hg:dL σ)(ho:dC (bS N) σ)(hd:∀n,¬(0≤n∧n<(N:Int))→σ n=none)
 (hgo:bS N goal) (hr:∀g∈rest,bS N g.t∧g.t.k=3) (h0:0<N) (hN:N+26≤B) (hrl:rest.length+26≤B) (hcl:cs.length+1≤B) (hcs:∀c∈cs,vA p c∧c.N+26≤B∧c.rest.length+26≤B∧0<c.N) :
 ∀(left:List Nat),(∀i∈left,i<p.length)→left.length≤1048576→∀s,jV p cs goal rest σ N left=some s→oF p B s
 | [],_,_,s,h=>by simp [jV] at h
 | i::l,hle,hll,s,h=>by
  have hil:=hle i (by simp)
  obtain⟨x,hx⟩:∃x,p[i]?=some x:=⟨_,d4 hil⟩
  obtain⟨hX,h6⟩:=hp x (cQ hx)
  have hl':∀j∈l,j<p.length:=fun j hj=>hle j (by simp [hj])
  rw[jV.eq_def] at h
  simp only[hx] at h
  split at h
  case isFalse=>exact NZ hp hB hg ho hd hgo hr h0 hN hrl hcl hcs l hl' (by simp at hll;omega) s h
  cases h
  have hfr:=hX.fr.1
  have hsh:=hX.fS N
  obtain⟨r,σ',tr,U⟩:=PI (N:=N+oP x) hg (ho.upN (by omega)) (hgo.mono (by omega)) (hsh x.1 (by simp))
  rw[U.eq]
  have S:=U.E6
  refine⟨S.g8,S.ok,fun n hn=>?_,?_,by simp only;omega,by simp only;omega,?_,?_,?_⟩
  · simp only at hn ⊢
    rw[S.bJ n (fun h=>hn (S.kB n h))]
    exact hd n (fun h=>hn (by omega))
  · intro g hg'
    simp only[kW,cL] at hg'
    rcases hg' with ⟨t,ht,rfl⟩ | hg'
    · exact⟨hsh t (y6 _ ht),by rw[aWT];exact(hX.body t ht).2⟩
    · exact⟨(hr g hg').1.mono (by simp only;omega),(hr g hg').2⟩
  · simp only[cX,aE];omega
  · simp only
    split
    · omega
    · simp only[cX,aY,aW];omega
  · simp only
    split
    · exact hcs
    · intro c hc
      rcases kW.1 hc with hc | hc
      · exact hcs c hc
      · simp only[cT,dF,dS] at hc
        subst hc
        exact⟨⟨hg,ho,hd,hgo,hr,hl',by simp only;omega,by simp only;simp at hll;omega⟩,hN,hrl,h0⟩
theorem aVY(p:List Cl)(chs:List RC):fG p chs.length chs=match chs.getLast? with
 | none=>none
 | some c=>match jV p chs.dropLast c.goal c.rest c.σ c.N c.left with
  | some s=>some s
  | none=>fG p chs.dropLast.length chs.dropLast:=by
 cases chs with
 | nil=>rfl
 | cons c l=>
  rw[aY,fG]
  have:(c::l).dropLast.length=l.length:=by simp
  rw[this]
  try rfl
theorem aGO{p:List Cl}(hp:∀c∈p,gX c∧c.2.length≤6){B:Nat}(hB:B≤524288):∀(n:Nat) (chs:List RC),chs.length≤B→(∀c∈chs,vA p c∧c.N+26≤B∧c.rest.length+26≤B∧0<c.N)→∀s,fG p n chs=some s→oF p B s
 | 0,_,_,_,s,h=>by simp [fG] at h
 | n+1,chs,hl,hc,s,h=>by
  rw[fG] at h
  split at h
  · cases h
  · rename_i c sA
    have hm:=List.mem_of_getLast? sA
    have hne:chs≠[]:=by rintro rfl;simp at hm
    have hdl:chs.dropLast.length+1=chs.length:=by
     have:=List.length_pos_iff.2 hne
     simp;omega
    have hcd:∀c∈chs.dropLast,vA p c∧c.N+26≤B∧c.rest.length+26≤B∧0<c.N:=fun c h=>hc c (List.dropLast_subset _ h)
    obtain⟨k,h1,h2,h3⟩:=hc c hm
    split at h
    · rename_i s' hs
      cases h
      exact NZ hp hB k.g8 k.ok k.dom k.goal k.rest h3 h1 h2 (by omega) hcd c.left k.left k.aUJ s hs
    · exact aGO hp hB n _ (by omega) hcd s h
theorem oF.up{p:List Cl}{B C:Nat}{s:RS}(h:oF p B s)(hC:B≤C):oF p C s:=
 ⟨h.g8,h.ok,h.dom,h.goals,h.pos,by have:=h.hN;omega,by have:=h.gl;omega,by have:=h.chl;omega,fun c hc=>by
  obtain⟨h1,h2,h3,h4⟩:=h.chs c hc
  exact⟨h1,by omega,by omega,h4⟩⟩
theorem oF.back{p:List Cl}(hp:∀c∈p,gX c∧c.2.length≤6){B:Nat}(hB:B≤524288){s s':RS}(h:oF p B s)(e:fG p s.chs.length s.chs=some s'):oF p B s':=
 aGO hp hB _ _ h.chl h.chs s' e
theorem aD0{N:Nat}{σ:Sub}(hg:dL σ)(ho:dC (bS N) σ){t:Tm}(ht:bS N t)(hf:jS (t.aS (rs σ))=true):bS N (t.aS (rs σ)):=by
 obtain⟨rk,B,G⟩:=hg.rs
 unfold jS at hf
 simp only[bG,bK] at hf
 exact⟨ht.1.aS fun v hv=>G.x8 ho.x8 v (ht.1.2.2 v hv).1 (ht.1.2.2 v hv).2,hf.2⟩
theorem oF.step{p:List Cl}(hp:∀c∈p,gX c∧c.2.length≤6)(hpl:p.length≤1048576){B:Nat}(hB:B+26≤524288){cnd:Tm→List Nat→List Nat}(hc:∀t l,(∀i∈cnd t l,i∈l)∧(cnd t l).length≤l.length){s s':RS}{g:RG}{rest:List RG}(hgs:s.goals=g::rest)(h:oF p B s)
 (e:iU p cnd s g rest=.go s'):oF p (B+26) s':=by
 have hgm:g∈s.goals:=by rw[hgs];simp
 have hrm:∀x∈rest,x∈s.goals:=fun x hx=>by rw[hgs];simp [hx]
 have hgl:=h.gl
 rw[hgs,aY] at hgl
 have hU:=h.up (C:=B+26) (by omega)
 unfold iU at e
 split at e
 · cases e
 rename_i fF
 have aS5:jS (g.t.aS (rs s.σ))=true:=by simpa using fF
 have hok:=aD0 h.g8 h.ok (h.goals g hgm).1 aS5
 generalize g.t.aS (rs s.σ)=t at *
 split at e
 · cases e
   exact⟨hU.g8,hU.ok,hU.dom,fun x hx=>hU.goals x (hrm x hx),hU.pos,hU.hN,by simp only;omega,by simp only[dE];have:=hU.chl;omega,fun c hc=>hU.chs c (mJ hc)⟩
 split at e
 · split at e
   · cases e
     have S:=aXA h.g8 h.ok t.s t.ts fun x hx=>by
      obtain⟨k,n,s',ts⟩:=t
      by_cases hk:k=1
      · obtain⟨_,_,_,h2⟩:=(show c8 s.N (.mk 1 n s' ts) from hk▸hok.1).var
        simp only[Tm.ts] at hx
        rw[h2] at hx;cases hx
      · exact vW _ (.mk k n s' ts) hk hok x hx
     exact⟨S.g8,S.ok,fun n hn=>by simp only at hn ⊢;rw[S.bJ n (fun h=>hn (S.kB n h))];exact hU.dom n hn,fun x hx=>hU.goals x (hrm x hx),hU.pos,hU.hN,by simp only;omega,hU.chl,hU.chs⟩
   · split at e<;>cases e
 split at e
 · cases e
 split at e
 case h_2=>cases e
 rename_i s2 hs
 cases e
 obtain⟨c1,c2⟩:=hc t (pQ p t)
 have hfl:(pQ p t).length≤p.length:=by rw[ML];exact MM p t p.length
 refine NZ hp (by omega) h.g8 h.ok h.dom hok (fun x hx=>h.goals x (hrm x hx)) h.pos (by have:=h.hN;omega) (by omega) (by have:=h.chl;omega) hU.chs _ (fun i hi=>?_) (by omega) s' hs
 have:=c1 i hi
 unfold pQ at this
 have:=(List.mem_filter.1 this).1
 exact wN.1 this
def l4(n:Nat)(l:List RG):Prop:=l.Pairwise (fun a b=>b.bJ≤a.bJ)∧∀g∈l,g.bJ≤n
theorem l4.up{n m:Nat}{l:List RG}(h:l4 n l)(hm:n≤m):l4 m l:=⟨h.1,fun g hg=>lL (h.2 g hg) hm⟩
theorem l4.tail{n:Nat}{g:RG}{l:List RG}(h:l4 n (g::l)):l4 n l∧l4 g.bJ l:=by
 obtain⟨h1,h2⟩:=h
 rw[CS] at h1
 exact⟨⟨h1.2,fun x hx=>h2 x (by simp [hx])⟩,h1.2,h1.1⟩
theorem l4.body{n:Nat}{l:List RG}(h:l4 n l)(f:Tm→Tm)(bd:List Tm):l4 n (bd.map (fun t=>(⟨f t,n⟩:RG))++l):=by
 refine⟨List.pairwise_append.2 ⟨?_,h.1,fun a ha b hb=>?_⟩,fun g hg=>?_⟩
 · rw[List.pairwise_map]
   exact List.pairwise_of_forall fun _ _=>c6 _
 · obtain⟨t,_,rfl⟩:=cL.1 ha
   exact h.2 b hb
 · rcases kW.1 hg with hg | hg
   · obtain⟨t,_,rfl⟩:=cL.1 hg
     exact c6 _
   · exact h.2 g hg
structure wQ (s:RS):Prop where
 goals:l4 s.chs.length s.goals
 chs:∀i c,s.chs[i]?=some c→l4 i c.rest
theorem NX{p:List Cl}{cs:List RC}{goal:Tm}{rest:List RG}{σ:Sub}{N:Nat}(hr:l4 cs.length rest)(hc:∀i c,cs[i]?=some c→l4 i c.rest) :
 ∀(left:List Nat) s,jV p cs goal rest σ N left=some s→wQ s
 | [],s,h=>by simp [jV] at h
 | i::l,s,h=>by
  rw[jV.eq_def] at h
  simp only at h
  split at h
  · cases h
  rename_i x hx
  split at h
  case isFalse=>exact NX hr hc l s h
  cases h
  have hb:=hr.body (fS N) x.2
  refine⟨?_,?_⟩
  · simp only
    split
    · exact hb
    · exact hb.up (by simp)
  · simp only
    intro j c hj
    split at hj
    · exact hc j c hj
    · rw[List.getElem?_append] at hj
      split at hj
      · exact hc j c hj
      · rename_i hlt
        have hj0:j - cs.length=0:=by
         have:=(gJ.1 hj).1
         simp at this;omega
        rw[hj0] at hj
        simp only[KA,Option.some.injEq] at hj
        subst hj
        exact hr.up (by omega)
theorem aGM{p:List Cl}:∀(n:Nat) (chs:List RC),(∀i c,chs[i]?=some c→l4 i c.rest)→∀s,fG p n chs=some s→wQ s
 | 0,_,_,s,h=>by simp [fG] at h
 | n+1,chs,hc,s,h=>by
  rw[fG] at h
  split at h
  · cases h
  · rename_i c sA
    have hd:∀i c,chs.dropLast[i]?=some c→l4 i c.rest:=fun i c hi=>hc i c (by
     rw[List.dropLast_eq_take,List.getElem?_take] at hi
     split at hi
     · exact hi
     · cases hi)
    rw[PQ] at sA
    have hk:=hc _ _ sA
    split at h
    · rename_i s' hs
      cases h
      exact NX (by rw[List.length_dropLast];exact hk) hd _ s hs
    · exact aGM n _ hd s h
theorem wQ.step{p:List Cl}{cnd:Tm→List Nat→List Nat}{s s':RS}{g:RG}{rest:List RG}(hgs:s.goals=g::rest)(h:wQ s)(e:iU p cnd s g rest=.go s'):wQ s':=by
 have hg:=h.goals
 rw[hgs] at hg
 obtain⟨h1,h2⟩:=hg.tail
 have h3:=hg.2 g (by simp)
 unfold iU at e
 split at e
 · cases e
 split at e
 · cases e
   refine⟨?_,fun i c hi=>?_⟩
   · simp only[dE]
     exact h2.up (by omega)
   · simp only[List.getElem?_take] at hi
     split at hi
     · exact h.chs i c hi
     · cases hi
 split at e
 · split at e
   · cases e
     exact⟨h1,h.chs⟩
   · split at e<;>cases e
 split at e
 · cases e
 split at e
 case h_2=>cases e
 rename_i s2 hs
 cases e
 exact NX h1 h.chs _ s' hs
def zC(s:RS):Prop:=26≤s.N∧∀c∈s.chs,26≤c.N
theorem NY{p:List Cl}{cs:List RC}{goal:Tm}{rest:List RG}{σ:Sub}{N:Nat}(hN:26≤N)(hc:∀c∈cs,26≤c.N) :
 ∀(left:List Nat) s,jV p cs goal rest σ N left=some s→zC s
 | [],s,h=>by simp [jV] at h
 | i::l,s,h=>by
  rw[jV.eq_def] at h
  simp only at h
  split at h
  · cases h
  rename_i x hx
  split at h
  case isFalse=>exact NY hN hc l s h
  cases h
  refine⟨by simp only;omega,?_⟩
  simp only
  split
  · exact hc
  · intro c h
    rcases kW.1 h with h | h
    · exact hc c h
    · simp only[cT,dF,dS] at h
      subst h;exact hN
theorem aGN{p:List Cl}:∀(n:Nat) (chs:List RC),(∀c∈chs,26≤c.N)→∀s,fG p n chs=some s→zC s
 | 0,_,_,s,h=>by simp [fG] at h
 | n+1,chs,hc,s,h=>by
  rw[fG] at h
  split at h
  · cases h
  · rename_i c sA
    have hd:∀c∈chs.dropLast,26≤c.N:=fun c h=>hc c (List.dropLast_subset _ h)
    split at h
    · rename_i s' hs
      cases h
      exact NY (hc c (List.mem_of_getLast? sA)) hd _ s hs
    · exact aGN n _ hd s h
theorem zC.step{p:List Cl}{cnd:Tm→List Nat→List Nat}{s s':RS}{g:RG}{rest:List RG}(h:zC s)(e:iU p cnd s g rest=.go s'):zC s':=by
 unfold iU at e
 split at e
 · cases e
 split at e
 · cases e
   exact⟨h.1,fun c hc=>h.2 c (mJ hc)⟩
 split at e
 · split at e
   · cases e
     exact h
   · split at e<;>cases e
 split at e
 · cases e
 split at e
 case h_2=>cases e
 rename_i s2 hs
 cases e
 exact NY h.1 h.2 _ s' hs
structure rO (p:List Cl) (B:Nat) (s:RS):Prop where
 a:oF p B s
 k:wQ s
 l:zC s
theorem rO.step{p:List Cl}(hp:∀c∈p,gX c∧c.2.length≤6)(hpl:p.length≤1048576){B:Nat}(hB:B+26≤524288){cnd:Tm→List Nat→List Nat}(hc:∀t l,(∀i∈cnd t l,i∈l)∧(cnd t l).length≤l.length){s s':RS}{g:RG}{rest:List RG}(hgs:s.goals=g::rest)(h:rO p B s)
 (e:iU p cnd s g rest=.go s'):rO p (B+26) s':=⟨h.a.step hp hpl hB hc hgs e,h.k.step hgs e,h.l.step e⟩
theorem rO.back{p:List Cl}(hp:∀c∈p,gX c∧c.2.length≤6){B:Nat}(hB:B≤524288){s s':RS}(h:rO p B s)(e:fG p s.chs.length s.chs=some s'):rO p B s':=
 ⟨h.a.back hp hB e,aGM _ _ h.k.chs s' e,aGN _ _ h.l.2 s' e⟩
theorem rO.start{p:List Cl}{q:List Tm}(hq:∀t∈q,bS 26 t∧t.k=3)(h6:q.length≤6):rO p 26 (oX q):=by
 refine⟨⟨dL.none,fun n u h=>(by cases h),fun n _=>rfl,?_,(by show 0<26;omega),c6 _,?_,f9 _,fun c hc=>(by cases hc)⟩,⟨⟨?_,?_⟩,fun i c hi=>(by cases hi)⟩,⟨c6 _,fun c hc=>(by cases hc)⟩⟩
 · intro g hg
   simp only[oX,cL] at hg
   obtain⟨t,ht,rfl⟩:=hg
   exact hq t ht
 · simp only[oX,aE];omega
 · simp only[oX,List.pairwise_map]
   exact List.pairwise_of_forall fun _ _=>c6 _
 · intro g hg
   simp only[oX,cL] at hg
   obtain⟨t,ht,rfl⟩:=hg
   exact f9 _
theorem aG8{φ:AF}{t:TypeId}{ag:Bool}{w d k:Nat}{es:List AV}(hI:eI prog t=some (ag,w))(h:φ d=.int .i64 (k:Int))(hk:k≤es.length):fJ prog φ t (.slice es) none (some (.tmp d)) none=some (.slice (es.take k)):=by
 have he:φ.eval (.tmp d)=.int .i64 (k:Int):=h
 unfold fJ
 rw[aH (by simp [nO])]
 simp only[l5,hI]
 rw[aH (by simp)]
 simp only[cU,he]
 rw[aN (by omega)]
 simp
def GF(a:AV):Prop:=(∃l,a=.slice l)∨a=.fslice []
theorem GF.facts{a:AV}(h:GF a):a.isAgg=false∧a.width=1∧a.bO=false∧a.cells= [a]∧a.storable=true∧∃l,a.soft=.slice l:=by
 rcases h with ⟨l,rfl⟩ | rfl
 · exact⟨rfl,rfl,rfl,rfl,rfl,l,rfl⟩
 · exact⟨rfl,rfl,rfl,rfl,rfl,[],rfl⟩
abbrev sO:=zi aX (zi cD (zi lK (zi O3 (zi FO O4))))
theorem R8{p:List Cl}(hp:∀c∈p,gX c∧c.2.length≤6){B:Nat}(hB:B≤524288)(gs0:List RG)(σ0:List AV)(chs:List RC)(hl:chs.length≤B)(hc:∀c∈chs,vA p c∧c.N+26≤B∧c.rest.length+26≤B∧0<c.N)(st:aA) :
 aD prog 261 [.slice (p.map aF),.agg [.slice (gs0.map dQ),.slice σ0,.slice (chs.map eC)]] st (fun r st'=>st'=st∧match fG p chs.length chs with
  | some s=>r=.tup [mX s,.bool true]
  | none=>∃l1 l2 l3,r=.tup [.agg [.slice l1,.slice l2,.slice l3],.bool false]):=by
 refine aD.pN (aD.soft ?_)
 refine wF [1000000,3] 2 func261 ntmps261 rfl rfl ?_
 intro _
 simp only[aB,seval,sO]
 intro b3 h3 b4 h4
 have hne:b4≠b3:=by rintro rfl;rw[aA.aK] at h4;cases h4
 have M8:st b4=none:=by rw[aA.aO _ _ hne] at h4;exact h4
 rw[aA.rG _ _ _ (dM hne)]
 generalize hW:st.aC b4 (.cells [.fslice [],.fslice [],.fslice []])=W
 have hW4:W b4=some (.cells [.fslice [],.fslice [],.fslice []]):=by rw[←hW];exact aA.aK _ _ _
 have hW3:W b3=none:=by rw[←hW,aA.aO _ _ (dM hne)];exact h3
 have hDW:∀o o',aJ ((W.aC b3 o).aC b4 o') st:=fun o o' q=>by
  by_cases q4:q=b4
  · subst q4;rw[aA.aK,M8];simp
  rw[aA.aO _ _ q4]
  by_cases q3:q=b3
  · subst q3;rw[aA.aK,h3];simp
  rw[aA.aO _ _ q3,←hW,aA.aO _ _ q4]
  simp
 have a0H:b3≠b4:=dM hne
 refine gW (σ:=List RC×AV×AV) [1000000,3] [0,3,4] (fun s=>s.1.length≤B∧(∀c∈s.1,vA p c∧c.N+26≤B∧c.rest.length+26≤B∧0<c.N)∧GF s.2.1∧GF s.2.2∧fG p s.1.length s.1=fG p chs.length chs) (fun s=>[(5,.bool false)]) (fun s=>W.aC b3 (.cells [s.2.1,s.2.2,.slice (s.1.map eC)])) (fun s=>s.1.length) (by decide +kernel) ⟨(chs,.slice (gs0.map dQ),.slice σ0),⟨hl,hc,.inl ⟨_,rfl⟩,.inl ⟨_,rfl⟩,rfl⟩,aP.mk (by simp only[aB,seval])⟩ ?_
 rintro⟨l,a,b⟩ ⟨hl1,hlc,ha,hb,hinv⟩
 simp only at hl1 hlc ha hb hinv
 obtain⟨a1,a2,a3,a4,a5,la,a6⟩:=ha.facts
 obtain⟨b1,b2,b3',b4',b5,lb,b6⟩:=hb.facts
 simp only
 rw[aVY] at hinv
 by_cases uD:l= []
 · subst uD
   simp only[List.getLast?_nil] at hinv
   simp only[aA.aK,AE,List.contains,List.elem,rI,fL,sub,↓reduceIte,reduceCtorEq,Nat.reduceEqDiff,sO]
   refine bE (fun h=>absurd h (by decide)) (fun h=>?_)
   simp only[aG,hne,aA.aK,hW4,a5,b5,aB,seval,sO]
   rw[←hinv]
   exact⟨st,hDW _ _,rfl,la,lb,[],by simp only[jF,jW,q0,oZ,bF,bD,a6,b6]⟩
 obtain⟨c,sA⟩:∃c,l.getLast?=some c:=by
  cases h:l.getLast? with
  | none=>exact absurd (List.getLast?_eq_none_iff.1 h) uD
  | some c=>exact⟨c,rfl⟩
 have hlp:=List.length_pos_iff.2 uD
 have hcm:=List.mem_of_getLast? sA
 obtain⟨aS0,hcN,hcr,hc0⟩:=hlc c hcm
 rw[sA] at hinv
 simp only at hinv
 have hat:=bR (av:=eC) (P:=prog) (l:=l) (i:=l.length - 1) (x:=c) AD (by rw[←PQ];exact sA) (IQ c)
 rw[show(((l.length - 1:Nat):Int))=(l.length:Int) - 1 by omega] at hat
 have hw:=bH (n:=(l.length:Int) - 1)
 have hdl:l.dropLast=l.take (l.length - 1):=List.dropLast_eq_take
 have a0B:l.dropLast.length+1=l.length:=by simp;omega
 have hct:=SC p hp [] [] l.dropLast c aS0 hc0 (by omega) (by omega)
 have hcs:=fun(φ:AF) (d:Nat) (h:φ d=.int .i64 ((l.length:Int) - 1))=>aG8 (es:=l.map eC) (k:=l.length - 1) AD (h.trans (by congr 1;omega)) (by simp)
 rw[←List.map_take,←hdl] at hcs
 generalize hx:jV p l.dropLast c.goal c.rest c.σ c.N c.left=x at hinv hct
 obtain⟨⟨ck,cn,cs',cts⟩,SU,SQ,cσ,cN⟩:=c
 rw[N1] at hct hat
 simp only[bD] at hct
 simp only[aE,aA.aK,aB,seval,sO]
 refine bE (fun h=>?_) (fun h=>absurd hlp (by simpa using h))
 simp only[aE,aA.aK,hw,hat,aB,↓a9,seval,sO]
 cases x with
 | none=>
  have HZ:∀st,aD prog 265 [.slice (p.map aF),.agg [.fslice [],.fslice [],.slice (l.dropLast.map eC)],.agg [.int .i64 ck,.int .i64 cn,.str cs',.slice (cts.map Tm.av),.slice (SU.map dQ),.slice (SQ.map nv),.slice (cE cN cσ)]] st (fun r st'=>r=.tup [.agg [.slice [],.slice [],.slice (l.dropLast.map eC)],.bool false]∧st'=st):=fun st=>
   aD.nY ((hct st).mono fun _ _ h=>⟨h.2,h.1⟩)
  simp only at hinv
  refine wP [(0,1),(1,1),(3,1),(2,2),(4,1),(5,1),(6,2),(7,1),(8,1),(9,1),(10,1),(11,0),(12,0),(13,1)] [0,1,3,2,4,5,6,7,8,9,10,13] mixed ?_
  simp only[aA.aK,hcs,aB,seval,sO]
  refine LP HZ ?_
  simp only[aG,aA.aK,aB,seval,sO]
  intro b8 h8
  have h83:b8≠b3:=by rintro rfl;rw[aA.aK] at h8;cases h8
  rw[aA.aO _ _ h83] at h8
  have h84:b8≠b4:=by rintro rfl;rw[hW4] at h8;cases h8
  have hs8:st b8=none:=by rw[←hW,aA.aO _ _ h84] at h8;exact h8
  have h38:=dM h83
  have h48:=dM h84
  simp only[aG,h38,aA.aK,hcs,aB,seval,sO]
  refine⟨(l.dropLast,.fslice [],.fslice []),by simp only;omega,⟨by simp only;omega,fun c h=>hlc c (List.dropLast_subset _ h),.inr rfl,.inr rfl,hinv⟩,aP.drop (fun q=>?_) (by simp only[aB,seval])⟩
  by_cases q3:q=b3
  · subst q3;rw[aA.aK,aA.aK];simp
  rw[aA.aO _ _ q3,aA.aO _ _ q3]
  by_cases q8:q=b8
  · subst q8;rw[aA.aK,h8];simp
  rw[aA.aO _ _ q8,aA.aO _ _ q3]
  simp
 | some s=>
  have HZ:∀st,aD prog 265 [.slice (p.map aF),.agg [.fslice [],.fslice [],.slice (l.dropLast.map eC)],.agg [.int .i64 ck,.int .i64 cn,.str cs',.slice (cts.map Tm.av),.slice (SU.map dQ),.slice (SQ.map nv),.slice (cE cN cσ)]] st (fun r st'=>r=.tup [mX s,.bool true]∧st'=st):=fun st=>
   aD.nY ((hct st).mono fun _ _ h=>⟨h.2,h.1⟩)
  simp only at hinv
  simp only[mX] at HZ
  refine wP [(0,1),(1,1),(3,1),(2,2),(4,1),(5,1),(6,2),(7,1),(8,1),(9,1),(10,1),(11,0),(12,0),(13,1)] [0,1,3,2,4,5,6,7,8,9,10,13] mixed ?_
  simp only[aA.aK,hcs,aB,seval,sO]
  refine LP HZ ?_
  simp only[aG,aA.aK,aB,seval,sO]
  intro b8 h8
  have h83:b8≠b3:=by rintro rfl;rw[aA.aK] at h8;cases h8
  rw[aA.aO _ _ h83] at h8
  have h84:b8≠b4:=by rintro rfl;rw[hW4] at h8;cases h8
  have hs8:st b8=none:=by rw[←hW,aA.aO _ _ h84] at h8;exact h8
  have h38:=dM h83
  have h48:=dM h84
  simp only[hne,h48,hW4,aB,seval]
  refine⟨st,?_,rfl,?_⟩
  · have d1:aJ W st:=by rw[←hW];exact(aJ.refl _).aC M8
    exact((d1.aC h3).aC hs8).aC M8
  · rw[←hinv]
    simp only[jF,jW,q0,oZ,bF,bD]
    rfl
theorem aW2{φ:AF}{t:TypeId}{ag:Bool}{w:Nat}{y:Operand}{e:AV}{es:List AV}(hI:eI prog t=some (ag,w))(h:φ.eval y=.int .i64 1)(hw:∀x∈es,x.width=w):fJ prog φ t (.slice (e::es)) (some y) none none=some (.slice es):=by
 have hwo:oC (e::es) 1 w=true:=by
  unfold oC
  rw[J9]
  split
  · rename_i x hx
    simp [hw x (cQ hx)]
  · rfl
 unfold fJ
 rw[aH (by simp [nO])]
 simp only[l5,hI]
 rw[aH (by simp)]
 simp only[cU,h]
 rw[aN (by constructor<;>simp<;>omega)]
 simp [hwo]
theorem aN7(c:Int)(st:aA):aD prog 264 [.int .i64 c] st (fun r st'=>r=.int .i64 (tU c)∧st'=st):=by
 refine aD.done ?_
 refine wF [1000000] 1 func264 ntmps264 rfl rfl ?_
 intro _
 simp only[aB,seval]
 unfold tU
 refine bE (fun h=>?_) (fun h=>?_)
 · simp only[aB,seval]
   have h':c=2:=by simpa using h
   exact⟨by rw[aN h'];try rfl,aJ.refl _⟩
 rw[aH (show ¬c=2 by simpa using h)]
 simp only[aB,seval]
 refine bE (fun h=>?_) (fun h=>?_)
 · simp only[aB,seval]
   have h':c=3:=by simpa using h
   exact⟨by rw[aN h'];try rfl,aJ.refl _⟩
 rw[aH (show ¬c=3 by simpa using h)]
 simp only[aB,seval]
 refine bE (fun h=>?_) (fun h=>?_)
 · simp only[aB,seval]
   have h':c=4:=by simpa using h
   exact⟨by rw[aN h'];try rfl,aJ.refl _⟩
 rw[aH (show ¬c=4 by simpa using h)]
 simp only[aB,seval]
 exact⟨rfl,aJ.refl _⟩
def rQ(s0:RS)(x:RO)(r:AV):Prop:=match x with
 | .go s=>r=.tup [mX s,.int .i64 (-1)]
 | .fail=>r=.tup [mX s0,.int .i64 (-2)]
 | .stop e=>0≤e∧∃l1 l2 l3,r=.tup [.agg [.slice l1,.slice l2,.slice l3],.int .i64 e]
abbrev lY:=zi FL (zi aX (zi cD (zi cG (zi lK (zi cI (zi kT (zi cK (zi FN (zi O3 (zi FO (zi aIJ O4)))))))))))
theorem aOE{p:List Cl}(hp:∀c∈p,gX c∧c.2.length≤6)(hpl:p.length≤1048576){B:Nat}(hB:B+26≤524288)(goals:List RG)(σ:Sub)(N:Nat)(chs:List RC)(g:RG)(rest:List RG)(hgs:goals=g::rest)(h:oF p B ⟨goals,σ,N,chs⟩)(hK:wQ ⟨goals,σ,N,chs⟩)(st:aA) :
 aD prog 260 [.slice (p.map aF),.agg [.slice (goals.map dQ),.slice (cE N σ),.slice (chs.map eC)]] st (fun r st'=>st'=st∧rQ ⟨goals,σ,N,chs⟩ (iU p (fun _ l=>l) ⟨goals,σ,N,chs⟩ g rest) r):=by
 subst hgs
 obtain⟨hg,ho,hd,hgo,h0,hN,hgl,hcl,hch⟩:=h
 simp only at hg ho hd hgo h0 hN hgl hcl hch
 obtain⟨hgx,hg3⟩:=hgo g (by simp)
 have AX:∀x∈rest,bS N x.t∧x.t.k=3:=fun x hx=>hgo x (by simp [hx])
 have hkp:=hK.goals.2 g (by simp)
 simp only at hkp
 have hsm:=SB hg ho g.t hgx
 have hyk:(g.t.aS (rs σ)).k=3:=by rw[Tm.sH _ (by omega)];exact hg3
 have hfo:=aD0 hg ho hgx
 generalize hR:iU p (fun _ l=>l) ⟨g::rest,σ,N,chs⟩ g rest=R
 unfold iU at hR
 dsimp only at hR
 obtain⟨⟨gk,gn,gs',gts⟩,bJ⟩:=g
 simp only at hgx hg3 hkp hsm hyk hfo
 dsimp only at hR
 generalize (Tm.mk gk gn gs' gts).aS (rs σ)=y at *
 obtain⟨yk,yn,ys,yts⟩:=y
 obtain rfl:yk=3:=hyk
 have hat:dP prog 272 (.slice ((⟨.mk gk gn gs' gts,bJ⟩::rest).map dQ)) (.int .i64 0)=some (.pptr (dQ ⟨.mk gk gn gs' gts,bJ⟩)):=bR (av:=dQ) (l:=⟨.mk gk gn gs' gts,bJ⟩::rest) (i:=0) D3 rfl (BT _)
 have hs1:=fun(φ:AF) (y:Operand) (h:φ.eval y=.int .i64 1)=>aW2 (e:=dQ ⟨.mk gk gn gs' gts,bJ⟩) (es:=rest.map dQ) D3 h (by intro e he;simp only[cL] at he;obtain⟨t,_,rfl⟩:=he;exact BT t)
 rw[bF,yE] at hat
 rw[yE] at hs1
 rw[bF,yE]
 simp only[bY] at hsm
 refine aD.fin (aD.pN ?_)
 refine wF [1000000] 2 func260 ntmps260 rfl rfl ?_
 intro _
 simp only[aY,hat,hs1,aB,↓a9,seval,lY]
 intro b4 h4
 refine(hsm _).mono ?_
 rintro _ _ ⟨rfl,x,rfl,hx⟩
 generalize fF:jS (.mk 3 yn ys yts)=fit at *
 have D6:∀(o:AO) (r:AV) (x:RO),rQ ⟨⟨.mk gk gn gs' gts,bJ⟩::rest,σ,N,chs⟩ x (r.fin 0 [])→∃s2,aJ (st.aC b4 o) s2∧∃b l s0,s2=aU s0 b l∧(l≠[]→s0 b=none)∧(∀e∈l,e.bO=false)∧gN l∧s0=st∧rQ ⟨⟨.mk gk gn gs' gts,bJ⟩::rest,σ,N,chs⟩ x (r.fin b l):=fun o r x hr=>
  ⟨st,(aJ.refl _).aC h4,0,[],st,rfl,by simp,by simp,⟨0,by simp⟩,rfl,hr⟩
 simp only[aY,aQ,cO,cR,aB,↓a9,seval,lY]
 refine bE (fun h=>?_) (fun h=>?_)
 · have h':fit=false:=by simpa using h
   subst h'
   rw[aN rfl] at hR
   subst hR
   simp only[aG,aY,aB,seval,lY]
   exact D6 _ _ _ ⟨by decide,_,_,_,by simp only[fE,eW,fX,gY,bF,bD];rfl⟩
 obtain rfl:fit=true:=by simpa using h
 obtain rfl:=hx rfl
 simp only[bY]
 have hyo:=hfo rfl
 rw[aH (by simp)] at hR
 have H0:∀st,aD prog 196 [.agg [.int .i64 3,.int .i64 yn,.str ys,.slice (yts.map Tm.av)]] st (fun r st'=>r=.bool (HE (.mk 3 yn ys yts))∧st'=st):=fun st=>by
  have:=RY 3 yn ys yts st
  rw[bY] at this
  exact this
 have hbi:=fun st=>LN ys (yts.length:Int) st
 have aER:=fun st=>aNW p (.mk 3 yn ys yts) hpl st
 have aE4:=fun hb=>aMB (N:=N) h0 (by omega) hg ho yn ys yts hb (vW N (.mk 3 yn ys yts) (by show(3:Int)≠1;decide) hyo)
 have htr:=SC p hp
 simp only[bY] at aER aE4
 replace hR:(if HE (.mk 3 yn ys yts)=true then RO.go ⟨rest,σ,N,chs.take bJ⟩ else if isBuiltin ys (yts.length:Int)=true then(if(gM σ ys yts).1=0 then RO.go ⟨rest,(gM σ ys yts).2.1,N,chs⟩ else if(gM σ ys yts).1=1 then RO.fail else RO.stop (tU (gM σ ys yts).1)) else if pQ p (.mk 3 yn ys yts)= [] then RO.stop 8 else match jV p chs (.mk 3 yn ys yts) rest σ N (pQ p (.mk 3 yn ys yts)) with | some s'=>RO.go s' | none=>RO.fail)=R:=hR
 generalize hcu:HE (.mk 3 yn ys yts)=cu at *
 have hs2:=fun(φ:AF) (d:Nat) (h:φ d=.int .i64 (bJ:Int))=>aG8 (es:=chs.map eC) (k:=bJ) AD h (by simpa using hkp)
 rw[←List.map_take] at hs2
 refine(H0 _).to ?_
 simp only[aB,seval]
 refine bE (fun h=>?_) (fun h=>?_)
 · rw[aN h] at hR
   subst h hR
   simp only[aB,seval]
   refine wP [(0,1),(1,1),(3,1),(5,1),(2,2),(4,2),(6,2),(7,1),(8,1),(9,0),(10,1)] [0,1,3,5,2,4,6,7,8,10] mixed ?_
   simp only[aG,aY,hs2,aB,seval,lY]
   exact D6 _ _ _ (by simp only[fE,eW,fX,gY,bF,bD];rfl)
 rw[aH (by rw[h];simp)] at hR
 subst h
 simp only[aE,aB,seval,lY]
 refine(hbi _).to ?_
 simp only[aB,seval]
 refine bE (fun h=>?_) (fun h=>?_)
 · have aTO:=aE4 h
   rw[aN h] at hR
   simp only[aB,seval,lY]
   refine KV h0 (by omega) σ fun b hb hA0=>?_
   have hst:=aJ.aC (aJ.refl st) (o:=.cells [.fslice [],.fslice [],.fslice []]) h4
   generalize hW:st.aC b4 (.cells [.fslice [],.fslice [],.fslice []])=W at *
   have hW4:W b4=some (.cells [.fslice [],.fslice [],.fslice []]):=by rw[←hW];exact aA.aK _ _ _
   have hT:aJ (W.aC b (.cells ((cE N σ).flatMap AV.cells))) W:=(aJ.refl _).aC hb
   generalize W.aC b (.cells ((cE N σ).flatMap AV.cells))=T at *
   have hb4:b≠b4:=by rintro rfl;rw[hW4] at hb;cases hb
   simp only[aY,aB,seval,lY]
   refine(aTO b _ hA0).mono ?_
   rintro _ s2 ⟨rfl,hA,hk2⟩
   have aSZ:=aW9 σ ys yts
   generalize gM σ ys yts=S at *
   obtain⟨c,σ',tr⟩:=S
   simp only at hA aSZ ⊢
   dsimp only at hR
   have hDs:aJ s2 W:=by
    intro q
    have key:∀o,W q=some o→s2 q=some o:=fun o h=>hk2 q o ((hT q).2 o h) (by rintro rfl;rw[hb] at h;cases h)
    refine⟨fun h=>?_,key⟩
    cases hq:W q with
    | none=>rfl
    | some o=>rw[key o hq] at h;cases h
   have M7:=(hDs b4).2 _ hW4
   have H6:st b=none:=by rw[←hW,aA.aO _ _ hb4] at hb;exact hb
   have aDW:∀(o:AO) (r:AV) (x:RO),rQ ⟨⟨.mk gk gn gs' gts,bJ⟩::rest,σ,N,chs⟩ x (r.fin 0 [])→∃s3,aJ (s2.aC b4 o) s3∧∃b l s0,s3=aU s0 b l∧(l≠[]→s0 b=none)∧(∀e∈l,e.bO=false)∧gN l∧s0=st∧rQ ⟨⟨.mk gk gn gs' gts,bJ⟩::rest,σ,N,chs⟩ x (r.fin b l):=fun o r x hr=>
    ⟨st,(hDs.trans hst).aC h4,0,[],st,rfl,by simp,by simp,⟨0,by simp⟩,rfl,hr⟩
   simp only[aB,seval]
   refine bE (fun h=>?_) (fun h=>?_)
   · have hc0:c=0:=by simpa using h
     subst hc0
     rw[aN rfl] at hR
     subst hR
     simp only[aG,aY,M7,aB,seval,lY]
     have mQ:cE N σ'≠[]:=by intro e;have:=rX N σ';rw[e] at this;simp at this;omega
     refine⟨st.aC b (.cells ((cE N σ').flatMap AV.cells)),fun q=>?_,b,cE N σ',st,by rw[lO mQ],fun _=>H6,DP _ _,⟨4,zW _ _⟩,rfl,?_⟩
     · by_cases q4:q=b4
       · subst q4;rw[aA.aK,aA.aO _ _ (dM hb4),h4];simp
       rw[aA.aO _ _ q4]
       by_cases qb:q=b
       · subst qb;rw[aA.aK,show s2 q=_ from hA];simp
       rw[aA.aO _ _ qb]
       exact(hDs.trans hst) q
     · simp only[fE,eW,fX,gY,bF,bD,HN h0]
       rfl
   have hc0:c≠0:=by simpa using h
   rw[aH hc0] at hR
   simp only[aB,seval]
   refine bE (fun h=>?_) (fun h=>?_)
   · have hc1:c=1:=by simpa using h
     subst hc1
     rw[aN rfl] at hR
     subst hR
     simp only[aG,aY,M7,aB,seval,lY]
     exact aDW _ _ _ (by simp only[rQ,mX,bF,yE];simp only[fE,eW,fX,gY,bF,bD])
   have hc1:c≠1:=by simpa using h
   rw[aH hc1] at hR
   subst hR
   have fO:0≤tU c:=by unfold tU;split;omega;split;omega;split;omega;omega
   simp only[aB,seval]
   refine wP [(1,1),(0,2),(2,2),(3,0),(4,1)] [1,0,2,4] mixed ?_
   simp only[aY,aB,seval,lY]
   refine iK (aN7 c _) ?_
   simp only[aG,aY,M7,aB,seval,lY]
   exact aDW _ _ _ ⟨fO,_,_,_,by simp only[fE,eW,fX,gY,bF,bD];rfl⟩
 rw[aH (by rw[h];simp)] at hR
 simp only[aY,aB,seval,lY]
 refine(aER _).to ?_
 have hcx:vA p ⟨.mk 3 yn ys yts,rest,pQ p (.mk 3 yn ys yts),σ,N⟩:=⟨hg,ho,hd,hyo,AX,fun i hi=>by
  unfold pQ at hi
  exact wN.1 (List.mem_filter.1 hi).1,by simp only;simp only[aY] at hgl;omega,by
  have:=MM p (.mk 3 yn ys yts) p.length
  rw[←ML] at this
  simp only;omega⟩
 have AZ:=fun st=>htr (⟨.mk gk gn gs' gts,bJ⟩::rest) (cE N σ) chs _ hcx h0 (by simp only;omega) (by omega) st
 rw[bF,yE,N1] at AZ
 simp only at AZ
 generalize pQ p (.mk 3 yn ys yts)=left at *
 simp only[aE,aB,seval,lY]
 refine bE (fun h=>?_) (fun h=>?_)
 · have h':left= []:=by
    have:(left.length:Int)=0:=by simpa using h
    exact rM (by omega)
   rw[aN h'] at hR
   subst hR
   simp only[aG,aY,aB,seval,lY]
   exact D6 _ _ _ ⟨by decide,_,_,_,by simp only[fE,eW,fX,gY,bF,bD];rfl⟩
 have h':left≠[]:=by
  rintro rfl
  simp at h
 rw[aH h'] at hR
 generalize jV p chs (.mk 3 yn ys yts) rest σ N left=x at *
 simp only[aY,aB,seval,lY]
 cases x with
 | none=>
  simp only at hR AZ
  subst hR
  refine(AZ _).mono ?_
  rintro _ _ ⟨rfl,rfl⟩
  simp only[aG,aY,aB,↓a9,seval,lY]
  exact D6 _ _ _ (by simp only[rQ,mX,bF,yE];simp only[fE,eW,fX,gY,bF,bD])
 | some s=>
  simp only[mX] at hR AZ
  subst hR
  refine(AZ _).mono ?_
  rintro _ _ ⟨rfl,rfl⟩
  simp only[aG,aY,aB,↓a9,seval,lY]
  exact D6 _ _ _ (by simp only[fE,eW,fX,gY,bF,bD];rfl)
theorem aWU{N:Int}{t:Tm}(h:c8 N t):fS 0 t=t:=by
 have h1:fS 0 t=t.aS vr:=by
  unfold fS hY
  congr 1
  funext v
  congr 1
  simp
 rw[h1,aUU t h.2.1]
theorem QS(N:Nat):cE N Sub.none=List.replicate N zt:=by
 apply F9
 intro i
 by_cases h:i<N
 · rw[w6 N _ h,List.getElem?_replicate,aN h];try rfl
 · rw[rN (by rw[rX];omega),rN (by simp;omega)]
abbrev OQ:=zi aX (zi cI (zi FN FO))
theorem aOD(q:List Tm)(hq:∀t∈q,bS 26 t)(h6:q.length≤6)(st:aA):aD prog 258 [.slice (q.map Tm.av)] st (fun r st'=>r=mX (oX q)∧st'=st):=by
 have hgo:∀st,aD prog 262 [.slice (q.map Tm.av),.int .i64 0,.int .i64 0,.fslice []] st (fun r st'=>r=.slice ((oX q).goals.map dQ)∧st'=st):=fun st=>
  aD.nY ((SA q 0 0 [] hq h6 (by omega) (by simp) st).mono fun _ _ h=>⟨by
   rw[h.1]
   unfold oX
   rw[gI]
   congr 2
   exact y5 fun t ht=>by rw[aWU (hq t ht).1],h.2⟩)
 refine aD.kK (aD.fin (aD.pN ?_))
 refine wF [1000000,3] 1 func258 ntmps258 rfl rfl ?_
 intro _
 simp only[aB,seval,OQ]
 intro b2 h2
 simp only[tC,aG,AE,↓HJ,↓Int.cast_ofNat_Int,List.contains,List.elem,wK,oD,o7,↓reduceIte,reduceCtorEq,Nat.reduceEqDiff,Nat.reduceAdd,Nat.reduceLT,Nat.reduceBEq,OQ]
 refine⟨by omega,by omega,by omega,fun bb hbb=>?_⟩
 rw[show Int.toNat 26=26 from rfl,NE _ (by simp)]
 have hb2:bb≠b2:=by rintro rfl;rw[aA.aK] at hbb;cases hbb
 have HY:(List.replicate 26 [AV.int .i64 0,.int .i64 0,.str ⟨#[]⟩,.fslice []]).flatten=(cE 26 Sub.none).flatMap AV.cells:=by
  rw[QS];try rfl
 rw[HY]
 have h22:(st.aC b2 (AO.cells [AV.fslice [],AV.fslice [],AV.fslice []])) b2=some (AO.cells [AV.fslice [],AV.fslice [],AV.fslice []]):=aA.aK _ _ _
 have hD2:aJ (st.aC b2 (AO.cells [AV.fslice [],AV.fslice [],AV.fslice []])) st:=(aJ.refl _).aC h2
 intro b3 h3
 have h3b:b3≠bb:=by rintro rfl;rw[aA.aK] at h3;cases h3
 rw[aA.aO _ _ h3b] at h3
 have h32:b3≠b2:=by rintro rfl;rw[aA.aK] at h3;cases h3
 have hs3:st b3=none:=by rw[aA.aO _ _ h32] at h3;exact h3
 have hsb:st bb=none:=by rw[aA.aO _ _ hb2] at hbb;exact hbb
 refine(hgo _).to ?_
 have e1:=dM h3b
 have e2:=dM h32
 have e3:=dM hb2
 simp only[aG,e2,e3,aA.aK,aB,seval,OQ]
 have mQ:cE 26 Sub.none≠[]:=by rw[QS];simp
 refine⟨st.aC bb (.cells ((cE 26 Sub.none).flatMap AV.cells)),fun q'=>?_,bb,cE 26 Sub.none,st,by rw[lO mQ],fun _=>hsb,DP _ _,⟨4,zW _ _⟩,?_,aJ.refl _⟩
 · by_cases q2:q'=b2
   · subst q2;rw[aA.aK,aA.aO _ _ e3,h2];simp
   rw[aA.aO _ _ q2]
   by_cases q3:q'=b3
   · subst q3;rw[aA.aK,aA.aO _ _ h3b,hs3];simp
   simp only[aA.aO _ _ q3]
   by_cases qb:q'=bb
   · subst qb;rw[aA.aK,aA.aK];simp
   rw[aA.aO _ _ qb,aA.aO _ _ qb,aA.aO _ _ q2]
   simp
 · simp only[fE,gY,lD,bF,bD,HN (show 0<26 by omega)]
   rfl
theorem KR{S:aA}{b c:Nat}{l:List AV}{o:AO}(h:l≠[]→b≠c):(aU S b l).aC c o=aU (S.aC c o) b l:=by
 cases l with
 | nil=>rfl
 | cons x l=>rw[lO (by simp),lO (by simp),aA.rG _ _ _ (h (by simp))]
theorem qZ{p:List Cl}{cnd:Tm→List Nat→List Nat}{vars:List Int}{most fuel:Nat}{s:RS}(hg:s.goals= []):iI p cnd vars most fuel s=if most=0 then([],1) else match oJ s.σ vars with
 | none=>([],3)
 | some a=>match fG p s.chs.length s.chs with
  | none=>([a],0)
  | some s'=>(a::(iI p cnd vars (most - 1) fuel s').1,(iI p cnd vars (most - 1) fuel s').2):=by
 rw[iI.eq_def,hg]
 simp only
 split<;>rfl
theorem nX{p:List Cl}{cnd:Tm→List Nat→List Nat}{vars:List Int}{most fuel:Nat}{s:RS}{g:RG}{rest:List RG}(hg:s.goals=g::rest):iI p cnd vars most fuel s=if fuel=0 then([],2) else match iU p cnd s g rest with
 | .stop e=>([],e)
 | .go s'=>iI p cnd vars most (fuel - 1) s'
 | .fail=>match fG p s.chs.length s.chs with
  | none=>([],0)
  | some s'=>iI p cnd vars most (fuel - 1) s':=by
 rw[iI.eq_def,hg]
 simp only
 split<;>rfl
structure PW (p:List Cl) (vars:List Int) (most fuel:Nat) (T:List (List Tm)×Int) (s:RS) (out:List (List Tm)) (f B:Nat):Prop where
 tot:T=(out++(iI p (fun _ l=>l) vars (most - out.length) f s).1,(iI p (fun _ l=>l) vars (most - out.length) f s).2)
 len:out.length≤most
 ok:rO p B s
 bd:B+26*f≤8000
abbrev lJ:=zi FL (zi aX (zi cD (zi lK (zi cI (zi kT (zi FM (zi CB (zi FN FO))))))))
theorem aOC{p:List Cl}(hp:∀c∈p,gX c∧c.2.length≤6)(hpl:p.length≤20){q:List Tm}(hq:∀t∈q,bS 26 t∧t.k=3)(h6:q.length≤6){most fuel:Nat}(hm:most≤20)(hf:fuel≤300)(st:aA) :
 aD prog 254 [.slice (p.map aF),.slice (q.map Tm.av),.int .i64 (most:Int),.int .i64 (fuel:Int)] st (fun r st'=>r=.tup [.slice ((v9 p (fun _ l=>l) q most fuel).1.map eQ),.int .i64 (v9 p (fun _ l=>l) q most fuel).2]∧st'=st):=by
 have hnd:bU Tm.nodes q≤1099511627776:=by
  have:=ID q fun t ht=>(hq t ht).1.2
  omega
 have hva:=fun st=>LK q st (fun t ht=>Tm.r0 t (hq t ht).1.1.2.1) hnd
 have EJ:=fun st=>aOD q (fun t ht=>(hq t ht).1) h6 st
 have hv:∀v∈cB q [],0≤v∧v<26:=fun v hv=>by
  rcases (CC q [] fun t ht=>(hq t ht).1.1.2.1).1 hv with h | ⟨t,ht,h⟩
  · cases h
  · exact(hq t ht).1.1.2.2 v h
 have hvl:(cB q []).length≤1000:=by
  have h1:=yO q []
  have h2:=ID q fun t ht=>(hq t ht).1.2
  simp only[aW] at h1
  omega
 have aTP:=rO.start (p:=p) hq h6
 generalize hT:v9 p (fun _ l=>l) q most fuel=T
 unfold v9 at hT
 generalize cB q []=vars at *
 have hI0:PW p vars most fuel T (oX q) [] fuel 26:=⟨by rw[←hT];try rfl,f9 _,aTP,by omega⟩
 generalize oX q=s0 at *
 simp only[mX] at EJ
 refine aD.kK (aD.fin (aD.pN ?_))
 refine wF [1000000,12] 4 func254 ntmps254 rfl rfl ?_
 intro _
 simp only[aB,seval,lJ]
 refine(hva _).to ?_
 simp only[aB,seval]
 refine(EJ _).to ?_
 simp only[aG,aB,↓a9,seval,lJ]
 intro b12 h12
 refine gW (σ:=RS×List (List Tm)×Nat×Nat×Nat) [1000000,12] [0,2,11,12] (fun x=>PW p vars most fuel T x.1 x.2.1 x.2.2.1 x.2.2.2.1∧(x.2.1.map eQ≠[]→(st.aC b12 (.cells [.slice (x.1.goals.map dQ),.slice (cE x.1.N x.1.σ),.slice (x.1.chs.map eC)])) x.2.2.2.2=none))
  (fun x=>[(3,.int .i64 (x.2.2.1:Int)),(8,.fslice []),(9,.int .i64 0),(10,bQ 1 x.2.2.2.2 (x.2.1.map eQ))])
  (fun x=>aU (st.aC b12 (.cells [.slice (x.1.goals.map dQ),.slice (cE x.1.N x.1.σ),.slice (x.1.chs.map eC)])) x.2.2.2.2 (x.2.1.map eQ))
  (fun x=>(most - x.2.1.length)+x.2.2.1) (by decide +kernel) ⟨(s0,[],fuel,26,0),⟨hI0,by simp⟩,aP.mk (by simp only[jM,bD,aB,seval])⟩ ?_
 rintro⟨s,out,f,B,b⟩ ⟨⟨tot,hlen,hok,hbd⟩,hb⟩
 simp only at tot hlen hok hbd hb
 simp only
 have hbc:out.map eQ≠[]→b≠b12:=fun h=>by rintro rfl;have:=hb h;rw[aA.aK] at this;cases this
 have oQ:=zR hb (aA.aK st b12 (.cells [.slice (s.goals.map dQ),.slice (cE s.N s.σ),.slice (s.chs.map eC)]))
 have hlo:(out.map eQ).length=out.length:=aE _
 have aTA:∀l:List (List Tm),∀e∈l.map eQ,e.bO=false:=fun l e he=>by simp only[cL] at he;obtain⟨t,_,rfl⟩:=he;rfl
 have aFB:∀l:List (List Tm),∀e∈l.map eQ,e.width=1:=fun l e he=>by simp only[cL] at he;obtain⟨t,_,rfl⟩:=he;rfl
 have fin:∀(S:aA) (b:Nat) (l:List (List Tm)) (e:Int),(l.map eQ≠[]→S b=none)→aJ S st→T=(l,e)→∃s2,aJ (aU S b (l.map eQ)) s2∧∃b' l' s0,s2=aU s0 b' l'∧(l'≠[]→s0 b'=none)∧(∀e∈l',e.bO=false)∧gN l'∧(AV.tup [bQ 1 b (l.map eQ),.int .i64 e]).fin b' l'=.tup [.slice (T.1.map eQ),.int .i64 T.2]∧aJ s0 st:=fun S b l e h1 h2 h3=>
  ⟨_,aJ.refl _,b,l.map eQ,S,rfl,h1,aTA l,⟨1,aFB l⟩,by subst h3;simp only[eW,fX,jD,bF,bD],h2⟩
 have hSD:∀o,aJ (st.aC b12 o) st:=fun o=>(aJ.refl _).aC h12
 generalize hX:(AO.cells [.slice (s.goals.map dQ),.slice (cE s.N s.σ),.slice (s.chs.map eC)])=X at oQ hb
 have oQ:=oQ.trans (qP some hX.symm)
 have hun:prog.underlying 259=some (.slice 264):=by kernel_rfl
 have aEU:=DM (w:=1) (b:=b) (l:=out.map eQ) hun
 rw[hlo] at aEU
 cases hgs:s.goals with
 | nil=>
  rw[hgs] at hX oQ
  simp only[bD] at hX oQ
  rw[qZ hgs] at tot
  simp only[aW,aEU,oQ,aB,seval,lJ]
  refine bE (fun h=>?_) (fun h=>?_)
  · have h':out.length=most:=by simp at h;omega
    rw[aN (by omega)] at tot
    simp only[jL,aB,seval]
    exact fin _ b out 1 hb (hSD _) (by rw[tot,gI])
  have h':out.length<most:=by simp at h;omega
  rw[aH (by omega)] at tot
  simp only[oQ,aB,seval,lJ]
  refine(aN6 (N:=s.N) hok.a.g8 hok.a.ok vars (fun v h=>⟨(hv v h).1,by have:=(hv v h).2;have:=hok.l.1;omega⟩) hvl _).mono ?_
  rintro _ _ ⟨rfl,a,rfl,ha⟩
  cases vL:oJ s.σ vars with
  | none=>
   rw[vL] at tot
   simp only[Option.isSome_none,eQ]
   simp only[aW,aY,jL,aB,↓a9,seval,lJ]
   exact fin _ b out 3 hb (hSD _) (by rw[tot,gI])
  | some x=>
   obtain rfl:=ha x vL
   rw[vL] at tot
   simp only[Option.isSome_some,eQ] at tot ⊢
   simp only[aW,aY,aB,↓a9,seval,lJ]
   refine eE (P:=prog) (b:=b) (l:=out.map eQ) (xs:=[eQ a]) HH S3 S7 rfl rfl (gZ rfl rfl) (aFB out) hb (by simp only[aY,aW,hlo];omega) (by simp only[aY,aW,hlo];omega) (fun b' hb'=>?_)
   rw[show(out.map eQ)++ [eQ a]=(out++ [a]).map eQ by simp] at hb' ⊢
   have aD9:=(zR hb' (aA.aK st b12 X)).trans (qP some hX.symm)
   simp only[aW,aY,aD9,aB,seval,lJ]
   have HX:(f:Int)=(f:Int):=rfl
   refine(R8 hp (B:=B) (by omega) [] (cE s.N s.σ) s.chs hok.a.chl hok.a.chs _).mono ?_
   rintro r _ ⟨rfl,hr⟩
   cases hbk:fG p s.chs.length s.chs with
   | none=>
    rw[hbk] at hr tot
    simp only at hr tot
    obtain⟨l1,l2,l3,rfl⟩:=hr
    simp only[aW,aY,jL,aB,↓a9,seval,lJ]
    exact fin _ b' (out++ [a]) 0 hb' (hSD _) (by rw[tot];try rw[gI])
   | some s'=>
    rw[hbk] at hr tot
    simp only[mX] at hr tot
    subst hr
    simp only[aG,aW,aY,aD9,aB,↓a9,seval,lJ]
    rw[KR (fun h=>by rintro rfl;have:=hb' h;rw[aA.aK] at this;cases this),d3]
    have hne:(out++ [a]).map eQ≠[]→b'≠b12:=fun h=>by rintro rfl;have:=hb' h;rw[aA.aK] at this;cases this
    refine⟨(s',out++ [a],f,B,b'),by simp only[cX,aY,aW];omega,⟨⟨by rw[tot];try simp only[qE,gO,dI,cX,aY,aW,Nat.sub_sub];try rfl,by simp only[cX,aY,aW];omega,hok.back hp (by omega) hbk,by simp only;omega⟩,fun h=>by rw[aA.aO _ _ (hne h)];have:=hb' h;rwa [aA.aO _ _ (hne h)] at this⟩,aP.mk (by simp only[aB,seval])⟩
 | cons g rest=>
  rw[hgs] at hX oQ
  rw[nX hgs] at tot
  simp only[aE,aY,oQ,aB,seval,lJ]
  refine bE (fun h=>absurd h (by simp;omega)) (fun h=>?_)
  simp only[aB,seval]
  refine bE (fun h=>?_) (fun h=>?_)
  · have h':f=0:=by simp at h;omega
    rw[aN h'] at tot
    simp only[jL,aB,seval]
    exact fin _ b out 2 hb (hSD _) (by rw[tot,gI])
  have h':f≠0:=by simp at h;omega
  rw[aH h'] at tot
  have hw:=bH (n:=(f:Int) - 1)
  simp only[hw,aW,aY,oQ,aB,seval,lJ]
  have hst:=aOE hp (by omega) (B:=B) (by omega) s.goals s.σ s.N s.chs g rest hgs hok.a hok.k
  rw[hgs,bF] at hst
  refine(hst _).mono ?_
  rintro r _ ⟨rfl,hr⟩
  have hse:(⟨g::rest,s.σ,s.N,s.chs⟩:RS)=s:=by rw[←hgs]
  rw[hse] at hr
  cases gC:iU p (fun _ l=>l) s g rest with
  | go s'=>
   rw[gC] at hr tot
   simp only[rQ,mX] at hr tot
   subst hr
   simp only[aW,aY,AE,↓HJ,List.contains,List.elem,yT,↓reduceIte,Nat.reduceEqDiff,Nat.reduceAdd,Nat.reduceBEq,lJ]
   refine bE (fun h=>absurd h (by decide)) (fun h=>?_)
   simp only[aG,aW,aY,oQ,aB,seval,lJ]
   rw[KR hbc,d3]
   have HX:((f - 1:Nat):Int)=(f:Int) - 1:=by omega
   refine⟨(s',out,f - 1,B+26,b),by simp only;omega,⟨⟨tot,hlen,hok.step hp (by omega) (by omega) (cnd:=fun _ l=>l) (fun _ _=>⟨fun _ h=>h,c6 _⟩) hgs gC,by simp only;omega⟩,fun h=>by rw[aA.aO _ _ (hbc h)];have:=hb h;rwa [aA.aO _ _ (hbc h)] at this⟩,aP.mk (by simp only[HX,aB,seval])⟩
  | fail=>
   rw[gC] at hr tot
   simp only[rQ,mX] at hr tot
   subst hr
   simp only[aW,aY,AE,↓HJ,List.contains,List.elem,yT,↓reduceIte,Nat.reduceEqDiff,Nat.reduceAdd,Nat.reduceBEq,lJ]
   refine bE (fun h=>absurd h (by decide)) (fun h=>?_)
   simp only[aW,aY,oQ,aB,seval,lJ]
   have HX:((f - 1:Nat):Int)=(f:Int) - 1:=by omega
   refine(R8 hp (B:=B) (by omega) (g::rest) (cE s.N s.σ) s.chs hok.a.chl hok.a.chs _).mono ?_
   rintro r _ ⟨rfl,hr⟩
   cases hbk:fG p s.chs.length s.chs with
   | none=>
    rw[hbk] at hr tot
    simp only at hr tot
    obtain⟨l1,l2,l3,rfl⟩:=hr
    simp only[aW,aY,jL,aB,↓a9,seval,lJ]
    exact fin _ b (out) 0 hb (hSD _) (by rw[tot];try rw[gI])
   | some s'=>
    rw[hbk] at hr tot
    simp only[mX] at hr tot
    subst hr
    simp only[aG,aW,aY,oQ,aB,↓a9,seval,lJ]
    rw[KR (fun h=>by rintro rfl;have:=hb h;rw[aA.aK] at this;cases this),d3]
    have hne:(out).map eQ≠[]→b≠b12:=fun h=>by rintro rfl;have:=hb h;rw[aA.aK] at this;cases this
    refine⟨(s',out,f - 1,B,b),by simp only[];omega,⟨⟨by rw[tot];try simp only[qE,gO,dI,cX,aY,aW,Nat.sub_sub];try rfl,by simp only[];omega,hok.back hp (by omega) hbk,by simp only;omega⟩,fun h=>by rw[aA.aO _ _ (hne h)];have:=hb h;rwa [aA.aO _ _ (hne h)] at this⟩,aP.mk (by simp only[HX,aB,seval])⟩
  | stop e=>
   rw[gC] at hr tot
   simp only[rQ] at hr tot
   obtain⟨he0,l1,l2,l3,rfl⟩:=hr
   simp only[aW,aY,aB,↓a9,seval,lJ]
   refine bE (fun h=>?_) (fun h=>absurd he0 (by simpa using h))
   simp only[jL,aB,seval]
   exact fin _ b out e hb (hSD _) (by rw[tot,gI])
end Go.AW
namespace Go.AW

end Go.AW
namespace Go.AW
open Go.Proofs.Tryz
abbrev LT (c:Cl):Prop:=c.1.small=true∧c.2.length≤1048576∧∀x∈c.2,x.small=true
def nT(S:aA)(c b w:Nat)(hd tl:List AV)(l:List AV):aA:=aU (S.aC c (.cells (hd++bQ w b l::tl))) b l
section
variable {S:aA} {c b w:Nat} {hd tl l:List AV}
theorem EQ(hb:l≠[]→(S.aC c (.cells (hd++bQ w b l::tl))) b=none):nT S c b w hd tl l c=some (.cells (hd++bQ w b l::tl)):=by
 unfold nT
 by_cases h:l= []
 · rw[h,rT,aA.aK]
 · have h0:=hb h
   have hne:c≠b:=fun e=>by rw[←e,aA.aK] at h0;cases h0
   rw[tF hne,aA.aK]
theorem aFO{b':Nat}{l':List AV}(hb:l'≠[]→(S.aC c (.cells (hd++bQ w b l::tl))) b'=none) :
 (aU (S.aC c (.cells (hd++bQ w b l::tl))) b' l').aC c (.cells (hd++bQ w b' l'::tl))=nT S c b' w hd tl l'∧(l'≠[]→(S.aC c (.cells (hd++bQ w b' l'::tl))) b'=none)∧aU (S.aC c (.cells (hd++bQ w b l::tl))) b' l' c=some (.cells (hd++bQ w b l::tl)):=by
 have hne:l'≠[]→c≠b':=fun h e=>by have:=hb h;rw[←e,aA.aK] at this;cases this
 refine⟨?_,fun h=>?_,?_⟩
 · rw[nF hne,d3];try rfl
 · have:=hb h
   rw[aA.aO _ _ (dM (hne h))] at this ⊢
   exact this
 · by_cases h:l'= []
   · rw[h,rT,aA.aK]
   · rw[tF (hne h),aA.aK]
theorem aUY{x:Nat}(hb:l≠[]→(S.aC c (.cells (hd++bQ w b l::tl))) b=none)(hx:S x≠none)(hxc:x≠c):nT S c b w hd tl l x=S x:=by
 unfold nT
 by_cases h:l= []
 · rw[h,rT,aA.aO _ _ hxc]
 · have h0:=hb h
   have hne:x≠b:=fun e=>by rw[←e,aA.aO _ _ hxc] at h0;exact hx h0
   rw[tF hne,aA.aO _ _ hxc]
theorem PX{h:aZ}{st:aA}{a a':AV}(hv:∀v,VC h st a [v]→VC h st a' [v]):∀(hd:List AV) {tl:List AV} {vs:List Value},aR h st (hd++a::tl) vs→aR h st (hd++a'::tl) vs
 | [],tl,vs,x=>by
  simp only[dI,aR] at x ⊢
  obtain⟨c,r,e,x1,x2⟩:=x
  exact⟨c,r,e,hv c x1,x2⟩
 | y::hd,tl,vs,x=>by
  simp only[gO,aR] at x ⊢
  obtain⟨c,r,e,x1,x2⟩:=x
  exact⟨c,r,e,x1,PX hv hd x2⟩
theorem eP.aW6{φ:AF}{st:aA}{c:Nat}{hd tl:List AV}{a:AV}(hc:st c=some (.cells (hd++a::tl))):eP φ st φ (st.aC c (.cells (hd++a.soft::tl))):=fun h tmps S F=>by
 have T:bL h st h (st.aC c (.cells (hd++a.soft::tl))):=bL.of fun x hx=>by
  have:x≠c:=by rintro rfl;rw[hc] at hx;cases hx
  rw[aA.aO _ _ this];exact hx
 refine⟨fun x o hx=>?_,T,fun d=>(F d).mono T⟩
 by_cases e:x=c
 · subst e
   rw[aA.aK] at hx
   cases hx
   obtain⟨hl,c0,t,e1,e2,vs,e3,e4⟩:=S x _ hc
   refine⟨hl,c0,t,e1,?_,vs,e3,aR.mono T _ _ (PX (fun v hv=>VC.soft a [v] hv) hd e4)⟩
   simpa using e2
 · rw[aA.aO _ _ e] at hx
   obtain⟨hl,y⟩:=S x o hx
   exact⟨hl,kI.mono T rfl y⟩
theorem MN{es:List AV}:∀ {l:List AV},(∀a∈l,a.fz b es=a)→iR b es l=l
 | [],_=>rfl
 | a::l,h=>by rw[iR,h a (by simp),MN fun x hx=>h x (by simp [hx])]
theorem aUH{φ:AF}(hb:l≠[]→(S.aC c (.cells (hd++bQ w b l::tl))) b=none)(hj:∀e∈l,e.bO=false)(hE:gN l)
 (hh:∀a∈hd++tl,∀b es,a.fz b es=a) :
 eP φ (nT S c b w hd tl l) φ (S.aC c (.cells (hd++ .slice l::tl))):=by
 have hcc:=EQ hb
 cases l with
 | nil=>
  have:=eP.aW6 (φ:=φ) hcc
  unfold nT at this ⊢
  simp only[rT,d3] at this
  exact this
 | cons y l=>
  have h0:=hb (by simp)
  have hne:b≠c:=by rintro rfl;rw[aA.aK] at h0;cases h0
  have h1:nT S c b w hd tl (y::l) b=some (.cells ((y::l).flatMap AV.cells)):=by unfold nT;simp only[aU];exact aA.aK _ _ _
  have:=eP.aSK (φ:=φ) hne h1 hj hE hcc
  have e:(nT S c b w hd tl (y::l)).erase b=S.aC c (.cells (hd++bQ w b (y::l)::tl)):=by unfold nT;simp only[aU];exact aA.xC _ _ _ h0
  have f1:iR b (y::l) hd=hd:=MN fun a ha=>hh a (by simp [ha]) _ _
  have f2:iR b (y::l) tl=tl:=MN fun a ha=>hh a (by simp [ha]) _ _
  have f3:(bQ w b (y::l)).fz b (y::l)=.slice (y::l):=by simp [bQ,AV.fz]
  rw[e,d3,xH,pA,bF,←xH,←xH,f1,f2,f3] at this
  exact this
end
abbrev wC:=zi aX (zi cI (zi cK m9))
theorem z4(cl:Cl)(h1:cl.1.small=true)(h2:cl.2.length≤1048576)(h3:∀x∈cl.2,x.small=true)(st:aA):aD prog 62 [aF cl] st (fun r st'=>r=aF cl∧st'=st):=by
 obtain⟨⟨k,n,s,ks⟩,ts⟩:=cl
 have hhd:=fun st=>DT (.mk k n s ks) st h1
 simp only[bY] at hhd
 have IH:=fun(x:Tm) (hx:x∈ts) st=>DT x st (h3 x hx)
 have hlen:ts.length≤1048576:=h2
 refine aD.kK (aD.fin ?_)
 simp only[iO]
 refine wF [] 1 func62 ntmps62 rfl rfl ?_
 simp only[eF,AV.fits,eN,aE]
 intro ⟨_,_,_,_,hl,_⟩
 simp only[aB,seval,wC]
 intro b2 hb2
 refine(hhd _).to ?_
 simp only[aG,aB,seval,wC]
 intro c hc
 have hne:c≠b2:=by rintro rfl;rw[aA.aK] at hc;cases hc
 have hn2:st c=none:=by rw[aA.aO st _ hne] at hc;exact hc
 have oS:b2≠c:=dM hne
 refine d7 (σ:=Nat) [] [1,2,3] ts (fun i b=>(((ts.take i).map (fun y=>y)).map Tm.av≠[]→(aA.aC (st.aC b2 (.cells [AV.int .i64 0,AV.int .i64 0,AV.str ⟨#[]⟩,AV.fslice [],AV.fslice []])) c (.cells ([AV.int .i64 k,AV.int .i64 n,AV.str s,AV.slice (ks.map Tm.av)]++ [bQ 4 b (((ts.take i).map (fun y=>y)).map Tm.av)]))) b=none)) (fun i b=>[(4,.int .i64 i)]) (fun i b=>nR (st.aC b2 (.cells [AV.int .i64 0,AV.int .i64 0,AV.str ⟨#[]⟩,AV.fslice [],AV.fslice []])) c b [AV.int .i64 k,AV.int .i64 n,AV.str s,AV.slice (ks.map Tm.av)] (((ts.take i).map (fun y=>y)).map Tm.av)) (by decide +kernel)
  ⟨0,fun h=>absurd rfl h,aP.mk (by simp only[aB,↓a9,seval])⟩ (fun i x b hx hlt bN hdr hinv=>?_) (fun b hge hinv=>?_)
 case refine_1=>
  have hw:=bH (n:=(i:Int)+1)
  have cS:(((ts.take i).map (fun y=>y)).map Tm.av).length=i:=by simp only[aE,dE];omega
  have htk:(ts.take (i+1)).map (fun y=>y)=(ts.take i).map (fun y=>y)++ [(fun y=>y) x]:=by rw[eD,hx];simp
  have hbo:=mS hinv
  simp only[aE,bN,aB,seval,wC]
  refine wP [(0,1),(2,1),(4,1),(1,2),(3,2),(5,1),(6,2),(7,2),(8,1),(9,0),(10,1),(11,0)] [0,2,4,1,3,5,6,7,8,10] mixed ?_
  simp only[bR (av:=Tm.av) cF hx (aQ x),bM,aQ,hbo,tG,jK,aB,seval,wC]
  refine iK (IH x (cQ hx) _) ?_
  simp only[bM,aQ,cR,jK,aB,seval,wC]
  refine eE cF kL kM rfl rfl (gZ (aQ _) (cO _)) (gF _) hinv (by simp only[cS,aY,aW];omega) (by simp only[cS,aY,aW];omega) (fun b' hb'=>?_)
  rw[show(((ts.take i).map (fun y=>y)).map Tm.av)++ [((fun y=>y) x).av]=((ts.take (i+1)).map (fun y=>y)).map Tm.av by rw[htk];simp] at hb' ⊢
  obtain⟨g1,g2,g3⟩:=xS hb'
  simp only[gO,dI] at g1 g3
  simp only[g3,nG,iM,aG,g1,hw,aG,aB,seval,wC]
  exact⟨b',g2,aP.mk (by simp only[aB,seval])⟩
 have hbo:=mS hinv
 rw[dR] at hinv hbo ⊢
 simp only[aE,hge,aB,seval,wC]
 simp only[hbo,aG,aB,seval,wC]
 have hS:(st.aC b2 (.cells [AV.int .i64 0,AV.int .i64 0,AV.str ⟨#[]⟩,AV.fslice [],AV.fslice []])) b2≠none:=by rw[aA.aK];simp
 have h1:=sE hinv hS oS
 rw[aA.aK] at h1
 simp only[h1,iM,aB,seval]
 obtain⟨h2,h3⟩:=vS (o:=.cells [AV.int .i64 k,AV.int .i64 n,AV.str s,AV.slice (ks.map Tm.av),bQ 4 b ((ts.map fun y=>y).map Tm.av)]) hinv hS oS
 refine⟨b,_,_,h2,h3,n8 _,⟨4,gF _⟩,?_,?_⟩
 · simp only[fE,bF,bD,fX,qQ,gY,kY,List.map_id']
 · exact(((aJ.refl _).aC hb2).aC hn2).aC hb2
structure Ss where
 p:List Cl
 q:List Tm
 quota:Int
 used:Int
 sent:Int
 fin:Int
def kG(s:Ss):AV:=.agg [.slice (s.p.map aF),.slice (s.q.map Tm.av),.int .i64 s.quota,.int .i64 s.used,.int .i64 s.sent,.int .i64 s.fin]
abbrev aO6 (c:Cl):Prop:=c.1.small=true∧c.2.length≤1048576∧∀x∈c.2,x.small=true
theorem z9(l:List Cl):∀e∈l.map aF,e.width=5:=by intro e h;simp only[cL] at h;obtain⟨t,_,rfl⟩:=h;exact jC t
theorem G9(l:List Cl):∀e∈l.map aF,e.bO=false:=by intro e h;simp only[cL] at h;obtain⟨t,_,rfl⟩:=h;exact D0 t
abbrev q9:=zi aX (zi lK (zi cI (zi cK (zi m9 uW))))
theorem LC(s:Ss)(hp:s.p.length≤1048576)(hps:∀c∈s.p,aO6 c)(hq:s.q.length≤1048576)(hqs:∀t∈s.q,t.small=true)(st:aA):aD prog 236 [kG s] st (fun r st'=>r=kG s∧st'=st):=by
 obtain⟨ps,qs,i0,i1,i2,i3⟩:=s
 simp only at hp hps hq hqs
 refine aD.kK (aD.fin ?_)
 simp only[kG]
 refine wF [1000000,3] 1 func236 ntmps236 rfl rfl ?_
 intro _
 simp only[aG,aB,↓a9,seval,q9]
 intro b2 hb2 c hc
 have hne:c≠b2:=by rintro rfl;rw[aA.aK] at hc;cases hc
 have hn2:st c=none:=by rw[aA.aO st _ hne] at hc;exact hc
 have oS:b2≠c:=dM hne
 refine d7 (σ:=Nat) [1000000,3] [1,2,3] ps
  (fun i b=>((ps.take i).map aF≠[]→((st.aC b2 (.cells [.fslice [],.fslice [],.int .i64 0,.int .i64 0,.int .i64 0,.int .i64 0])).aC c (.cells ([]++bQ 5 b ((ps.take i).map aF):: [.fslice [],.int .i64 i0,.int .i64 i1,.int .i64 i2,.int .i64 i3]))) b=none))
  (fun i _=>[(4,.int .i64 i)]) (fun i b=>nT (st.aC b2 (.cells [.fslice [],.fslice [],.int .i64 0,.int .i64 0,.int .i64 0,.int .i64 0])) c b 5 [] [.fslice [],.int .i64 i0,.int .i64 i1,.int .i64 i2,.int .i64 i3] ((ps.take i).map aF)) (by decide +kernel)
  ⟨0,fun h=>absurd rfl h,aP.mk (by simp only[aB,↓a9,seval])⟩ (fun i x b hx hlt bN hdr hinv=>?_) (fun b hge hinv=>?_)
 · have hw:=bH (n:=(i:Int)+1)
   have cS:((ps.take i).map aF).length=i:=by simp only[aE,dE];omega
   have htk:(ps.take (i+1)).map aF=(ps.take i).map aF++ [aF x]:=by rw[eD,hx];simp
   have hbo:=EQ hinv
   simp only[dI] at hbo
   have fP:=cQ hx
   obtain⟨s1,s2,s3⟩:=hps x fP
   have hat:=bR (av:=aF) oN hx (jC x)
   simp only[bN,aE,aB,seval,q9]
   refine wP [(0,1),(2,1),(4,1),(1,2),(3,2),(5,1),(6,2),(7,2),(8,1),(9,0),(10,1),(11,0)] [0,2,4,1,3,5,6,7,8,10] mixed ?_
   simp only[hat,rY,jC,hbo,tG,aB,seval,q9]
   refine iK (z4 x s1 s2 s3 _) ?_
   simp only[rY,jC,D0,aB,seval,q9]
   refine eE oN D1 D5 rfl rfl (gZ (jC _) (G8 _)) (z9 _) hinv (by simp only[cS,aY,aW];omega) (by simp only[cS,aY,aW];omega) (fun b' hb'=>?_)
   rw[←htk] at hb' ⊢
   obtain⟨g1,g2,g3⟩:=aFO hb'
   simp only[dI] at g1 g3
   simp only[g3,nG,iM,g1,hw,aG,aB,seval,q9]
   exact⟨b',g2,aP.mk (by simp only[aB,seval])⟩
 · rw[dR] at hinv ⊢
   have hbo:=EQ hinv
   simp only[dI] at hbo
   simp only[hge,aE,aB,seval,q9]
   refine d7 (σ:=Nat) [1000000,3] [1,2,3] qs
    (fun i b=>((qs.take i).map Tm.av≠[]→((st.aC b2 (.cells [.fslice [],.fslice [],.int .i64 0,.int .i64 0,.int .i64 0,.int .i64 0])).aC c (.cells ([.slice (ps.map aF)]++bQ 4 b ((qs.take i).map Tm.av):: [.int .i64 i0,.int .i64 i1,.int .i64 i2,.int .i64 i3]))) b=none))
    (fun i _=>[(5,.int .i64 i)]) (fun i b=>nT (st.aC b2 (.cells [.fslice [],.fslice [],.int .i64 0,.int .i64 0,.int .i64 0,.int .i64 0])) c b 4 [.slice (ps.map aF)] [.int .i64 i0,.int .i64 i1,.int .i64 i2,.int .i64 i3] ((qs.take i).map Tm.av)) (by decide +kernel)
    ⟨0,fun h=>absurd rfl h,?_⟩ (fun i x b hx hlt bN hdr hinv=>?_) (fun b hge hinv=>?_)
   · exact(aUH hinv (G9 _) ⟨5,z9 _⟩ (by intro a ha;simp only[dI,cT,dF,dS] at ha;rcases ha with rfl | rfl | rfl | rfl | rfl<;>intro _ _<;>rfl)).trans (eP.iQ (by simp only[aB,↓a9,seval]))
   · have hw:=bH (n:=(i:Int)+1)
     have cS:((qs.take i).map Tm.av).length=i:=by simp only[aE,dE];omega
     have htk:(qs.take (i+1)).map Tm.av=(qs.take i).map Tm.av++ [x.av]:=by rw[eD,hx];simp
     have hbo:=EQ hinv
     simp only[gO,dI] at hbo
     have hat:=bR (av:=Tm.av) cF hx (aQ x)
     simp only[bN,aE,aB,seval,q9]
     refine wP [(0,1),(2,1),(4,1),(1,2),(3,2),(5,1),(6,2),(7,2),(8,1),(9,0),(10,1),(11,0)] [0,2,4,1,3,5,6,7,8,10] mixed ?_
     simp only[hat,bM,aQ,hbo,tG,aB,seval,q9]
     refine iK (DT x _ (hqs x (cQ hx))) ?_
     simp only[bM,aQ,cR,aB,seval,q9]
     refine eE cF kL kM rfl rfl (gZ (aQ _) (cO _)) (gF _) hinv (by simp only[cS,aY,aW];omega) (by simp only[cS,aY,aW];omega) (fun b' hb'=>?_)
     rw[←htk] at hb' ⊢
     obtain⟨g1,g2,g3⟩:=aFO hb'
     simp only[gO,dI] at g1 g3
     simp only[g3,nG,iM,g1,hw,aG,aB,seval,q9]
     exact⟨b',g2,aP.mk (by simp only[aB,seval])⟩
   · rw[dR] at hinv ⊢
     have hbo:=EQ hinv
     simp only[gO,dI] at hbo
     have h2o:=aUY (x:=b2) hinv (by rw[aA.aK];simp) oS
     rw[aA.aK] at h2o
     simp only[hge,aE,hbo,h2o,iM,aG,aB,seval,q9]
     have aEI:qs.map Tm.av≠[]→b2≠b:=fun h e=>by
      have:=hinv h
      rw[←e,aA.aO _ _ oS,aA.aK] at this
      cases this
     refine⟨b,qs.map Tm.av,_,by unfold nT;rw[nF aEI],fun h=>by rw[aA.aO _ _ (dM (aEI h))];exact hinv h,n8 _,⟨4,gF _⟩,by simp only[fE,bF,bD,fX,gY,kY],?_⟩
     exact(((aJ.refl _).aC hb2).aC hn2).aC hb2
def opens(p:List Cl)(q:List Tm)(k:Int):Bool:=gK p&&eR q&&(decide (0≤k)&&decide (k≤300))
def sJ(p:List Cl)(q:List Tm)(k:Int):Ss:=if opens p q k=true then⟨p,q,k,0,0,-1⟩ else⟨[],[],0,0,0,0⟩
theorem IM{p:List Cl}(h:gK p=true):p.length≤20∧∀c∈p,LT c:=by
 simp only[gK,bG,bK,dD] at h
 refine⟨h.1,fun c hc=>?_⟩
 have:=h.2 c hc
 simp only[lA,bG,bK,dD] at this
 refine⟨Tm.PJ this.1.1,by omega,fun x hx=>?_⟩
 have hg:=this.2.2 x hx
 cases x
 simp only[Tm.goal,bG] at hg
 exact Tm.PJ hg.1
theorem NW{q:List Tm}(h:eR q=true):q.length≤6∧∀t∈q,t.small=true:=by
 simp only[eR,bG,bK,dD] at h
 refine⟨h.1,fun x hx=>?_⟩
 have hg:=h.2 x hx
 cases x
 simp only[Tm.goal,bG] at hg
 exact Tm.PJ hg.1
abbrev yI:=zi aX (zi cD (zi lK (zi cI uW)))
theorem aOQ(p:List Cl)(q:List Tm)(k:Int)(st:aA):aD prog 241 [.slice (p.map aF),.slice (q.map Tm.av),.int .i64 k] st (fun r st'=>r=.tup [kG (sJ p q k),.bool (opens p q k)]∧st'=st):=by
 refine aD.done ?_
 refine wF [1000000] 3 func241 ntmps241 rfl rfl ?_
 intro _
 simp only[aB,seval,yI]
 intro b hb
 have pR:opens p q k=false→∀o,(AV.tup [.agg [.fslice [],.fslice [],.int .i64 0,.int .i64 0,.int .i64 0,.int .i64 0],.bool false]).soft=.tup [kG (sJ p q k),.bool (opens p q k)]∧aJ (st.aC b o) st:=fun h o=>by
  refine⟨?_,(aJ.refl _).aC hb⟩
  unfold sJ
  rw[h]
  simp only[kG,jF,jW,jG,q0,mY,bF,bD,iA,eA]
 refine(G4 p _).to ?_
 simp only[aB,seval]
 refine c5 (fun h=>?_) (fun h=>?_)
 case refine_2=>
  simp only[h,aG,aB,seval,yI]
  exact pR (by simp at h;simp [opens,h]) _
 simp only[rK] at h
 simp only[h,aB,seval]
 refine(DW q _).to ?_
 simp only[aB,seval]
 refine c5 (fun h2=>?_) (fun h2=>?_)
 case refine_2=>
  simp only[h2,aG,aB,seval,yI]
  exact pR (by simp at h2;simp [opens,h2]) _
 have hq:eR q=true:=by simpa using h2
 simp only[h2,aB,seval]
 refine c5 (fun h3=>?_) (fun h3=>?_)
 case refine_2=>
  simp only[h3,aG,aB,seval,yI]
  exact pR (by simp at h3;simp only[opens,h,hq,dH];rw[show decide (0≤k)=false from eH (by omega)];try rfl) _
 simp only[h3,aB,seval]
 refine bE (fun h4=>?_) (fun h4=>?_)
 · simp only[aG,aB,seval,yI]
   exact pR (by simp at h4;simp only[opens,h,hq,dH];rw[show decide (k≤300)=false from eH (by omega)];simp) _
 simp only[aB,seval,yI]
 have hok:opens p q k=true:=by
  have h3':0≤k:=by simp at h3;omega
  have h4':k≤300:=by simp at h4;omega
  simp [opens,h,hq,h3',h4']
 have hss:sJ p q k=⟨p,q,k,0,0,-1⟩:=by unfold sJ;rw[aN hok]
 obtain⟨p1,p2⟩:=IM h
 obtain⟨q1,q2⟩:=NW hq
 have hc:=fun st=>LC ⟨p,q,k,0,0,-1⟩ (by simp only;omega) p2 (by simp only;omega) q2 st
 simp only[kG] at hc
 refine(hc _).to ?_
 simp only[aG,aB,seval,yI]
 rw[hss,hok]
 exact⟨by simp only[kG,jF,jW,jG,q0,oZ,bF,bD],(aJ.refl _).aC hb⟩
def nZ(p:List Cl)(q:List Tm)(most fuel:Int):Bool:=gK p&&(eR q&&(decide (0≤most)&&(decide (most≤20)&&(decide (0≤fuel)&&decide (fuel≤300)))))
noncomputable def lI(p:List Cl)(cnd:Tm→List Nat→List Nat)(q:List Tm)(most fuel:Int):List (List Tm)×Int:=if nZ p q most fuel=true then v9 p cnd q most.toNat fuel.toNat else([],9)
theorem aVV{p:List Cl}(h:gK p=true):p.length≤20∧∀c∈p,gX c∧c.2.length≤6:=by
 simp only[gK,bG,bK,dD] at h
 refine⟨h.1,fun c hc=>⟨aO4 (h.2 c hc),?_⟩⟩
 have:=h.2 c hc
 simp only[lA,bG,bK,dD] at this
 exact this.2.1
theorem IP{q:List Tm}(h:eR q=true):q.length≤6∧∀t∈q,bS 26 t∧t.k=3:=by
 simp only[eR,bG,bK,dD] at h
 refine⟨h.1,fun t ht=>?_⟩
 have hg:=h.2 t ht
 have hk:t.valid=true∧t.k=3:=by
  obtain⟨k,n,s,ts⟩:=t
  simp only[Tm.goal,bG] at hg
  refine⟨hg.1,?_⟩
  have:=hg.2
  simp only[AM,uM,kV,bG,bK] at this
  simp only[Tm.k]
  rcases this with (h | h) | h<;>first | exact h.1 | exact h.1.1 | exact h.1.1.1
 exact⟨⟨Tm.FW hk.1,Tm.qA hk.1⟩,hk.2⟩
end Go.AW
namespace Go.AW
theorem aV2(p:List Cl)(cnd:Tm→List Nat→List Nat)(vars:List Int)(k:Nat):∀(n most f:Nat) (s:RS),most+f≤n →
 ((iI p cnd vars most f s).2≠2→iI p cnd vars most (f+k) s=iI p cnd vars most f s)∧(iI p cnd vars most f s).1 <+: (iI p cnd vars most (f+k) s).1:=by
 intro n
 induction n with
 | zero=>
  intro most f s hn
  obtain rfl:most=0:=by omega
  obtain rfl:f=0:=by omega
  cases hg:s.goals with
  | nil=>rw[qZ hg,qZ hg];simp
  | cons g rest=>rw[nX (fuel:=0) hg];simp
 | succ n ih=>
  intro most f s hn
  cases hg:s.goals with
  | nil=>
   rw[qZ hg,qZ hg]
   by_cases hm:most=0
   · rw[aN hm,aN hm];simp
   rw[aH hm,aH hm]
   cases ha:oJ s.σ vars with
   | none=>simp
   | some a=>
    simp only
    cases hb:fG p s.chs.length s.chs with
    | none=>simp
    | some s'=>
     obtain⟨h1,h2⟩:=ih (most - 1) f s' (by omega)
     simp only
     refine⟨fun h=>by rw[h1 h],?_⟩
     rw[List.cons_prefix_cons]
     exact⟨rfl,h2⟩
  | cons g rest=>
   by_cases hf:f=0
   · subst hf
     rw[nX (fuel:=0) hg];simp
   rw[nX hg,nX hg,aH hf,aH (by omega)]
   cases hst:iU p cnd s g rest with
   | stop e=>simp
   | go s'=>
    have:=ih most (f - 1) s' (by omega)
    rw[show f - 1+k=f+k - 1 by omega] at this
    exact this
   | fail=>
    simp only
    cases hb:fG p s.chs.length s.chs with
    | none=>simp
    | some s'=>
     have:=ih most (f - 1) s' (by omega)
     rw[show f - 1+k=f+k - 1 by omega] at this
     exact this
theorem N5{p:List Cl}{cnd:Tm→List Nat→List Nat}{q:List Tm}{most fuel:Int}(h:nZ p q most fuel=true):lI p cnd q most fuel=v9 p cnd q most.toNat fuel.toNat:=by
 unfold lI
 rw[aN h]
theorem IW{p:List Cl}{q:List Tm}{most fuel:Int}:nZ p q most fuel=true↔(gK p=true∧eR q=true∧0≤most∧most≤20∧0≤fuel∧fuel≤300):=by
 simp only[nZ,bG,bK]
theorem aV4{p:List Cl}{cnd:Tm→List Nat→List Nat}{s:RS}{g:RG}{rest:List RG}{e:Int}(h:iU p cnd s g rest=.stop e):e≠9:=by
 unfold iU at h
 intro he
 subst he
 repeat' split at h
 all_goals first | (cases h;done) | (injection h with h;unfold tU at h;repeat' split at h;all_goals omega) | (injection h with h;omega)
theorem aVZ(p:List Cl)(cnd:Tm→List Nat→List Nat)(vars:List Int):∀(n most f:Nat) (s:RS),most+f≤n→(iI p cnd vars most f s).2≠9∧(iI p cnd vars most f s).1.length≤most:=by
 intro n
 induction n with
 | zero=>
  intro most f s hn
  obtain rfl:most=0:=by omega
  obtain rfl:f=0:=by omega
  cases hg:s.goals with
  | nil=>rw[qZ hg];simp
  | cons g rest=>rw[nX (fuel:=0) hg];simp
 | succ n ih=>
  intro most f s hn
  cases hg:s.goals with
  | nil=>
   rw[qZ hg]
   by_cases hm:most=0
   · rw[aN hm];simp
   rw[aH hm]
   cases ha:oJ s.σ vars with
   | none=>simp
   | some a=>
    simp only
    cases hb:fG p s.chs.length s.chs with
    | none=>simp;omega
    | some s'=>
     obtain⟨h1,h2⟩:=ih (most - 1) f s' (by omega)
     simp only[aY]
     exact⟨h1,by omega⟩
  | cons g rest=>
   by_cases hf:f=0
   · subst hf
     rw[nX (fuel:=0) hg];simp
   rw[nX hg,aH hf]
   cases hst:iU p cnd s g rest with
   | stop e=>exact⟨aV4 hst,f9 _⟩
   | go s'=>exact ih most (f - 1) s' (by omega)
   | fail=>
    simp only
    cases hb:fG p s.chs.length s.chs with
    | none=>simp
    | some s'=>exact ih most (f - 1) s' (by omega)
theorem aXD{p:List Cl}{cnd:Tm→List Nat→List Nat}{q:List Tm}{most fuel:Int}(h:nZ p q most fuel=true):((lI p cnd q most fuel).1.length:Int)≤most:=by
 rw[N5 h]
 have h1:=(aVZ p cnd (cB q []) _ most.toNat fuel.toNat (oX q) (c6 _)).2
 have h2:=(IW.1 h).2.2.1
 unfold v9
 omega
theorem aSM{p:List Cl}{cnd:Tm→List Nat→List Nat}{q:List Tm}{most fuel xG:Int}(h:nZ p q most fuel=true)(hf:fuel≤xG)(hf':xG≤300) :
 ((lI p cnd q most fuel).2≠2→lI p cnd q most xG=lI p cnd q most fuel)∧(lI p cnd q most fuel).1 <+: (lI p cnd q most xG).1:=by
 obtain⟨h1,h2,h3,h4,h5,h6⟩:=IW.1 h
 have h':nZ p q most xG=true:=IW.2 ⟨h1,h2,h3,h4,by omega,by omega⟩
 rw[N5 h,N5 h']
 obtain⟨k,hk⟩:∃k:Nat,xG.toNat=fuel.toNat+k:=⟨xG.toNat - fuel.toNat,by omega⟩
 rw[hk]
 exact aV2 p cnd (cB q []) k _ most.toNat fuel.toNat (oX q) (c6 _)
theorem aVX{q:List Tm}(hq:∀t∈q,bS 26 t∧t.k=3):(∀v∈cB q [],0≤v∧v<26)∧(cB q []).length≤26:=by
 have hv:∀v∈cB q [],0≤v∧v<26:=fun v hv=>by
  rcases (CC q [] fun t ht=>(hq t ht).1.1.2.1).1 hv with h | ⟨t,ht,h⟩
  · cases h
  · exact(hq t ht).1.1.2.2 v h
 refine⟨hv,?_⟩
 have hnd:=JT q [] (fun t ht=>Tm.r0 t (hq t ht).1.1.2.1) qF
 exact aFU (N:=26) hnd fun n hn=>hv n hn
def pr(x y:Tm):Tm:=.mk 3 0 ⟨#[46]⟩ [x,y]
section
variable (p:List Cl)
variable {p}
end
end Go.AW

namespace Go.AW
open Go.Proofs.Tryz
open Go.Shelf
set_option linter.unusedSimpArgs false
set_option linter.unusedVariables false
set_option maxRecDepth 100000
end Go.AW

namespace Go.AW
open Go.Proofs.Tryz

def sZ(T:Tm→ByteArray)(t:Tm):Prop:=(∀st:aA,aD prog 210 [t.av] st (fun r st'=>r=.str (T t)∧st'=st))∧(T t).size≤32*t.nodes∧1≤(T t).size∧t.nodes≤1000
abbrev OW:=zi aX (zi cG (zi cI cK))
theorem LG{T:Tm→ByteArray}(l:List Tm)(hT:∀t∈l,sZ T t)(hn:bU Tm.nodes l≤10000)(hl:l.length≤10000)(st:aA):aD prog 223 [.slice (l.map Tm.av)] st (fun r st'=>r=.str (jN T l)∧st'=st):=by
 refine wF [1000000] 1 func223 ntmps223 rfl rfl ?_
 intro _
 simp only[aB,seval]
 refine d7 (σ:=Unit) [1000000] [0,2] l (fun i _=>True) (fun i _=>[(3,.str (jN T (l.take i))),(4,.int .i64 i)]) (fun _ _=>st) (by decide +kernel) ⟨(),trivial,aP.mk (by simp only[mK,aB,↓a9,seval]<;>rfl)⟩ (fun i x _ hx hlt bN hdr hinv=>?_) (fun _ hge hinv=>?_)
 case refine_2=>
  rw[dR]
  simp only[hge,aE,aB,seval,OW]
 have hxm:=cQ hx
 obtain⟨c1,c2,c3,c4⟩:=hT x hxm
 have hw:=bH (n:=(i:Int)+1)
 have hat:=bR (av:=Tm.av) cF hx (aQ x)
 have gC:=aK4 (T:=T) hx
 have hsz:=DO (T:=T) (l:=l.take i) fun y hy=>(hT y (mJ hy)).2.1
 have hsl:bU Tm.nodes (l.take i)≤bU Tm.nodes l:=aHK l i
 have hln:(l.take i).length≤10000:=by rw[dE];omega
 have hm:maxLen=9223372036854775807:=by rfl
 have hs1:(jN T (l.take i)).size+(⟨#[44]⟩:ByteArray).size≤maxLen:=by show _+1≤_;omega
 have hs2:(jN T (l.take i)++(⟨#[44]⟩:ByteArray)).size+(T x).size≤maxLen:=by rw[cC];show _+1+_≤_;omega
 have hs3:(jN T (l.take i)).size+(T x).size≤maxLen:=by omega
 by_cases h0:0<i
 · rw[aN h0] at gC
   have h0':((0:Int)<(i:Int))=True:=bP (by omega)
   simp only[aE,hat,bM,aQ,bN,h0',hs1,↓reduceIte,aV,aB,seval,OW]
   refine(c1 _).to ?_
   simp only[hs2,↓reduceIte,aB,seval]
   exact⟨(),aP.mk (by simp only[hw,gC,↓reduceIte,aB,seval])⟩
 · rw[aH h0] at gC
   have h0':((0:Int)<(i:Int))=False:=bB (by omega)
   simp only[aE,hat,bM,aQ,bN,h0',↓reduceIte,aV,a8,aB,seval,OW]
   refine(c1 _).to ?_
   simp only[hs3,↓reduceIte,aB,seval]
   exact⟨(),aP.mk (by simp only[hw,gC,↓reduceIte,aB,seval])⟩
abbrev FI:=zi aX (zi cG cK)
theorem RU{T:Tm→ByteArray}(t:Tm)(hT:sZ T t)(lv:Nat)(hlv:lv≤10)(st:aA):aD prog 248 [t.av,.int .i64 (lv:Int)] st (fun r st'=>r=.str (pK T t lv)∧st'=st):=by
 obtain⟨c1,c2,c3,c4⟩:=hT
 have hm:maxLen=9223372036854775807:=by rfl
 have hs1:(⟨#[40]⟩:ByteArray).size+(T t).size≤maxLen:=by show 1+_≤_;omega
 have hs2:((⟨#[40]⟩:ByteArray)++T t).size+(⟨#[41]⟩:ByteArray).size≤maxLen:=by rw[cC];show 1+_+1≤_;omega
 have hi:=RV t
 obtain⟨k,n,s,ts⟩:=t
 rw[show pK T (.mk k n s ts) lv=if(sC (.mk k n s ts)&&decide (lv<dB s))=true then(⟨#[40]⟩++T (.mk k n s ts))++⟨#[41]⟩ else T (.mk k n s ts) from rfl]
 generalize hTT:T (.mk k n s ts)=u at *
 simp only[bY] at hi c1 ⊢
 refine wF [1000000] 2 func248 ntmps248 rfl rfl ?_
 intro _
 simp only[aB,seval,FI]
 refine(hi _).to ?_
 cases hk:sC (.mk k n s ts) with
 | false=>
  rw[eT,aH (by decide)]
  simp only[aB,seval,FI]
  refine(c1 _).to ?_
  simp only[aB,seval]
 | true=>
  rw[dH]
  simp only[aB,seval,FI]
  refine(tO s _).to ?_
  by_cases h:lv<dB s
  · rw[d6 h,aN rfl]
    have h':((lv:Int)<(dB s:Int))=True:=bP (by omega)
    simp only[h',↓reduceIte,aV,aB,seval,FI]
    refine(c1 _).to ?_
    simp only[hs1,hs2,↓reduceIte,aB,seval]
  · rw[eH h,aH (by decide)]
    have h':((lv:Int)<(dB s:Int))=False:=bB (by omega)
    simp only[h',↓reduceIte,a8,aB,seval,FI]
    refine(c1 _).to ?_
    simp only[↓reduceIte,aB,seval]
abbrev OX:=zi aX (zi cG cK)
theorem aNO{T:Tm→ByteArray}(t:Tm)(hT:sZ T t)(lv:Nat)(hlv:lv≤10)(st:aA):aD prog 232 [t.av,.int .i64 (lv:Int)] st (fun r st'=>r=.str (vT T t lv)∧st'=st):=by
 have hb:=RU t hT lv hlv
 obtain⟨c1,c2,c3,c4⟩:=hT
 have hm:maxLen=9223372036854775807:=by rfl
 have hs1:(⟨#[40]⟩:ByteArray).size+(T t).size≤maxLen:=by show 1+_≤_;omega
 have hs2:((⟨#[40]⟩:ByteArray)++T t).size+(⟨#[41]⟩:ByteArray).size≤maxLen:=by rw[cC];show 1+_+1≤_;omega
 have hi:=RW t
 unfold vT
 refine wF [1000000] 2 func232 ntmps232 rfl rfl ?_
 intro _
 simp only[bM,aQ,cR,↓reduceIte,aB,seval,OX]
 refine(hi _).to ?_
 cases hk:BW t with
 | false=>
  rw[aH (by decide)]
  simp only[bM,aQ,↓reduceIte,aB,seval,OX]
  refine(hb _).to ?_
  simp only[↓reduceIte,aB,seval]
 | true=>
  rw[aN rfl]
  simp only[bM,aQ,↓reduceIte,aB,seval,OX]
  refine(c1 _).to ?_
  simp only[↓reduceIte,hs1,hs2,aB,seval]
abbrev aIA:=zi aX (zi cD (zi cG cK))
theorem aNU{T:Tm→ByteArray}(t:Tm)(hT:sZ T t)(lv:Nat)(hlv:lv≤10)(st:aA):aD prog 234 [t.av,.int .i64 (lv:Int)] st (fun r st'=>r=.str (v6 T t lv)∧st'=st):=by
 have hb:=RU t hT lv hlv
 have hbs:=K0 (T:=T) (t:=t) lv
 obtain⟨c1,c2,c3,c4⟩:=hT
 have hm:maxLen=9223372036854775807:=by rfl
 unfold v6
 generalize pK T t lv=u at *
 have hs1:(⟨#[40]⟩:ByteArray).size+u.size≤maxLen:=by show 1+_≤_;omega
 have hs2:((⟨#[40]⟩:ByteArray)++u).size+(⟨#[41]⟩:ByteArray).size≤maxLen:=by rw[cC];show 1+_+1≤_;omega
 have hi:=RW t
 have hpl:=aNR u (by omega)
 refine wF [1000000] 2 func234 ntmps234 rfl rfl ?_
 intro _
 simp only[bM,aQ,cR,↓reduceIte,aB,seval,aIA]
 refine(hb _).to ?_
 simp only[bM,aQ,↓reduceIte,aB,seval,aIA]
 refine(hi _).to ?_
 cases hk:BW t with
 | true=>
  rw[Bool.true_or,aN rfl]
  simp only[↓reduceIte,hs1,hs2,aB,seval]
 | false=>
  rw[rJ]
  simp only[↓reduceIte,aB,seval]
  refine(hpl _).to ?_
  cases hq:IK (sb u) with
  | true=>
   rw[aH (by decide)]
   simp only[↓reduceIte,aB,seval]
  | false=>
   rw[aN (by decide)]
   simp only[↓reduceIte,hs1,hs2,aB,seval]
theorem QH{st:aA}{b q:Nat}{l:List AV}{o:AO}(hb:l≠[]→st b=none)(h:st q=some o):aU st b l q=some o:=by
 cases l with
 | nil=>exact h
 | cons x l=>exact(aA.aO _ _ (by rintro rfl;have:=hb (by simp);rw[h] at this;cases this)).trans h
abbrev yL:=zi cG (zi cI cK)
set_option maxHeartbeats 1000000 in
theorem aNP{T:Tm→ByteArray}(n:Nat)(t:Tm)(hn:t.nodes≤n+1)(hws:Ws t)(MQ:t.nodes≤1000)(hT:∀x,Ws x→x.nodes<t.nodes→sZ T x)(hp:pU t=true)(st:aA):aD prog 230 [t.av] st (fun r st'=>r=.str (BA T (spine n t))∧st'=st):=by
 obtain⟨q1,q2,q3⟩:=IX n t hws
 obtain⟨e1,e2⟩:=aHC n t hn
 have g9:=aHB n t
 have hnp:=pT (spine n t).2
 have hne:1≤(spine n t).1.length:=by
  cases n with
  | zero=>obtain⟨m,x,y,rfl⟩:=BN hp;simp only[Tm.gT,bU] at hn;have:=pT x;omega
  | succ m=>unfold spine;rw[aN hp];simp
 generalize spine n t=p at *
 obtain⟨its,tl⟩:=p
 simp only at q1 q2 q3 e1 e2 g9 hnp hne
 have hTi:∀x∈its,sZ T x:=fun x hx=>hT x (q1 x hx) (by have:=aFN hx;omega)
 have hTt:sZ T tl:=hT tl q2 (by omega)
 have oR:=LG its hTi (by omega) (by omega)
 have aZ7:=DO (T:=T) (l:=its) fun x hx=>(hTi x hx).2.1
 obtain⟨c1,c2,c3,c4⟩:=hTt
 have hm:maxLen=9223372036854775807:=by rfl
 have hs1:(⟨#[91]⟩:ByteArray).size+(jN T its).size≤maxLen:=by show 1+_≤_;omega
 have hs2:((⟨#[91]⟩:ByteArray)++jN T its).size+(⟨#[93]⟩:ByteArray).size≤maxLen:=by rw[cC];show 1+_+1≤_;omega
 have hs3:((⟨#[91]⟩:ByteArray)++jN T its).size+(⟨#[124]⟩:ByteArray).size≤maxLen:=by rw[cC];show 1+_+1≤_;omega
 have hs4:(((⟨#[91]⟩:ByteArray)++jN T its)++(⟨#[124]⟩:ByteArray)).size+(T tl).size≤maxLen:=by rw[cC,cC];show 1+_+1+_≤_;omega
 have hs5:((((⟨#[91]⟩:ByteArray)++jN T its)++(⟨#[124]⟩:ByteArray))++T tl).size+(⟨#[93]⟩:ByteArray).size≤maxLen:=by rw[cC,cC,cC];show 1+_+1+_+1≤_;omega
 refine aD.kK ?_
 refine wF [1000000,1] 1 func230 ntmps230 rfl rfl ?_
 intro _
 simp only[cR,↓reduceIte,aB,seval,yL]
 intro b1 hb1
 have hD:=fun(o:AO)=>(aJ.refl st).aC (o:=o) hb1
 refine CM (σ:=Unit) [1000000,1] [1,2] its 4 3 (fun i _=>(its.take i).map Tm.av) (fun _ _=>True) (fun i _=>[]) (fun i _=>st.aC b1 (.cells (uP i t).av.cells)) (fun i _ _ e he=>by simp only[cL] at he;obtain⟨x,_,rfl⟩:=he;exact⟨cR _,aQ _⟩) (by decide +kernel) ⟨(),0,trivial,fun h=>absurd rfl h,aP.mk (by simp only[jM,mK,bD,↓reduceIte,aB,seval])⟩ (fun i x s b hx hlt bN hdr hinv hb=>?_) (fun s b hge hinv=>?_)
 case refine_1=>
  obtain⟨g1,g2⟩:=g9 i x hx
  have hst:=aHA i t
  generalize uP i t=u at *
  have hpu:=G1 u
  rw[g1] at hpu
  obtain⟨m,y,z,rfl⟩:=BN g1
  rw[A8.1] at g2
  rw[A8.2] at hst
  subst g2
  have hcs:(Tm.mk 3 m ⟨#[46]⟩ [y,z]).av.cells= [.int .i64 3,.int .i64 m,.str ⟨#[46]⟩,.slice [y.av,z.av]]:=by rw[bY];try rfl
  rw[hcs] at hb ⊢
  have hlk:aU (st.aC b1 (.cells [.int .i64 3,.int .i64 m,.str ⟨#[46]⟩,.slice [y.av,z.av]])) b ((its.take i).map Tm.av) b1=some (.cells [.int .i64 3,.int .i64 m,.str ⟨#[46]⟩,.slice [y.av,z.av]]):=QH hb (aA.aK _ _ _)
  have hi0:=bR (av:=Tm.av) (l:=[y,z]) (i:=0) cF rfl (aQ y)
  have hi1:=bR (av:=Tm.av) (l:=[y,z]) (i:=1) cF rfl (aQ z)
  rw[show((0:Nat):Int)=0 from rfl] at hi0
  rw[show((1:Nat):Int)=1 from rfl] at hi1
  have cS:((its.take i).map Tm.av).length=i:=by simp only[aE,dE];omega
  have htk:(its.take i).map Tm.av++ [y.av]=(its.take (i+1)).map Tm.av:=by rw[eD,hx];simp
  rw[hst]
  simp only[bY,bF,bD] at hlk hpu hi0 hi1 hb ⊢
  have hLw:∀e∈(its.take i).map Tm.av,e.width=4:=gF _
  generalize (its.take i).map Tm.av=L at *
  simp only[↓reduceIte,hlk,aB,seval,yL]
  refine(hpu _).to ?_
  simp only[bM,aQ,cR,↓reduceIte,hlk,hi0,aB,seval,yL]
  refine eE cF kL kM rfl rfl (gZ (aQ _) (cO _)) (fun e he=>hLw e he) hb (by simp only[cS,aY,aW];omega) (by simp only[cS,aY,aW];omega) (fun b' hb'=>?_)
  rw[htk] at hb' ⊢
  have aTE:=QH (l:=(its.take (i+1)).map Tm.av) hb' (aA.aK st b1 (.cells [.int .i64 3,.int .i64 m,.str ⟨#[46]⟩,.slice [y.av,z.av]]))
  have hnb:(its.take (i+1)).map Tm.av≠[]→b1≠b':=fun h=>by rintro rfl;have:=hb' h;rw[aA.aK] at this;cases this
  have hup:=fun o=>nF (st:=st.aC b1 (.cells [.int .i64 3,.int .i64 m,.str ⟨#[46]⟩,.slice [y.av,z.av]])) (o:=o) hnb
  simp only[aG,bM,aQ,cO,cH,↓reduceIte,aTE,hi1,hup,d3,aB,seval,yL]
  exact⟨(),b',fun h=>by have:=hb' h;rw[aA.aO _ _ (dM (hnb h))] at this ⊢;exact this,aP.mk (by simp only[↓reduceIte,aB,seval])⟩
 rw[dR,←e1]
 have hpt:=G1 tl
 rw[e2] at hpt
 have hnt:=aNE tl
 simp only[qQ,aDZ,jD,bD,cH,fU (cH _),fN (bM _),↓reduceIte,aB,seval,yL]
 refine(hpt _).to ?_
 simp only[cH,fU (cH _),fN (bM _),↓reduceIte,aB,seval,yL]
 refine(hnt _).to ?_
 unfold BA
 cases hnk:IB tl with
 | true=>
  rw[aN rfl]
  simp only[↓reduceIte,aB,seval]
  refine(oR _).to ?_
  simp only[↓reduceIte,hs1,hs2,aB,seval]
  exact hD _
 | false=>
  rw[aH (by decide)]
  simp only[↓reduceIte,aB,seval]
  refine wP [(0,1),(1,2),(2,1),(3,1),(4,2),(5,2),(6,1),(7,1),(8,1)] [0,1,2,3,4,5,6,7,8] mixed ?_
  simp only[↓reduceIte,aB,seval]
  refine iK (oR _) ?_
  simp only[cH,fU (cH _),fN (bM _),↓reduceIte,hs1,hs3,aB,seval,yL]
  refine iK (c1 _) ?_
  simp only[↓reduceIte,hs4,hs5,aB,seval]
  exact hD _
abbrev rC:=zi aX (zi cG (zi cI cK))
set_option maxHeartbeats 1000000 in
theorem LH:∀(n:Nat) (t:Tm) (st:aA),Ws t→t.nodes≤n→t.nodes≤1000→aD prog 210 [t.av] st (fun r st'=>r=.str (tx n t)∧st'=st):=by
 intro n
 induction n with
 | zero=>intro t st _ h;have:=pT t;omega
 | succ n IH=>
 intro t st hws hn MQ
 have hsz:=wI (n+1) t hws
 have hT:∀x,Ws x→x.nodes<t.nodes→sZ (tx n) x:=fun x hx hlt=>⟨fun st=>IH x st hx (by omega) (by omega),wI n x hx,PE hx (by have:=pT x;omega),by omega⟩
 have hpt:=G1 t
 have hit:=RV t
 have aTD:=aNP (T:=tx n) n t hn hws MQ hT
 have hm:maxLen=9223372036854775807:=by rfl
 unfold tx at hsz ⊢
 refine wF [1000000] 1 func210 ntmps210 rfl rfl ?_
 intro _
 simp only[bM,aQ,cR,↓reduceIte,aB,seval,rC]
 refine(hpt _).to ?_
 cases hp:pU t with
 | true=>
  rw[aN rfl]
  simp only[bM,aQ,↓reduceIte,aB,seval,rC]
  refine(aTD hp _).to ?_
  simp only[↓reduceIte,aB,seval]
 | false=>
  rw[hp] at hsz
  rw[aH (by decide)] at hsz ⊢
  simp only[bM,aQ,↓reduceIte,aB,seval,rC]
  refine(hit _).to ?_
  cases hi:sC t with
  | true=>
   rw[hi] at hsz
   rw[aN rfl] at hsz ⊢
   obtain⟨m,s,x,y,rfl,hs⟩:=ND hi
   have hk:=hws.own.2
   have hxl:x.nodes<(Tm.mk 3 m s [x,y]).nodes:=by simp only[Tm.gT,bU];have:=pT y;omega
   have hyl:y.nodes<(Tm.mk 3 m s [x,y]).nodes:=by simp only[Tm.gT,bU];have:=pT x;omega
   have hx:=hT x (hk x (by simp)) hxl
   have hy:=hT y (hk y (by simp)) hyl
   rw[A8.1,A8.2,show(Tm.mk 3 m s [x,y]).s=s from rfl] at hsz ⊢
   have h6:s.size≤6:=hws.size.1
   have hl3:dB s≤3:=by unfold dB;cases (decide (s=⟨#[61]⟩)||decide (s=⟨#[92,61]⟩)||decide (s=⟨#[61,61]⟩)||decide (s=⟨#[60]⟩)||decide (s=⟨#[62]⟩)||decide (s=⟨#[61,60]⟩)||decide (s=⟨#[62,61]⟩)||decide (s=⟨#[61,58,61]⟩)||decide (s=⟨#[105,115]⟩))<;>cases (decide (s=⟨#[43]⟩)||decide (s=⟨#[45]⟩))<;>cases (decide (s=⟨#[42]⟩)||decide (s=⟨#[47,47]⟩)||decide (s=⟨#[109,111,100]⟩))<;>decide
   have hll:lvl (dB s)≤10:=by unfold lvl;split<;>omega
   have cl:=aNO x hx (lvl (dB s)) hll
   have cr:=aNU y hy (dB s - 1) (by omega)
   have csp:=aNV s (by omega)
   have clv:=tO s
   rw[cC,cC] at hsz
   generalize hA:vT (tx n) x (lvl (dB s))=A at *
   generalize hB:v6 (tx n) y (dB s - 1)=B at *
   generalize n5 s=C at *
   have hs1:A.size+C.size≤maxLen:=by omega
   have hs2:(A++C).size+B.size≤maxLen:=by rw[cC];omega
   have hi0:=bR (av:=Tm.av) (l:=[x,y]) (i:=0) cF rfl (aQ x)
   have hi1:=bR (av:=Tm.av) (l:=[x,y]) (i:=1) cF rfl (aQ y)
   rw[show((0:Nat):Int)=0 from rfl] at hi0
   rw[show((1:Nat):Int)=1 from rfl] at hi1
   simp only[bY,bF,bD] at hi0 hi1 ⊢
   generalize hL:dB s=L at *
   obtain⟨L1,hL1⟩:∃L1,L1=L - 1:=⟨_,rfl⟩
   have hw:=iX (x:=(L:Int) - 1) (m:=L1) (by omega) (by omega)
   rw[←hL1] at cr
   by_cases h3:L=3
   case' pos=>
    have h3':((L:Int)=3)=True:=bP (by omega)
    have hlv:lvl L=2:=by unfold lvl;rw[aN h3]
   case' neg=>
    have h3':((L:Int)=3)=False:=bB (by omega)
    have hlv:lvl L=L:=by unfold lvl;rw[aH h3]
   all_goals
    rw[hlv] at cl
    simp only[↓reduceIte,aB,seval,rC]
    refine(clv _).to ?_
    simp only[↓reduceIte,h3',aV,a8,aB,seval]
    refine wP [(0,1),(4,1),(6,1),(10,1),(14,1),(15,1),(1,2),(2,1),(3,2),(5,2),(7,2),(8,2),(9,1),(11,2),(12,1),(13,2),(16,2),(17,1),(18,1)] [0,4,6,10,14,15,1,2,3,5,7,8,9,11,12,13,16,17,18] mixed ?_
    simp only[bM,aQ,↓reduceIte,hi0,hw,aB,seval,rC]
    refine iK (cl _) ?_
    simp only[↓reduceIte,aB,seval,rC]
    refine iK (csp _) ?_
    simp only[bM,aQ,↓reduceIte,hi1,hs1,aB,seval,rC]
    refine iK (cr _) ?_
    simp only[↓reduceIte,hs2,aB,seval]
  | false=>
   rw[hi] at hsz
   rw[aH (by decide)] at hsz ⊢
   cases ha:GT t with
   | true=>
    rw[ha] at hsz
    rw[aN rfl] at hsz ⊢
    obtain⟨k,m,s,ts⟩:=t
    rw[KU,bG,bK,bK] at ha
    obtain⟨rfl,h0⟩:=ha
    have h0':((0:Int)<(ts.length:Int))=True:=bP (by omega)
    simp only[Tm.s,Tm.ts] at hsz ⊢
    simp only[Tm.gT] at hn MQ hT hsz
    have hk:=hws.own.2
    have h4:ts.length≤4:=by rcases yA hws.own.1 with h | h | h<;>omega
    have oR:=LG (T:=tx n) ts (fun x hx=>hT x (hk x hx) (by have:=aFN hx;omega)) (by omega) (by omega)
    rw[cC,cC,cC] at hsz
    generalize jN (tx n) ts=A at *
    have a0K:s.size+A.size≤100000:=by omega
    have hs1:s.size+(⟨#[40]⟩:ByteArray).size≤maxLen:=by show _+1≤_;omega
    have hs2:(s++(⟨#[40]⟩:ByteArray)).size+A.size≤maxLen:=by rw[cC];show _+1+_≤_;omega
    have hs3:((s++(⟨#[40]⟩:ByteArray))++A).size+(⟨#[41]⟩:ByteArray).size≤maxLen:=by rw[cC,cC];show _+1+_+1≤_;omega
    simp only[bY]
    simp only[↓reduceIte,h0',aE,aV,aB,seval,rC]
    refine wP [(0,1),(3,1),(1,2),(2,1),(4,2),(5,2),(6,1),(7,1),(8,1)] [0,3,1,2,4,5,6,7,8] mixed ?_
    simp only[↓reduceIte,hs1,aB,seval,rC]
    refine iK (oR _) ?_
    simp only[↓reduceIte,hs2,hs3,aB,seval]
   | false=>
    rw[aH (by decide)]
    have hl:=aNM t hws (fun h=>by
     obtain⟨k,m,s,ts⟩:=t
     rw[KU,show k=3 from h] at ha
     simp only[aV,dH,d5] at ha
     exact List.length_eq_zero_iff.1 (by show ts.length=0;omega))
    generalize xT t=A at *
    obtain⟨k,m,s,ts⟩:=t
    rw[KU] at ha
    simp only[bY] at hl ⊢
    by_cases hk:k=3
    case pos=>
     rw[hk] at ha hl ⊢
     simp only[aV,dH,d5] at ha
     have h0':((0:Int)<(ts.length:Int))=False:=bB (by omega)
     simp only[↓reduceIte,h0',aE,aV,a8,aB,seval,rC]
     refine(hl _).to ?_
     simp only[↓reduceIte,aB,seval]
    case neg=>
     have hk':=bB hk
     simp only[↓reduceIte,hk',a8,aB,seval,rC]
     refine(hl _).to ?_
     simp only[↓reduceIte,aB,seval]
end Go.AW

namespace Go.AW
open Go.Proofs.Tryz
open Go.Shelf
set_option linter.unusedSimpArgs false
set_option linter.unusedVariables false
set_option maxRecDepth 100000
end Go.AW

namespace Go.AW
open Go.Proofs.Tryz

theorem QV(a b c:ByteArray):(a++b)++c=a++(b++c):=by apply ByteArray.ext;simp [ByteArray.data_append]
theorem aJE{t:Tm}(ht:t.valid=true):(tx 1000 t).size≤3840∧1≤(tx 1000 t).size:=by
 have hn:=Tm.qA ht
 have hw:Ws t:=⟨30,by simp only[Tm.valid,bG] at ht;exact ht.1⟩
 exact⟨by have:=wI 1000 t hw;omega,PE hw (by decide)⟩
theorem aL1{v:Int}{t:Tm}(ht:t.valid=true):(mN v t).size≤3842∧1≤(mN v t).size:=by
 obtain⟨h1,h2⟩:=aJE ht
 unfold mN
 rw[cC,cC]
 show 1+1+_≤_∧1≤1+1+_
 omega
theorem EA{q a:List Tm}(hf:xE q a=true):eR q=true∧a.length=(cB q []).length∧(∀x∈a,x.valid=true)∧(∀v∈cB q [],0≤v∧v<26)∧(cB q []).length≤26:=by
 simp only[xE,bG,bK,dD] at hf
 obtain⟨⟨h1,h2⟩,h3⟩:=hf
 obtain⟨v1,v2⟩:=aVX (IP h1).2
 exact⟨h1,h2,h3,v1,v2⟩








end Go.AW
namespace Go.AW
def xQ:AV→Bool
 | .int _ _ | .bool _ | .str _=>true
 | _=>false
theorem aGB{st:aA}{a o:AV}{bs:List Nat}(h:xQ a=true):fB st a o bs↔o=a∧bs= []:=by
 cases a<;>simp [xQ] at h<;>simp [fB]
theorem aVG{st:aA}{a:AV}{es os:List AV}{bs:List Nat}(h:xQ a=true):eG st (a::es) os bs↔∃os',os=a::os'∧eG st es os' bs:=by
 simp only[eG]
 constructor
 · rintro⟨o,os',b1,b2,rfl,rfl,x1,x2⟩
   obtain⟨rfl,rfl⟩:=(aGB h).1 x1
   exact⟨os',rfl,x2⟩
 · rintro⟨os',rfl,x⟩
   exact⟨a,os',[],bs,rfl,rfl,(aGB h).2 ⟨rfl,rfl⟩,x⟩
def yR:List AV→List AV→List AV
 | [],_=>[]
 | a::es,qs=>if xQ a then a::yR es qs else match qs with
  | q::qs=>q::yR es qs
  | []=>[]
theorem BM{st:aA}:∀ {es os:List AV} {bs:List Nat},eG st es os bs↔∃qs,os=yR es qs∧eG st (es.filter fun a=> !xQ a) qs bs
 | [],os,bs=>by
  simp only[eG,yR,List.filter_nil]
  constructor
  · rintro⟨rfl,rfl⟩;exact⟨[],rfl,rfl,rfl⟩
  · rintro⟨qs,rfl,rfl,rfl⟩;exact⟨rfl,rfl⟩
 | a::es,os,bs=>by
  cases h:xQ a with
  | true=>
   rw[aVG h]
   simp only[yR,h,List.filter_cons,fA,iA,eA,fQ]
   constructor
   · rintro⟨os',rfl,x⟩
     obtain⟨qs,rfl,y⟩:=BM.1 x
     exact⟨qs,rfl,y⟩
   · rintro⟨qs,rfl,y⟩
     exact⟨_,rfl,BM.2 ⟨qs,rfl,y⟩⟩
  | false=>
   simp only[yR,h,List.filter_cons,fM,iA,eA,fQ,eG]
   constructor
   · rintro⟨o,os',b1,b2,rfl,rfl,x1,x2⟩
     obtain⟨qs,rfl,y⟩:=BM.1 x2
     exact⟨o::qs,rfl,o,qs,b1,b2,rfl,rfl,x1,y⟩
   · rintro⟨qs,rfl,o,os',b1,b2,rfl,rfl,x1,y⟩
     exact⟨o,_,b1,b2,rfl,rfl,x1,BM.2 ⟨os',rfl,y⟩⟩
theorem aVK{st:aA}{cs:List AV}{o:AV}{bs:List Nat}:fB st (.agg cs) o bs↔∃qs,o=.agg (yR cs qs)∧eG st (cs.filter fun a=> !xQ a) qs bs:=by
 simp only[fB]
 constructor
 · rintro⟨os,rfl,x⟩
   obtain⟨qs,rfl,y⟩:=BM.1 x
   exact⟨qs,rfl,y⟩
 · rintro⟨qs,rfl,y⟩
   exact⟨_,rfl,BM.2 ⟨qs,rfl,y⟩⟩
abbrev Fr:=Int×ByteArray
def bC(f:Fr):AV:=.agg [.int .i64 f.1,.str f.2]
theorem nL(f:Fr):(bC f).width=2:=rfl
theorem tY(f:Fr):(bC f).isAgg=true:=rfl
theorem aSF(f:Fr):(bC f).cells.all AV.storable=true:=rfl
theorem AJ(f:Fr):(bC f).bO=false:=rfl
abbrev bA (l:List Fr):AV:=.slice (l.map bC)
abbrev bT (l:List Bt):AV:=.slice (l.map a7)
def jO(r:List Bt)(b:Bool):AV:=.agg [bT r,.bool b]
structure dT where
 rest:List Bt
 brk:Bool
 wait:List Fr
 prog:List Cl
 act:Bool
 ses:Ss
 told:Bool
 out:List Fr
def eU(c:dT):List AV:=[bT c.rest,.bool c.brk,bA c.wait,.slice (c.prog.map aF),.bool c.act,.slice (c.ses.p.map aF),.slice (c.ses.q.map Tm.av),.int .i64 c.ses.quota,.int .i64 c.ses.used,.int .i64 c.ses.sent,.int .i64 c.ses.fin,.bool c.told,bA c.out]
def bV(c:dT):AV:=.agg (eU c)
theorem vI(c:dT):(bV c).width=13:=rfl
theorem LV(c:dT):(bV c).isAgg=true:=rfl
theorem SR(c:dT):(bV c).cells.all AV.storable=true:=rfl
theorem aO9(c:dT):(bV c).bO=false:=rfl
structure Sv where
 cs:List dT
 quota:Int
def fZ(s:Sv):AV:=.agg [.slice (s.cs.map bV),.int .i64 s.quota]
end Go.AW
namespace Go.AW
open Go.Proofs.Tryz
def kO(x:UInt8):Bool:=decide (x.toNat=10)||(decide (32≤x.toNat)&&decide (x.toNat≤126))
def yP(s:ByteArray):Bool:=(sb s).all kO&&decide (s.size≤2000)
def gB(f:Fr):Bool:=(decide (1≤f.1)&&decide (f.1≤7))&&yP f.2
theorem aMV(x:UInt8)(st:aA):aD prog 242 [.int .u8 (x.toNat:Int)] st (fun r st'=>r=.bool (kO x)∧st'=st):=by
 refine wF [1000000] 1 func242 ntmps242 rfl rfl ?_
 intro _
 unfold kO
 by_cases b1:x.toNat=10
 case' pos=>have b1':((x.toNat:Int)=10)=True:=bP (by omega)
 case' neg=>have b1':((x.toNat:Int)=10)=False:=bB (by omega)
 all_goals
  by_cases b2:32≤x.toNat
  case' pos=>have b2':((32:Int)≤(x.toNat:Int))=True:=bP (by omega)
  case' neg=>have b2':((32:Int)≤(x.toNat:Int))=False:=bB (by omega)
 all_goals
  by_cases b3:x.toNat≤126
  case' pos=>have b3':((x.toNat:Int)≤126)=True:=bP (by omega)
  case' neg=>have b3':((x.toNat:Int)≤126)=False:=bB (by omega)
 all_goals try (exfalso;omega)
 all_goals
  simp only[b1',b2',b3',aV,a8,aB,seval]
  simp [b1,b2,b3]
abbrev aHU:=zi aX (zi cD (zi gE cG))
theorem aMY(s:ByteArray)(st:aA):aD prog 220 [.str s] st (fun r st'=>r=.bool (yP s)∧st'=st):=by
 have hsz:=bX s
 unfold yP
 refine wF [1000000] 1 func220 ntmps220 rfl rfl ?_
 simp only[eF,AV.fits,eN]
 intro hs
 have hm:maxLen=9223372036854775807:=by rfl
 simp only[aB,seval]
 refine d7 (σ:=Unit) [1000000] [0] (sb s) (fun i _=>((sb s).drop i).all kO=(sb s).all kO) (fun i _=>[(2,.bool false),(3,.int .i64 i)]) (fun _ _=>st) (by decide +kernel) ⟨(),rfl,aP.mk (by simp only[aB,↓a9,seval])⟩ (fun i x _ hx hlt bN hdr hinv=>?_) (fun _ hge hinv=>?_)
 case refine_2=>
  rw[o9,CR] at hinv
  rw[←hinv,dH,hsz]
  have hg:=bB (Int.lt_irrefl (s.size:Int))
  have h2:decide ((s.size:Int)≤2000)=decide (s.size≤2000):=by rw[r5];omega
  simp only[hg,h2,a8,aB,seval,aHU]
 rw[hdr,kH] at hinv
 have hix:=pS (P:=prog) (t:=9) oA hx
 have hi:=bP (show(i:Int)<(s.size:Int) by omega)
 have hw:=bH (n:=(i:Int)+1)
 simp only[hi,aV,hix,aB,seval,aHU]
 refine(aMV x _).to ?_
 cases hb:kO x with
 | false=>
  rw[hb,eT] at hinv
  rw[←hinv,eT]
  simp only[fM,aB,seval]
 | true=>
  rw[hb,dH] at hinv
  simp only[fA,hw,aB,seval]
  exact⟨(),hinv,aP.mk (by simp only[aB,seval])⟩
abbrev OG:=zi aX (zi cD (zi cG lZ))
theorem LM(f:Fr)(st:aA):aD prog 185 [bC f] st (fun r st'=>r=.bool (gB f)∧st'=st):=by
 obtain⟨y,s⟩:=f
 have ht:=aMY s
 rw[show gB (y,s)=((decide (1≤y)&&decide (y≤7))&&yP s) from rfl]
 simp only[bC]
 refine wF [1000000] 1 func185 ntmps185 rfl rfl ?_
 intro _
 simp only[aB,seval,OG]
 refine c5 (fun h1=>?_) (fun h1=>?_)
 case refine_2=>
  simp only[h1,aB,seval]
  simp at h1
  simp []
 simp only[h1,aB,seval,OG]
 refine c5 (fun h2=>?_) (fun h2=>?_)
 case refine_2=>
  simp only[h2,aB,seval]
  simp at h1 h2
  simp []
 simp only[h2,aB,seval,OG]
 refine(ht _).to ?_
 simp only[aB,seval]
 try (simp at h1 h2;simp [h1,h2])
abbrev I3:=zi aX (zi cD (zi gE (zi O5 (zi cG lZ))))
theorem LB(f:Fr)(st:aA):aD prog 16 [bC f] st (fun r st'=>r=.bool (gB f)∧st'=st):=by
 obtain⟨y,s⟩:=f
 have hsz:=bX s
 have hwi:=G5 y 1 7
 rw[show gB (y,s)=((decide (1≤y)&&decide (y≤7))&&((sb s).all kO&&decide (s.size≤2000))) from rfl]
 simp only[bC]
 refine wF [1000000] 1 func16 ntmps16 rfl rfl ?_
 simp only[eF,AV.fits,eN,rE]
 intro hs
 have hm:maxLen=9223372036854775807:=by rfl
 simp only[aB,seval,I3]
 refine d7 (σ:=Unit) [1000000] [1,7] (sb s) (fun i _=>((sb s).drop i).all kO=(sb s).all kO) (fun i _=>[(2,.bool false),(8,.int .i64 i)]) (fun _ _=>st) (by decide +kernel) ⟨(),rfl,aP.mk (by simp only[aB,↓a9,seval])⟩ (fun i x _ hx hlt bN hdr hinv=>?_) (fun _ hge hinv=>?_)
 case refine_2=>
  rw[o9,CR] at hinv
  rw[←hinv,dH,hsz]
  have hg:=bB (Int.lt_irrefl (s.size:Int))
  have h2:decide ((s.size:Int)≤2000)=decide (s.size≤2000):=by rw[r5];omega
  simp only[hg,a8,aB,seval,I3]
  refine(hwi _).to ?_
  cases hb:(decide (1≤y)&&decide (y≤7)) with
  | false=>simp only[eT,aB,seval]
  | true=>simp only[dH,h2,aB,seval,I3]
 rw[hdr,kH] at hinv
 have hix:=pS (P:=prog) (t:=9) oA hx
 have hi:=bP (show(i:Int)<(s.size:Int) by omega)
 have hw:=bH (n:=(i:Int)+1)
 simp only[hi,aV,hix,aB,seval,I3]
 by_cases b1:x.toNat=10
 case' pos=>have b1':((x.toNat:Int)=10)=True:=bP (by omega)
 case' neg=>have b1':((x.toNat:Int)=10)=False:=bB (by omega)
 all_goals
  by_cases b2:x.toNat<32
  case' pos=>have b2':((x.toNat:Int)<32)=True:=bP (by omega)
  case' neg=>have b2':((x.toNat:Int)<32)=False:=bB (by omega)
 all_goals
  by_cases b3:126<x.toNat
  case' pos=>have b3':((126:Int)<(x.toNat:Int))=True:=bP (by omega)
  case' neg=>have b3':((126:Int)<(x.toNat:Int))=False:=bB (by omega)
 all_goals try (exfalso;omega)
 all_goals
  simp only[b1',b2',b3',aV,a8,fA,fM,eO,hw,aB,seval]
  first
   | (rw[show kO x=true by unfold kO;simp;omega,dH] at hinv;exact⟨(),hinv,aP.mk (by simp only[aB,seval])⟩)
   | (rw[show kO x=false by unfold kO;simp;omega,eT] at hinv;rw[←hinv];simp)
end Go.AW
