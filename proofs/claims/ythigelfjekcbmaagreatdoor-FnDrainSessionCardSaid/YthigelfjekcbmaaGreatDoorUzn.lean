import Derived.Test.YthigelfjekcbmaaGreatDoorUzm
import Derived.Test.YthigelfjekcbmaaGreatDoorUzl
import Derived.Test.YthigelfjekcbmaaGreatDoorUzf
import Derived.Test.YthigelfjekcbmaaGreatDoorUzi
set_option linter.unusedSimpArgs false
set_option linter.unusedVariables false
set_option maxRecDepth 100000
namespace Go.AW
open Go.Proofs.Tryz
theorem WD{p:List Cl}(hp:∀c∈p,iC c∧c.2.length≤6){B:Nat}(hB:B≤524288){cs:List RC}{goal:Tm}{rest:List RG}{σ:Sub}{N:Nat}(hg:cX σ)(ho:c9 (bP N) σ)(hd:∀n,¬(0≤n∧n<(N:Int))→σ n=none)
 (hgo:bP N goal) (hr:∀g∈rest,bP N g.t∧g.t.k=3) (h0:0<N) (hN:N+26≤B) (hrl:rest.length+26≤B) (hcl:cs.length+1≤B) (hcs:∀c∈cs,y7 p c∧c.N+26≤B∧c.rest.length+26≤B∧0<c.N) :
 ∀(left:List Nat),(∀i∈left,i<p.length)→left.length≤1048576→∀s,iG p cs goal rest σ N left=some s→rI p B s
 | [],_,_,s,h=>by simp [iG] at h
 | i::l,hle,hll,s,h=>by
  have hil:=hle i (by simp)
  obtain⟨x,hx⟩:∃x,p[i]?=some x:=⟨_,fF hil⟩
  obtain⟨hX,h6⟩:=hp x (dA hx)
  have hl':∀j∈l,j<p.length:=fun j hj=>hle j (by simp [hj])
  rw[iG.eq_def] at h
  simp only[hx] at h
  split at h
  case isFalse=>exact WD hp hB hg ho hd hgo hr h0 hN hrl hcl hcs l hl' (by simp at hll;omega) s h
  cases h
  have hfr:=hX.fr.1
  have hsh:=hX.dK N
  obtain⟨r,σ',tr,U⟩:=vD (N:=N+pV x) hg (ho.upN (by omega)) (hgo.mono (by omega)) (hsh x.1 (by simp))
  rw[U.eq]
  have S:=U.yG
  refine⟨S.iR,S.ok,fun n hn=>?_,?_,by simp only;omega,by simp only;omega,?_,?_,?_⟩
  · simp only at hn ⊢
    rw[S.a7 n (fun h=>hn (S.gS n h))]
    exact hd n (fun h=>hn (by omega))
  · intro g hg'
    simp only[eK,cY] at hg'
    rcases hg' with ⟨t,ht,rfl⟩ | hg'
    · exact⟨hsh t (List.mem_cons_of_mem _ ht),by rw[aQQ];exact(hX.body t ht).2⟩
    · exact⟨(hr g hg').1.mono (by simp only;omega),(hr g hg').2⟩
  · simp only[dW,aF];omega
  · simp only
    split
    · omega
    · simp only[dW,aT,aX];omega
  · simp only
    split
    · exact hcs
    · intro c hc
      rcases eK.1 hc with hc | hc
      · exact hcs c hc
      · simp only[dB,dV,eA] at hc
        subst hc
        exact⟨⟨hg,ho,hd,hgo,hr,hl',by simp only;omega,by simp only;simp at hll;omega⟩,hN,hrl,h0⟩
theorem a5G(p:List Cl)(chs:List RC):fM p chs.length chs=match chs.getLast? with
 | none=>none
 | some c=>match iG p chs.dropLast c.goal c.rest c.σ c.N c.left with
  | some s=>some s
  | none=>fM p chs.dropLast.length chs.dropLast:=by
 cases chs with
 | nil=>rfl
 | cons c l=>
  rw[aT,fM]
  have:(c::l).dropLast.length=l.length:=by simp
  rw[this]
  try rfl
theorem aQB{p:List Cl}(hp:∀c∈p,iC c∧c.2.length≤6){B:Nat}(hB:B≤524288):∀(n:Nat) (chs:List RC),chs.length≤B→(∀c∈chs,y7 p c∧c.N+26≤B∧c.rest.length+26≤B∧0<c.N)→∀s,fM p n chs=some s→rI p B s
 | 0,_,_,_,s,h=>by simp [fM] at h
 | n+1,chs,hl,hc,s,h=>by
  rw[fM] at h
  split at h
  · cases h
  · rename_i c v7
    have hm:=QR v7
    have hne:chs≠[]:=by rintro rfl;simp at hm
    have hdl:chs.dropLast.length+1=chs.length:=by
     have:=QP.2 hne
     simp;omega
    have hcd:∀c∈chs.dropLast,y7 p c∧c.N+26≤B∧c.rest.length+26≤B∧0<c.N:=fun c h=>hc c (QK _ h)
    obtain⟨k,h1,h2,h3⟩:=hc c hm
    split at h
    · rename_i s' hs
      cases h
      exact WD hp hB k.iR k.ok k.xD k.goal k.rest h3 h1 h2 (by omega) hcd c.left k.left k.a33 s hs
    · exact aQB hp hB n _ (by omega) hcd s h
theorem rI.up{p:List Cl}{B C:Nat}{s:RS}(h:rI p B s)(hC:B≤C):rI p C s:=
 ⟨h.iR,h.ok,h.xD,h.goals,h.pos,by have:=h.hN;omega,by have:=h.gl;omega,by have:=h.rN;omega,fun c hc=>by
  obtain⟨h1,h2,h3,h4⟩:=h.chs c hc
  exact⟨h1,by omega,by omega,h4⟩⟩
theorem rI.back{p:List Cl}(hp:∀c∈p,iC c∧c.2.length≤6){B:Nat}(hB:B≤524288){s s':RS}(h:rI p B s)(e:fM p s.chs.length s.chs=some s'):rI p B s':=
 aQB hp hB _ _ h.rN h.chs s' e
theorem NB{N:Nat}{σ:Sub}(hg:cX σ)(ho:c9 (bP N) σ){t:Tm}(ht:bP N t)(hf:eX (t.aN (rs σ))=true):bP N (t.aN (rs σ)):=by
 obtain⟨rk,B,G⟩:=hg.rs
 unfold eX at hf
 simp only[cE,bK] at hf
 exact⟨ht.1.aN fun v hv=>G.m7 ho.m7 v (ht.1.2.2 v hv).1 (ht.1.2.2 v hv).2,hf.2⟩
theorem rI.step{p:List Cl}(hp:∀c∈p,iC c∧c.2.length≤6)(hpl:p.length≤1048576){B:Nat}(hB:B+26≤524288){cnd:Tm→List Nat→List Nat}(hc:∀t l,(∀i∈cnd t l,i∈l)∧(cnd t l).length≤l.length){s s':RS}{g:RG}{rest:List RG}(hgs:s.goals=g::rest)(h:rI p B s)
 (e:iF p cnd s g rest=.go s'):rI p (B+26) s':=by
 have hgm:g∈s.goals:=by rw[hgs];simp
 have hrm:∀x∈rest,x∈s.goals:=fun x hx=>by rw[hgs];simp [hx]
 have hgl:=h.gl
 rw[hgs,aT] at hgl
 have hU:=h.up (C:=B+26) (by omega)
 unfold iF at e
 split at e
 · cases e
 rename_i g7
 have UL:eX (g.t.aN (rs s.σ))=true:=by simpa using g7
 have hok:=NB h.iR h.ok (h.goals g hgm).1 UL
 generalize g.t.aN (rs s.σ)=t at *
 split at e
 · cases e
   exact⟨hU.iR,hU.ok,hU.xD,fun x hx=>hU.goals x (hrm x hx),hU.pos,hU.hN,by simp only;omega,by simp only[eC];have:=hU.rN;omega,fun c hc=>hU.chs c (mJ hc)⟩
 split at e
 · split at e
   · cases e
     have S:=OY h.iR h.ok t.s t.ts fun x hx=>by
      obtain⟨k,n,s',ts⟩:=t
      by_cases hk:k=1
      · obtain⟨_,_,_,h2⟩:=(show cO s.N (.mk 1 n s' ts) from hk▸hok.1).var
        simp only[Tm.ts] at hx
        rw[h2] at hx;cases hx
      · exact s8 _ (.mk k n s' ts) hk hok x hx
     exact⟨S.iR,S.ok,fun n hn=>by simp only at hn ⊢;rw[S.a7 n (fun h=>hn (S.gS n h))];exact hU.xD n hn,fun x hx=>hU.goals x (hrm x hx),hU.pos,hU.hN,by simp only;omega,hU.rN,hU.chs⟩
   · split at e<;>cases e
 split at e
 · cases e
 split at e
 case h_2=>cases e
 rename_i s2 hs
 cases e
 obtain⟨c1,c2⟩:=hc t (gA p t)
 have hfl:(gA p t).length≤p.length:=by rw[NC];exact ND p t p.length
 refine WD hp (by omega) h.iR h.ok h.xD hok (fun x hx=>h.goals x (hrm x hx)) h.pos (by have:=h.hN;omega) (by omega) (by have:=h.rN;omega) hU.chs _ (fun i hi=>?_) (by omega) s' hs
 have:=c1 i hi
 unfold gA at this
 have:=(List.mem_filter.1 this).1
 exact yY.1 this
def oW(n:Nat)(l:List RG):Prop:=l.Pairwise (fun a b=>b.a7≤a.a7)∧∀g∈l,g.a7≤n
theorem oW.up{n m:Nat}{l:List RG}(h:oW n l)(hm:n≤m):oW m l:=⟨h.1,fun g hg=>oZ (h.2 g hg) hm⟩
theorem oW.tail{n:Nat}{g:RG}{l:List RG}(h:oW n (g::l)):oW n l∧oW g.a7 l:=by
 obtain⟨h1,h2⟩:=h
 rw[List.pairwise_cons] at h1
 exact⟨⟨h1.2,fun x hx=>h2 x (by simp [hx])⟩,h1.2,h1.1⟩
theorem oW.body{n:Nat}{l:List RG}(h:oW n l)(f:Tm→Tm)(bd:List Tm):oW n (bd.map (fun t=>(⟨f t,n⟩:RG))++l):=by
 refine⟨List.pairwise_append.2 ⟨?_,h.1,fun a ha b hb=>?_⟩,fun g hg=>?_⟩
 · rw[List.pairwise_map]
   exact List.pairwise_of_forall fun _ _=>dC _
 · obtain⟨t,_,rfl⟩:=cY.1 ha
   exact h.2 b hb
 · rcases eK.1 hg with hg | hg
   · obtain⟨t,_,rfl⟩:=cY.1 hg
     exact dC _
   · exact h.2 g hg
structure BI (s:RS):Prop where
 goals:oW s.chs.length s.goals
 chs:∀i c,s.chs[i]?=some c→oW i c.rest
theorem WA{p:List Cl}{cs:List RC}{goal:Tm}{rest:List RG}{σ:Sub}{N:Nat}(hr:oW cs.length rest)(hc:∀i c,cs[i]?=some c→oW i c.rest) :
 ∀(left:List Nat) s,iG p cs goal rest σ N left=some s→BI s
 | [],s,h=>by simp [iG] at h
 | i::l,s,h=>by
  rw[iG.eq_def] at h
  simp only at h
  split at h
  · cases h
  rename_i x hx
  split at h
  case isFalse=>exact WA hr hc l s h
  cases h
  have hb:=hr.body (dK N) x.2
  refine⟨?_,?_⟩
  · simp only
    split
    · exact hb
    · exact hb.up (by simp)
  · simp only
    intro j c hj
    split at hj
    · exact hc j c hj
    · rw[List.getElem?_append] at hj
      split at hj
      · exact hc j c hj
      · rename_i hlt
        have hj0:j - cs.length=0:=by
         have:=(gW.1 hj).1
         simp at this;omega
        rw[hj0] at hj
        simp only[QN,Option.some.injEq] at hj
        subst hj
        exact hr.up (by omega)
theorem aP8{p:List Cl}:∀(n:Nat) (chs:List RC),(∀i c,chs[i]?=some c→oW i c.rest)→∀s,fM p n chs=some s→BI s
 | 0,_,_,s,h=>by simp [fM] at h
 | n+1,chs,hc,s,h=>by
  rw[fM] at h
  split at h
  · cases h
  · rename_i c v7
    have hd:∀i c,chs.dropLast[i]?=some c→oW i c.rest:=fun i c hi=>hc i c (by
     rw[List.dropLast_eq_take,List.getElem?_take] at hi
     split at hi
     · exact hi
     · cases hi)
    rw[YA] at v7
    have hk:=hc _ _ v7
    split at h
    · rename_i s' hs
      cases h
      exact WA (by rw[List.length_dropLast];exact hk) hd _ s hs
    · exact aP8 n _ hd s h
theorem BI.step{p:List Cl}{cnd:Tm→List Nat→List Nat}{s s':RS}{g:RG}{rest:List RG}(hgs:s.goals=g::rest)(h:BI s)(e:iF p cnd s g rest=.go s'):BI s':=by
 have hg:=h.goals
 rw[hgs] at hg
 obtain⟨h1,h2⟩:=hg.tail
 have h3:=hg.2 g (by simp)
 unfold iF at e
 split at e
 · cases e
 split at e
 · cases e
   refine⟨?_,fun i c hi=>?_⟩
   · simp only[eC]
     exact h2.up (by omega)
   · simp only[List.getElem?_take] at hi
     split at hi
     · exact h.chs i c hi
     · cases hi
 split at e
 · split at e
   · cases e
     exact⟨h1,h.chs⟩
   · split at e<;>cases e
 split at e
 · cases e
 split at e
 case h_2=>cases e
 rename_i s2 hs
 cases e
 exact WA h1 h.chs _ s' hs
def EI(s:RS):Prop:=26≤s.N∧∀c∈s.chs,26≤c.N
theorem WB{p:List Cl}{cs:List RC}{goal:Tm}{rest:List RG}{σ:Sub}{N:Nat}(hN:26≤N)(hc:∀c∈cs,26≤c.N) :
 ∀(left:List Nat) s,iG p cs goal rest σ N left=some s→EI s
 | [],s,h=>by simp [iG] at h
 | i::l,s,h=>by
  rw[iG.eq_def] at h
  simp only at h
  split at h
  · cases h
  rename_i x hx
  split at h
  case isFalse=>exact WB hN hc l s h
  cases h
  refine⟨by simp only;omega,?_⟩
  simp only
  split
  · exact hc
  · intro c h
    rcases eK.1 h with h | h
    · exact hc c h
    · simp only[dB,dV,eA] at h
      subst h;exact hN
theorem aP9{p:List Cl}:∀(n:Nat) (chs:List RC),(∀c∈chs,26≤c.N)→∀s,fM p n chs=some s→EI s
 | 0,_,_,s,h=>by simp [fM] at h
 | n+1,chs,hc,s,h=>by
  rw[fM] at h
  split at h
  · cases h
  · rename_i c v7
    have hd:∀c∈chs.dropLast,26≤c.N:=fun c h=>hc c (QK _ h)
    split at h
    · rename_i s' hs
      cases h
      exact WB (hc c (QR v7)) hd _ s hs
    · exact aP9 n _ hd s h
theorem EI.step{p:List Cl}{cnd:Tm→List Nat→List Nat}{s s':RS}{g:RG}{rest:List RG}(h:EI s)(e:iF p cnd s g rest=.go s'):EI s':=by
 unfold iF at e
 split at e
 · cases e
 split at e
 · cases e
   exact⟨h.1,fun c hc=>h.2 c (mJ hc)⟩
 split at e
 · split at e
   · cases e
     exact h
   · split at e<;>cases e
 split at e
 · cases e
 split at e
 case h_2=>cases e
 rename_i s2 hs
 cases e
 exact WB h.1 h.2 _ s' hs
structure nH (p:List Cl) (B:Nat) (s:RS):Prop where
 a:rI p B s
 k:BI s
 l:EI s
theorem nH.step{p:List Cl}(hp:∀c∈p,iC c∧c.2.length≤6)(hpl:p.length≤1048576){B:Nat}(hB:B+26≤524288){cnd:Tm→List Nat→List Nat}(hc:∀t l,(∀i∈cnd t l,i∈l)∧(cnd t l).length≤l.length){s s':RS}{g:RG}{rest:List RG}(hgs:s.goals=g::rest)(h:nH p B s)
 (e:iF p cnd s g rest=.go s'):nH p (B+26) s':=⟨h.a.step hp hpl hB hc hgs e,h.k.step hgs e,h.l.step e⟩
theorem nH.back{p:List Cl}(hp:∀c∈p,iC c∧c.2.length≤6){B:Nat}(hB:B≤524288){s s':RS}(h:nH p B s)(e:fM p s.chs.length s.chs=some s'):nH p B s':=
 ⟨h.a.back hp hB e,aP8 _ _ h.k.chs s' e,aP9 _ _ h.l.2 s' e⟩
theorem nH.up{p:List Cl}{B C:Nat}{s:RS}(h:nH p B s)(hC:B≤C):nH p C s:=⟨h.a.up hC,h.k,h.l⟩
theorem nH.start{p:List Cl}{q:List Tm}(hq:∀t∈q,bP 26 t∧t.k=3)(h6:q.length≤6):nH p 26 (lL q):=by
 refine⟨⟨cX.none,fun n u h=>(by cases h),fun n _=>rfl,?_,(by show 0<26;omega),dC _,?_,jU _,fun c hc=>(by cases hc)⟩,⟨⟨?_,?_⟩,fun i c hi=>(by cases hi)⟩,⟨dC _,fun c hc=>(by cases hc)⟩⟩
 · intro g hg
   simp only[lL,cY] at hg
   obtain⟨t,ht,rfl⟩:=hg
   exact hq t ht
 · simp only[lL,aF];omega
 · simp only[lL,List.pairwise_map]
   exact List.pairwise_of_forall fun _ _=>dC _
 · intro g hg
   simp only[lL,cY] at hg
   obtain⟨t,ht,rfl⟩:=hg
   exact jU _
theorem aQV{φ:AF}{t:TypeId}{ag:Bool}{w d k:Nat}{es:List AV}(hI:eI prog t=some (ag,w))(h:φ d=.int .i64 (k:Int))(hk:k≤es.length):fY prog φ t (.slice es) none (some (.tmp d)) none=some (.slice (es.take k)):=by
 have he:φ.eval (.tmp d)=.int .i64 (k:Int):=h
 unfold fY
 rw[aE (by simp [pE])]
 simp only[nK,hI]
 rw[aE (by simp)]
 simp only[dJ,he]
 rw[aH (by omega)]
 simp
def LQ(a:AV):Prop:=(∃l,a=.slice l)∨a=.fslice []
theorem LQ.facts{a:AV}(h:LQ a):a.isAgg=false∧a.width=1∧a.cJ=false∧a.cells= [a]∧a.storable=true∧∃l,a.soft=.slice l:=by
 rcases h with ⟨l,rfl⟩ | rfl
 · exact⟨rfl,rfl,rfl,rfl,rfl,l,rfl⟩
 · exact⟨rfl,rfl,rfl,rfl,rfl,[],rfl⟩
abbrev wI:=zi tI_3 (zi zI_3 (zi aU (zi tI_4 (zi zI_4 (zi cI (zi tI_27 (zi zI_27 (zi eH (zi gK (zi gN (zi iJ (zi tI_157 (zi zI_157 (zi zX (zi IM (zi IN (zi XT (zi tI_159 (zi zI_159 (zi IP (zi IQ (zi IR (zi HZ (zi tI_199 (zi zI_199 (zi S8 (zi S9 (zi TA (zi TB RM)))))))))))))))))))))))))))))
theorem aA3{p:List Cl}(hp:∀c∈p,iC c∧c.2.length≤6){B:Nat}(hB:B≤524288)(gs0:List RG)(σ0:List AV)(chs:List RC)(hl:chs.length≤B)(hc:∀c∈chs,y7 p c∧c.N+26≤B∧c.rest.length+26≤B∧0<c.N)(st:aB) :
 aD prog 131 [.slice (p.map a9),.agg [.slice (gs0.map fC),.slice σ0,.slice (chs.map gP)]] st (fun r st'=>st'=st∧match fM p chs.length chs with
  | some s=>r=.tup [uU s,.bool true]
  | none=>∃l1 l2 l3,r=.tup [.agg [.slice l1,.slice l2,.slice l3],.bool false]):=by
 refine aD.kS (aD.soft ?_)
 refine wF [1000000,3] 2 func131 ntmps131 rfl rfl ?_
 intro _
 simp -implicitDefEqProofs only[aA,seval,wI]
 intro b3 h3 b4 h4
 have hne:b4≠b3:=by rintro rfl;rw[aB.aJ] at h4;cases h4
 have U0:st b4=none:=by rw[aB.aG _ _ hne] at h4;exact h4
 rw[aB.nD _ _ _ (dG hne)]
 generalize hW:st.aC b4 (.cells [.fslice [],.fslice [],.fslice []])=W
 have hW4:W b4=some (.cells [.fslice [],.fslice [],.fslice []]):=by rw[←hW];exact aB.aJ _ _ _
 have hW3:W b3=none:=by rw[←hW,aB.aG _ _ (dG hne)];exact h3
 have hDW:∀o o',aL ((W.aC b3 o).aC b4 o') st:=fun o o' q=>by
  by_cases q4:q=b4
  · subst q4;rw[aB.aJ,U0];simp
  rw[aB.aG _ _ q4]
  by_cases q3:q=b3
  · subst q3;rw[aB.aJ,h3];simp
  rw[aB.aG _ _ q3,←hW,aB.aG _ _ q4]
  simp
 have bAP:b3≠b4:=dG hne
 refine iT (σ:=List RC×AV×AV) [1000000,3] [0,3,4] (fun s=>s.1.length≤B∧(∀c∈s.1,y7 p c∧c.N+26≤B∧c.rest.length+26≤B∧0<c.N)∧LQ s.2.1∧LQ s.2.2∧fM p s.1.length s.1=fM p chs.length chs) (fun s=>[(5,.bool false)]) (fun s=>W.aC b3 (.cells [s.2.1,s.2.2,.slice (s.1.map gP)])) (fun s=>s.1.length) (by decide +kernel) ⟨(chs,.slice (gs0.map fC),.slice σ0),⟨hl,hc,.inl ⟨_,rfl⟩,.inl ⟨_,rfl⟩,rfl⟩,aP.mk (by simp -implicitDefEqProofs only[aA,seval])⟩ ?_
 rintro⟨l,a,b⟩ ⟨hl1,hlc,ha,hb,hinv⟩
 simp only at hl1 hlc ha hb hinv
 obtain⟨a1,a2,a3,a4,a5,la,a6⟩:=ha.facts
 obtain⟨b1,b2,b3',b4',b5,lb,b6⟩:=hb.facts
 simp only
 rw[a5G] at hinv
 by_cases CY:l= []
 · subst CY
   simp only[List.getLast?_nil] at hinv
   simp -implicitDefEqProofs only[aB.aJ,xI,List.contains,List.elem,tP,jK,sub,↓reduceIte,reduceCtorEq,Nat.reduceEqDiff,wI]
   refine aQ (fun h=>absurd h (by decide)) (fun h=>?_)
   simp -implicitDefEqProofs only[aK,hne,aB.aJ,hW4,a5,b5,aA,seval,wI]
   rw[←hinv]
   exact⟨st,hDW _ _,rfl,la,lb,[],by simp only[jI,jQ,sB,nA,bB,aW,a6,b6]⟩
 obtain⟨c,v7⟩:∃c,l.getLast?=some c:=by
  cases h:l.getLast? with
  | none=>exact absurd (List.getLast?_eq_none_iff.1 h) CY
  | some c=>exact⟨c,rfl⟩
 have hlp:=QP.2 CY
 have hcm:=QR v7
 obtain⟨a1G,hcN,hcr,hc0⟩:=hlc c hcm
 rw[v7] at hinv
 simp only at hinv
 have hat:=bQ (av:=gP) (P:=prog) (l:=l) (i:=l.length - 1) (x:=c) zX (by rw[←YA];exact v7) (OQ c)
 rw[show(((l.length - 1:Nat):Int))=(l.length:Int) - 1 by omega] at hat
 have hw:=bO (n:=(l.length:Int) - 1)
 have hdl:l.dropLast=l.take (l.length - 1):=List.dropLast_eq_take
 have bAJ:l.dropLast.length+1=l.length:=by simp;omega
 have hct:=aA9 p hp [] [] l.dropLast c a1G hc0 (by omega) (by omega)
 have hcs:=fun(φ:AF) (d:Nat) (h:φ d=.int .i64 ((l.length:Int) - 1))=>aQV (es:=l.map gP) (k:=l.length - 1) zX (h.trans (by congr 1;omega)) (by simp)
 rw[←G9,←hdl] at hcs
 generalize hx:iG p l.dropLast c.goal c.rest c.σ c.N c.left=x at hinv hct
 obtain⟨⟨ck,cn,cs',cts⟩,aBU,aBT,cσ,cN⟩:=c
 rw[WF] at hct hat
 simp only[aW] at hct
 simp -implicitDefEqProofs only[aF,aB.aJ,aA,seval,wI]
 refine aQ (fun h=>?_) (fun h=>absurd hlp (by simpa using h))
 simp -implicitDefEqProofs only[aF,aB.aJ,hw,hat,aA,↓aS,seval,wI]
 cases x with
 | none=>
  have NS:∀st,aD prog 168 [.slice (p.map a9),.agg [.fslice [],.fslice [],.slice (l.dropLast.map gP)],.agg [.int .i64 ck,.int .i64 cn,.str cs',.slice (cts.map Tm.av),.slice (aBU.map fC),.slice (aBT.map nv),.slice (dE cN cσ)]] st (fun r st'=>r=.tup [.agg [.slice [],.slice [],.slice (l.dropLast.map gP)],.bool false]∧st'=st):=fun st=>
   aD.rD ((hct st).mono fun _ _ h=>⟨h.2,h.1⟩)
  simp only at hinv
  refine wP [(0,1),(1,1),(3,1),(2,2),(4,1),(5,1),(6,2),(7,1),(8,1),(9,1),(10,1),(11,0),(12,0),(13,1)] [0,1,3,2,4,5,6,7,8,9,10,13] mixed ?_
  simp -implicitDefEqProofs only[aB.aJ,hcs,aA,seval,wI]
  refine SO NS ?_
  simp -implicitDefEqProofs only[aK,aB.aJ,aA,seval,wI]
  intro b8 h8
  have h83:b8≠b3:=by rintro rfl;rw[aB.aJ] at h8;cases h8
  rw[aB.aG _ _ h83] at h8
  have h84:b8≠b4:=by rintro rfl;rw[hW4] at h8;cases h8
  have hs8:st b8=none:=by rw[←hW,aB.aG _ _ h84] at h8;exact h8
  have h38:=dG h83
  have h48:=dG h84
  simp -implicitDefEqProofs only[aK,h38,aB.aJ,hcs,aA,seval,wI]
  refine⟨(l.dropLast,.fslice [],.fslice []),by simp only;omega,⟨by simp only;omega,fun c h=>hlc c (QK _ h),.inr rfl,.inr rfl,hinv⟩,aP.drop (fun q=>?_) (by simp -implicitDefEqProofs only[aA,seval])⟩
  by_cases q3:q=b3
  · subst q3;rw[aB.aJ,aB.aJ];simp
  rw[aB.aG _ _ q3,aB.aG _ _ q3]
  by_cases q8:q=b8
  · subst q8;rw[aB.aJ,h8];simp
  rw[aB.aG _ _ q8,aB.aG _ _ q3]
  simp
 | some s=>
  have NS:∀st,aD prog 168 [.slice (p.map a9),.agg [.fslice [],.fslice [],.slice (l.dropLast.map gP)],.agg [.int .i64 ck,.int .i64 cn,.str cs',.slice (cts.map Tm.av),.slice (aBU.map fC),.slice (aBT.map nv),.slice (dE cN cσ)]] st (fun r st'=>r=.tup [uU s,.bool true]∧st'=st):=fun st=>
   aD.rD ((hct st).mono fun _ _ h=>⟨h.2,h.1⟩)
  simp only at hinv
  simp only[uU] at NS
  refine wP [(0,1),(1,1),(3,1),(2,2),(4,1),(5,1),(6,2),(7,1),(8,1),(9,1),(10,1),(11,0),(12,0),(13,1)] [0,1,3,2,4,5,6,7,8,9,10,13] mixed ?_
  simp -implicitDefEqProofs only[aB.aJ,hcs,aA,seval,wI]
  refine SO NS ?_
  simp -implicitDefEqProofs only[aK,aB.aJ,aA,seval,wI]
  intro b8 h8
  have h83:b8≠b3:=by rintro rfl;rw[aB.aJ] at h8;cases h8
  rw[aB.aG _ _ h83] at h8
  have h84:b8≠b4:=by rintro rfl;rw[hW4] at h8;cases h8
  have hs8:st b8=none:=by rw[←hW,aB.aG _ _ h84] at h8;exact h8
  have h38:=dG h83
  have h48:=dG h84
  simp -implicitDefEqProofs only[hne,h48,hW4,aA,seval]
  refine⟨st,?_,rfl,?_⟩
  · have d1:aL W st:=by rw[←hW];exact(aL.refl _).aC U0
    exact((d1.aC h3).aC hs8).aC U0
  · rw[←hinv]
    simp only[jI,jQ,sB,nA,bB,aW]
    rfl
theorem a6M{φ:AF}{t:TypeId}{ag:Bool}{w:Nat}{y:Operand}{e:AV}{es:List AV}(hI:eI prog t=some (ag,w))(h:φ.eval y=.int .i64 1)(hw:∀x∈es,x.width=w):fY prog φ t (.slice (e::es)) (some y) none none=some (.slice es):=by
 have hwo:wN (e::es) 1 w=true:=by
  unfold wN
  rw[QM]
  split
  · rename_i x hx
    simp [hw x (dA hx)]
  · rfl
 unfold fY
 rw[aE (by simp [pE])]
 simp only[nK,hI]
 rw[aE (by simp)]
 simp only[dJ,h]
 rw[aH (by constructor<;>simp<;>omega)]
 simp [hwo]
abbrev bAZ:=zi tI_3 (zi zI_3 aU)
theorem aXY(c:Int)(st:aB):aD prog 166 [.int .i64 c] st (fun r st'=>r=.int .i64 (qN c)∧st'=st):=by
 refine aD.done ?_
 refine wF [1000000] 1 func166 ntmps166 rfl rfl ?_
 intro _
 simp -implicitDefEqProofs only[aA,seval]
 unfold qN
 refine aQ (fun h=>?_) (fun h=>?_)
 · simp -implicitDefEqProofs only[aA,seval]
   have h':c=2:=by simpa using h
   exact⟨by rw[aH h'];try rfl,aL.refl _⟩
 rw[aE (show ¬c=2 by simpa using h)]
 simp -implicitDefEqProofs only[aA,seval]
 refine aQ (fun h=>?_) (fun h=>?_)
 · simp -implicitDefEqProofs only[aA,seval]
   have h':c=3:=by simpa using h
   exact⟨by rw[aH h'];try rfl,aL.refl _⟩
 rw[aE (show ¬c=3 by simpa using h)]
 simp -implicitDefEqProofs only[aA,seval]
 refine aQ (fun h=>?_) (fun h=>?_)
 · simp -implicitDefEqProofs only[aA,seval]
   have h':c=4:=by simpa using h
   exact⟨by rw[aH h'];try rfl,aL.refl _⟩
 rw[aE (show ¬c=4 by simpa using h)]
 simp -implicitDefEqProofs only[aA,seval]
 exact⟨rfl,aL.refl _⟩
def y9(x:RO)(r:AV):Prop:=match x with
 | .go s=>r=.tup [uU s,.int .i64 (-1)]
 | .fail=>∃l1 l2 l3,r=.tup [.agg [.slice l1,.slice l2,.slice l3],.int .i64 (-2)]
 | .stop e=>0≤e∧∃l1 l2 l3,r=.tup [.agg [.slice l1,.slice l2,.slice l3],.int .i64 e]
abbrev oO:=zi tI_2 (zi zI_2 (zi LC (zi tI_3 (zi zI_3 (zi aU (zi tI_4 (zi zI_4 (zi cI (zi tI_9 (zi zI_9 (zi cT (zi tI_27 (zi zI_27 (zi eH (zi gK (zi gN (zi iJ (zi tI_28 (zi zI_28 (zi aO (zi bF (zi bG (zi bZ (zi tI_40 (zi zI_40 (zi dT (zi fJ (zi fK (zi fU (zi tI_52 (zi zI_52 (zi bU (zi bV (zi bX (zi bY (zi bT (zi tI_156 (zi zI_156 (zi xG (zi CF (zi CH (zi LB (zi tI_157 (zi zI_157 (zi zX (zi IM (zi IN (zi XT (zi tI_159 (zi zI_159 (zi IP (zi IQ (zi IR (zi HZ (zi tI_193 (zi zI_193 (zi aMO (zi aMP (zi ZQ (zi tI_199 (zi zI_199 (zi S8 (zi S9 (zi TA (zi TB RM)))))))))))))))))))))))))))))))))))))))))))))))))))))))))))))))))
theorem aX6{p:List Cl}(hp:∀c∈p,iC c∧c.2.length≤6)(hpl:p.length≤1048576){B:Nat}(hB:B+26≤524288)(goals:List RG)(σ:Sub)(N:Nat)(chs:List RC)(g:RG)(rest:List RG)(hgs:goals=g::rest)(h:rI p B ⟨goals,σ,N,chs⟩)(hK:BI ⟨goals,σ,N,chs⟩)(st:aB) :
 aD prog 130 [.slice (p.map a9),.agg [.slice (goals.map fC),.slice (dE N σ),.slice (chs.map gP)]] st (fun r st'=>st'=st∧y9 (iF p (fun _ l=>l) ⟨goals,σ,N,chs⟩ g rest) r):=by
 subst hgs
 obtain⟨hg,ho,hd,hgo,h0,hN,hgl,hcl,hch⟩:=h
 simp only at hg ho hd hgo h0 hN hgl hcl hch
 obtain⟨hgx,hg3⟩:=hgo g (by simp)
 have FP:∀x∈rest,bP N x.t∧x.t.k=3:=fun x hx=>hgo x (by simp [hx])
 have hkp:=hK.goals.2 g (by simp)
 simp only at hkp
 have hsm:=aA8 hg ho g.t hgx
 have hyk:(g.t.aN (rs σ)).k=3:=by rw[Tm.sX _ (by omega)];exact hg3
 have hfo:=NB hg ho hgx
 generalize hR:iF p (fun _ l=>l) ⟨g::rest,σ,N,chs⟩ g rest=R
 unfold iF at hR
 dsimp only at hR
 obtain⟨⟨gk,gn,gs',gts⟩,a7⟩:=g
 simp only at hgx hg3 hkp hsm hyk hfo
 dsimp only at hR
 generalize (Tm.mk gk gn gs' gts).aN (rs σ)=y at *
 obtain⟨yk,yn,ys,yts⟩:=y
 obtain rfl:yk=3:=hyk
 have hat:dN prog 156 (.slice ((⟨.mk gk gn gs' gts,a7⟩::rest).map fC)) (.int .i64 0)=some (.pptr (fC ⟨.mk gk gn gs' gts,a7⟩)):=bQ (av:=fC) (l:=⟨.mk gk gn gs' gts,a7⟩::rest) (i:=0) xG rfl (GH _)
 have hs1:=fun(φ:AF) (y:Operand) (h:φ.eval y=.int .i64 1)=>a6M (e:=fC ⟨.mk gk gn gs' gts,a7⟩) (es:=rest.map fC) xG h (by intro e he;simp only[cY] at he;obtain⟨t,_,rfl⟩:=he;exact GH t)
 rw[bB,KD] at hat
 rw[KD] at hs1
 rw[bB,KD]
 simp only[a8] at hsm
 refine aD.fin (aD.kS ?_)
 refine wF [1000000] 2 func130 ntmps130 rfl rfl ?_
 intro _
 simp -implicitDefEqProofs only[aT,hat,hs1,aA,↓aS,seval,oO]
 intro b4 h4
 refine(hsm _).mono ?_
 rintro _ _ ⟨rfl,x,rfl,hx⟩
 generalize g7:eX (.mk 3 yn ys yts)=fit at *
 have xJ:∀(o:AO) (r:AV) (x:RO),y9 x (r.fin 0 [])→∃s2,aL (st.aC b4 o) s2∧∃b l s0,s2=aV s0 b l∧(l≠[]→s0 b=none)∧(∀e∈l,e.cJ=false)∧iU l∧s0=st∧y9 x (r.fin b l):=fun o r x hr=>
  ⟨st,(aL.refl _).aC h4,0,[],st,rfl,by simp,by simp,⟨0,by simp⟩,rfl,hr⟩
 simp -implicitDefEqProofs only[aT,aM,cH,cP,aA,↓aS,seval,oO]
 refine aQ (fun h=>?_) (fun h=>?_)
 · have h':fit=false:=by simpa using h
   subst h'
   rw[aH rfl] at hR
   subst hR
   simp -implicitDefEqProofs only[aK,aT,aA,seval,oO]
   exact xJ _ _ _ ⟨by decide,_,_,_,by simp only[gG,kK,eS,jF,bB,aW];rfl⟩
 obtain rfl:fit=true:=by simpa using h
 obtain rfl:=hx rfl
 simp only[a8]
 have hyo:=hfo rfl
 rw[aE (by simp)] at hR
 have v4:∀st,aD prog 163 [.agg [.int .i64 3,.int .i64 yn,.str ys,.slice (yts.map Tm.av)]] st (fun r st'=>r=.bool (pR (.mk 3 yn ys yts))∧st'=st):=fun st=>by
  have:=aAZ 3 yn ys yts st
  rw[a8] at this
  exact this
 have hbi:=fun st=>SI ys (yts.length:Int) st
 have aN8:=fun st=>aXK p (.mk 3 yn ys yts) hpl st
 have aOO:=fun hb=>aVB (N:=N) h0 (by omega) hg ho yn ys yts hb (s8 N (.mk 3 yn ys yts) (by show(3:Int)≠1;decide) hyo)
 have htr:=aA9 p hp
 simp only[a8] at aN8 aOO
 replace hR:(if pR (.mk 3 yn ys yts)=true then RO.go ⟨rest,σ,N,chs.take a7⟩ else if isBuiltin ys (yts.length:Int)=true then(if(dI σ ys yts).1=0 then RO.go ⟨rest,(dI σ ys yts).2.1,N,chs⟩ else if(dI σ ys yts).1=1 then RO.fail else RO.stop (qN (dI σ ys yts).1)) else if gA p (.mk 3 yn ys yts)= [] then RO.stop 8 else match iG p chs (.mk 3 yn ys yts) rest σ N (gA p (.mk 3 yn ys yts)) with | some s'=>RO.go s' | none=>RO.fail)=R:=hR
 generalize hcu:pR (.mk 3 yn ys yts)=cu at *
 have hs2:=fun(φ:AF) (d:Nat) (h:φ d=.int .i64 (a7:Int))=>aQV (es:=chs.map gP) (k:=a7) zX h (by simpa using hkp)
 rw[←G9] at hs2
 refine(v4 _).to ?_
 simp -implicitDefEqProofs only[aA,seval]
 refine aQ (fun h=>?_) (fun h=>?_)
 · rw[aH h] at hR
   subst h hR
   simp -implicitDefEqProofs only[aA,seval]
   refine wP [(0,1),(1,1),(3,1),(5,1),(2,2),(4,2),(6,2),(7,1),(8,1),(9,0),(10,1)] [0,1,3,5,2,4,6,7,8,10] mixed ?_
   simp -implicitDefEqProofs only[aK,aT,hs2,aA,seval,oO]
   exact xJ _ _ _ (by simp only[gG,kK,eS,jF,bB,aW];rfl)
 rw[aE (by rw[h];simp)] at hR
 subst h
 simp -implicitDefEqProofs only[aF,aA,seval,oO]
 refine(hbi _).to ?_
 simp -implicitDefEqProofs only[aA,seval]
 refine aQ (fun h=>?_) (fun h=>?_)
 · have AA:=aOO h
   rw[aH h] at hR
   simp -implicitDefEqProofs only[aA,seval,oO]
   refine RK h0 (by omega) σ fun b hb hA0=>?_
   have hst:=aL.aC (aL.refl st) (o:=.cells [.fslice [],.fslice [],.fslice []]) h4
   generalize hW:st.aC b4 (.cells [.fslice [],.fslice [],.fslice []])=W at *
   have hW4:W b4=some (.cells [.fslice [],.fslice [],.fslice []]):=by rw[←hW];exact aB.aJ _ _ _
   have hT:aL (W.aC b (.cells ((dE N σ).flatMap AV.cells))) W:=(aL.refl _).aC hb
   generalize W.aC b (.cells ((dE N σ).flatMap AV.cells))=T at *
   have hb4:b≠b4:=by rintro rfl;rw[hW4] at hb;cases hb
   simp -implicitDefEqProofs only[aT,aA,seval,oO]
   refine(AA b _ hA0).mono ?_
   rintro _ s2 ⟨rfl,hA,hk2⟩
   have a1F:=a6U σ ys yts
   generalize dI σ ys yts=S at *
   obtain⟨c,σ',tr⟩:=S
   simp only at hA a1F ⊢
   dsimp only at hR
   have hDs:aL s2 W:=by
    intro q
    have key:∀o,W q=some o→s2 q=some o:=fun o h=>hk2 q o ((hT q).2 o h) (by rintro rfl;rw[hb] at h;cases h)
    refine⟨fun h=>?_,key⟩
    cases hq:W q with
    | none=>rfl
    | some o=>rw[key o hq] at h;cases h
   have UY:=(hDs b4).2 _ hW4
   have a2Y:st b=none:=by rw[←hW,aB.aG _ _ hb4] at hb;exact hb
   have aM4:∀(o:AO) (r:AV) (x:RO),y9 x (r.fin 0 [])→∃s3,aL (s2.aC b4 o) s3∧∃b l s0,s3=aV s0 b l∧(l≠[]→s0 b=none)∧(∀e∈l,e.cJ=false)∧iU l∧s0=st∧y9 x (r.fin b l):=fun o r x hr=>
    ⟨st,(hDs.trans hst).aC h4,0,[],st,rfl,by simp,by simp,⟨0,by simp⟩,rfl,hr⟩
   simp -implicitDefEqProofs only[aA,seval]
   refine aQ (fun h=>?_) (fun h=>?_)
   · have hc0:c=0:=by simpa using h
     subst hc0
     rw[aH rfl] at hR
     subst hR
     simp -implicitDefEqProofs only[aK,aT,UY,aA,seval,oO]
     have pX:dE N σ'≠[]:=by intro e;have:=vS N σ';rw[e] at this;simp at this;omega
     refine⟨st.aC b (.cells ((dE N σ').flatMap AV.cells)),fun q=>?_,b,dE N σ',st,by rw[jD pX],fun _=>a2Y,HW _ _,⟨4,EV _ _⟩,rfl,?_⟩
     · by_cases q4:q=b4
       · subst q4;rw[aB.aJ,aB.aG _ _ (dG hb4),h4];simp
       rw[aB.aG _ _ q4]
       by_cases qb:q=b
       · subst qb;rw[aB.aJ,show s2 q=_ from hA];simp
       rw[aB.aG _ _ qb]
       exact(hDs.trans hst) q
     · simp only[gG,kK,eS,jF,bB,aW,NA h0]
       rfl
   have hc0:c≠0:=by simpa using h
   rw[aE hc0] at hR
   simp -implicitDefEqProofs only[aA,seval]
   refine aQ (fun h=>?_) (fun h=>?_)
   · have hc1:c=1:=by simpa using h
     subst hc1
     rw[aH rfl] at hR
     subst hR
     simp -implicitDefEqProofs only[aK,aT,UY,aA,seval,oO]
     exact aM4 _ _ _ ⟨_,_,_,by simp only[gG,kK,eS,jF,bB,aW];rfl⟩
   have hc1:c≠1:=by simpa using h
   rw[aE hc1] at hR
   subst hR
   have lD:0≤qN c:=by unfold qN;split;omega;split;omega;split;omega;omega
   simp -implicitDefEqProofs only[aA,seval]
   refine wP [(1,1),(0,2),(2,2),(3,0),(4,1)] [1,0,2,4] mixed ?_
   simp -implicitDefEqProofs only[aT,aA,seval,oO]
   refine j6 (aXY c _) ?_
   simp -implicitDefEqProofs only[aK,aT,UY,aA,seval,oO]
   exact aM4 _ _ _ ⟨lD,_,_,_,by simp only[gG,kK,eS,jF,bB,aW];rfl⟩
 rw[aE (by rw[h];simp)] at hR
 simp -implicitDefEqProofs only[aT,aA,seval,oO]
 refine(aN8 _).to ?_
 have hcx:y7 p ⟨.mk 3 yn ys yts,rest,gA p (.mk 3 yn ys yts),σ,N⟩:=⟨hg,ho,hd,hyo,FP,fun i hi=>by
  unfold gA at hi
  exact yY.1 (List.mem_filter.1 hi).1,by simp only;simp only[aT] at hgl;omega,by
  have:=ND p (.mk 3 yn ys yts) p.length
  rw[←NC] at this
  simp only;omega⟩
 have FQ:=fun st=>htr (⟨.mk gk gn gs' gts,a7⟩::rest) (dE N σ) chs _ hcx h0 (by simp only;omega) (by omega) st
 rw[bB,KD,WF] at FQ
 simp only at FQ
 generalize gA p (.mk 3 yn ys yts)=left at *
 simp -implicitDefEqProofs only[aF,aA,seval,oO]
 refine aQ (fun h=>?_) (fun h=>?_)
 · have h':left= []:=by
    have:(left.length:Int)=0:=by simpa using h
    exact sI (by omega)
   rw[aH h'] at hR
   subst hR
   simp -implicitDefEqProofs only[aK,aT,aA,seval,oO]
   exact xJ _ _ _ ⟨by decide,_,_,_,by simp only[gG,kK,eS,jF,bB,aW];rfl⟩
 have h':left≠[]:=by
  rintro rfl
  simp at h
 rw[aE h'] at hR
 generalize iG p chs (.mk 3 yn ys yts) rest σ N left=x at *
 simp -implicitDefEqProofs only[aT,aA,seval,oO]
 cases x with
 | none=>
  simp only at hR FQ
  subst hR
  refine(FQ _).mono ?_
  rintro _ _ ⟨rfl,rfl⟩
  simp -implicitDefEqProofs only[aK,aT,aA,↓aS,seval,oO]
  exact xJ _ _ _ ⟨_,_,_,by simp only[gG,kK,eS,jF,bB,aW];rfl⟩
 | some s=>
  simp only[uU] at hR FQ
  subst hR
  refine(FQ _).mono ?_
  rintro _ _ ⟨rfl,rfl⟩
  simp -implicitDefEqProofs only[aK,aT,aA,↓aS,seval,oO]
  exact xJ _ _ _ (by simp only[gG,kK,eS,jF,bB,aW];rfl)
theorem a6E{N:Int}{t:Tm}(h:cO N t):dK 0 t=t:=by
 have h1:dK 0 t=t.aN vr:=by
  unfold dK cC
  congr 1
  funext v
  congr 1
  simp
 rw[h1,VI t h.2.1]
theorem ZJ(N:Nat):dE N Sub.none=List.replicate N zt:=by
 apply LM
 intro i
 by_cases h:i<N
 · rw[B0 N _ h,List.getElem?_replicate,aH h];try rfl
 · rw[yU (by rw[vS];omega),yU (by simp;omega)]
abbrev W6:=zi tI_3 (zi zI_3 (zi aU (zi tI_28 (zi zI_28 (zi aO (zi bF (zi bG (zi bZ (zi tI_156 (zi zI_156 (zi xG (zi CF (zi CH (zi LB (zi tI_159 (zi zI_159 (zi IP (zi IQ (zi IR HZ)))))))))))))))))))
theorem aX5(q:List Tm)(hq:∀t∈q,bP 26 t)(h6:q.length≤6)(st:aB):aD prog 128 [.slice (q.map Tm.av)] st (fun r st'=>r=uU (lL q)∧st'=st):=by
 have hgo:∀st,aD prog 158 [.slice (q.map Tm.av),.int .i64 0,.int .i64 0,.fslice []] st (fun r st'=>r=.slice ((lL q).goals.map fC)∧st'=st):=fun st=>
  aD.rD ((aA5 q 0 0 [] hq h6 (by omega) (by simp) st).mono fun _ _ h=>⟨by
   rw[h.1]
   unfold lL
   rw[iV]
   congr 2
   exact sJ fun t ht=>by rw[a6E (hq t ht).1],h.2⟩)
 refine aD.qM (aD.fin (aD.kS ?_))
 refine wF [1000000,3] 1 func128 ntmps128 rfl rfl ?_
 intro _
 simp -implicitDefEqProofs only[aA,seval,W6]
 intro b2 h2
 simp -implicitDefEqProofs only[zD,aK,xI,↓M5,↓LK,List.contains,List.elem,A8,rG,sF,↓reduceIte,reduceCtorEq,Nat.reduceEqDiff,Nat.reduceAdd,Nat.reduceLT,Nat.reduceBEq,W6]
 refine⟨by omega,by omega,by omega,fun bb hbb=>?_⟩
 rw[show Int.toNat 26=26 from rfl,aO8 _ (by simp)]
 have hb2:bb≠b2:=by rintro rfl;rw[aB.aJ] at hbb;cases hbb
 have NR:(List.replicate 26 [AV.int .i64 0,.int .i64 0,.str ⟨#[]⟩,.fslice []]).flatten=(dE 26 Sub.none).flatMap AV.cells:=by
  rw[ZJ];try rfl
 rw[NR]
 have h22:(st.aC b2 (AO.cells [AV.fslice [],AV.fslice [],AV.fslice []])) b2=some (AO.cells [AV.fslice [],AV.fslice [],AV.fslice []]):=aB.aJ _ _ _
 have hD2:aL (st.aC b2 (AO.cells [AV.fslice [],AV.fslice [],AV.fslice []])) st:=(aL.refl _).aC h2
 intro b3 h3
 have h3b:b3≠bb:=by rintro rfl;rw[aB.aJ] at h3;cases h3
 rw[aB.aG _ _ h3b] at h3
 have h32:b3≠b2:=by rintro rfl;rw[aB.aJ] at h3;cases h3
 have hs3:st b3=none:=by rw[aB.aG _ _ h32] at h3;exact h3
 have hsb:st bb=none:=by rw[aB.aG _ _ hb2] at hbb;exact hbb
 refine(hgo _).to ?_
 have e1:=dG h3b
 have e2:=dG h32
 have e3:=dG hb2
 simp -implicitDefEqProofs only[aK,e2,e3,aB.aJ,aA,seval,W6]
 have pX:dE 26 Sub.none≠[]:=by rw[ZJ];simp
 refine⟨st.aC bb (.cells ((dE 26 Sub.none).flatMap AV.cells)),fun q'=>?_,bb,dE 26 Sub.none,st,by rw[jD pX],fun _=>hsb,HW _ _,⟨4,EV _ _⟩,?_,aL.refl _⟩
 · by_cases q2:q'=b2
   · subst q2;rw[aB.aJ,aB.aG _ _ e3,h2];simp
   rw[aB.aG _ _ q2]
   by_cases q3:q'=b3
   · subst q3;rw[aB.aJ,aB.aG _ _ h3b,hs3];simp
   simp only[aB.aG _ _ q3]
   by_cases qb:q'=bb
   · subst qb;rw[aB.aJ,aB.aJ];simp
   rw[aB.aG _ _ qb,aB.aG _ _ qb,aB.aG _ _ q2]
   simp
 · simp only[gG,jF,qO,bB,aW,NA (show 0<26 by omega)]
   rfl
theorem RB{S:aB}{b c:Nat}{l:List AV}{o:AO}(h:l≠[]→b≠c):(aV S b l).aC c o=aV (S.aC c o) b l:=by
 cases l with
 | nil=>rfl
 | cons x l=>rw[jD (by simp),jD (by simp),aB.nD _ _ _ (h (by simp))]
theorem rA{p:List Cl}{cnd:Tm→List Nat→List Nat}{vars:List Int}{most fuel:Nat}{s:RS}(hg:s.goals= []):iZ p cnd vars most fuel s=if most=0 then([],1) else match jW s.σ vars with
 | none=>([],3)
 | some a=>match fM p s.chs.length s.chs with
  | none=>([a],0)
  | some s'=>(a::(iZ p cnd vars (most - 1) fuel s').1,(iZ p cnd vars (most - 1) fuel s').2):=by
 rw[iZ.eq_def,hg]
 simp only
 split<;>rfl
theorem oK{p:List Cl}{cnd:Tm→List Nat→List Nat}{vars:List Int}{most fuel:Nat}{s:RS}{g:RG}{rest:List RG}(hg:s.goals=g::rest):iZ p cnd vars most fuel s=if fuel=0 then([],2) else match iF p cnd s g rest with
 | .stop e=>([],e)
 | .go s'=>iZ p cnd vars most (fuel - 1) s'
 | .fail=>match fM p s.chs.length s.chs with
  | none=>([],0)
  | some s'=>iZ p cnd vars most (fuel - 1) s':=by
 rw[iZ.eq_def,hg]
 simp only
 split<;>rfl
structure YF (p:List Cl) (vars:List Int) (most fuel:Nat) (T:List (List Tm)×Int) (s:RS) (out:List (List Tm)) (f B:Nat):Prop where
 tot:T=(out++(iZ p (fun _ l=>l) vars (most - out.length) f s).1,(iZ p (fun _ l=>l) vars (most - out.length) f s).2)
 len:out.length≤most
 ok:nH p B s
 bd:B+26*f≤8000
abbrev nX:=zi tI_2 (zi zI_2 (zi LC (zi tI_3 (zi zI_3 (zi aU (zi tI_4 (zi zI_4 (zi cI (zi tI_27 (zi zI_27 (zi eH (zi gK (zi gN (zi iJ (zi tI_28 (zi zI_28 (zi aO (zi bF (zi bG (zi bZ (zi tI_31 (zi zI_31 (zi gM (zi jX (zi jY (zi lX (zi tI_40 (zi zI_40 (zi dT (zi fJ (zi fK (zi fU (zi tI_55 (zi zI_55 (zi CL (zi B1 (zi tI_156 (zi zI_156 (zi xG (zi CF (zi CH (zi LB (zi tI_159 (zi zI_159 (zi IP (zi IQ (zi IR HZ)))))))))))))))))))))))))))))))))))))))))))))))
theorem aA7{p:List Cl}(hp:∀c∈p,iC c∧c.2.length≤6)(hpl:p.length≤20){q:List Tm}(hq:∀t∈q,bP 26 t∧t.k=3)(h6:q.length≤6){most fuel:Nat}(hm:most≤20)(hf:fuel≤300)(st:aB) :
 aD prog 80 [.slice (p.map a9),.slice (q.map Tm.av),.int .i64 (most:Int),.int .i64 (fuel:Int)] st (fun r st'=>r=.tup [.slice ((uV p (fun _ l=>l) q most fuel).1.map cD),.int .i64 (uV p (fun _ l=>l) q most fuel).2]∧st'=st):=by
 have hnd:bH Tm.nodes q≤1099511627776:=by
  have:=FY q fun t ht=>(hq t ht).1.2
  omega
 have hva:=fun st=>aBA q st (fun t ht=>Tm.vV t (hq t ht).1.1.2.1) hnd
 have JP:=fun st=>aX5 q (fun t ht=>(hq t ht).1) h6 st
 have hv:∀v∈cF q [],0≤v∧v<26:=fun v hv=>by
  rcases (A5 q [] fun t ht=>(hq t ht).1.1.2.1).1 hv with h | ⟨t,ht,h⟩
  · cases h
  · exact(hq t ht).1.1.2.2 v h
 have hvl:(cF q []).length≤1000:=by
  have h1:=A4 q []
  have h2:=FY q fun t ht=>(hq t ht).1.2
  simp only[aX] at h1
  omega
 have N2:=nH.start (p:=p) hq h6
 generalize hT:uV p (fun _ l=>l) q most fuel=T
 unfold uV at hT
 generalize cF q []=vars at *
 have hI0:YF p vars most fuel T (lL q) [] fuel 26:=⟨by rw[←hT];try rfl,jU _,N2,by omega⟩
 generalize lL q=s0 at *
 simp only[uU] at JP
 refine aD.qM (aD.fin (aD.kS ?_))
 refine wF [1000000,12] 4 func80 ntmps80 rfl rfl ?_
 intro _
 simp -implicitDefEqProofs only[aA,seval,nX]
 refine(hva _).to ?_
 simp -implicitDefEqProofs only[aA,seval]
 refine(JP _).to ?_
 simp -implicitDefEqProofs only[aK,aA,↓aS,seval,nX]
 intro b12 h12
 refine iT (σ:=RS×List (List Tm)×Nat×Nat×Nat) [1000000,12] [0,2,11,12] (fun x=>YF p vars most fuel T x.1 x.2.1 x.2.2.1 x.2.2.2.1∧(x.2.1.map cD≠[]→(st.aC b12 (.cells [.slice (x.1.goals.map fC),.slice (dE x.1.N x.1.σ),.slice (x.1.chs.map gP)])) x.2.2.2.2=none))
  (fun x=>[(3,.int .i64 (x.2.2.1:Int)),(8,.fslice []),(9,.int .i64 0),(10,aZ 1 x.2.2.2.2 (x.2.1.map cD))])
  (fun x=>aV (st.aC b12 (.cells [.slice (x.1.goals.map fC),.slice (dE x.1.N x.1.σ),.slice (x.1.chs.map gP)])) x.2.2.2.2 (x.2.1.map cD))
  (fun x=>(most - x.2.1.length)+x.2.2.1) (by decide +kernel) ⟨(s0,[],fuel,26,0),⟨hI0,by simp⟩,aP.mk (by simp -implicitDefEqProofs only[jV,aW,aA,seval])⟩ ?_
 rintro⟨s,out,f,B,b⟩ ⟨⟨tot,hlen,hok,hbd⟩,hb⟩
 simp only at tot hlen hok hbd hb
 simp only
 have hbc:out.map cD≠[]→b≠b12:=fun h=>by rintro rfl;have:=hb h;rw[aB.aJ] at this;cases this
 have rS:=ES hb (aB.aJ st b12 (.cells [.slice (s.goals.map fC),.slice (dE s.N s.σ),.slice (s.chs.map gP)]))
 have hlo:(out.map cD).length=out.length:=aF _
 have a11:∀l:List (List Tm),∀e∈l.map cD,e.cJ=false:=fun l e he=>by simp only[cY] at he;obtain⟨t,_,rfl⟩:=he;rfl
 have N3:∀l:List (List Tm),∀e∈l.map cD,e.width=1:=fun l e he=>by simp only[cY] at he;obtain⟨t,_,rfl⟩:=he;rfl
 have fin:∀(S:aB) (b:Nat) (l:List (List Tm)) (e:Int),(l.map cD≠[]→S b=none)→aL S st→T=(l,e)→∃s2,aL (aV S b (l.map cD)) s2∧∃b' l' s0,s2=aV s0 b' l'∧(l'≠[]→s0 b'=none)∧(∀e∈l',e.cJ=false)∧iU l'∧(AV.tup [aZ 1 b (l.map cD),.int .i64 e]).fin b' l'=.tup [.slice (T.1.map cD),.int .i64 T.2]∧aL s0 st:=fun S b l e h1 h2 h3=>
  ⟨_,aL.refl _,b,l.map cD,S,rfl,h1,a11 l,⟨1,N3 l⟩,by subst h3;simp only[kK,eS,mV,bB,aW],h2⟩
 have hSD:∀o,aL (st.aC b12 o) st:=fun o=>(aL.refl _).aC h12
 generalize hX:(AO.cells [.slice (s.goals.map fC),.slice (dE s.N s.σ),.slice (s.chs.map gP)])=X at rS hb
 have rS:=rS.trans (oC some hX.symm)
 have hun:prog.underlying 31=some (.slice 55):=by kernel_rfl
 have v8:=vO (w:=1) (b:=b) (l:=out.map cD) hun
 rw[hlo] at v8
 cases hgs:s.goals with
 | nil=>
  rw[hgs] at hX rS
  simp only[aW] at hX rS
  rw[rA hgs] at tot
  simp -implicitDefEqProofs only[aX,v8,rS,aA,seval,nX]
  refine aQ (fun h=>?_) (fun h=>?_)
  · have h':out.length=most:=by simp at h;omega
    rw[aH (by omega)] at tot
    simp -implicitDefEqProofs only[nM,aA,seval]
    exact fin _ b out 1 hb (hSD _) (by rw[tot,iV])
  have h':out.length<most:=by simp at h;omega
  rw[aE (by omega)] at tot
  simp -implicitDefEqProofs only[rS,aA,seval,nX]
  refine(aXX (N:=s.N) hok.a.iR hok.a.ok vars (fun v h=>⟨(hv v h).1,by have:=(hv v h).2;have:=hok.l.1;omega⟩) hvl _).mono ?_
  rintro _ _ ⟨rfl,a,rfl,ha⟩
  cases rT:jW s.σ vars with
  | none=>
   rw[rT] at tot
   simp only[Option.isSome_none,cD]
   simp -implicitDefEqProofs only[aX,aT,nM,aA,↓aS,seval,nX]
   exact fin _ b out 3 hb (hSD _) (by rw[tot,iV])
  | some x=>
   obtain rfl:=ha x rT
   rw[rT] at tot
   simp only[Option.isSome_some,cD] at tot ⊢
   simp -implicitDefEqProofs only[aX,aT,aA,↓aS,seval,nX]
   refine eE (P:=prog) (b:=b) (l:=out.map cD) (xs:=[cD a]) gM jX jY rfl rfl (fL rfl rfl) (N3 out) hb (by simp only[aT,aX,hlo];omega) (by simp only[aT,aX,hlo];omega) (fun b' hb'=>?_)
   rw[show(out.map cD)++ [cD a]=(out++ [a]).map cD by simp] at hb' ⊢
   have aNQ:=(ES hb' (aB.aJ st b12 X)).trans (oC some hX.symm)
   simp -implicitDefEqProofs only[aX,aT,aNQ,aA,seval,nX]
   have NQ:(f:Int)=(f:Int):=rfl
   refine(aA3 hp (B:=B) (by omega) [] (dE s.N s.σ) s.chs hok.a.rN hok.a.chs _).mono ?_
   rintro r _ ⟨rfl,hr⟩
   cases hbk:fM p s.chs.length s.chs with
   | none=>
    rw[hbk] at hr tot
    simp only at hr tot
    obtain⟨l1,l2,l3,rfl⟩:=hr
    simp -implicitDefEqProofs only[aX,aT,nM,aA,↓aS,seval,nX]
    exact fin _ b' (out++ [a]) 0 hb' (hSD _) (by rw[tot];try rw[iV])
   | some s'=>
    rw[hbk] at hr tot
    simp only[uU] at hr tot
    subst hr
    simp -implicitDefEqProofs only[aK,aX,aT,aNQ,aA,↓aS,seval,nX]
    rw[RB (fun h=>by rintro rfl;have:=hb' h;rw[aB.aJ] at this;cases this),cK]
    have hne:(out++ [a]).map cD≠[]→b'≠b12:=fun h=>by rintro rfl;have:=hb' h;rw[aB.aJ] at this;cases this
    refine⟨(s',out++ [a],f,B,b'),by simp only[dW,aT,aX];omega,⟨⟨by rw[tot];try simp only[nE,fE,eD,dW,aT,aX,Nat.sub_sub];try rfl,by simp only[dW,aT,aX];omega,hok.back hp (by omega) hbk,by simp only;omega⟩,fun h=>by rw[aB.aG _ _ (hne h)];have:=hb' h;rwa [aB.aG _ _ (hne h)] at this⟩,aP.mk (by simp -implicitDefEqProofs only[aA,seval])⟩
 | cons g rest=>
  rw[hgs] at hX rS
  rw[oK hgs] at tot
  simp -implicitDefEqProofs only[aF,aT,rS,aA,seval,nX]
  refine aQ (fun h=>absurd h (by simp;omega)) (fun h=>?_)
  simp -implicitDefEqProofs only[aA,seval]
  refine aQ (fun h=>?_) (fun h=>?_)
  · have h':f=0:=by simp at h;omega
    rw[aH h'] at tot
    simp -implicitDefEqProofs only[nM,aA,seval]
    exact fin _ b out 2 hb (hSD _) (by rw[tot,iV])
  have h':f≠0:=by simp at h;omega
  rw[aE h'] at tot
  have hw:=bO (n:=(f:Int) - 1)
  simp -implicitDefEqProofs only[hw,aX,aT,rS,aA,seval,nX]
  have hst:=aX6 hp (by omega) (B:=B) (by omega) s.goals s.σ s.N s.chs g rest hgs hok.a hok.k
  rw[hgs,bB] at hst
  refine(hst _).mono ?_
  rintro r _ ⟨rfl,hr⟩
  have hse:(⟨g::rest,s.σ,s.N,s.chs⟩:RS)=s:=by rw[←hgs]
  rw[hse] at hr
  cases jG:iF p (fun _ l=>l) s g rest with
  | go s'=>
   rw[jG] at hr tot
   simp only[y9,uU] at hr tot
   subst hr
   simp -implicitDefEqProofs only[aX,aT,xI,↓M5,List.contains,List.elem,D6,↓reduceIte,Nat.reduceEqDiff,Nat.reduceAdd,Nat.reduceBEq,nX]
   refine aQ (fun h=>absurd h (by decide)) (fun h=>?_)
   simp -implicitDefEqProofs only[aK,aX,aT,rS,aA,seval,nX]
   rw[RB hbc,cK]
   have NQ:((f - 1:Nat):Int)=(f:Int) - 1:=by omega
   refine⟨(s',out,f - 1,B+26,b),by simp only;omega,⟨⟨tot,hlen,hok.step hp (by omega) (by omega) (cnd:=fun _ l=>l) (fun _ _=>⟨fun _ h=>h,dC _⟩) hgs jG,by simp only;omega⟩,fun h=>by rw[aB.aG _ _ (hbc h)];have:=hb h;rwa [aB.aG _ _ (hbc h)] at this⟩,aP.mk (by simp -implicitDefEqProofs only[NQ,aA,seval])⟩
  | fail=>
   rw[jG] at hr tot
   simp only[y9] at hr tot
   obtain⟨l1,l2,l3,rfl⟩:=hr
   simp -implicitDefEqProofs only[aX,aT,xI,↓M5,List.contains,List.elem,D6,↓reduceIte,Nat.reduceEqDiff,Nat.reduceAdd,Nat.reduceBEq,nX]
   refine aQ (fun h=>absurd h (by decide)) (fun h=>?_)
   simp -implicitDefEqProofs only[aX,aT,rS,aA,seval,nX]
   have NQ:((f - 1:Nat):Int)=(f:Int) - 1:=by omega
   refine(aA3 hp (B:=B) (by omega) (g::rest) (dE s.N s.σ) s.chs hok.a.rN hok.a.chs _).mono ?_
   rintro r _ ⟨rfl,hr⟩
   cases hbk:fM p s.chs.length s.chs with
   | none=>
    rw[hbk] at hr tot
    simp only at hr tot
    obtain⟨l1,l2,l3,rfl⟩:=hr
    simp -implicitDefEqProofs only[aX,aT,nM,aA,↓aS,seval,nX]
    exact fin _ b (out) 0 hb (hSD _) (by rw[tot];try rw[iV])
   | some s'=>
    rw[hbk] at hr tot
    simp only[uU] at hr tot
    subst hr
    simp -implicitDefEqProofs only[aK,aX,aT,rS,aA,↓aS,seval,nX]
    rw[RB (fun h=>by rintro rfl;have:=hb h;rw[aB.aJ] at this;cases this),cK]
    have hne:(out).map cD≠[]→b≠b12:=fun h=>by rintro rfl;have:=hb h;rw[aB.aJ] at this;cases this
    refine⟨(s',out,f - 1,B,b),by simp only[];omega,⟨⟨by rw[tot];try simp only[nE,fE,eD,dW,aT,aX,Nat.sub_sub];try rfl,by simp only[];omega,hok.back hp (by omega) hbk,by simp only;omega⟩,fun h=>by rw[aB.aG _ _ (hne h)];have:=hb h;rwa [aB.aG _ _ (hne h)] at this⟩,aP.mk (by simp -implicitDefEqProofs only[NQ,aA,seval])⟩
  | stop e=>
   rw[jG] at hr tot
   simp only[y9] at hr tot
   obtain⟨he0,l1,l2,l3,rfl⟩:=hr
   simp -implicitDefEqProofs only[aX,aT,aA,↓aS,seval,nX]
   refine aQ (fun h=>?_) (fun h=>absurd he0 (by simpa using h))
   simp -implicitDefEqProofs only[nM,aA,seval]
   exact fin _ b out e hb (hSD _) (by rw[tot,iV])
end Go.AW
namespace Go.AW
def k6(st:aB)(xs:List AV)(r:AV)(st':aB):Prop:=∃(os:List AV) (bs:List Nat),r=.tup os∧bs.Nodup∧(∀b∈bs,st b=none)∧bA st' xs os bs∧∀b,b∉bs→st' b=st b
theorem bA.aS9{h:bS}{st s0:aB}(S:dD h st)(D:aL st s0):∀(xs os:List AV) (bs:List Nat) (vs:List Value),bA st xs os bs→(∀b∈bs,s0 b=none)→d6 h st os vs→d6 h s0 xs vs
 | [],os,bs,vs,x,_,y=>by simp only[bA] at x;rw[x.1] at y;exact y
 | a::xs,os,bs,vs,x,hb,y=>by
  simp only[bA] at x
  obtain⟨o,os',b1,b2,rfl,rfl,x1,x2⟩:=x
  simp only[d6] at y ⊢
  obtain⟨v,r,e,⟨y0,y1⟩,y2⟩:=y
  exact⟨v,r,e,⟨x1.shape.1.symm.trans y0,bL.view S D a o b1 _ x1 (fun q hq=>hb q (by simp [hq])) y1⟩,bA.aS9 S D xs os' b2 r x2 (fun q hq=>hb q (by simp [hq])) y2⟩
theorem aD.AC{P:Program}{g:FuncId}{args:List AV}{st:aB}{xs:List AV}(x:aD P g args st (k6 st xs)):aD P g args st (fun r st'=>r=.tup xs∧st'=st):=
 x.nY fun r st' ⟨os,bs,hr,_,h2,h3,h4⟩=>by
  have D:aL st' st:=fun b=>⟨fun e=>by
   by_cases hb:b∈bs
   · exact h2 b hb
   · rw[←h4 b hb];exact e,fun o e=>by
   by_cases hb:b∈bs
   · rw[h2 b hb] at e;cases e
   · rw[h4 b hb];exact e⟩
  refine⟨.tup xs,st,D.tO,fun h v S y=>?_,rfl,rfl⟩
  subst hr
  obtain⟨y0,y1⟩:=y
  refine⟨y0,?_⟩
  unfold VC at y1 ⊢
  obtain⟨vs,e,y2⟩:=y1
  exact⟨vs,e,bA.aS9 S D xs os bs vs h3 h2 y2⟩
theorem bL.a6X{s:aB}{a o:AV}{bs:List Nat}(h:bL s a o bs):∀b∈bs,s b≠none:=fun b hb=>by
 obtain⟨cs,e,_⟩:=(bL.gV _ _ _ h).2.2 b hb
 rw[e];simp
theorem bL.nT{st:aB}{es:List AV}{q:AV}{bs:List Nat}(h:bL st (.slice es) q bs):q.cells= [q]∧q.storable=true∧q.isAgg=false∧q.width=1∧q.cJ=false:=by
 simp only[bL] at h
 rcases h with ⟨_,rfl,_⟩ | ⟨_,_,_,_,rfl,_⟩<;>exact⟨rfl,rfl,rfl,rfl,rfl⟩
theorem aP1{s:aB}{x o:AV}{bs:List Nat}:bL s (.agg [x]) o bs↔∃q,o=.agg [q]∧bL s x q bs:=by
 simp only[bL,bA]
 constructor
 · rintro⟨os,rfl,o1,os1,b1,b2,rfl,rfl,h,rfl,rfl⟩
   exact⟨o1,rfl,by simpa using h⟩
 · rintro⟨q,rfl,h⟩
   exact⟨_,rfl,q,[],bs,[],rfl,by simp,h,rfl,rfl⟩
theorem J3{s:aB}{x y:AV}{os:List AV}{bs:List Nat}:bA s [x,y] os bs↔∃o1 o2 b1 b2,os= [o1,o2]∧bs=b1++b2∧bL s x o1 b1∧bL s y o2 b2:=by
 simp only[bA]
 constructor
 · rintro⟨o1,os1,b1,b1',rfl,rfl,h1,o2,os2,b2,b2',rfl,rfl,h2,rfl,rfl⟩
   exact⟨o1,o2,b1,b2,rfl,by simp,h1,h2⟩
 · rintro⟨o1,o2,b1,b2,rfl,rfl,h1,h2⟩
   exact⟨o1,[o2],b1,b2,rfl,rfl,h1,o2,[],b2,[],rfl,by simp,h2,rfl,rfl⟩
end Go.AW
namespace Go.AW
open Go.Proofs.Tryz
abbrev CB (c:Cl):Prop:=c.1.small=true∧c.2.length≤1048576∧∀x∈c.2,x.small=true
abbrev WZ:=zi tI_3 (zi zI_3 (zi aU (zi tI_27 (zi zI_27 (zi eH (zi gK (zi gN (zi iJ (zi tI_111 (zi zI_111 (zi kT (zi kU kQ))))))))))))
theorem aPN(l:List Cl)(st:aB)(hb:l.length≤1048576)(hc:∀x∈l,∀(st:aB),aD prog 136 [a9 x] st (Made st (a9 x))) :
 aD prog 96 [.slice (l.map a9)] st (Made st (.slice (l.map a9))):=by
 have hws:∀e∈l.map a9,e.width=5:=fun e he=>by simp only[cY] at he;obtain⟨t,_,rfl⟩:=he;exact jN t
 refine wF [] 1 func96 ntmps96 rfl rfl ?_
 intro _
 simp -implicitDefEqProofs only[aF,aA,seval,WZ]
 refine eL (σ:=List AV×List Nat×Nat×aB) [] [2,6,7] l (fun i p=>tR (l.map a9) st i p.1 p.2.1 p.2.2.1 p.2.2.2) (fun i p=>[(3,aZ 5 p.2.2.1 p.1),(8,.int .i64 i)]) (fun _ p=>p.2.2.2) (by decide +kernel)
  ⟨([],[],0,st),tR.start,aP.mk (by simp -implicitDefEqProofs only[jV,aA,↓aS,seval])⟩ (fun i x p hx hlt bR hdr hinv=>?_) (fun p hge hinv=>?_)
 case refine_2=>
  obtain⟨os,bs,b,s⟩:=p
  simp -implicitDefEqProofs only[hge,aA,seval]
  exact hinv.done (aF _) hws
 obtain⟨os,bs,b,s⟩:=p
 simp only at hinv
 have hw:=bO (n:=(i:Int)+1)
 have wA:∀zs:List AV,zs.length=5→aK zs 0 (a9 x).cells=(a9 x).cells:=fun zs h=>AP (IJ x) h
 simp -implicitDefEqProofs only[bR,bQ (av:=a9) eH hx (jN x),qL,jN,IJ,E5,cK,wA,aA,seval,WZ]
 intro b2 hb2
 try simp -implicitDefEqProofs only[eW (IJ x),eU (qL x),seval]
 refine(hc x (dA hx) _).mono ?_
 rintro r s2 ⟨bx,m1,m2,m3,m4⟩
 obtain⟨f1,f2,f3⟩:=m3.aBO (jN x) (E5 x)
 have hra:r.isAgg=true:=by rw[(bL.shape m3).1,qL]
 have hrj:r.cJ=false:=(bL.shape m3).2.2.1
 simp -implicitDefEqProofs only[f1,hra,hrj,aA,seval,WZ]
 have hlen:os.length=i:=hinv.1
 have UX:∀e∈os,e.width=5:=fun e he=>by
  obtain⟨k,hk,rfl⟩:=List.getElem_of_mem he
  exact hinv.2.1.D4 (fun q hq=>hws q (mJ hq)) _ he
 have hkb:os≠[]→s2 b=some (.cells (os.flatMap AV.cells)):=fun hne=>by
  have h:=(hinv.2.2.2.2.1 hne).2.2
  have hbx:b∉bx:=fun hq=>by
   have:=m2 b hq
   have xS:b≠b2:=fun e=>by rw[e,hb2] at h;cases h
   rw[aB.aG _ _ xS,h] at this;cases this
  have xS:b≠b2:=fun e=>by rw[e,hb2] at h;cases h
  rw[m4 b hbx,aB.aG _ _ xS,h]
 refine Y4 eH gK gN rfl rfl (fL f1 f3) UX hkb (by simp only[aT,aX,hlen];omega) (by simp only[aT,aX,hlen];omega) (fun b' s' k1 k2 k3 k4=>?_)
 have jG:=hinv.step hb2 (show(l.map a9)[i]?=some (a9 x) by rw[oX,hx];try rfl) m1 m2 m3 m4 (k1 (by simp)) (k2 (by simp)) (fun q h1 h2=>k3 q (fun _=>h1) h2) k4
 simp -implicitDefEqProofs only[hw,aA,seval]
 exact⟨(os++ [r],bs++bx,b',s'.erase b2),jG,aP.drop (kJ _ _) (by simp -implicitDefEqProofs only[aA,seval])⟩
abbrev WY:=zi tI_28 (zi zI_28 (zi aO (zi bF (zi bG (zi bZ (zi tI_52 (zi zI_52 (zi bU (zi bV (zi bX (zi bY (zi bT (zi tI_111 (zi zI_111 (zi kT (zi kU kQ))))))))))))))))
theorem aPM(c:Cl)(st:aB)(hsm:CB c):aD prog 136 [a9 c] st (Made st (a9 c)):=by
 obtain⟨⟨k,n,s,ts⟩,bd⟩:=c
 obtain⟨h1,h2,h3⟩:=hsm
 have hg:=fun st=>F0 (.mk k n s ts) st h1
 have hc:=fun st=>J1 bd st h2 fun x hx st=>F0 x st (h3 x hx)
 simp only[a8] at hg
 simp only[gI]
 refine aD.VH ?_
 refine wF [1000000] 1 func136 ntmps136 rfl rfl ?_
 intro _
 simp -implicitDefEqProofs only[aA,seval,WY]
 intro b hb1
 refine wX [(0,1),(1,1),(3,1),(4,1),(2,0),(5,0),(6,1),(7,2)] [0,1,3,4,6] dQ mixed rfl dY ?_
 simp -implicitDefEqProofs only[aA,seval,WY]
 refine(hg _).mono ?_
 rintro q0 s2 ⟨bs,m1,m2,m3,m4⟩
 rw[←a8] at m3
 obtain⟨q,rfl,m3'⟩:=aPZ.1 m3
 have hbb:b∉bs:=fun h=>by have:=m2 b h;simp [lG] at this
 have e1:=m4 b hbb
 rw[aB.aJ] at e1
 obtain⟨hqc,hqs,hqa,hqw,hqj⟩:=bL.nT m3'
 simp -implicitDefEqProofs only[aA,seval]
 refine⟨dY,?_⟩
 refine(hc _).mono ?_
 rintro r s3 ⟨cs,n1,n2,n3,n4⟩
 have hcb:b∉cs:=fun h=>by have:=n2 b h;rw[e1] at this;cases this
 have f1:=n4 b hcb
 rw[e1] at f1
 obtain⟨hrc,hrs,hra,hrw,hrj⟩:=bL.nT n3
 simp -implicitDefEqProofs only[aK,f1,hqs,hrc,hrs,hrj,aA,seval,WY]
 have sV:=(bL.gV _ _ _ m3').2.2
 have qS:∀x∈bs,x∉cs:=fun x hx hx'=>by
  obtain⟨u,e,_⟩:=sV x hx
  have:=n2 x hx'
  rw[e] at this;cases this
 have hcs:∀x∈cs,x≠b:=fun x hx e=>hcb (e▸hx)
 have hbs:∀x∈bs,x≠b:=fun x hx e=>hbb (e▸hx)
 refine⟨dY,[b],bs++cs,n6.2 ⟨m1,n1,fun x hx y hy e=>qS x hx (e▸hy)⟩,fun x hx=>?_,?_,?_,?_⟩
 · rcases eK.1 hx with hx | hx
   · have:=m2 x hx
     rwa [aB.aG _ _ (hbs x hx)] at this
   · have:=n2 x hx
     rw[m4 x (fun h=>qS x h hx),aB.aG _ _ (hcs x hx)] at this
     exact this
 · simp [hb1,hbb,hcb]
 · rw[←gI]
   refine a40.2 ⟨q,bs,r,cs,rfl,rfl,bL.a7 _ _ _ (fun x hx=>?_) m3',bL.a7 _ _ _ (fun x hx=>?_) n3⟩
   · rw[aB.aG _ _ (hbs x hx),n4 x (qS x hx)]
   · rw[aB.aG _ _ (hcs x hx)]
 · intro x hx hd
   simp only[dB,dV,eA] at hd
   simp only[eK,oG] at hx
   rw[aB.aG _ _ hd,n4 x hx.2,m4 x hx.1,aB.aG _ _ hd]
def qZ(S:aB)(c b w:Nat)(hd tl:List AV)(l:List AV):aB:=aV (S.aC c (.cells (hd++aZ w b l::tl))) b l
section
variable {S:aB} {c b w:Nat} {hd tl l:List AV}
theorem JZ(hb:l≠[]→(S.aC c (.cells (hd++aZ w b l::tl))) b=none):qZ S c b w hd tl l c=some (.cells (hd++aZ w b l::tl)):=by
 unfold qZ
 by_cases h:l= []
 · rw[h,oA,aB.aJ]
 · have h0:=hb h
   have hne:c≠b:=fun e=>by rw[←e,aB.aJ] at h0;cases h0
   rw[nL hne,aB.aJ]
theorem aPD{b':Nat}{l':List AV}(hb:l'≠[]→(S.aC c (.cells (hd++aZ w b l::tl))) b'=none) :
 (aV (S.aC c (.cells (hd++aZ w b l::tl))) b' l').aC c (.cells (hd++aZ w b' l'::tl))=qZ S c b' w hd tl l'∧(l'≠[]→(S.aC c (.cells (hd++aZ w b' l'::tl))) b'=none)∧aV (S.aC c (.cells (hd++aZ w b l::tl))) b' l' c=some (.cells (hd++aZ w b l::tl)):=by
 have hne:l'≠[]→c≠b':=fun h e=>by have:=hb h;rw[←e,aB.aJ] at this;cases this
 refine⟨?_,fun h=>?_,?_⟩
 · rw[lQ hne,cK];try rfl
 · have:=hb h
   rw[aB.aG _ _ (dG (hne h))] at this ⊢
   exact this
 · by_cases h:l'= []
   · rw[h,oA,aB.aJ]
   · rw[nL (hne h),aB.aJ]
theorem a4L{x:Nat}(hb:l≠[]→(S.aC c (.cells (hd++aZ w b l::tl))) b=none)(hx:S x≠none)(hxc:x≠c):qZ S c b w hd tl l x=S x:=by
 unfold qZ
 by_cases h:l= []
 · rw[h,oA,aB.aG _ _ hxc]
 · have h0:=hb h
   have hne:x≠b:=fun e=>by rw[←e,aB.aG _ _ hxc] at h0;exact hx h0
   rw[nL hne,aB.aG _ _ hxc]
theorem YJ{h:bS}{st:aB}{a a':AV}(hv:∀v,VC h st a [v]→VC h st a' [v]):∀(hd:List AV) {tl:List AV} {vs:List Value},bD h st (hd++a::tl) vs→bD h st (hd++a'::tl) vs
 | [],tl,vs,x=>by
  simp only[eD,bD] at x ⊢
  obtain⟨c,r,e,x1,x2⟩:=x
  exact⟨c,r,e,hv c x1,x2⟩
 | y::hd,tl,vs,x=>by
  simp only[fE,bD] at x ⊢
  obtain⟨c,r,e,x1,x2⟩:=x
  exact⟨c,r,e,x1,YJ hv hd x2⟩
theorem fV.aQX{φ:AF}{st:aB}{c:Nat}{hd tl:List AV}{a:AV}(hc:st c=some (.cells (hd++a::tl))):fV φ st φ (st.aC c (.cells (hd++a.soft::tl))):=fun h tmps S F=>by
 have T:cL h st h (st.aC c (.cells (hd++a.soft::tl))):=cL.of fun x hx=>by
  have:x≠c:=by rintro rfl;rw[hc] at hx;cases hx
  rw[aB.aG _ _ this];exact hx
 refine⟨fun x o hx=>?_,T,fun d=>(F d).mono T⟩
 by_cases e:x=c
 · subst e
   rw[aB.aJ] at hx
   cases hx
   obtain⟨hl,c0,t,e1,e2,vs,e3,e4⟩:=S x _ hc
   refine⟨hl,c0,t,e1,?_,vs,e3,bD.mono T _ _ (YJ (fun v hv=>VC.soft a [v] hv) hd e4)⟩
   simpa using e2
 · rw[aB.aG _ _ e] at hx
   obtain⟨hl,y⟩:=S x o hx
   exact⟨hl,mM.mono T rfl y⟩
theorem TT{es:List AV}:∀ {l:List AV},(∀a∈l,a.fz b es=a)→lC b es l=l
 | [],_=>rfl
 | a::l,h=>by rw[lC,h a (by simp),TT fun x hx=>h x (by simp [hx])]
theorem a31{φ:AF}(hb:l≠[]→(S.aC c (.cells (hd++aZ w b l::tl))) b=none)(hj:∀e∈l,e.cJ=false)(hE:iU l)
 (hh:∀a∈hd++tl,∀b es,a.fz b es=a) :
 fV φ (qZ S c b w hd tl l) φ (S.aC c (.cells (hd++ .slice l::tl))):=by
 have hcc:=JZ hb
 cases l with
 | nil=>
  have:=fV.aQX (φ:=φ) hcc
  unfold qZ at this ⊢
  simp only[oA,cK] at this
  exact this
 | cons y l=>
  have h0:=hb (by simp)
  have hne:b≠c:=by rintro rfl;rw[aB.aJ] at h0;cases h0
  have h1:qZ S c b w hd tl (y::l) b=some (.cells ((y::l).flatMap AV.cells)):=by unfold qZ;simp only[aV];exact aB.aJ _ _ _
  have:=fV.aNH (φ:=φ) hne h1 hj hE hcc
  have e:(qZ S c b w hd tl (y::l)).erase b=S.aC c (.cells (hd++aZ w b (y::l)::tl)):=by unfold qZ;simp only[aV];exact aB.xH _ _ _ h0
  have f1:lC b (y::l) hd=hd:=TT fun a ha=>hh a (by simp [ha]) _ _
  have f2:lC b (y::l) tl=tl:=TT fun a ha=>hh a (by simp [ha]) _ _
  have f3:(aZ w b (y::l)).fz b (y::l)=.slice (y::l):=by simp [aZ,AV.fz]
  rw[e,cK,CN,oY,bB,←CN,←CN,f1,f2,f3] at this
  exact this
end
abbrev AU:=zi tI_3 (zi zI_3 (zi aU (zi tI_28 (zi zI_28 (zi aO (zi bF (zi bG (zi bZ (zi tI_52 (zi zI_52 (zi bU (zi bV (zi bX (zi bY (zi bT (zi tI_111 (zi zI_111 (zi kT (zi kU kQ)))))))))))))))))))
theorem MK(cl:Cl)(h1:cl.1.small=true)(h2:cl.2.length≤1048576)(h3:∀x∈cl.2,x.small=true)(st:aB):aD prog 111 [a9 cl] st (fun r st'=>r=a9 cl∧st'=st):=by
 obtain⟨⟨k,n,s,ks⟩,ts⟩:=cl
 have hhd:=fun st=>zO (.mk k n s ks) st h1
 simp only[a8] at hhd
 have IH:=fun(x:Tm) (hx:x∈ts) st=>zO x st (h3 x hx)
 have hlen:ts.length≤1048576:=h2
 refine aD.qM (aD.fin ?_)
 simp only[gI]
 refine wF [] 1 func111 ntmps111 rfl rfl ?_
 simp only[eQ,AV.fits,eR,aF]
 intro ⟨_,_,_,_,hl,_⟩
 simp -implicitDefEqProofs only[aA,seval,AU]
 intro b2 hb2
 refine(hhd _).to ?_
 simp -implicitDefEqProofs only[aK,aA,seval,AU]
 intro c hc
 have hne:c≠b2:=by rintro rfl;rw[aB.aJ] at hc;cases hc
 have hn2:st c=none:=by rw[aB.aG st _ hne] at hc;exact hc
 have mW:b2≠c:=dG hne
 refine eL (σ:=Nat) [] [1,2,3] ts (fun i b=>(((ts.take i).map (fun y=>y)).map Tm.av≠[]→(aB.aC (st.aC b2 (.cells [AV.int .i64 0,AV.int .i64 0,AV.str ⟨#[]⟩,AV.fslice [],AV.fslice []])) c (.cells ([AV.int .i64 k,AV.int .i64 n,AV.str s,AV.slice (ks.map Tm.av)]++ [aZ 4 b (((ts.take i).map (fun y=>y)).map Tm.av)]))) b=none)) (fun i b=>[(4,.int .i64 i)]) (fun i b=>fX (st.aC b2 (.cells [AV.int .i64 0,AV.int .i64 0,AV.str ⟨#[]⟩,AV.fslice [],AV.fslice []])) c b [AV.int .i64 k,AV.int .i64 n,AV.str s,AV.slice (ks.map Tm.av)] (((ts.take i).map (fun y=>y)).map Tm.av)) (by decide +kernel)
  ⟨0,fun h=>absurd rfl h,aP.mk (by simp -implicitDefEqProofs only[aA,↓aS,seval])⟩ (fun i x b hx hlt bR hdr hinv=>?_) (fun b hge hinv=>?_)
 case refine_1=>
  have hw:=bO (n:=(i:Int)+1)
  have c8:(((ts.take i).map (fun y=>y)).map Tm.av).length=i:=by simp only[aF,eC];omega
  have htk:(ts.take (i+1)).map (fun y=>y)=(ts.take i).map (fun y=>y)++ [(fun y=>y) x]:=by rw[gC,hx];simp
  have hbo:=fA hinv
  simp -implicitDefEqProofs only[aF,bR,aA,seval,AU]
  refine wP [(0,1),(2,1),(4,1),(1,2),(3,2),(5,1),(6,2),(7,2),(8,1),(9,0),(10,1),(11,0)] [0,2,4,1,3,5,6,7,8,10] mixed ?_
  simp -implicitDefEqProofs only[bQ (av:=Tm.av) aO hx (aM x),aY,aM,hbo,mP,iA,aA,seval,AU]
  refine j6 (IH x (dA hx) _) ?_
  simp -implicitDefEqProofs only[aY,aM,cP,iA,aA,seval,AU]
  refine eE aO bF bG rfl rfl (fL (aM _) (cH _)) (d9 _) hinv (by simp only[c8,aT,aX];omega) (by simp only[c8,aT,aX];omega) (fun b' hb'=>?_)
  rw[show(((ts.take i).map (fun y=>y)).map Tm.av)++ [((fun y=>y) x).av]=((ts.take (i+1)).map (fun y=>y)).map Tm.av by rw[htk];simp] at hb' ⊢
  obtain⟨g1,g2,g3⟩:=p7 hb'
  simp only[fE,eD] at g1 g3
  simp -implicitDefEqProofs only[g3,mQ,fH,aK,g1,hw,aK,aA,seval,AU]
  exact⟨b',g2,aP.mk (by simp -implicitDefEqProofs only[aA,seval])⟩
 have hbo:=fA hinv
 rw[fG] at hinv hbo ⊢
 simp -implicitDefEqProofs only[aF,hge,aA,seval,AU]
 simp -implicitDefEqProofs only[hbo,aK,aA,seval,AU]
 have hS:(st.aC b2 (.cells [AV.int .i64 0,AV.int .i64 0,AV.str ⟨#[]⟩,AV.fslice [],AV.fslice []])) b2≠none:=by rw[aB.aJ];simp
 have h1:=iE hinv hS mW
 rw[aB.aJ] at h1
 simp -implicitDefEqProofs only[h1,fH,aA,seval]
 obtain⟨h2,h3⟩:=lK (o:=.cells [AV.int .i64 k,AV.int .i64 n,AV.str s,AV.slice (ks.map Tm.av),aZ 4 b ((ts.map fun y=>y).map Tm.av)]) hinv hS mW
 refine⟨b,_,_,h2,h3,jJ _,⟨4,d9 _⟩,?_,?_⟩
 · simp only[gG,bB,aW,eS,kA,jF,jE,List.map_id']
 · exact(((aL.refl _).aC hb2).aC hn2).aC hb2
structure Ss where
 p:List Cl
 q:List Tm
 dR:Int
 used:Int
 sent:Int
 fin:Int
def cQ(s:Ss):AV:=.agg [.slice (s.p.map a9),.slice (s.q.map Tm.av),.int .i64 s.dR,.int .i64 s.used,.int .i64 s.sent,.int .i64 s.fin]
abbrev aBS (c:Cl):Prop:=c.1.small=true∧c.2.length≤1048576∧∀x∈c.2,x.small=true
theorem xB(l:List Cl):∀e∈l.map a9,e.width=5:=by intro e h;simp only[cY] at h;obtain⟨t,_,rfl⟩:=h;exact jN t
theorem IK(l:List Cl):∀e∈l.map a9,e.cJ=false:=by intro e h;simp only[cY] at h;obtain⟨t,_,rfl⟩:=h;exact E4 t
abbrev uY:=zi tI_3 (zi zI_3 (zi aU (zi tI_27 (zi zI_27 (zi eH (zi gK (zi gN (zi iJ (zi tI_28 (zi zI_28 (zi aO (zi bF (zi bG (zi bZ (zi tI_30 (zi zI_30 (zi iL (zi iM (zi iN (zi iO (zi iP (zi iQ (zi iK (zi tI_52 (zi zI_52 (zi bU (zi bV (zi bX (zi bY (zi bT (zi tI_111 (zi zI_111 (zi kT (zi kU kQ))))))))))))))))))))))))))))))))))
theorem MG(s:Ss)(hp:s.p.length≤1048576)(hps:∀c∈s.p,aBS c)(hq:s.q.length≤1048576)(hqs:∀t∈s.q,t.small=true)(st:aB):aD prog 64 [cQ s] st (fun r st'=>r=cQ s∧st'=st):=by
 obtain⟨ps,qs,i0,i1,i2,i3⟩:=s
 simp only at hp hps hq hqs
 refine aD.qM (aD.fin ?_)
 simp only[cQ]
 refine wF [1000000,3] 1 func64 ntmps64 rfl rfl ?_
 intro _
 simp -implicitDefEqProofs only[aK,aA,↓aS,seval,uY]
 intro b2 hb2 c hc
 have hne:c≠b2:=by rintro rfl;rw[aB.aJ] at hc;cases hc
 have hn2:st c=none:=by rw[aB.aG st _ hne] at hc;exact hc
 have mW:b2≠c:=dG hne
 refine eL (σ:=Nat) [1000000,3] [1,2,3] ps
  (fun i b=>((ps.take i).map a9≠[]→((st.aC b2 (.cells [.fslice [],.fslice [],.int .i64 0,.int .i64 0,.int .i64 0,.int .i64 0])).aC c (.cells ([]++aZ 5 b ((ps.take i).map a9):: [.fslice [],.int .i64 i0,.int .i64 i1,.int .i64 i2,.int .i64 i3]))) b=none))
  (fun i _=>[(4,.int .i64 i)]) (fun i b=>qZ (st.aC b2 (.cells [.fslice [],.fslice [],.int .i64 0,.int .i64 0,.int .i64 0,.int .i64 0])) c b 5 [] [.fslice [],.int .i64 i0,.int .i64 i1,.int .i64 i2,.int .i64 i3] ((ps.take i).map a9)) (by decide +kernel)
  ⟨0,fun h=>absurd rfl h,aP.mk (by simp -implicitDefEqProofs only[aA,↓aS,seval])⟩ (fun i x b hx hlt bR hdr hinv=>?_) (fun b hge hinv=>?_)
 · have hw:=bO (n:=(i:Int)+1)
   have c8:((ps.take i).map a9).length=i:=by simp only[aF,eC];omega
   have htk:(ps.take (i+1)).map a9=(ps.take i).map a9++ [a9 x]:=by rw[gC,hx];simp
   have hbo:=JZ hinv
   simp only[eD] at hbo
   have iB:=dA hx
   obtain⟨s1,s2,s3⟩:=hps x iB
   have hat:=bQ (av:=a9) eH hx (jN x)
   simp -implicitDefEqProofs only[bR,aF,aA,seval,uY]
   refine wP [(0,1),(2,1),(4,1),(1,2),(3,2),(5,1),(6,2),(7,2),(8,1),(9,0),(10,1),(11,0)] [0,2,4,1,3,5,6,7,8,10] mixed ?_
   simp -implicitDefEqProofs only[hat,qL,jN,hbo,mP,aA,seval,uY]
   refine j6 (MK x s1 s2 s3 _) ?_
   simp -implicitDefEqProofs only[qL,jN,E4,aA,seval,uY]
   refine eE eH gK gN rfl rfl (fL (jN _) (E5 _)) (xB _) hinv (by simp only[c8,aT,aX];omega) (by simp only[c8,aT,aX];omega) (fun b' hb'=>?_)
   rw[←htk] at hb' ⊢
   obtain⟨g1,g2,g3⟩:=aPD hb'
   simp only[eD] at g1 g3
   simp -implicitDefEqProofs only[g3,mQ,fH,g1,hw,aK,aA,seval,uY]
   exact⟨b',g2,aP.mk (by simp -implicitDefEqProofs only[aA,seval])⟩
 · rw[fG] at hinv ⊢
   have hbo:=JZ hinv
   simp only[eD] at hbo
   simp -implicitDefEqProofs only[hge,aF,aA,seval,uY]
   refine eL (σ:=Nat) [1000000,3] [1,2,3] qs
    (fun i b=>((qs.take i).map Tm.av≠[]→((st.aC b2 (.cells [.fslice [],.fslice [],.int .i64 0,.int .i64 0,.int .i64 0,.int .i64 0])).aC c (.cells ([.slice (ps.map a9)]++aZ 4 b ((qs.take i).map Tm.av):: [.int .i64 i0,.int .i64 i1,.int .i64 i2,.int .i64 i3]))) b=none))
    (fun i _=>[(5,.int .i64 i)]) (fun i b=>qZ (st.aC b2 (.cells [.fslice [],.fslice [],.int .i64 0,.int .i64 0,.int .i64 0,.int .i64 0])) c b 4 [.slice (ps.map a9)] [.int .i64 i0,.int .i64 i1,.int .i64 i2,.int .i64 i3] ((qs.take i).map Tm.av)) (by decide +kernel)
    ⟨0,fun h=>absurd rfl h,?_⟩ (fun i x b hx hlt bR hdr hinv=>?_) (fun b hge hinv=>?_)
   · exact(a31 hinv (IK _) ⟨5,xB _⟩ (by intro a ha;simp only[eD,dB,dV,eA] at ha;rcases ha with rfl | rfl | rfl | rfl | rfl<;>intro _ _<;>rfl)).trans (fV.lB (by simp -implicitDefEqProofs only[aA,↓aS,seval]))
   · have hw:=bO (n:=(i:Int)+1)
     have c8:((qs.take i).map Tm.av).length=i:=by simp only[aF,eC];omega
     have htk:(qs.take (i+1)).map Tm.av=(qs.take i).map Tm.av++ [x.av]:=by rw[gC,hx];simp
     have hbo:=JZ hinv
     simp only[fE,eD] at hbo
     have hat:=bQ (av:=Tm.av) aO hx (aM x)
     simp -implicitDefEqProofs only[bR,aF,aA,seval,uY]
     refine wP [(0,1),(2,1),(4,1),(1,2),(3,2),(5,1),(6,2),(7,2),(8,1),(9,0),(10,1),(11,0)] [0,2,4,1,3,5,6,7,8,10] mixed ?_
     simp -implicitDefEqProofs only[hat,aY,aM,hbo,mP,aA,seval,uY]
     refine j6 (zO x _ (hqs x (dA hx))) ?_
     simp -implicitDefEqProofs only[aY,aM,cP,aA,seval,uY]
     refine eE aO bF bG rfl rfl (fL (aM _) (cH _)) (d9 _) hinv (by simp only[c8,aT,aX];omega) (by simp only[c8,aT,aX];omega) (fun b' hb'=>?_)
     rw[←htk] at hb' ⊢
     obtain⟨g1,g2,g3⟩:=aPD hb'
     simp only[fE,eD] at g1 g3
     simp -implicitDefEqProofs only[g3,mQ,fH,g1,hw,aK,aA,seval,uY]
     exact⟨b',g2,aP.mk (by simp -implicitDefEqProofs only[aA,seval])⟩
   · rw[fG] at hinv ⊢
     have hbo:=JZ hinv
     simp only[fE,eD] at hbo
     have h2o:=a4L (x:=b2) hinv (by rw[aB.aJ];simp) mW
     rw[aB.aJ] at h2o
     simp -implicitDefEqProofs only[hge,aF,hbo,h2o,fH,aK,aA,seval,uY]
     have aNZ:qs.map Tm.av≠[]→b2≠b:=fun h e=>by
      have:=hinv h
      rw[←e,aB.aG _ _ mW,aB.aJ] at this
      cases this
     refine⟨b,qs.map Tm.av,_,by unfold qZ;rw[lQ aNZ],fun h=>by rw[aB.aG _ _ (dG (aNZ h))];exact hinv h,jJ _,⟨4,d9 _⟩,by simp only[gG,bB,aW,eS,jF,jE],?_⟩
     exact(((aL.refl _).aC hb2).aC hn2).aC hb2
def opens(p:List Cl)(q:List Tm)(k:Int):Bool:=oJ p&&kY q&&(decide (0≤k)&&decide (k≤300))
def mE(p:List Cl)(q:List Tm)(k:Int):Ss:=if opens p q k=true then⟨p,q,k,0,0,-1⟩ else⟨[],[],0,0,0,0⟩
theorem OM{p:List Cl}(h:oJ p=true):p.length≤20∧∀c∈p,CB c:=by
 simp only[oJ,cE,bK,eM] at h
 refine⟨h.1,fun c hc=>?_⟩
 have:=h.2 c hc
 simp only[mC,cE,bK,eM] at this
 refine⟨Tm.P8 this.1.1,by omega,fun x hx=>?_⟩
 have hg:=this.2.2 x hx
 cases x
 simp only[Tm.goal,cE] at hg
 exact Tm.P8 hg.1
theorem OP{q:List Tm}(h:kY q=true):q.length≤6∧∀t∈q,t.small=true:=by
 simp only[kY,cE,bK,eM] at h
 refine⟨h.1,fun x hx=>?_⟩
 have hg:=h.2 x hx
 cases x
 simp only[Tm.goal,cE] at hg
 exact Tm.P8 hg.1
abbrev DQ:=zi tI_3 (zi zI_3 (zi aU (zi tI_4 (zi zI_4 (zi cI (zi tI_27 (zi zI_27 (zi eH (zi gK (zi gN (zi iJ (zi tI_28 (zi zI_28 (zi aO (zi bF (zi bG (zi bZ (zi tI_30 (zi zI_30 (zi iL (zi iM (zi iN (zi iO (zi iP (zi iQ iK)))))))))))))))))))))))))
theorem aBI(p:List Cl)(q:List Tm)(k:Int)(st:aB):aD prog 44 [.slice (p.map a9),.slice (q.map Tm.av),.int .i64 k] st (fun r st'=>r=.tup [cQ (mE p q k),.bool (opens p q k)]∧st'=st):=by
 refine aD.done ?_
 refine wF [1000000] 3 func44 ntmps44 rfl rfl ?_
 intro _
 simp -implicitDefEqProofs only[aA,seval,DQ]
 intro b hb
 have iW:opens p q k=false→∀o,(AV.tup [.agg [.fslice [],.fslice [],.int .i64 0,.int .i64 0,.int .i64 0,.int .i64 0],.bool false]).soft=.tup [cQ (mE p q k),.bool (opens p q k)]∧aL (st.aC b o) st:=fun h o=>by
  refine⟨?_,(aL.refl _).aC hb⟩
  unfold mE
  rw[h]
  simp only[cQ,jI,jQ,jB,sB,lW,bB,aW,jR,d4]
 refine(SJ p _).to ?_
 simp -implicitDefEqProofs only[aA,seval]
 refine cU (fun h=>?_) (fun h=>?_)
 case refine_2=>
  simp -implicitDefEqProofs only[h,aK,aA,seval,DQ]
  exact iW (by simp at h;simp [opens,h]) _
 simp only[qD] at h
 simp -implicitDefEqProofs only[h,aA,seval]
 refine(MM q _).to ?_
 simp -implicitDefEqProofs only[aA,seval]
 refine cU (fun h2=>?_) (fun h2=>?_)
 case refine_2=>
  simp -implicitDefEqProofs only[h2,aK,aA,seval,DQ]
  exact iW (by simp at h2;simp [opens,h2]) _
 have hq:kY q=true:=by simpa using h2
 simp -implicitDefEqProofs only[h2,aA,seval]
 refine cU (fun h3=>?_) (fun h3=>?_)
 case refine_2=>
  simp -implicitDefEqProofs only[h3,aK,aA,seval,DQ]
  exact iW (by simp at h3;simp only[opens,h,hq,eP];rw[show decide (0≤k)=false from f0 (by omega)];try rfl) _
 simp -implicitDefEqProofs only[h3,aA,seval]
 refine aQ (fun h4=>?_) (fun h4=>?_)
 · simp -implicitDefEqProofs only[aK,aA,seval,DQ]
   exact iW (by simp at h4;simp only[opens,h,hq,eP];rw[show decide (k≤300)=false from f0 (by omega)];simp) _
 simp -implicitDefEqProofs only[aA,seval,DQ]
 have hok:opens p q k=true:=by
  have h3':0≤k:=by simp at h3;omega
  have h4':k≤300:=by simp at h4;omega
  simp [opens,h,hq,h3',h4']
 have hss:mE p q k=⟨p,q,k,0,0,-1⟩:=by unfold mE;rw[aH hok]
 obtain⟨p1,p2⟩:=OM h
 obtain⟨q1,q2⟩:=OP hq
 have hc:=fun st=>MG ⟨p,q,k,0,0,-1⟩ (by simp only;omega) p2 (by simp only;omega) q2 st
 simp only[cQ] at hc
 refine(hc _).to ?_
 simp -implicitDefEqProofs only[aK,aA,seval,DQ]
 rw[hss,hok]
 exact⟨by simp only[cQ,jI,jQ,jB,sB,nA,bB,aW],(aL.refl _).aC hb⟩
theorem VW{st:aB}{s:Ss}{o:AV}{bs:List Nat} :
 bL st (cQ s) o bs↔∃q b1 q' b2,o=.agg [q,q',.int .i64 s.dR,.int .i64 s.used,.int .i64 s.sent,.int .i64 s.fin]∧bs=b1++b2∧bL st (.slice (s.p.map a9)) q b1∧bL st (.slice (s.q.map Tm.av)) q' b2:=by
 unfold cQ
 generalize AV.slice (s.p.map a9)=x
 generalize AV.slice (s.q.map Tm.av)=y
 simp only[bL,bA]
 constructor
 · rintro⟨os,rfl,o4,os4,b4,b4',rfl,rfl,h,o6,os6,b6,b6',rfl,rfl,h',o1,os1,b1,b1',rfl,rfl,⟨rfl,rfl⟩,o2,os2,b2,b2',rfl,rfl,⟨rfl,rfl⟩,o3,os3,b3,b3',rfl,rfl,⟨rfl,rfl⟩,o5,os5,b5,b5',rfl,rfl,⟨rfl,rfl⟩,rfl,rfl⟩
   exact⟨o4,b4,o6,b6,rfl,by simp,h,h'⟩
 · rintro⟨q,b1,q',b2,rfl,rfl,h,h'⟩
   exact⟨_,rfl,q,_,b1,b2,rfl,rfl,h,q',_,b2,[],rfl,by simp,h',_,_,[],[],rfl,rfl,⟨rfl,rfl⟩,_,_,[],[],rfl,rfl,⟨rfl,rfl⟩,_,_,[],[],rfl,rfl,⟨rfl,rfl⟩,_,_,[],[],rfl,rfl,⟨rfl,rfl⟩,rfl,rfl⟩
abbrev KL:=zi tI_3 (zi zI_3 (zi aU (zi tI_4 (zi zI_4 (zi cI (zi tI_27 (zi zI_27 (zi eH (zi gK (zi gN (zi iJ (zi tI_28 (zi zI_28 (zi aO (zi bF (zi bG (zi bZ (zi tI_30 (zi zI_30 (zi iL (zi iM (zi iN (zi iO (zi iP (zi iQ (zi iK (zi tI_300 (zi zI_300 (zi TE (zi TF (zi TH (zi TI (zi TJ (zi TK (zi TL (zi TM (zi TN (zi TO (zi TG RP)))))))))))))))))))))))))))))))))))))))
theorem aWM(p:List Cl)(q:List Tm)(k:Int)(st:aB):aD prog 43 [.slice (p.map a9),.slice (q.map Tm.av),.int .i64 k] st (fun r st'=>∃o,r=.tup [o,.bool (opens p q k)]∧Made st (cQ (mE p q k)) o st'):=by
 refine aD.kS ?_
 refine wF [1000000] 3 func43 ntmps43 rfl rfl ?_
 intro _
 simp -implicitDefEqProofs only[aA,seval,KL]
 intro b hb
 have iW:opens p q k=false→∀o,∃s2,aL (st.aC b o) s2∧∃o,AV.tup [.agg [.fslice [],.fslice [],.int .i64 0,.int .i64 0,.int .i64 0,.int .i64 0],.bool false]=.tup [o,.bool (opens p q k)]∧Made st (cQ (mE p q k)) o s2:=fun h o=>by
  refine⟨st,(aL.refl _).aC hb,_,by rw[h],[],mK,by simp,?_,fun _ _=>rfl⟩
  unfold mE
  rw[h]
  exact VW.2 ⟨.fslice [],[],.fslice [],[],rfl,rfl,by simp [bL],by simp [bL]⟩
 refine(R6 p _).to ?_
 simp -implicitDefEqProofs only[aA,seval]
 refine cU (fun h=>?_) (fun h=>?_)
 case refine_2=>
  simp -implicitDefEqProofs only[h,aK,aA,seval,KL]
  exact iW (by simp at h;simp [opens,h]) _
 simp only[qD] at h
 simp -implicitDefEqProofs only[h,aA,seval]
 refine(R7 q _).to ?_
 simp -implicitDefEqProofs only[aA,seval]
 refine cU (fun h2=>?_) (fun h2=>?_)
 case refine_2=>
  simp -implicitDefEqProofs only[h2,aK,aA,seval,KL]
  exact iW (by simp at h2;simp [opens,h2]) _
 have hq:kY q=true:=by simpa using h2
 simp -implicitDefEqProofs only[h2,aA,seval]
 refine(zP k 0 300 _).to ?_
 simp -implicitDefEqProofs only[aA,seval]
 refine aQ (fun h4=>?_) (fun h4=>?_)
 · simp -implicitDefEqProofs only[aK,aA,seval,KL]
   exact iW (by simp at h4;simp only[opens,h,hq,eP];simp only[Bool.and_eq_false_iff,dL];omega) _
 simp -implicitDefEqProofs only[aA,seval]
 have hok:opens p q k=true:=by
  simp only[qD] at h4
  simp only[opens,h,hq,eP]
  exact h4
 have hss:mE p q k=⟨p,q,k,0,0,-1⟩:=by unfold mE;rw[aH hok]
 obtain⟨p1,p2⟩:=OM h
 obtain⟨q1,q2⟩:=OP hq
 refine(aPN p _ (by omega) fun x hx s=>aPM x s (p2 x hx)).mono ?_
 rintro r1 s2 ⟨bs,m1,m2,m3,m4⟩
 obtain⟨hqc,hqs,hqa,hqw,hqj⟩:=bL.nT m3
 have hbb:b∉bs:=fun h=>by have:=m2 b h;simp [lG] at this
 have e1:=m4 b hbb
 rw[aB.aJ] at e1
 simp -implicitDefEqProofs only[aA,seval]
 refine(J1 q _ (by omega) fun x hx s=>F0 x s (q2 x hx)).mono ?_
 rintro r2 s3 ⟨cs,n1,n2,n3,n4⟩
 have hcb:b∉cs:=fun h=>by have:=n2 b h;rw[e1] at this;cases this
 have f1:=n4 b hcb
 rw[e1] at f1
 obtain⟨hrc,hrs,hra,hrw,hrj⟩:=bL.nT n3
 simp -implicitDefEqProofs only[hqc,hqs,hqj,hrc,hrs,hrj,f1,aK,aA,seval,KL]
 have sV:=(bL.gV _ _ _ m3).2.2
 have qS:∀x∈bs,x∉cs:=fun x hx hx'=>by
  obtain⟨u,e,_⟩:=sV x hx
  have:=n2 x hx'
  rw[e] at this;cases this
 have hcs:∀x∈cs,x≠b:=fun x hx e=>hcb (e▸hx)
 have hbs:∀x∈bs,x≠b:=fun x hx e=>hbb (e▸hx)
 rw[hss,hok]
 refine⟨s3.erase b,?_,_,rfl,bs++cs,n6.2 ⟨m1,n1,fun x hx y hy e=>qS x hx (e▸hy)⟩,fun x hx=>?_,?_,?_⟩
 · intro x
   by_cases hx:x=b
   · subst hx;simp [aB.erase,aB.aC]
   · simp [aB.erase,aB.aC,hx]
 · rcases eK.1 hx with hx | hx
   · have:=m2 x hx
     rwa [aB.aG _ _ (hbs x hx)] at this
   · have:=n2 x hx
     rw[m4 x (fun h=>qS x h hx),aB.aG _ _ (hcs x hx)] at this
     exact this
 · refine VW.2 ⟨r1,bs,r2,cs,rfl,rfl,bL.a7 _ _ _ (fun x hx=>?_) m3,bL.a7 _ _ _ (fun x hx=>?_) n3⟩
   · simp only[aB.erase,hbs x hx,d4]
     rw[n4 x (qS x hx)]
   · simp only[aB.erase,hcs x hx,d4]
 · intro x hx
   simp only[eK,oG] at hx
   by_cases hxb:x=b
   · subst hxb;simp only[aB.erase,fS];rw[hb]
   · simp only[aB.erase,hxb,d4]
     rw[n4 x hx.2,m4 x hx.1,aB.aG _ _ hxb]
def gH(p:List Cl)(q:List Tm)(most fuel:Int):Bool:=oJ p&&(kY q&&(decide (0≤most)&&(decide (most≤20)&&(decide (0≤fuel)&&decide (fuel≤300)))))
noncomputable def d8(p:List Cl)(cnd:Tm→List Nat→List Nat)(q:List Tm)(most fuel:Int):List (List Tm)×Int:=if gH p q most fuel=true then uV p cnd q most.toNat fuel.toNat else([],9)
theorem OL{p:List Cl}(h:oJ p=true):p.length≤20∧∀c∈p,iC c∧c.2.length≤6:=by
 simp only[oJ,cE,bK,eM] at h
 refine⟨h.1,fun c hc=>⟨aY0 (h.2 c hc),?_⟩⟩
 have:=h.2 c hc
 simp only[mC,cE,bK,eM] at this
 exact this.2.1
theorem J6{q:List Tm}(h:kY q=true):q.length≤6∧∀t∈q,bP 26 t∧t.k=3:=by
 simp only[kY,cE,bK,eM] at h
 refine⟨h.1,fun t ht=>?_⟩
 have hg:=h.2 t ht
 have hk:t.valid=true∧t.k=3:=by
  obtain⟨k,n,s,ts⟩:=t
  simp only[Tm.goal,cE] at hg
  refine⟨hg.1,?_⟩
  have:=hg.2
  simp only[z8,sA,oV,cE,bK] at this
  simp only[Tm.k]
  rcases this with (h | h) | h<;>first | exact h.1 | exact h.1.1 | exact h.1.1.1
 exact⟨⟨Tm.LF hk.1,Tm.LE hk.1⟩,hk.2⟩
abbrev GV:=zi tI_3 (zi zI_3 (zi aU (zi tI_4 (zi zI_4 (zi cI (zi tI_27 (zi zI_27 (zi eH (zi gK (zi gN (zi iJ (zi tI_28 (zi zI_28 (zi aO (zi bF (zi bG (zi bZ (zi tI_31 (zi zI_31 (zi gM (zi jX (zi jY lX))))))))))))))))))))))
theorem aYM(p:List Cl)(q:List Tm)(most fuel:Int)(st:aB) :
 aD prog 32 [.slice (p.map a9),.slice (q.map Tm.av),.int .i64 most,.int .i64 fuel] st (fun r st'=>r=.tup [.slice ((d8 p (fun _ l=>l) q most fuel).1.map cD),.int .i64 (d8 p (fun _ l=>l) q most fuel).2]∧st'=st):=by
 refine aD.done ?_
 have iW:gH p q most fuel=false→∀ {st'},st'=st→(AV.tup [AV.fslice [],.int .i64 9]).soft=.tup [.slice ((d8 p (fun _ l=>l) q most fuel).1.map cD),.int .i64 (d8 p (fun _ l=>l) q most fuel).2]∧aL st' st:=fun h _ e=>by
  subst e
  unfold d8
  rw[aE (by rw[h];simp)]
  exact⟨by simp only[jQ,jB,lW,bB,aW],aL.refl _⟩
 refine wF [1000000] 4 func32 ntmps32 rfl rfl ?_
 intro _
 simp -implicitDefEqProofs only[aA,seval]
 refine(SJ p _).to ?_
 simp -implicitDefEqProofs only[aA,seval]
 refine cU (fun h=>?_) (fun h=>?_)
 case refine_2=>
  simp -implicitDefEqProofs only[h,aA,seval,GV]
  exact iW (by simp at h;simp [gH,h]) rfl
 have hp:oJ p=true:=by simpa using h
 simp -implicitDefEqProofs only[h,aA,seval]
 refine(MM q _).to ?_
 simp -implicitDefEqProofs only[aA,seval]
 refine cU (fun h2=>?_) (fun h2=>?_)
 case refine_2=>
  simp -implicitDefEqProofs only[h2,aA,seval,GV]
  exact iW (by simp at h2;simp [gH,h2]) rfl
 have hq:kY q=true:=by simpa using h2
 simp -implicitDefEqProofs only[h2,aA,seval]
 refine cU (fun h3=>?_) (fun h3=>?_)
 case refine_2=>
  simp -implicitDefEqProofs only[h3,aA,seval,GV]
  exact iW (by simp at h3;simp only[gH];rw[show decide (0≤most)=false from f0 (by omega)];simp) rfl
 have h3':0≤most:=by simpa using h3
 simp -implicitDefEqProofs only[h3,aA,seval]
 refine cU (fun h4=>?_) (fun h4=>?_)
 case refine_2=>
  simp -implicitDefEqProofs only[h4,aA,seval,GV]
  exact iW (by simp at h4;simp only[gH];rw[show decide (most≤20)=false from f0 (by omega)];simp) rfl
 have h4':most≤20:=by simpa using h4
 simp -implicitDefEqProofs only[h4,aA,seval]
 refine cU (fun h5=>?_) (fun h5=>?_)
 case refine_2=>
  simp -implicitDefEqProofs only[h5,aA,seval,GV]
  exact iW (by simp at h5;simp only[gH];rw[show decide (0≤fuel)=false from f0 (by omega)];simp) rfl
 have h5':0≤fuel:=by simpa using h5
 simp -implicitDefEqProofs only[h5,aA,seval]
 refine aQ (fun h6=>?_) (fun h6=>?_)
 · simp -implicitDefEqProofs only[aA,seval,GV]
   exact iW (by simp at h6;simp only[gH];rw[show decide (fuel≤300)=false from f0 (by omega)];simp) rfl
 have h6':fuel≤300:=by simpa using h6
 obtain⟨p1,p2⟩:=OL hp
 obtain⟨q1,q2⟩:=J6 hq
 obtain⟨m,rfl⟩:=qF h3'
 obtain⟨f,rfl⟩:=qF h5'
 simp -implicitDefEqProofs only[aA,seval]
 refine(aA7 p2 p1 q2 q1 (by omega) (by omega) _).to ?_
 simp -implicitDefEqProofs only[aA,seval]
 refine⟨?_,aL.refl _⟩
 have hok:gH p q m f=true:=by simp [gH,hp,hq,h4',h6']
 unfold d8
 rw[aH hok]
 simp only[jQ,jB,nA,bB,aW,jT]
end Go.AW
namespace Go.AW
theorem a5I(p:List Cl)(cnd:Tm→List Nat→List Nat)(vars:List Int)(k:Nat):∀(n most f:Nat) (s:RS),most+f≤n →
 ((iZ p cnd vars most f s).2≠2→iZ p cnd vars most (f+k) s=iZ p cnd vars most f s)∧(iZ p cnd vars most f s).1 <+: (iZ p cnd vars most (f+k) s).1:=by
 intro n
 induction n with
 | zero=>
  intro most f s hn
  obtain rfl:most=0:=by omega
  obtain rfl:f=0:=by omega
  cases hg:s.goals with
  | nil=>rw[rA hg,rA hg];simp
  | cons g rest=>rw[oK (fuel:=0) hg];simp
 | succ n ih=>
  intro most f s hn
  cases hg:s.goals with
  | nil=>
   rw[rA hg,rA hg]
   by_cases hm:most=0
   · rw[aH hm,aH hm];simp
   rw[aE hm,aE hm]
   cases ha:jW s.σ vars with
   | none=>simp
   | some a=>
    simp only
    cases hb:fM p s.chs.length s.chs with
    | none=>simp
    | some s'=>
     obtain⟨h1,h2⟩:=ih (most - 1) f s' (by omega)
     simp only
     refine⟨fun h=>by rw[h1 h],?_⟩
     rw[List.cons_prefix_cons]
     exact⟨rfl,h2⟩
  | cons g rest=>
   by_cases hf:f=0
   · subst hf
     rw[oK (fuel:=0) hg];simp
   rw[oK hg,oK hg,aE hf,aE (by omega)]
   cases hst:iF p cnd s g rest with
   | stop e=>simp
   | go s'=>
    have:=ih most (f - 1) s' (by omega)
    rw[show f - 1+k=f+k - 1 by omega] at this
    exact this
   | fail=>
    simp only
    cases hb:fM p s.chs.length s.chs with
    | none=>simp
    | some s'=>
     have:=ih most (f - 1) s' (by omega)
     rw[show f - 1+k=f+k - 1 by omega] at this
     exact this
theorem aUW(f:Int→Tm)(b:ByteArray):(Tm.mk 3 0 b []).aN f=Tm.mk 3 0 b []:=by
 unfold Tm.aN
 rw[aE (by decide)]
 try rfl
theorem aQY{p:List Cl}{cnd:Tm→List Nat→List Nat}{q:List Tm}{most fuel:Int}(h:gH p q most fuel=false):d8 p cnd q most fuel=([],9):=by
 unfold d8
 rw[h];try rfl
theorem GM{p:List Cl}{cnd:Tm→List Nat→List Nat}{q:List Tm}{most fuel:Int}(h:gH p q most fuel=true):d8 p cnd q most fuel=uV p cnd q most.toNat fuel.toNat:=by
 unfold d8
 rw[aH h]
theorem KG{p:List Cl}{q:List Tm}{most fuel:Int}:gH p q most fuel=true↔(oJ p=true∧kY q=true∧0≤most∧most≤20∧0≤fuel∧fuel≤300):=by
 simp only[gH,cE,bK]
theorem a5L{p:List Cl}{cnd:Tm→List Nat→List Nat}{s:RS}{g:RG}{rest:List RG}{e:Int}(h:iF p cnd s g rest=.stop e):e≠9:=by
 unfold iF at h
 intro he
 subst he
 repeat' split at h
 all_goals first | (cases h;done) | (injection h with h;unfold qN at h;repeat' split at h;all_goals omega) | (injection h with h;omega)
theorem aQC(p:List Cl)(cnd:Tm→List Nat→List Nat)(vars:List Int):∀(n most f:Nat) (s:RS),most+f≤n→(iZ p cnd vars most f s).2≠9∧(iZ p cnd vars most f s).1.length≤most:=by
 intro n
 induction n with
 | zero=>
  intro most f s hn
  obtain rfl:most=0:=by omega
  obtain rfl:f=0:=by omega
  cases hg:s.goals with
  | nil=>rw[rA hg];simp
  | cons g rest=>rw[oK (fuel:=0) hg];simp
 | succ n ih=>
  intro most f s hn
  cases hg:s.goals with
  | nil=>
   rw[rA hg]
   by_cases hm:most=0
   · rw[aH hm];simp
   rw[aE hm]
   cases ha:jW s.σ vars with
   | none=>simp
   | some a=>
    simp only
    cases hb:fM p s.chs.length s.chs with
    | none=>simp;omega
    | some s'=>
     obtain⟨h1,h2⟩:=ih (most - 1) f s' (by omega)
     simp only[aT]
     exact⟨h1,by omega⟩
  | cons g rest=>
   by_cases hf:f=0
   · subst hf
     rw[oK (fuel:=0) hg];simp
   rw[oK hg,aE hf]
   cases hst:iF p cnd s g rest with
   | stop e=>exact⟨a5L hst,jU _⟩
   | go s'=>exact ih most (f - 1) s' (by omega)
   | fail=>
    simp only
    cases hb:fM p s.chs.length s.chs with
    | none=>simp
    | some s'=>exact ih most (f - 1) s' (by omega)
theorem aQ0{p:List Cl}{cnd:Tm→List Nat→List Nat}{q:List Tm}{most fuel:Int}:(d8 p cnd q most fuel).2=9↔gH p q most fuel=false:=by
 constructor
 · intro h
   cases hk:gH p q most fuel with
   | false=>rfl
   | true=>rw[GM hk] at h;exact absurd h (aQC p cnd _ _ _ _ _ (dC _)).1
 · intro h
   rw[aQY h]
theorem a6V{p:List Cl}{cnd:Tm→List Nat→List Nat}{q:List Tm}{most fuel:Int}(h:gH p q most fuel=true):((d8 p cnd q most fuel).1.length:Int)≤most:=by
 rw[GM h]
 have h1:=(aQC p cnd (cF q []) _ most.toNat fuel.toNat (lL q) (dC _)).2
 have h2:=(KG.1 h).2.2.1
 unfold uV
 omega
theorem TS{p:List Cl}{cnd:Tm→List Nat→List Nat}{q:List Tm}{most fuel fuel':Int}(h:gH p q most fuel=true)(hf:fuel≤fuel')(hf':fuel'≤300) :
 ((d8 p cnd q most fuel).2≠2→d8 p cnd q most fuel'=d8 p cnd q most fuel)∧(d8 p cnd q most fuel).1 <+: (d8 p cnd q most fuel').1:=by
 obtain⟨h1,h2,h3,h4,h5,h6⟩:=KG.1 h
 have h':gH p q most fuel'=true:=KG.2 ⟨h1,h2,h3,h4,by omega,by omega⟩
 rw[GM h,GM h']
 obtain⟨k,hk⟩:∃k:Nat,fuel'.toNat=fuel.toNat+k:=⟨fuel'.toNat - fuel.toNat,by omega⟩
 rw[hk]
 exact a5I p cnd (cF q []) k _ most.toNat fuel.toNat (lL q) (dC _)
def qY(l:List IC):Nat:=(l.map fun c=>c.list.length).sum
theorem VG(l m:List IC):qY (l++m)=qY l+qY m:=by simp [qY]
theorem aO6(c:IC):qY [c]=c.list.length:=by simp [qY]
theorem aO7(l:List IC)(k:Nat):qY (l.take k)≤qY l:=by
 have:=VG (l.take k) (l.drop k)
 rw[tT] at this
 omega
structure IX (p:List Cl) (M:Nat) (i:IS):Prop where
 tnd:i.tr.Nodup
 tin:∀n∈i.tr,(0≤n∧n<(i.fresh:Int))∧i.σ n≠none
 phi:i.fresh+26*qY i.chs≤M
 ch:∀c∈i.chs,c.node<c.taken∧c.taken≤i.nn∧c.fT≤i.tr.length∧∀x∈c.list,x<p.length
 mono:i.chs.Pairwise (fun c d=>c.taken≤d.taken∧c.fT≤d.fT)
theorem IX.up{p:List Cl}{M M':Nat}{i:IS}(h:IX p M i)(hM:M≤M'):IX p M' i:=⟨h.tnd,h.tin,oZ h.phi hM,h.ch,h.mono⟩
theorem IX.XN{p:List Cl}{M:Nat}{i:IS}(h:IX p M i):i.tr.length≤i.fresh:=FZ h.tnd fun n hn=>(h.tin n hn).1
theorem N4{p:List Cl}(hp:∀c∈p,iC c){M:Nat}{goal:Tm}{at':Nat}{rest:List IG}:∀(l:List Nat) (s:IS),(∀x∈l,x<p.length)→at'<s.nn→s.fresh+26*qY s.chs+26*l.length≤M→IX p M s→cX s.σ→c9 (bP s.fresh) s.σ→bP s.fresh goal →
 IX p M (iD p goal at' rest l s).2
 | [],s,_,_,_,h,_,_,_=>by unfold iD;exact h
 | j::l,s,hl,ha,hM,h,hg,ho,hgo=>by
  obtain⟨x,hx⟩:∃x,p[j]?=some x:=⟨_,fF (hl j (by simp))⟩
  have hX:=hp x (dA hx)
  have hl':∀x∈l,x<p.length:=fun x h=>hl x (by simp [h])
  simp only[aT] at hM
  unfold iD
  simp only[hx]
  split
  · have hhd:bP ((s.fresh+26:Nat):Int) (dK s.fresh x.1):=(hX.dK s.fresh x.1 (by simp)).mono (by have:=hX.fr.1;omega)
    obtain⟨r,σ',add,U⟩:=vD (N:=s.fresh+26) hg (fun n u e=>(ho n u e).mono (by omega)) (hgo.mono (by omega)) hhd
    rw[U.eq]
    have S:=U.yG
    refine⟨?_,?_,?_,?_,?_⟩
    · simp only
      refine n6.2 ⟨h.tnd,S.nodup,fun a ha b hb e=>?_⟩
      subst e
      exact(h.tin a ha).2 (S.new a hb).1
    · intro n hn
      simp only[eK] at hn ⊢
      rcases hn with hn | hn
      · have h1:=h.tin n hn
        have hna:n∉add:=fun ha=>h1.2 (S.new n ha).1
        exact⟨⟨h1.1.1,by have:=h1.1.2;omega⟩,by rw[S.a7 n hna];exact h1.2⟩
      · have:=S.gS n hn
        exact⟨⟨this.1,by omega⟩,(S.new n hn).2⟩
    · simp only
      split
      · omega
      · rw[VG,aO6];simp only;omega
    · intro c hc
      have key:∀c∈s.chs,c.node<c.taken∧c.taken≤s.nn∧c.fT≤(s.tr++add).length∧∀x∈c.list,x<p.length:=fun c hc=>by
       obtain⟨h1,h2,h3,h4⟩:=h.ch c hc
       exact⟨h1,h2,by rw[dW];omega,h4⟩
      simp only at hc ⊢
      split at hc
      · exact key c hc
      · rcases eK.1 hc with hc | hc
        · exact key c hc
        · simp only[dB,dV,eA] at hc
          subst hc
          exact⟨ha,dC _,by rw[dW];simp only;omega,hl'⟩
    · simp only
      split
      · exact h.mono
      · refine List.pairwise_append.2 ⟨h.mono,List.pairwise_singleton _ _,fun a ha b hb=>?_⟩
        simp only[dB,dV,eA] at hb
        subst hb
        obtain⟨h1,h2,h3,h4⟩:=h.ch a ha
        exact⟨h2,h3⟩
  · refine N4 hp l { s with fresh:=s.fresh+26 } hl' ha (by simp only;omega) ⟨h.tnd,fun n hn=>?_,by simp only;omega,h.ch,h.mono⟩ hg (fun n u e=>(ho n u e).mono (by simp only;omega)) (hgo.mono (by simp only;omega))
    have:=h.tin n hn
    exact⟨⟨this.1.1,by simp only;omega⟩,this.2⟩
theorem IX.pop{p:List Cl}{M:Nat}{gl:List IG}{τ:Sub}{tr:List Int}{ds:List IC}{d:IC}{F nn:Nat}(h:IX p M ⟨gl,τ,tr,ds++ [d],F,nn⟩) :
 IX p M ⟨gl,τ.out (tr.drop d.fT),tr.take d.fT,ds,F,d.taken⟩∧F+26*qY ds+26*d.list.length≤M∧d.node<d.taken∧d.taken≤nn∧d.fT≤tr.length∧∀x∈d.list,x<p.length:=by
 obtain⟨h1,h2,h3,h4⟩:=h.ch d (by simp)
 have a2O:=h.phi
 simp only[VG,aO6] at a2O
 have hm:=List.pairwise_append.1 h.mono
 have hnd:=h.tnd
 simp only at hnd h2 h3
 have hsp:tr.take d.fT++tr.drop d.fT=tr:=tT _ _
 rw[←hsp,n6] at hnd
 refine⟨⟨hnd.1,fun n hn=>?_,by simp only;omega,fun c hc=>?_,hm.1⟩,by omega,h1,h2,h3,h4⟩
 · have:=h.tin n (mJ hn)
   refine⟨this.1,?_⟩
   simp only
   unfold Sub.out
   rw[aE (fun hd=>hnd.2.2 n hn n hd rfl)]
   exact this.2
 · obtain⟨g1,g2,g3,g4⟩:=h.ch c (by simp [hc])
   have:=hm.2.2 c hc d (by simp)
   exact⟨g1,this.1,by simp only[eC];simp only at g3;omega,g4⟩
theorem aOS{p:List Cl}(hp:∀c∈p,iC c){M:Nat}:∀(n:Nat) (cs:List RC) (i:IS),jS i.fresh cs i.chs i.σ i.tr→IX p M i→∀i',iY p n i=some i'→IX p M i'
 | 0,_,_,_,_,i',h=>by simp [iY] at h
 | n+1,cs,i,C,h,i',e=>by
  obtain⟨gl,τ,tr,ds,F,nn⟩:=i
  simp only at C
  cases C with
  | nil=>simp only[iY,List.getLast?_nil] at e;cases e
  | @snoc cs ds c d _ _ C h1 h2=>
   obtain⟨hP,hM,hnt,htn,htr,hli⟩:=h.pop
   have e3:(IS.pop ⟨gl,τ,tr,ds++ [d],F,nn⟩ d)=⟨gl,τ.out (tr.drop d.fT),tr.take d.fT,ds,F,d.taken⟩:=by simp only[IS.pop,QJ]
   simp only[iY,List.getLast?_append,List.getLast?_singleton,Option.some_or,e3] at e
   obtain⟨ρ,S,e1,hok,hG,e2⟩:=h1
   have hX:=N4 hp (rest:=d.rest) d.list _ hli (at':=d.node) (by simp only;exact hnt) (by simp only;exact hM) hP S.g2 S.o2 (e1▸S.DL hok)
   split at e
   · cases e
     exact hX
   · rename_i hf
     have key:=P0 hp (cs:=cs) (nn:=d.taken) (at':=d.node) (tr:=tr.take d.fT) hok hG c.left F gl S C
     rw[←e1,←e2] at key
     cases ht:iG p cs c.goal c.rest c.σ c.N c.left with
     | some s=>
      rw[e2,ht] at key
      obtain⟨i2,k1,_⟩:=key
      rw[←e2] at k1
      rw[k1] at hf
      simp at hf
     | none=>
      rw[e2,ht] at key
      obtain⟨F',hF,k1⟩:=key
      rw[←e2] at k1
      rw[k1] at e hX
      exact aOS hp n cs _ (C.mono hF) hX i' e
end Go.AW
