import Derived.Test.YtimfffmcljmfgaaGreatDoorUxp
import Derived.Test.YtimfffmcljmfgaaGreatDoorUxo
import Derived.Test.YtimfffmcljmfgaaGreatDoorUxl
import Derived.Test.YtimfffmcljmfgaaGreatDoorUxk
import Derived.Shelf.LaysM
import Derived.Shelf.Strconv.Itoa3
import Derived.Shelf.Slices.Clone
import Derived.Test.YtimfffmcljmfgaaGreatDoorUxj
import Derived.Test.YtimfffmcljmfgaaGreatDoorUxm
import Derived.Test.YtimfffmcljmfgaaGreatDoorUxi
set_option linter.unusedSimpArgs false
set_option linter.unusedVariables false
set_option maxRecDepth 100000
namespace Go.AW
open Go.Proofs.Tryz
theorem a5G(p:List Cl)(s:IS):g7 p s.chs.length s=match s.chs.getLast? with
 | none=>none
 | some c=>if(gB p c.goal c.node c.rest c.list (s.pop c)).1=true then some (gB p c.goal c.node c.rest c.list (s.pop c)).2 else g7 p (s.chs.length - 1) (gB p c.goal c.node c.rest c.list (s.pop c)).2:=by
 obtain⟨gl,σ,tr,chs,F,nn⟩:=s
 cases chs with
 | nil=>rfl
 | cons c l=>rw[aX,g7];try rfl
structure YQ (p:List Cl) (M:Nat) (st0:aA) (S c m:Nat) (q:List Tm) (idx:Bool) (fuel used:Int) (T:Option IS) (st:aA) (qt qc qn:AV) (mx:Int) (nd:List AV) (i:IS) (cs:List RC):Prop where
 s:dR st0 st S c m qt qc qn p q idx fuel used mx nd i
 r:jD i.fresh cs i.chs i.σ i.tr
 x:IX p M i
 t:g7 p i.chs.length i=T
 n:i.chs.length≤524288∧i.nn≤524288
def YR(st0 st':aA)(S c m:Nat)(p:List Cl)(q:List Tm)(idx:Bool)(fuel used:Int)(r:AV):Option IS→Prop
 | some i'=>r=.int .i64 (-1)∧∃qt qc qn mx nd,dR st0 st' S c m qt qc qn p q idx fuel used mx nd i'
 | none=>r=.int .i64 0∧∃qt qc qn mx nd i',dR st0 st' S c m qt qc qn p q idx fuel used mx nd i'
abbrev K3:=zi tI_3 (zi zI_3 (zi aY (zi tI_46 (zi zI_46 (zi cZ (zi eG (zi eE (zi eT (zi tI_66 (zi zI_66 (zi bZ (zi b9 (zi cA (zi cB (zi bY (zi tI_174 (zi zI_174 (zi tI_227 (zi zI_227 (zi tI_256 (zi zI_256 (zi tI_257 (zi zI_257 (zi CQ (zi M6 (zi M8 (zi YH (zi tI_258 (zi zI_258 (zi FH (zi M7 (zi M9 (zi YI (zi tI_260 (zi zI_260 (zi I6 (zi I7 (zi JA (zi JB (zi JC (zi JD (zi JE (zi JF (zi JG (zi JH (zi I8 (zi I9 (zi IL (zi tI_327 (zi zI_327 (zi aNY (zi aNZ (zi aN0 (zi aN1 (zi aN2 (zi aN3 aAO))))))))))))))))))))))))))))))))))))))))))))))))))))))))
set_option maxHeartbeats 2000000 in
theorem MN{p:List Cl}(hp:∀c∈p,gQ c∧c.2.length≤6){M:Nat}(hM:M≤16777216){st0:aA}{S c m:Nat}{q:List Tm}{idx:Bool}{fuel used:Int}{T:Option IS}(st:aA)(qt qc qn:AV)(mx:Int)(nd:List AV)(i:IS)(cs:List RC)
 (hI:YQ p M st0 S c m q idx fuel used T st qt qc qn mx nd i cs) :
 aD prog 245 [.ptr S 0] st (fun r st'=>YR st0 st' S c m p q idx fuel used r T):=by
 refine aD.nG ?_
 refine wF [1000000] 1 func245 ntmps245 rfl rfl ?_
 intro _
 simp -implicitDefEqProofs only[aB,seval]
 refine iP (σ:=aA×AV×AV×AV×Int×List AV×IS×List RC) [1000000] [0] (fun x=>YQ p M st0 S c m q idx fuel used T x.1 x.2.1 x.2.2.1 x.2.2.2.1 x.2.2.2.2.1 x.2.2.2.2.2.1 x.2.2.2.2.2.2.1 x.2.2.2.2.2.2.2) (fun x=>[(2,.int .i64 0)]) (fun x=>x.1) (fun x=>x.2.2.2.2.2.2.1.chs.length) (by decide +kernel) ⟨(st,qt,qc,qn,mx,nd,i,cs),hI,aM.mk (by simp -implicitDefEqProofs only[aB,seval])⟩ ?_
 clear hI
 rintro⟨st,qt,qc,qn,mx,nd,i,cs⟩ ⟨hs,hr,hx,ht,hn1,hn2⟩
 simp only at hs hr hx ht hn1 hn2
 simp only
 obtain⟨gl,τ,tr,ch,F,nn⟩:=i
 obtain⟨t1,t2,t3,t4,t5⟩:=hs.sto.shape
 obtain⟨n1,n2,n3,n4,n5⟩:=hs.acC.shape
 obtain⟨m1,m2,m3,m4,m5⟩:=hs.acN.shape
 obtain⟨l1,l2,l3,l4,l5,l6⟩:=qU gl
 have J5:prog.underlying 257=some (.slice 327):=by kernel_rfl
 have hlC:=hs.acC.len J5
 rw[aF] at hlC
 simp only at hlC hr hx ht hn1 hn2
 have gA:=hs.cell
 simp only[iO] at gA
 replace ht:=(a5G p ⟨gl,τ,tr,ch,F,nn⟩).symm.trans ht
 simp only at ht
 cases hr with
 | nil=>
  simp only[List.getLast?_nil] at ht
  subst ht
  simp only[a8] at hlC
  simp -implicitDefEqProofs only[gA,hlC,n1,yD,↓LT,List.contains,List.elem,tX,iJ,sub,BW,↓reduceIte,reduceCtorEq,K3]
  refine aP (fun h=>absurd h (by decide)) (fun h=>?_)
  simp -implicitDefEqProofs only[aB,seval]
  exact⟨st,aL.refl _,rfl,_,_,_,_,_,_,hs⟩
 | @snoc cs ds cR d _ _ C h1 h2=>
  obtain⟨hP,hMl,hnt,htn,htr,hli⟩:=hx.pop
  have e3:(IS.pop ⟨gl,τ,tr,ds++ [d],F,nn⟩ d)=⟨gl,τ.out (tr.drop d.fK),tr.take d.fK,ds,F,d.taken⟩:=by simp only[IS.pop,QV]
  simp only[List.getLast?_append,List.getLast?_singleton,Option.some_or,e3] at ht
  obtain⟨bC,csC,rfl,hbC,a4F,htk⟩:=hs.acC.at (VF _) (i:=ds.length) (e:=tH d) (by simp)
  have hlm:((ds++ [d]).map tH).length=ds.length+1:=by simp
  rw[hlm] at hs gA hlC
  have hSb:S≠bC:=fun e=>hs.parts.2.2.2.2.1 (by rw[e];simp [aT])
  have hdl:ds.length+1≤524288:=by simp only[dQ,aX,a8] at hn1;omega
  have hw:IntKind.i64.wrap ((ds.length:Int)+1 - 1)=(ds.length:Int):=by rw[wrap64 (by omega) (by omega)];omega
  have a28:=qV (P:=prog) (b:=bC) (w:=9) (i:=ds.length) CQ (len:=ds.length+1) (by omega)
  have A0:=fun(φ:AF) (dd:Nat) (h:φ dd=.int .i64 (ds.length:Int))=>W6 (b:=bC) (n:=ds.length+1) (k:=ds.length) CQ h (by omega)
  obtain⟨⟨dk,dn,ds',dts⟩,M4,M5,S9,I0,FG⟩:=d
  rw[aP5] at htk
  simp only at htn htr hnt hli hMl hP
  obtain⟨g1,g2,g3,g4,g5,g6⟩:=qU M5
  have a47:(csC.drop (ds.length*9)).take 9= [.int .i64 dk,.int .i64 dn,.str ds',.slice (dts.map Tm.av),.int .i64 (M4:Int),eS M5,.slice (S9.map nv),.int .i64 (I0:Int),.int .i64 (FG:Int)]:=htk
  simp -implicitDefEqProofs only[dQ,aX,a8,gA,hlC,aB,seval,K3]
  refine aP (fun h=>?_) (fun h=>absurd h (by simp))
  simp -implicitDefEqProofs only[aK,dQ,aX,a8,gA,hlC,hbC,a4F,a47,a28,A0,hw,g5,aB,↓aU,seval,K3]
  have hs2:=hs.aC2 (k:=ds.length) (gl:=gl) (by simp only[dQ,aX,a8];omega) (cs:=iO c p q idx fuel used F (eS gl) (.mslice bC 0 ds.length 9) qn mx) rfl
  simp only[HU,iO] at hs2
  generalize aA.aC st S _=V at hs2 ⊢
  have tG:=hs2.cell
  simp only[iO,AJ] at tG hs2
  have htl:=hs2.sto.fK
  refine wX [(0,1),(1,1),(2,1),(3,1),(4,1),(5,1),(6,2)] [0,1,2,3,4,5] _ mixed rfl (fR tG) ?_
  simp -implicitDefEqProofs only[wY,aB,seval,K3]
  refine(SU τ tr I0 htr c m qt V hs2.sto (by have:=hx.YB;have:=hx.phi;simp only at *;omega)).mono ?_
  rintro _ s4 ⟨rfl,qt4,hS4,hb4,hf4⟩
  have hs4:=hs2.LH hS4 (fun b o hb e1 e2 _=>hf4 b o hb e1 e2) (fun b hb=>.inl (hb4 b hb))
  have UK:=hs4.cell
  simp only[iO] at UK
  obtain⟨q1,q2,q3,q4,q5⟩:=hs4.sto.shape
  have a3P:=fun(φ:AF) (dd:Nat) (h:φ dd=.int .i64 (FG:Int))=>aSE FH hs4.acN h (by rw[hs4.ndl];exact htn)
  simp -implicitDefEqProofs only[aB,seval]
  have hAN:=hs4.acN.take (k:=FG) (by rw[hs4.ndl];exact htn) hs4.ndw
  obtain⟨e1',e2',e3',e4',e5'⟩:=hAN.shape
  have hs6:=hs4.a03 (k:=FG) htn rfl
  simp only[iO] at hs6
  obtain⟨ρ,Sm,e1,hok,hG,e2⟩:=h1
  simp only at e1 e2
  have F8:=aCJ hp (show M≤268435456 by omega) hs6 (.mk dk dn ds' dts) M4 M5 S9 Sm.g2 Sm.o2 (e1▸Sm.DS hok) hli (by omega) hnt hP hMl (by first | omega | (simp only;omega)) (by first | omega | (simp only;omega))
  simp only[bA] at F8
  have J3:=QD (fun c h=>(hp c h).1) (nn:=FG) (at':=M4) (tr:=tr.take I0) hok hG cR.left F gl Sm C
  rw[←e1,←e2] at J3
  refine wX [(0,1),(1,1),(2,1),(3,1),(4,1),(5,1),(6,1),(7,1),(8,1),(9,1),(10,2)] [0,1,2,3,4,5,6,7,8,9] _ mixed rfl (fR UK) ?_
  simp -implicitDefEqProofs only[aK,UK,a3P,e4',e5',m1,g1,g2,wY,aB,seval,K3]
  refine F8.mono ?_
  rintro _ s7 ⟨rfl,qt7,qc7,mx7,nd7,hs7⟩
  simp -implicitDefEqProofs only[aB,seval]
  refine aP (fun h=>?_) (fun h=>?_)
  · simp -implicitDefEqProofs only[aB,seval]
    rw[aH h] at ht
    subst ht
    exact⟨s7,aL.refl _,rfl,_,_,_,_,_,hs7⟩
  · rw[aE (by rw[h];simp)] at ht
    cases hrt:jM p cs cR.goal cR.rest cR.σ cR.N cR.left with
    | some s=>
     rw[e2,hrt] at J3
     obtain⟨i2,k1,_⟩:=J3
     rw[←e2] at k1
     rw[k1] at h
     cases h
    | none=>
     rw[e2,hrt] at J3
     obtain⟨F',hF,k1⟩:=J3
     rw[←e2] at k1
     have hX7:=OA (fun c h=>(hp c h).1) (rest:=M5) S9 _ hli (at':=M4) (by simp only;exact hnt) (by simp only;exact hMl) hP Sm.g2 Sm.o2 (e1▸Sm.DS hok)
     rw[k1] at hs7 ht hX7
     simp -implicitDefEqProofs only[aB,seval]
     refine⟨(s7,qt7,qc7,_,mx7,nd7,⟨gl,τ.out (tr.drop I0),tr.take I0,ds,F',FG⟩,cs),by simp only;omega,⟨hs7,C.mono hF,hX7,?_,by simp only;omega,by simp only;omega⟩,aM.mk (by simp -implicitDefEqProofs only[aB,seval])⟩
     simpa using ht
end Go.AW
namespace Go.AW
theorem IX.node{p:List Cl}{M:Nat}{i:IS}(h:IX p M i):IX p M { i with nn:=i.nn+1 }:=
 ⟨h.tnd,h.tin,h.phi,fun c hc=>by obtain⟨h1,h2,h3,h4⟩:=h.ch c hc;exact⟨h1,by simp only;omega,h3,h4⟩,h.mono⟩
theorem IX.more{p:List Cl}{M:Nat}{i:IS}{σ':Sub}{add:List Int}{gl:List IG}(h:IX p M i)(S:oF (i.fresh:Int) i.σ σ' add):IX p M { i with goals:=gl,σ:=σ',tr:=i.tr++add }:=by
 refine⟨mJ.2 ⟨h.tnd,S.nodup,fun a ha b hb e=>?_⟩,fun n hn=>?_,h.phi,fun c hc=>?_,h.mono⟩
 · subst e
   exact(h.tin a ha).2 (S.new a hb).1
 · simp only[d6] at hn
   rcases hn with hn | hn
   · have h1:=h.tin n hn
     have hna:n∉add:=fun ha=>h1.2 (S.new n ha).1
     exact⟨h1.1,by simp only;rw[S.aV n hna];exact h1.2⟩
   · exact⟨S.gO n hn,(S.new n hn).2⟩
 · obtain⟨h1,h2,h3,h4⟩:=h.ch c hc
   exact⟨h1,h2,by simp only[dQ];omega,h4⟩
theorem IX.cut{p:List Cl}{M:Nat}{i:IS}{gl:List IG}(h:IX p M i)(k:Nat):IX p M { i with goals:=gl,chs:=i.chs.take k }:=
 ⟨h.tnd,h.tin,by have:=aQJ i.chs k;have:=h.phi;simp only;omega,fun c hc=>h.ch c (m9 hc),h.mono.sublist (List.take_sublist _ _)⟩
def Q8(p:List Cl)(M:Nat):zP→Prop
 | .go s=>IX p M s
 | .fail s=>IX p M s
 | .stop _=>True
theorem a5J{p:List Cl}(hp:∀c∈p,gQ c)(hpl:p.length≤20){cnd:Tm→List Nat→List Nat}(hc:∀t l,(∀i∈cnd t l,i∈l)∧(cnd t l).length≤l.length){M:Nat}{i:IS}{g:IG}{rest:List IG}(h:IX p M i)(hg:cT i.σ)(ho:c9 (bJ i.fresh) i.σ)(hgo:bJ i.fresh g.t) :
 Q8 p (M+520) (nK p cnd i g rest):=by
 have hU:=h.up (M':=M+520) (by omega)
 unfold nK
 split
 · trivial
 rename_i fB
 have UR:fA (g.t.aN (rs i.σ))=true:=by simpa using fB
 have hok:=NJ hg ho hgo UR
 generalize g.t.aN (rs i.σ)=t at *
 split
 · exact(hU.cut (gl:=rest) g.cut).node
 split
 · have S:=O6 hg ho t.s t.ts fun x hx=>by
    obtain⟨k,n,s',ts⟩:=t
    by_cases hk:k=1
    · obtain⟨_,_,_,h2⟩:=(show cO i.fresh (.mk 1 n s' ts) from hk▸hok.1).var
      simp only[Tm.ts] at hx
      rw[h2] at hx;cases hx
    · exact sE _ (.mk k n s' ts) hk hok x hx
   split
   · exact(hU.more (gl:=rest) S).node
   · split
     · exact(hU.more (gl:=i.goals) S).node
     · trivial
 split
 · trivial
 obtain⟨c1,c2⟩:=hc t (eR p t)
 have hfl:(eR p t).length≤p.length:=by
  have:=List.length_filter_le (fun j=>match p[j]? with | some c=>JU c t | none=>false) (List.range p.length)
  rw[List.length_range] at this
  exact this
 have hr:∀x∈cnd t (eR p t),x<p.length:=fun x hx=>by
  have:=c1 x hx
  unfold eR at this
  exact xJ.1 (List.mem_filter.1 this).1
 have hT:=OA hp (rest:=rest) (cnd t (eR p t)) { i with nn:=i.nn+1 } hr (at':=i.nn) (by simp only;omega) (by have:=h.phi;simp only;omega) hU.node hg ho hok
 split
 · exact hT
 · exact hT
end Go.AW
namespace Go.AW
open Go.Proofs.Tryz
theorem aP4{p:List Cl}{goal:Tm}{at':Nat}{rest:List IG}:∀(l:List Nat) (s:IS),(gB p goal at' rest l s).1=false→∃F,(gB p goal at' rest l s).2= { s with fresh:=F }
 | [],s,_=>⟨s.fresh,by rw[gB.eq_def]⟩
 | j::l,s,h=>by
  rw[gB.eq_def] at h ⊢
  simp only at h ⊢
  split at h
  · exact⟨s.fresh,rfl⟩
  · split at h
    · cases h
    · rename_i hu
      rw[aE hu]
      obtain⟨F,e⟩:=aP4 l { s with fresh:=s.fresh+26 } h
      exact⟨F,e⟩
theorem OB{p:List Cl}{goal:Tm}{at':Nat}{rest:List IG}:∀(l:List Nat) (s:IS),(gB p goal at' rest l s).2.nn=s.nn
 | [],s=>by rw[gB.eq_def]
 | j::l,s=>by
  rw[gB.eq_def]
  simp only
  split
  · rfl
  · split
    · rfl
    · exact OB l { s with fresh:=s.fresh+26 }
theorem Rl.facts{s:RS}{i:IS}(h:Rl s i):cT i.σ∧c9 (bJ i.fresh) i.σ∧i.chs.length=s.chs.length∧i.goals.length=s.goals.length:=by
 obtain⟨ρ,S,G,C⟩:=h
 have:=gH List.length G.1
 simp only[aF] at this
 exact⟨S.g2,S.o2,C.len,this⟩
theorem Rl.goal{s:RS}{i:IS}{h:IG}{hs:List IG}(hR:Rl s i)(hh:i.goals=h::hs):bJ i.fresh h.t∧h.t.k=3∧∃g gs,s.goals=g::gs∧h.cut=g.aV:=by
 obtain⟨ρ,S,G,C⟩:=hR
 rw[hh] at G
 cases hg:s.goals with
 | nil=>rw[hg] at G;exact absurd G.1 (by simp)
 | cons g gs=>
  rw[hg] at G
  have he:=(List.cons.inj G.1).1
  simp only[Prod.mk.injEq] at he
  obtain⟨e1,e2⟩:=he
  obtain⟨h1,h2⟩:=G.2 g (by simp)
  rw[e1]
  exact⟨S.DS h1,by rw[BC];exact h2,g,gs,rfl,e2⟩
section
variable {p:List Cl} (hp:∀c∈p,gQ c) {cnd:Tm→List Nat→List Nat} (hc:∀(ρ:Int→Int) (t:Tm) (l:List Nat),cnd (cD ρ t) l=cnd t l)
include hp hc
theorem Rl.step{s:RS}{i:IS}{h:IG}{hs:List IG}(hR:Rl s i)(hh:i.goals=h::hs):∃g gs,s.goals=g::gs∧match nK p cnd i h hs with
 | .stop e=>jL p cnd s g gs=.stop e
 | .go i'=>∃s',jL p cnd s g gs=.go s'∧Rl s' i'
 | .fail i'=>jL p cnd s g gs=.fail∧jD i'.fresh s.chs i'.chs i'.σ i'.tr:=by
 obtain⟨_,_,g,gs,hg,_⟩:=hR.goal hh
 obtain⟨h',hs',e,k⟩:=aSS hp hc hR hg
 rw[hh] at e
 cases e
 refine⟨g,gs,hg,?_⟩
 cases hr:jL p cnd s g gs with
 | stop e=>rw[hr] at k;simp only at k;rw[k]
 | go s'=>rw[hr] at k;simp only at k;obtain⟨i',e,k⟩:=k;rw[e];exact⟨s',rfl,k⟩
 | fail=>rw[hr] at k;simp only at k;obtain⟨i',e,k⟩:=k;rw[e];exact⟨rfl,k⟩
end
theorem a2M(p:List Cl)(t:Tm):(eR p t).length≤p.length:=by
 have:=List.length_filter_le (fun j=>match p[j]? with | some c=>JU c t | none=>false) (List.range p.length)
 rw[List.length_range] at this
 exact this
theorem TS(p:List Cl)(t:Tm):∀x∈eR p t,x<p.length:=fun x hx=>by
 unfold eR at hx
 exact xJ.1 (List.mem_filter.1 hx).1
theorem aP3{p:List Cl}{N:Nat}{i':IS}:∀(n:Nat) (i:IS),(∀c∈i.chs,c.taken≤N)→g7 p n i=some i'→i'.nn≤N
 | 0,i,_,e=>by simp [g7] at e
 | n+1,i,h,e=>by
  rw[g7] at e
  split at e
  · cases e
  · rename_i c hl
    split at e
    · cases e
      rw[OB]
      exact h c (Q0 hl)
    · rename_i hf
      obtain⟨F,e2⟩:=aP4 _ _ (by simpa using hf)
      rw[e2] at e
      exact aP3 n _ (fun c hc=>h c (QW _ hc)) e
def Q7(k:Nat):zP→Prop
 | .go s=>s.nn=k
 | .fail s=>s.nn=k
 | .stop _=>True
theorem a5K{p:List Cl}{cnd:Tm→List Nat→List Nat}{i:IS}{g:IG}{rest:List IG}:Q7 (i.nn+1) (nK p cnd i g rest):=by
 unfold nK
 split
 · trivial
 split
 · exact rfl
 split
 · split
   · exact rfl
   · split
     · exact rfl
     · trivial
 split
 · trivial
 split
 · exact OB _ _
 · exact OB _ _
def Y9:zP→Prop
 | .stop e=>e≠-1
 | _=>True
theorem a5L{p:List Cl}{cnd:Tm→List Nat→List Nat}{i:IS}{g:IG}{rest:List IG}:Y9 (nK p cnd i g rest):=by
 unfold nK
 split
 · exact(by decide:(3:Int)≠-1)
 split
 · trivial
 split
 · split
   · trivial
   · split
     · trivial
     · show qT _≠-1
       unfold qT
       split
       · decide
       · split
         · decide
         · split<;>decide
 split
 · exact(by decide:(8:Int)≠-1)
 split<;>trivial
structure RI (p:List Cl) (B M k:Nat) (s:RS) (i:IS):Prop where
 r:Rl s i
 a:nX p B s
 x:IX p M i
 n:i.nn≤k
theorem RI.qO{p:List Cl}{B M k:Nat}{s:RS}{i:IS}(h:RI p B M k s i):i.chs.length≤B:=by rw[h.r.facts.2.2.1];exact h.a.a.qO
theorem RI.cr{p:List Cl}{B M k:Nat}{s:RS}{i:IS}(h:RI p B M k s i):jD i.fresh s.chs i.chs i.σ i.tr:=by obtain⟨_,_,_,C⟩:=h.r;exact C
theorem RI.cut{p:List Cl}{B M k:Nat}{s:RS}{i:IS}{g:IG}{gs:List IG}(h:RI p B M k s i)(hg:i.goals=g::gs):g.cut≤i.chs.length:=by
 obtain⟨_,_,g',gs',e,e2⟩:=h.r.goal hg
 rw[e2,h.r.facts.2.2.1]
 have:=h.a.k.goals.2 g' (by rw[e];simp)
 exact this
section
variable {p:List Cl} (hp:∀c∈p,gQ c∧c.2.length≤6) (hpl:p.length≤20) {cnd:Tm→List Nat→List Nat} (hc:∀(ρ:Int→Int) (t:Tm) (l:List Nat),cnd (cD ρ t) l=cnd t l) (hd:∀t l,(∀i∈cnd t l,i∈l)∧(cnd t l).length≤l.length)
include hp
theorem RI.aAR{B M k:Nat}(hB:B≤524288){s:RS}{i i':IS}(ha:nX p B s)(hC:jD i.fresh s.chs i.chs i.σ i.tr)(hx:IX p M i)(hn:i.nn≤k)(e:g7 p i.chs.length i=some i'):∃s',RI p B M k s' i':=by
 have hp1:=fun c h=>(hp c h).1
 have key:=R6 hp1 i.chs.length s.chs i hC
 cases hr:gC p i.chs.length s.chs with
 | none=>rw[hr] at key;simp only at key;rw[key] at e;cases e
 | some s'=>
  rw[hr] at key
  obtain⟨i2,e2,R⟩:=key
  rw[e2] at e
  cases e
  rw[hC.len] at hr
  exact⟨s',R,ha.back hp hB hr,aP2 hp1 _ s.chs i hC hx i' e2,aP3 _ i (fun c hc=>mK (hx.ch c hc).2.1 hn) e2⟩
theorem RI.back{B M k:Nat}(hB:B≤524288){s:RS}{i i':IS}(h:RI p B M k s i)(e:g7 p i.chs.length i=some i'):∃s',RI p B M k s' i':=
 RI.aAR hp hB h.a h.cr h.x h.n e
include hpl hc hd
theorem RI.step{B M k:Nat}(hB:B+26≤524288){s:RS}{i:IS}{g:IG}{gs:List IG}(h:RI p B M k s i)(hg:i.goals=g::gs):match nK p cnd i g gs with
 | .stop e=>True
 | .go i'=>∃s',RI p (B+26) (M+520) (k+1) s' i'
 | .fail i'=>jD i'.fresh s.chs i'.chs i'.σ i'.tr∧IX p (M+520) i'∧i'.nn≤k+1∧∀i2,g7 p i'.chs.length i'=some i2→∃s',RI p (B+26) (M+520) (k+1) s' i2:=by
 have hp1:=fun c h=>(hp c h).1
 have hn:=a5K (p:=p) (cnd:=cnd) (i:=i) (g:=g) (rest:=gs)
 have hx:=a5J hp1 hpl hd (rest:=gs) h.x h.r.facts.1 h.r.facts.2.1 (h.r.goal hg).1
 obtain⟨g',gs',e,k⟩:=h.r.step hp1 hc hg
 have hk:=h.n
 cases hs:nK p cnd i g gs with
 | stop e=>trivial
 | go i'=>
  rw[hs] at hn hx k
  simp only[Q7,Q8] at hn hx k
  obtain⟨s',e1,R⟩:=k
  exact⟨s',R,h.a.step hp (by omega) hB hd e e1,hx,by omega⟩
 | fail i'=>
  rw[hs] at hn hx k
  simp only[Q7,Q8] at hn hx k
  obtain⟨e1,C⟩:=k
  exact⟨C,hx,by omega,fun i2 e2=>RI.aAR hp hB (h.a.up (by omega)) C hx (by omega) e2⟩
end
theorem RI.start{p:List Cl}{q:List Tm}(hq:∀t∈q,bJ 26 t∧t.k=3)(h6:q.length≤6):RI p 26 26 0 (nS q) (pY q):=by
 refine⟨aSR hq,nX.start hq h6,⟨lZ,fun n hn=>(by cases hn),(by show 26+26*rB []≤26;simp [rB]),fun c hc=>(by cases hc),List.Pairwise.nil⟩,cY _⟩
theorem a5I{p:List Cl}{cnd:Tm→List Nat→List Nat}{vars:List Int}{most fuel:Nat}{s:IS}(hg:s.goals= []):kD p cnd vars most fuel s=if most=0 then([],1) else match jV s.σ vars with
 | none=>([],3)
 | some a=>match g7 p s.chs.length s with
  | none=>([a],0)
  | some s'=>(a::(kD p cnd vars (most - 1) fuel s').1,(kD p cnd vars (most - 1) fuel s').2):=by
 rw[kD.eq_def,hg]
 simp only
 split<;>rfl
theorem a5H{p:List Cl}{cnd:Tm→List Nat→List Nat}{vars:List Int}{most fuel:Nat}{s:IS}{g:IG}{rest:List IG}(hg:s.goals=g::rest):kD p cnd vars most fuel s=if fuel=0 then([],2) else match nK p cnd s g rest with
 | .stop e=>([],e)
 | .go s'=>kD p cnd vars most (fuel - 1) s'
 | .fail s'=>match g7 p s'.chs.length s' with
  | none=>([],0)
  | some s''=>kD p cnd vars most (fuel - 1) s'':=by
 rw[kD.eq_def,hg]
 simp only
 split<;>rfl
section
variable {st0 st:aA} {S c m:Nat} {qt qc qn:AV} {p:List Cl} {q:List Tm} {idx:Bool} {fuel used mx:Int} {nd:List AV} {i:IS}
theorem dR.acc{b:Nat}{l:List AV}(h:dR st0 st S c m qt qc qn p q idx fuel used mx nd i)(hb:l≠[]→st b=none):dR (aZ st0 b l) (aZ st b l) S c m qt qc qn p q idx fuel used mx nd i:=by
 cases l with
 | nil=>exact h
 | cons x l=>
  have hn:=hb (by simp)
  have hne:∀a∈j4 S c m qt qc qn,aZ st b (x::l) a=st a:=fun a ha=>oG (by rintro rfl;exact h.held a ha hn)
  have a4S:∀a∈j4 S c m qt qc qn,aZ st0 b (x::l) a=st0 a:=fun a ha=>oG (by rintro rfl;exact h.held a ha hn)
  refine⟨by rw[hne S (eL.2 (.inl rfl))];exact h.cell,h.sto.GA (hne c (eL.2 (.inr (.inl rfl)))) (hne m (eL.2 (.inr (.inr (.inl rfl))))) (fun b hb=>hne b (eL.2 (.inr (.inr (.inr (.inl hb)))))),
   h.acC.aV fun b hb=>hne b (eL.2 (.inr (.inr (.inr (.inr (.inl hb)))))),h.acN.aV fun b hb=>hne b (eL.2 (.inr (.inr (.inr (.inr (.inr hb)))))),h.ndl,h.ndw,h.dis,fun a ha=>by rw[a4S a ha];exact h.new a ha,fun a o ha=>?_⟩
  by_cases e:a=b
  · subst e
    rw[jU (by simp),aA.aJ] at ha ⊢
    exact ha
  · rw[oG e] at ha ⊢
    exact h.aV a o ha
theorem dR.D9{b:Nat}{l:List AV}{st2:aA}(h:dR (aZ st0 b l) st2 S c m qt qc qn p q idx fuel used mx nd i)(hb:l≠[]→st0 b=none):∃s,st2=aZ s b l∧(l≠[]→s b=none)∧dR st0 s S c m qt qc qn p q idx fuel used mx nd i:=by
 cases l with
 | nil=>exact⟨st2,rfl,fun h=>absurd rfl h,h⟩
 | cons x l=>
  have hn:=hb (by simp)
  have h2:st2 b=some (.cells ((x::l).flatMap AV.cells)):=h.aV b _ (by rw[jU (by simp),aA.aJ])
  have hbn:b∉j4 S c m qt qc qn:=fun hm=>by
   have:=h.new b hm
   rw[jU (by simp),aA.aJ] at this
   cases this
  obtain⟨s',hs'⟩:∃s':aA,∀y,s' y=if y=b then none else st2 y:=⟨_,fun _=>rfl⟩
  have hne:∀a∈j4 S c m qt qc qn,s' a=st2 a:=fun a ha=>by rw[hs',aE (by rintro rfl;exact hbn ha)]
  refine⟨s',?_,fun _=>by rw[hs',aH rfl],?_⟩
  · funext y
    by_cases e:y=b
    · subst e;rw[jU (by simp),aA.aJ,h2]
    · rw[oG e,hs',aE e]
  · refine⟨by rw[hne S (eL.2 (.inl rfl))];exact h.cell,h.sto.GA (hne c (eL.2 (.inr (.inl rfl)))) (hne m (eL.2 (.inr (.inr (.inl rfl))))) (fun b hb=>hne b (eL.2 (.inr (.inr (.inr (.inl hb)))))),
     h.acC.aV fun b hb=>hne b (eL.2 (.inr (.inr (.inr (.inr (.inl hb)))))),h.acN.aV fun b hb=>hne b (eL.2 (.inr (.inr (.inr (.inr (.inr hb)))))),h.ndl,h.ndw,h.dis,fun a ha=>?_,fun a o ha=>?_⟩
    · have:=h.new a ha
      rwa [oG (by rintro rfl;exact hbn ha)] at this
    · have e:a≠b:=by rintro rfl;rw[hn] at ha;cases ha
      rw[hs',aE e]
      exact h.aV a o (by rw[oG e];exact ha)
theorem NF{st:aA}{b:Nat}{o:AO}(h:st b=none):eN st (st.aC b o):=fun x p hx=>by
 rw[aA.aG _ _ (by rintro rfl;rw[h] at hx;cases hx)];exact hx
theorem QE{S b:Nat}(hne:S≠b)(X Y:AO):∃s0:aA,s0 S=some X∧s0 b=some Y∧∀st:aA,st S=some X→st b=some Y→eN s0 st:=by
 refine⟨(one S X).aC b Y,by rw[aA.aG _ _ hne];exact wY,aA.aJ _ _ _,fun st h1 h2 x p hx=>?_⟩
 by_cases e:x=b
 · subst e;rw[aA.aJ] at hx;cases hx;exact h2
 · rw[aA.aG _ _ e] at hx;exact fR h1 x p hx
theorem dR.box{b:Nat}{o:AO}(h:dR st0 st S c m qt qc qn p q idx fuel used mx nd i)(hn:st b=none):dR (st0.aC b o) (st.aC b o) S c m qt qc qn p q idx fuel used mx nd i:=by
 have hne:∀(s:aA) a,a∈j4 S c m qt qc qn→(s.aC b o) a=s a:=fun s a ha=>aA.aG _ _ (by rintro rfl;exact h.held a ha hn)
 refine⟨by rw[hne _ S (eL.2 (.inl rfl))];exact h.cell,h.sto.GA (hne _ c (eL.2 (.inr (.inl rfl)))) (hne _ m (eL.2 (.inr (.inr (.inl rfl))))) (fun b hb=>hne _ b (eL.2 (.inr (.inr (.inr (.inl hb)))))),
  h.acC.aV fun b hb=>hne _ b (eL.2 (.inr (.inr (.inr (.inr (.inl hb)))))),h.acN.aV fun b hb=>hne _ b (eL.2 (.inr (.inr (.inr (.inr (.inr hb)))))),h.ndl,h.ndw,h.dis,fun a ha=>by rw[hne _ a ha];exact h.new a ha,fun a o' ha=>?_⟩
 by_cases e:a=b
 · subst e
   rw[aA.aJ] at ha ⊢
   exact ha
 · rw[aA.aG _ _ e] at ha ⊢
   exact h.aV a o' ha
theorem dR.unbox{b:Nat}{o:AO}(h:dR (st0.aC b o) st S c m qt qc qn p q idx fuel used mx nd i)(hn:st0 b=none):dR st0 st S c m qt qc qn p q idx fuel used mx nd i:=by
 refine⟨h.cell,h.sto,h.acC,h.acN,h.ndl,h.ndw,h.dis,fun a ha=>?_,fun a o' ha=>?_⟩
 · have:=h.new a ha
   by_cases e:a=b
   · subst e;exact hn
   · rwa [aA.aG _ _ e] at this
 · have e:a≠b:=by rintro rfl;rw[hn] at ha;cases ha
   exact h.aV a o' (by rw[aA.aG _ _ e];exact ha)
end
end Go.AW
namespace Go.AW
theorem a78(p:List Cl)(cnd:Tm→List Nat→List Nat)(vars:List Int)(k:Nat):∀(n most f:Nat) (s:RS),most+f≤n →
 ((jB p cnd vars most f s).2≠2→jB p cnd vars most (f+k) s=jB p cnd vars most f s)∧(jB p cnd vars most f s).1 <+: (jB p cnd vars most (f+k) s).1:=by
 intro n
 induction n with
 | zero=>
  intro most f s hn
  obtain rfl:most=0:=by omega
  obtain rfl:f=0:=by omega
  cases hg:s.goals with
  | nil=>rw[vF hg,vF hg];simp
  | cons g rest=>rw[sH (fuel:=0) hg];simp
 | succ n ih=>
  intro most f s hn
  cases hg:s.goals with
  | nil=>
   rw[vF hg,vF hg]
   by_cases hm:most=0
   · rw[aH hm,aH hm];simp
   rw[aE hm,aE hm]
   cases ha:jV s.σ vars with
   | none=>simp
   | some a=>
    simp only
    cases hb:gC p s.chs.length s.chs with
    | none=>simp
    | some s'=>
     obtain⟨h1,h2⟩:=ih (most - 1) f s' (by omega)
     simp only
     refine⟨fun h=>by rw[h1 h],?_⟩
     rw[List.cons_prefix_cons]
     exact⟨rfl,h2⟩
  | cons g rest=>
   by_cases hf:f=0
   · subst hf
     rw[sH (fuel:=0) hg];simp
   rw[sH hg,sH hg,aE hf,aE (by omega)]
   cases hst:jL p cnd s g rest with
   | stop e=>simp
   | go s'=>
    have:=ih most (f - 1) s' (by omega)
    rw[show f - 1+k=f+k - 1 by omega] at this
    exact this
   | fail=>
    simp only
    cases hb:gC p s.chs.length s.chs with
    | none=>simp
    | some s'=>
     have:=ih most (f - 1) s' (by omega)
     rw[show f - 1+k=f+k - 1 by omega] at this
     exact this
theorem W8{p:List Cl}{cnd:Tm→List Nat→List Nat}{q:List Tm}{most fuel:Int}(h:lW p q most fuel=true):g9 p cnd q most fuel=w7 p cnd q most.toNat fuel.toNat:=by
 unfold g9
 rw[aH h]
theorem O7{p:List Cl}{q:List Tm}{most fuel:Int}:lW p q most fuel=true↔(pJ p=true∧lM q=true∧0≤most∧most≤20∧0≤fuel∧fuel≤300):=by
 simp only[lW,cF,bK]
theorem a8A{p:List Cl}{cnd:Tm→List Nat→List Nat}{s:RS}{g:RG}{rest:List RG}{e:Int}(h:jL p cnd s g rest=.stop e):e≠9:=by
 unfold jL at h
 intro he
 subst he
 repeat' split at h
 all_goals first | (cases h;done) | (injection h with h;unfold qT at h;repeat' split at h;all_goals omega) | (injection h with h;omega)
theorem a76(p:List Cl)(cnd:Tm→List Nat→List Nat)(vars:List Int):∀(n most f:Nat) (s:RS),most+f≤n→(jB p cnd vars most f s).2≠9∧(jB p cnd vars most f s).1.length≤most:=by
 intro n
 induction n with
 | zero=>
  intro most f s hn
  obtain rfl:most=0:=by omega
  obtain rfl:f=0:=by omega
  cases hg:s.goals with
  | nil=>rw[vF hg];simp
  | cons g rest=>rw[sH (fuel:=0) hg];simp
 | succ n ih=>
  intro most f s hn
  cases hg:s.goals with
  | nil=>
   rw[vF hg]
   by_cases hm:most=0
   · rw[aH hm];simp
   rw[aE hm]
   cases ha:jV s.σ vars with
   | none=>simp
   | some a=>
    simp only
    cases hb:gC p s.chs.length s.chs with
    | none=>simp;omega
    | some s'=>
     obtain⟨h1,h2⟩:=ih (most - 1) f s' (by omega)
     simp only[aX]
     exact⟨h1,by omega⟩
  | cons g rest=>
   by_cases hf:f=0
   · subst hf
     rw[sH (fuel:=0) hg];simp
   rw[sH hg,aE hf]
   cases hst:jL p cnd s g rest with
   | stop e=>exact⟨a8A hst,jE _⟩
   | go s'=>exact ih most (f - 1) s' (by omega)
   | fail=>
    simp only
    cases hb:gC p s.chs.length s.chs with
    | none=>simp
    | some s'=>exact ih most (f - 1) s' (by omega)
theorem a9L{p:List Cl}{cnd:Tm→List Nat→List Nat}{q:List Tm}{most fuel:Int}(h:lW p q most fuel=true):((g9 p cnd q most fuel).1.length:Int)≤most:=by
 rw[W8 h]
 have h1:=(a76 p cnd (cG q []) _ most.toNat fuel.toNat (nS q) (cY _)).2
 have h2:=(O7.1 h).2.2.1
 unfold w7
 omega
theorem TT{p:List Cl}{cnd:Tm→List Nat→List Nat}{q:List Tm}{most fuel fuel':Int}(h:lW p q most fuel=true)(hf:fuel≤fuel')(hf':fuel'≤300) :
 ((g9 p cnd q most fuel).2≠2→g9 p cnd q most fuel'=g9 p cnd q most fuel)∧(g9 p cnd q most fuel).1 <+: (g9 p cnd q most fuel').1:=by
 obtain⟨h1,h2,h3,h4,h5,h6⟩:=O7.1 h
 have h':lW p q most fuel'=true:=O7.2 ⟨h1,h2,h3,h4,by omega,by omega⟩
 rw[W8 h,W8 h']
 obtain⟨k,hk⟩:∃k:Nat,fuel'.toNat=fuel.toNat+k:=⟨fuel'.toNat - fuel.toNat,by omega⟩
 rw[hk]
 exact a78 p cnd (cG q []) k _ most.toNat fuel.toNat (nS q) (cY _)
def YO(vars:List Int)(a:List Tm):Prop:=a.length=vars.length∧a.all Tm.valid=true
theorem aWA{N:Nat}{σ:Sub}(hg:cT σ)(ho:c9 (bJ N) σ){vars:List Int}(hv:∀v∈vars,0≤v∧v<(N:Int)){a:List Tm}(h:jV σ vars=some a):YO vars a:=by
 obtain⟨rk,B,G⟩:=hg.rs
 unfold jV at h
 split at h
 · rename_i hh
   cases h
   obtain⟨h1,h2⟩:=hh
   have hok:∀t∈vars.map (rs σ),bJ N t:=fun t ht=>by
    obtain⟨v,hvm,rfl⟩:=cH.1 ht
    have hf:=eH.1 h1 _ ht
    unfold fA at hf
    simp only[cF,bK] at hf
    exact⟨G.nP ho.nP v (hv v hvm).1 (hv v hvm).2,hf.2⟩
   exact⟨by rw[a8M hok,aF],by rw[aRT hok h1,bK];exact h2⟩
 · cases h
theorem a79{p:List Cl}(hp:∀c∈p,gQ c∧c.2.length≤6)(hpl:p.length≤20){cnd:Tm→List Nat→List Nat}(hd:∀t l,(∀i∈cnd t l,i∈l)∧(cnd t l).length≤l.length){vars:List Int}(hv:∀v∈vars,0≤v∧v<26) :
 ∀(n most fuel:Nat) (s:RS) (B:Nat),most+fuel≤n→nX p B s→B+26*fuel≤8000→(jB p cnd vars most fuel s).1.length≤most∧∀a∈(jB p cnd vars most fuel s).1,YO vars a:=by
 intro n
 induction n with
 | zero=>
  intro most fuel s B hn hs hB
  obtain rfl:most=0:=by omega
  obtain rfl:fuel=0:=by omega
  cases hg:s.goals with
  | nil=>rw[vF hg];simp
  | cons g rest=>rw[sH hg];simp
 | succ n ih=>
  intro most fuel s B hn hs hB
  cases hg:s.goals with
  | nil=>
   rw[vF hg]
   by_cases hm:most=0
   · rw[aH hm];simp
   rw[aE hm]
   cases ha:jV s.σ vars with
   | none=>simp
   | some a=>
    have hok:=aWA hs.a.iC hs.a.ok (fun v h=>⟨(hv v h).1,by have:=(hv v h).2;have:=hs.l.1;omega⟩) ha
    simp only
    cases hb:gC p s.chs.length s.chs with
    | none=>
     simp only[aX,a8,c7,dT,d4]
     exact⟨by omega,fun x hx=>by rw[hx];exact hok⟩
    | some s'=>
     obtain⟨h1,h2⟩:=ih (most - 1) fuel s' B (by omega) (hs.back hp (by omega) hb) hB
     simp only[aX,c7]
     refine⟨by omega,fun x hx=>?_⟩
     rcases hx with rfl | hx
     · exact hok
     · exact h2 x hx
  | cons g rest=>
   rw[sH hg]
   by_cases hf:fuel=0
   · rw[aH hf];simp
   rw[aE hf]
   cases hst:jL p cnd s g rest with
   | stop e=>simp
   | go s'=>exact ih most (fuel - 1) s' (B+26) (by omega) (hs.step hp (by omega) (by omega) hd hg hst) (by omega)
   | fail=>
    simp only
    cases hb:gC p s.chs.length s.chs with
    | none=>simp
    | some s'=>exact ih most (fuel - 1) s' B (by omega) (hs.back hp (by omega) hb) (by omega)
theorem a74{q:List Tm}(hq:∀t∈q,bJ 26 t∧t.k=3):(∀v∈cG q [],0≤v∧v<26)∧(cG q []).length≤26:=by
 have hv:∀v∈cG q [],0≤v∧v<26:=fun v hv=>by
  rcases (BQ q [] fun t ht=>(hq t ht).1.1.2.1).1 hv with h | ⟨t,ht,h⟩
  · cases h
  · exact(hq t ht).1.1.2.2 v h
 refine⟨hv,?_⟩
 have hnd:=P8 q [] (fun t ht=>Tm.wG t (hq t ht).1.1.2.1) lZ
 exact GI (N:=26) hnd fun n hn=>hv n hn
theorem W7(p:List Cl){cnd:Tm→List Nat→List Nat}(hd:∀t l,(∀i∈cnd t l,i∈l)∧(cnd t l).length≤l.length)(q:List Tm)(most fuel:Int):(g9 p cnd q most fuel).1.length≤20∧∀a∈(g9 p cnd q most fuel).1,a.length≤26∧a.all Tm.valid=true:=by
 unfold g9
 split
 · rename_i h
   simp only[lW,cF,bK] at h
   obtain⟨hp,hq,h1,h2,h3,h4⟩:=h
   obtain⟨p1,p2⟩:=WK hp
   obtain⟨q1,q2⟩:=OW hq
   obtain⟨v1,v2⟩:=a74 q2
   obtain⟨r1,r2⟩:=a79 p2 p1 hd v1 _ most.toNat fuel.toNat (nS q) 26 (cY _) (nX.start q2 q1) (by omega)
   unfold w7
   refine⟨by omega,fun a ha=>?_⟩
   obtain⟨h5,h6⟩:=r2 a ha
   exact⟨by omega,h6⟩
 · simp
theorem a64(t:Tm):t.vC=3*t.nodes:=by
 induction t using Tm.ind with
 | h k n s ts ih=>
  rw[Tm.a63,Tm.iD]
  have:∀l:List Tm,(∀t∈l,t.vC=3*t.nodes)→bD Tm.vC l=3*bD Tm.nodes l:=by
   intro l
   induction l with
   | nil=>intro _;rfl
   | cons x l ih2=>intro h;simp only[bD,h x (by simp),ih2 fun y hy=>h y (by simp [hy])];omega
  rw[this ts ih];omega
theorem aAC:∀ {a:List Tm},a.all Tm.valid=true→bD Tm.vC a≤360*a.length
 | [],_=>by simp [bD]
 | t::a,h=>by
  simp only[kJ,cF] at h
  have h1:=aAC h.2
  have h2:=Tm.LM h.1
  simp only[bD,a64 t,aX]
  omega
theorem aAD:∀ {l:List (List Tm)},(∀a∈l,a.length≤26∧a.all Tm.valid=true)→bD (fun a=>bD Tm.vC a) l≤9360*l.length
 | [],_=>by simp [bD]
 | a::l,h=>by
  have h1:=aAD (l:=l) fun x hx=>h x (by simp [hx])
  obtain⟨h2,h3⟩:=h a (by simp)
  have h4:=aAC h3
  simp only[bD,aX]
  omega

def VJ(x:Tm):ByteArray:=if x.k=1 then⟨#[]⟩ else if x.k=2 then oJ x.n else x.s++⟨#[47]⟩++lS 20 x.ts.length ⟨#[]⟩
def A6(t:Tm):ByteArray:=if t.k=1 then⟨#[]⟩ else match t.ts with
 | []=>⟨#[]⟩
 | x::_=>VJ x
def NI(a b:ByteArray):Bool:=decide (a=⟨#[]⟩)||(decide (b=⟨#[]⟩)||decide (a=b))
def FN(p:List Cl)(key:ByteArray)(i:Nat):Bool:=match p[i]? with
 | some c=>NI (A6 c.1) key
 | none=>false
def uO(p:List Cl)(t:Tm)(l:List Nat):List Nat:=l.filter (FN p (A6 t))
section
variable (p:List Cl)
variable {p}
end
end Go.AW

namespace Go.AW
open Go.Proofs.Tryz
open Go.Shelf
set_option linter.unusedSimpArgs false
set_option linter.unusedVariables false
set_option maxRecDepth 100000
def a54:Go.Shelf.Ren:=⟨fun | 171=>258 | 243=>319 | 246=>365 | 283=>383 | 284=>384 | 285=>385 | 286=>386 | 129=>400 | 317=>399 | 318=>401 | 319=>402 | 320=>403 | 337=>407 | 338=>408 | n=>n,fun | 3=>3 | 9=>9 | 2=>2 | 4=>4 | 171=>370 | 0=>0 | 53=>371 | 37=>40 | 5=>5 | 173=>374 | 212=>391 | 51=>392 | 20=>20 | 213=>393 | 46=>394 | 232=>398 | 233=>399 | n=>n,fun | 17=>1 | 18=>2 | 19=>3 | n=>n⟩
theorem a52:Go.Proofs.LaysM.n171 prog a54:={
 mixed:=by kernel_rfl
 f129:=Go.Proofs.Tryz.func400.trans (gH some (by kernel_rfl))
 f171:=Go.Proofs.Tryz.func258.trans (gH some (by kernel_rfl))
 f243:=Go.Proofs.Tryz.func319.trans (gH some (by kernel_rfl))
 f246:=Go.Proofs.Tryz.func365.trans (gH some (by kernel_rfl))
 f283:=Go.Proofs.Tryz.func383.trans (gH some (by kernel_rfl))
 f284:=Go.Proofs.Tryz.func384.trans (gH some (by kernel_rfl))
 f285:=Go.Proofs.Tryz.func385.trans (gH some (by kernel_rfl))
 f286:=Go.Proofs.Tryz.func386.trans (gH some (by kernel_rfl))
 f317:=Go.Proofs.Tryz.func399.trans (gH some (by kernel_rfl))
 f318:=Go.Proofs.Tryz.func401.trans (gH some (by kernel_rfl))
 f319:=Go.Proofs.Tryz.func402.trans (gH some (by kernel_rfl))
 f320:=Go.Proofs.Tryz.func403.trans (gH some (by kernel_rfl))
 f337:=Go.Proofs.Tryz.func407.trans (gH some (by kernel_rfl))
 f338:=Go.Proofs.Tryz.func408.trans (gH some (by kernel_rfl))
 t0:=Go.Proofs.Tryz.underlying0
 a0:=Go.Proofs.Tryz.isAgg0
 z0:=Go.Proofs.Tryz.sizeOf0
 v0:=Go.Proofs.Tryz.zeroValue0
 t2:=Go.Proofs.Tryz.underlying2
 a2:=Go.Proofs.Tryz.isAgg2
 z2:=Go.Proofs.Tryz.sizeOf2
 v2:=Go.Proofs.Tryz.zeroValue2
 t3:=Go.Proofs.Tryz.underlying3
 a3:=Go.Proofs.Tryz.isAgg3
 z3:=Go.Proofs.Tryz.sizeOf3
 v3:=Go.Proofs.Tryz.zeroValue3
 t4:=Go.Proofs.Tryz.underlying4
 a4:=Go.Proofs.Tryz.isAgg4
 z4:=Go.Proofs.Tryz.sizeOf4
 v4:=Go.Proofs.Tryz.zeroValue4
 t5:=Go.Proofs.Tryz.underlying5
 a5:=Go.Proofs.Tryz.isAgg5
 z5:=Go.Proofs.Tryz.sizeOf5
 v5:=Go.Proofs.Tryz.zeroValue5
 t9:=Go.Proofs.Tryz.underlying9
 a9:=Go.Proofs.Tryz.isAgg9
 z9:=Go.Proofs.Tryz.sizeOf9
 v9:=Go.Proofs.Tryz.zeroValue9
 t20:=Go.Proofs.Tryz.underlying20
 a20:=Go.Proofs.Tryz.isAgg20
 z20:=Go.Proofs.Tryz.sizeOf20
 v20:=Go.Proofs.Tryz.zeroValue20
 t37:=Go.Proofs.Tryz.underlying40
 a37:=Go.Proofs.Tryz.isAgg40
 z37:=Go.Proofs.Tryz.sizeOf40
 v37:=Go.Proofs.Tryz.zeroValue40
 t46:=Go.Proofs.Tryz.underlying394
 a46:=Go.Proofs.Tryz.isAgg394
 z46:=Go.Proofs.Tryz.sizeOf394
 v46:=Go.Proofs.Tryz.zeroValue394
 t51:=Go.Proofs.Tryz.underlying392
 a51:=Go.Proofs.Tryz.isAgg392
 z51:=Go.Proofs.Tryz.sizeOf392
 v51:=Go.Proofs.Tryz.zeroValue392
 t53:=Go.Proofs.Tryz.underlying371
 a53:=Go.Proofs.Tryz.isAgg371
 z53:=Go.Proofs.Tryz.sizeOf371
 v53:=Go.Proofs.Tryz.zeroValue371
 t171:=Go.Proofs.Tryz.underlying370
 a171:=Go.Proofs.Tryz.isAgg370
 z171:=Go.Proofs.Tryz.sizeOf370
 v171:=Go.Proofs.Tryz.zeroValue370
 t173:=Go.Proofs.Tryz.underlying374
 a173:=Go.Proofs.Tryz.isAgg374
 z173:=Go.Proofs.Tryz.sizeOf374
 v173:=Go.Proofs.Tryz.zeroValue374
 t212:=Go.Proofs.Tryz.underlying391
 a212:=Go.Proofs.Tryz.isAgg391
 z212:=Go.Proofs.Tryz.sizeOf391
 v212:=Go.Proofs.Tryz.zeroValue391
 t213:=Go.Proofs.Tryz.underlying393
 a213:=Go.Proofs.Tryz.isAgg393
 z213:=Go.Proofs.Tryz.sizeOf393
 t232:=Go.Proofs.Tryz.underlying398
 a232:=Go.Proofs.Tryz.isAgg398
 z232:=Go.Proofs.Tryz.sizeOf398
 v232:=Go.Proofs.Tryz.zeroValue398
 t233:=Go.Proofs.Tryz.underlying399
 a233:=Go.Proofs.Tryz.isAgg399
 z233:=Go.Proofs.Tryz.sizeOf399
 v233:=Go.Proofs.Tryz.zeroValue399
 g17:=by kernel_rfl
 g18:=by kernel_rfl
 g19:=by kernel_rfl
 i0:=by kernel_rfl
 i2:=by kernel_rfl
 i3:=by kernel_rfl
 i4:=by kernel_rfl
 i5:=by kernel_rfl
 i9:=by kernel_rfl
 i20:=by kernel_rfl
 i37:=by kernel_rfl
 i46:=by kernel_rfl
 i51:=by kernel_rfl
 i53:=by kernel_rfl
 i171:=by kernel_rfl
 i173:=by kernel_rfl
 i212:=by kernel_rfl
 i232:=by kernel_rfl
 i233:=by kernel_rfl
 m17:=by kernel_rfl
 m18:=by kernel_rfl
 m19:=by kernel_rfl }
theorem S6:∀(f u:Nat) (acc:ByteArray),u<10 ^ f→0<f→lS f u acc=⟨(Lib.decDigits u).toArray⟩++acc
 | 0,_,_,_,h=>absurd h (by decide)
 | f+1,u,acc,h,_=>by
  rw[lS,Lib.decDigits]
  rw[Nat.pow_succ] at h
  by_cases h9:9<u
  · have hf:0<f:=by
     rcases Q3 f with rfl | h'
     · simp at h;omega
     · exact h'
    rw[aH h9,dif_neg (by omega),S6 f (u / 10) _ (by omega) hf]
    apply ByteArray.ext
    simp [ByteArray.data_append]
  · rw[aE h9,dif_pos (by omega)]
theorem a55{n:Int}(h1: -999≤n)(h2:n≤999):(⟨(Lib.itoa n).toArray⟩:ByteArray)=oJ n:=by
 unfold Lib.itoa oJ
 by_cases h:n<0
 · rw[aH h,aH h,S6 20 _ _ (by omega) (by decide),show n.natAbs=(-n).toNat by omega]
   apply ByteArray.ext
   simp [ByteArray.data_append]
 · rw[aE h,aE h,S6 20 _ _ (by omega) (by decide)]
   apply ByteArray.ext
   simp [ByteArray.data_append]
theorem a04(n:Int):(oJ n).size≤21:=by
 have h0:(⟨#[]⟩:ByteArray).size=0:=rfl
 unfold oJ
 split
 · have:=CN 20 (-n).toNat ⟨#[]⟩
   rw[dN]
   show 1+_≤_
   omega
 · have:=CN 20 n.toNat ⟨#[]⟩
   omega
def y8:AO:=.tab (Lib.pow10Tab.map fun z=>Value.int .u64 z).toArray
abbrev vE:Nat:=1
theorem a9R{P:Program}{w:World}{g:Nat}{name:String}{k:IntKind}{zs:List Int}{st:aA}(hg:P.globalNamed name=some g)(S:cS w.heap st)(h:st g=some (.tab (zs.map fun z=>Value.int k z).toArray)):Lib.TabIs P w name k zs:=by
 obtain⟨_,t,e⟩:=S g _ h
 unfold Lib.TabIs World.var?
 rw[hg,Option.bind_some,e]
theorem aQ3(n:Int)(h1: -999≤n)(h2:n≤999)(st:aA)(hT:st vE=some y8):aD prog 258 [.int .i64 n] st (fun r st'=>r=.str (oJ n)∧st'=st):=by
 refine⟨⟨_,func258,rfl,by kernel_rfl⟩,fun w vs S V=>?_⟩
 obtain rfl:vs= [.int .i64 n]:=by
  obtain⟨v,r,rfl,v1,v2⟩:=V
  obtain rfl:r= []:=v2
  rw[v1.kY]
 refine(Go.Proofs.Any.strconv_Itoa a52 n (by omega) (by omega) w (a9R (by kernel_rfl) S hT)).mono ?_
 rintro e w' ⟨rfl,k,os,rfl⟩
 rw[a55 h1 h2]
 have X:Ext w.heap (Sort.grow (w.drewN k) os).heap:=⟨by simp [Sort.grow],fun b hb=>by simp only[Sort.grow,World.heap_drewN];rw[Array.getElem?_append_left hb]⟩
 exact⟨_,.str (oJ n),st,rfl,⟨rfl,rfl,by have:=a04 n;show _≤(9223372036854775807:Nat);omega⟩,S.ext X,X.step st,⟨rfl,rfl,rfl⟩,rfl,rfl⟩
end Go.AW

namespace Go.AW
open Go.Proofs.Tryz
theorem V3{N:Int}{t:Tm}(h:bJ N t):(t.k=1∨t.k=2∨t.k=3)∧(t.k=1→t.ts= [])∧(t.k=2→-999≤t.n∧t.n≤999)∧(t.k=3→t.s.size≤6)∧t.ts.length≤4:=by
 obtain⟨h,-⟩:=h
 obtain⟨k,n,s,ts⟩:=t
 have hk:=h.kind
 refine⟨hk.1,fun e=>?_,fun e=>?_,fun e=>?_,hk.2⟩<;>simp only[Tm.k] at e<;>subst e
 · exact h.var.2.2.2
 · have:=(h.own (by decide)).1
   simp [eO] at this
   simp only[Tm.n];omega
 · have:=(h.own (by decide)).1
   simp [eO] at this
   exact(VT this.1.2).2
theorem a7H{N:Int}{t:Tm}(h:bJ N t){x:Tm}{l:List Tm}(e:t.ts=x::l):bJ N x:=by
 have h1:t.k≠1:=fun hk=>by have:=(V3 h).2.1 hk;rw[e] at this;cases this
 exact sE N t h1 h x (by rw[e];simp)
theorem a56{N:Int}{t:Tm}(h:bJ N t):A6 t=match t.ts with
 | []=>⟨#[]⟩
 | x::_=>VJ x:=by
 unfold A6
 by_cases h1:t.k=1
 · rw[aH h1,(V3 h).2.1 h1]
 · rw[aE h1]
   try rfl
abbrev PG:=zi tI_3 (zi zI_3 (zi aY (zi tI_9 (zi zI_9 (zi cV (zi tI_31 (zi zI_31 (zi aQ (zi bS (zi bT (zi cI (zi tI_66 (zi zI_66 (zi bZ (zi b9 (zi cA (zi cB bY)))))))))))))))))
theorem aA8{N:Int}{t:Tm}(ht:bJ N t)(st:aA)(hT:st vE=some y8):aD prog 185 [t.av] st (fun r st'=>r=.str (A6 t)∧st'=st):=by
 refine aD.drop ?_
 rw[a56 ht]
 have hx:=@a7H N t ht
 obtain⟨k,n,s,ts⟩:=t
 simp only[Tm.ts] at hx ⊢
 rw[bA]
 refine wF [1000000] 1 func185 ntmps185 rfl rfl ?_
 intro _
 simp -implicitDefEqProofs only[aF,aB,seval,PG]
 refine aP (fun h=>?_) (fun h=>?_)
 · have h':ts= []:=pQ (by simp at h;simp [h])
   subst h'
   simp -implicitDefEqProofs only[aB,seval]
   first | exact aL.refl _ | exact⟨aL.refl _,rfl⟩
 cases ts with
 | nil=>simp at h
 | cons x l=>
  obtain⟨hk,h1,h2,h3,h4⟩:=V3 (hx rfl)
  obtain⟨xk,xn,xs,xt⟩:=x
  simp only[Tm.k,Tm.ts,Tm.n,Tm.s] at hk h1 h2 h3 h4
  have hat:dG prog 31 (.slice ((Tm.mk xk xn xs xt).av::l.map Tm.av)) (.int .i64 0)=some (.pptr (.agg [.int .i64 xk,.int .i64 xn,.str xs,.slice (xt.map Tm.av)])):=by
   rw[←bA]
   exact bP (av:=Tm.av) (l:=.mk xk xn xs xt::l) (i:=0) aQ rfl (aO _)
  have hdx:oJ (xt.length:Int)=lS 20 xt.length ⟨#[]⟩:=by unfold oJ;rw[aE (by omega),jQ]
  have hu:VJ (.mk xk xn xs xt)=if xk=1 then⟨#[]⟩ else if xk=2 then oJ xn else xs++⟨#[47]⟩++lS 20 xt.length ⟨#[]⟩:=rfl
  simp only
  rw[hu]
  simp -implicitDefEqProofs only[hat,aB,↓aU,seval,PG]
  refine aP (fun h=>?_) (fun h=>?_)
  · rw[aH (by simpa using h)]
    simp -implicitDefEqProofs only[aB,seval]
    first | exact aL.refl _ | exact⟨aL.refl _,rfl⟩
  have h5:xk≠1:=by simpa using h
  rw[aE h5]
  simp -implicitDefEqProofs only[aB,seval]
  refine aP (fun h=>?_) (fun h=>?_)
  · have h6:xk=2:=by simpa using h
    rw[aH h6]
    simp -implicitDefEqProofs only[aB,seval,PG]
    refine(aQ3 xn (h2 h6).1 (h2 h6).2 _ hT).to ?_
    simp -implicitDefEqProofs only[aB,seval]
    first | exact aL.refl _ | exact⟨aL.refl _,rfl⟩
  have h6:xk≠2:=by simpa using h
  rw[aE h6]
  have hs:=h3 (by omega)
  have hm:maxLen=9223372036854775807:=by rfl
  have hs1:xs.size+(⟨#[47]⟩:ByteArray).size≤maxLen:=by show xs.size+1≤_;omega
  have hs2:(xs++(⟨#[47]⟩:ByteArray)).size+(lS 20 xt.length ⟨#[]⟩).size≤maxLen:=by
   have:=CN 20 xt.length ⟨#[]⟩
   have h0:(⟨#[]⟩:ByteArray).size=0:=rfl
   rw[dN]
   show xs.size+1+_≤_
   omega
  simp -implicitDefEqProofs only[aB,seval]
  refine E5 mixed (by decide +kernel) (by decide +kernel) ?_
  simp -implicitDefEqProofs only[aF,hs1,↓reduceIte,aB,seval,PG]
  refine jC (aQ3 xt.length (by omega) (by omega) _ hT) ?_
  simp -implicitDefEqProofs only[hs2,hdx,↓reduceIte,aB,seval]
  first | exact aL.refl _ | exact⟨aL.refl _,rfl⟩
theorem aX9(a b:ByteArray)(st:aA):aD prog 189 [.str a,.str b] st (fun r st'=>r=.bool (NI a b)∧st'=st):=by
 unfold NI
 refine wF [1000000] 2 func189 ntmps189 rfl rfl ?_
 intro _
 simp -implicitDefEqProofs only[aB,seval]
 refine cX (fun h=>?_) (fun h=>?_)
 case refine_2=>
  have h':decide (a=⟨#[]⟩)=true:=by simpa using h
  simp -implicitDefEqProofs only[h,aB,seval]
  try simp []
 have h1:decide (a=⟨#[]⟩)=false:=by simpa using h
 simp -implicitDefEqProofs only[h,aB,seval]
 refine cX (fun h=>?_) (fun h=>?_)
 case refine_2=>
  have h':decide (b=⟨#[]⟩)=true:=by simpa using h
  simp -implicitDefEqProofs only[h,aB,seval]
  try simp []
 have h2:decide (b=⟨#[]⟩)=false:=by simpa using h
 simp -implicitDefEqProofs only[h,aB,seval]
 try simp [h1,h2]
theorem W3{h:bQ}{st:aA}{b:Nat}{cs cs':List AV}(hb:st b=some (.cells cs)):cC h st h (st.aC b (.cells cs')):=
 ⟨cY _,fun y _ e=>⟨rfl,by
  have hne:y≠b:=by rintro rfl;rw[hb] at e;cases e
  rw[aA.aG _ _ hne];exact e⟩,fun _ c _ _ e=>⟨c,e,rfl⟩⟩
theorem aCN{h:bQ}{b:Nat}:∀ {vs:List Value} {off:Nat} (k:Nat),fD h b off vs→fD h b off (vs.take k)
 | _,_,0,_=>by simp [fD]
 | [],_,k+1,_=>by simp [fD]
 | v::vs,off,k+1,x=>⟨x.1,aCN k x.2⟩
theorem aSA{h:bQ}{st:aA}{b:Nat}{cs:List AV}(k:Nat)(hb:st b=some (.cells cs))(S:cS h st):cS h (st.aC b (.cells (cs.take k))):=fun y o e=>by
 have T:=W3 (h:=h) (cs':=cs.take k) hb
 by_cases hy:y=b
 · subst hy
   rw[aA.aJ] at e
   cases e
   obtain⟨h1,c,t,e1,e2,vs,e3,e4⟩:=S y _ hb
   exact⟨h1,c,t,e1,mK (by rw[dE];omega) e2,vs.take k,aCN k e3,bB.mono T _ _ (e4.take k)⟩
 · rw[aA.aG _ _ hy] at e
   obtain⟨h1,h2⟩:=S y o e
   exact⟨h1,l7.mono T rfl h2⟩
theorem aD.cut{P:Program}{g:FuncId}{args:List AV}{st:aA}{Q:AV→aA→Prop}(x:aD P g args st (fun r st'=>∃b cs k,st' b=some (.cells cs)∧Q r (st'.aC b (.cells (cs.take k))))):aD P g args st Q:=
 x.mE fun r st' ⟨b,cs,k,h1,h2⟩=>⟨r,_,fun h S=>⟨aSA k h1 S,W3 h1⟩,fun h v S y=>y.mono (W3 h1),h2⟩
theorem aP9{st:aA}{b i:Nat}{cs:List AV}{x:AV}(hs:st b=some (.cells cs))(hx:cs[i]?=some x)(ha:x.isAgg=false):iJ prog st 3 (.ptr b i)=some x:=by
 simp [iJ,tI_3,hs,sub,hx,ha]
abbrev bAD:=zi tI_3 (zi zI_3 (zi aY (zi tI_46 (zi zI_46 (zi cZ (zi eG (zi eE eT)))))))
theorem a7B(l:List Nat)(g:FuncId)(dL:List AV)(p:Nat→Bool)(b:Nat)(cs:List AV)(h9:l.length≤1048576)(st:aA)(hb:st b=some (.cells cs))(hcs:∀(i x:Nat),l[i]?=some x→cs[i]?=some (nv x))(hc:∀x∈l,aD prog g ([nv x]++dL) st (fun r st'=>r=.bool (p x)∧st'=st)) :
 aD prog 259 [.mslice b 0 l.length 1,.func g dL] st (fun r st'=>r=.int .i64 (pZ p l 0)∧st'=st):=by
 refine wF [1000000] 2 func259 ntmps259 rfl rfl ?_
 intro _
 simp -implicitDefEqProofs only[aB,seval,bAD]
 refine d8 (σ:=Unit) [1000000] [0,1,7] l (fun i _=>pZ p (l.drop i) i=pZ p l 0) (fun i _=>[(8,.int .i64 i)]) (fun _ _=>st) (by decide +kernel) ⟨(),rfl,aM.mk (by simp -implicitDefEqProofs only[aB,↓aU,seval])⟩ (fun i x _ hx hlt bL hdr hinv=>?_) (fun _ hge hinv=>?_)
 case refine_2=>
  simp -implicitDefEqProofs only[hge,aB,seval]
  rw[←hinv,kK]
  try rfl
 rw[hdr,pZ] at hinv
 have hw:=bE (n:=(i:Int)+1)
 have hat:=qV (P:=prog) (t:=46) (b:=b) (w:=1) cZ hlt
 rw[xL] at hat
 have hld:=aP9 hb (hcs i x hx) rfl
 have hca:=hc x (cM hx)
 simp only[nv,iB,fF] at hld hca
 simp -implicitDefEqProofs only[bL,hat,hld,aB,seval]
 refine(hca).to ?_
 simp -implicitDefEqProofs only[aB,seval]
 refine aP (fun h=>?_) (fun h=>?_)
 · rw[aH h] at hinv
   simp -implicitDefEqProofs only[hinv,aB,seval]
 · rw[aE (by simp [h])] at hinv
   simp -implicitDefEqProofs only[hw,aB,seval]
   exact⟨(),by rw[←hinv],aM.mk (by simp -implicitDefEqProofs only[aB,seval])⟩
end Go.AW

namespace Go.AW
open Go.Proofs.Tryz
open Go.Shelf
set_option linter.unusedSimpArgs false
set_option linter.unusedVariables false
set_option maxRecDepth 100000
def a00:Go.Shelf.Ren:=⟨fun | 15=>187 | n=>n,fun | 22=>46 | 3=>3 | 4=>4 | n=>n,fun | n=>n⟩
theorem a0Z:Go.Proofs.Lays2.n15 prog a00:={
 mixed:=by kernel_rfl
 f15:=func187.trans (gH some (by kernel_rfl))
 t3:=aY
 a3:=isAgg3
 z3:=sizeOf3
 v3:=zeroValue3
 t4:=cJ
 a4:=isAgg4
 z4:=sizeOf4
 v4:=zeroValue4
 t22:=eT
 a22:=isAgg46
 z22:=sizeOf46
 v22:=zeroValue46
 i3:=by kernel_rfl }
def DA(i:Nat):Value:=.int .i64 (i:Int)
theorem ZF{h:bQ}{st:aA}{b:Nat}:∀ {l:List Nat} {off:Nat},dI h st b off (l.map nv)→∀(j x:Nat),l[j]?=some x→cellAt h b (off+j)=some (DA x)
 | [],_,_,j,x,e=>by simp at e
 | a::l,off,v,0,x,e=>by
  simp only[EL,Option.some.injEq] at e
  subst e
  obtain⟨⟨cs,c1,c2,c3⟩,_⟩:=v
  have c3:cs= [DA a]:=c3
  subst c3
  exact c1.1
 | a::l,off,v,j+1,x,e=>by
  rw[EK] at e
  have:=ZF v.2 j x e
  rwa [show(nv a).width=1 from rfl,B7,Nat.add_comm 1 j] at this
theorem ZD{h:bQ}{st:aA}:∀l:List Nat,bB h st (l.map nv) (l.map DA)
 | []=>rfl
 | a::l=>⟨DA a,l.map DA,rfl,rfl,ZD l⟩
theorem a69(l:List Nat)(hl:l≠[])(h9:l.length≤1048576)(st:aA):aD prog 187 [.slice (l.map nv)] st (fun r st'=>∃b,st b=none∧r=.mslice b 0 l.length 1∧st'=st.aC b (.cells (l.map nv))):=by
 refine⟨⟨_,func187,rfl,by kernel_rfl⟩,fun w vs S V=>?_⟩
 obtain⟨v,r,rfl,v1,v2⟩:=V
 obtain rfl:r= []:=v2
 have hne:l.map nv≠[]:=by simpa using hl
 obtain⟨hag,hv⟩:=v1
 unfold VC at hv
 rcases hv with ⟨_,h⟩ | ⟨b,off,cap,e1,e2,e3,e4,e5,e6,e7⟩
 · exact absurd h hne
 obtain rfl:v=.slice (some ⟨b,off,none⟩) (l.map nv).length cap:=by
  cases v<;>first | exact absurd hag Bool.false_ne_true | simp_all [Value.cells]
 rw[aF]
 have gA:∀j,j<(l.map fun i:Nat=>(i:Int)).length→w.cell? ⟨b,off+j,none⟩=some (.int .i64 ((l.map fun i:Nat=>(i:Int)).getD j 0)):=fun j hj=>by
  rw[aF] at hj
  have h1:=ZF e7 j l[j] (eA hj)
  unfold cellAt at h1
  unfold World.cell?
  simp only[YW,lY,eA hj,pA,HX]
  split at h1
  · rename_i hb;rw[hb];exact h1
  · cases h1
 refine(Go.Proofs.Any.slices_Clone_int a0Z b off l.length cap (l.map fun i:Nat=>(i:Int)) w (by rw[aF];omega) (by omega) gA).mono ?_
 rintro e w' ⟨v',rfl,⟨_,ho⟩,hnn,hB⟩
 rcases ho with ⟨h,_⟩ | ⟨g,a0N,cur,rfl,h1,h2,h3,h4,h5,h6⟩
 · exact absurd h hnn
 have X:Ext w.heap w'.heap:=⟨hB.size,hB.block⟩
 have hg:st g=none:=by
  cases hs:st g with
  | none=>rfl
  | some o=>exact absurd (S g o hs).1 (by omega)
 have hgl:g<w'.heap.size:=(LR.1 h2).1
 have T:cC w.heap st w'.heap (st.aC g (.cells (l.map nv))):=⟨hB.size,fun y hy hn=>⟨hB.block y hy,by rw[aA.aG _ _ (by omega)];exact hn⟩,(X.step st).shape⟩
 have h7:(l.map fun i:Nat=>(i:Int)).take l.length=l.map fun i:Nat=>(i:Int):=nA (by rw[aF];omega)
 rw[xL] at h5 h6
 rw[h7,uA] at h6
 have hvs:(l.map DA)=(cur.toList.drop 0).take l.length:=by rw[sP,h6];try rfl
 refine⟨_,.mslice g 0 l.length 1,st.aC g (.cells (l.map nv)),rfl,⟨rfl,a0N,rfl,h3,h4,cur,_,h2,by omega⟩,fun y o e=>?_,T,⟨hB.os,hB.tape,hB.output⟩,g,hg,rfl,rfl⟩
 by_cases hy:y=g
 · subst hy
   rw[aA.aJ] at e
   cases e
   exact⟨hgl,cur,_,h2,by rw[aF];omega,l.map DA,by rw[hvs];exact CK h2 _ 0 (by omega),ZD l⟩
 · rw[aA.aG _ _ hy] at e
   obtain⟨p1,p2⟩:=S y o e
   exact⟨vY p1 hB.size,l7.mono T (hB.block y p1) p2⟩
end Go.AW

namespace Go.AW
open Go.Proofs.Tryz
theorem a0X{P:Program}{t:TypeId}{ag:Bool}{sz b off n:Nat}{zs cs:List AV}{st:aA}{K:AV→aA→Prop}(hI:eI P t=some (ag,sz))(hZ:eZ P t=some zs)(h0:sz≠0)(hz:zs.length=sz)(hst:zs.all AV.storable=true)(hb:st b=some (.cells cs))(fB:off+n*sz≤cs.length)
 (hK:K (.tup []) (st.aC b (.cells (aK cs off (kM zs n))))):xQ P t st (.mslice b off n sz) K:=by
 unfold xQ
 rw[hI,hZ]
 simp only[hb]
 exact⟨trivial,h0,hz,hst,fB,hK⟩
theorem a83{cs:List AV}{i:Nat}{x:List AV}(h:i≤cs.length):(aK cs i x).take i=cs.take i:=by
 unfold aK
 rw[lX,HV (by rw[dE];omega)]
theorem a84{cs:List AV}{i:Nat}{x:AV}(h:i<cs.length):(aK cs i [x]).take (i+1)=cs.take i++ [x]:=by
 unfold aK
 rw[HV (by rw[dQ,dE,aX,a8];omega)]
theorem a82{cs:List AV}{i:Nat}{x:List AV}(h:i+x.length≤cs.length):(aK cs i x).length=cs.length:=by
 unfold aK
 simp only[dQ,dE,mI]
 omega
theorem set_drop{cs:List AV}{i j:Nat}{x:AV}(h:i<cs.length)(hj:i<j):(aK cs i [x]).drop j=cs.drop j:=by
 unfold aK
 rw[List.drop_append,B2 (by rw[dQ,dE,aX,a8];omega),fF,HP]
 congr 1
 rw[dQ,dE,aX,a8]
 omega
structure YS (l:List Nat) (p:Nat→Bool) (i j:Nat) (W:List AV):Prop where
 lt:i<j
 le:j≤l.length
 len:W.length=l.length
 head:W.take i=((l.take j).filter fun x=> !p x).map nv
 hlen:i=((l.take j).filter fun x=> !p x).length
 tail:W.drop j=(l.drop j).map nv
abbrev aTE:=zi tI_3 (zi zI_3 (zi aY (zi tI_4 (zi zI_4 (zi cJ (zi tI_46 (zi zI_46 (zi cZ (zi eG (zi eE eT))))))))))
theorem a7A(l:List Nat)(g:FuncId)(dL:List AV)(p:Nat→Bool)(b:Nat)(h9:l.length≤1048576)(st:aA)(hb:st b=some (.cells (l.map nv)))(hc:∀x∈l,∀cs,aD prog g ([nv x]++dL) (st.aC b (.cells cs)) (fun r st'=>r=.bool (p x)∧st'=st.aC b (.cells cs))) :
 aD prog 186 [.mslice b 0 l.length 1,.func g dL] st (fun r st'=>∃W,r=.mslice b 0 (l.filter fun x=> !p x).length 1∧st'=st.aC b (.cells W)∧W.take (l.filter fun x=> !p x).length=(l.filter fun x=> !p x).map nv):=by
 have hst:st.aC b (.cells (l.map nv))=st:=by
  funext y
  simp only[aA.aC]
  split
  · rename_i h;rw[h,hb]
  · rfl
 have UV:=a7B l g dL p b (l.map nv) h9 st hb (fun i x h=>by simp [h]) (fun x hx=>by have:=hc x hx (l.map nv);rwa [hst] at this)
 refine wF [1000000] 2 func186 ntmps186 rfl rfl ?_
 intro _
 simp -implicitDefEqProofs only[aB,seval]
 refine(UV).to ?_
 simp -implicitDefEqProofs only[aB,seval]
 rcases VH p l 0 (by omega) with ⟨h1,h2⟩ | ⟨j0,x0,h1,h2,h3,h4,h5⟩
 · have d7:(l.filter fun x=> !p x)=l:=List.filter_eq_self.2 fun a ha=>by
    have:=List.any_eq_false.1 h2 a ha
    simpa using this
   rw[h1,d7]
   simp -implicitDefEqProofs only[aB,seval]
   exact⟨l.map nv,hst.symm,by rw[nA (by rw[aF];exact cY _)]⟩
 have hj:j0<l.length:=(fL.1 h2).1
 have hf0:((l.take (j0+1)).filter fun x=> !p x)=l.take j0:=by
  rw[eD,h2,List.filter_append]
  simp only[EO,List.filter_cons,h3,kP,iK,dY,List.filter_nil,gF]
  refine List.filter_eq_self.2 fun a ha=>?_
  obtain⟨k,hk⟩:=B4 ha
  rw[List.getElem?_take] at hk
  split at hk
  · rename_i h;rw[h5 k a h hk];try rfl
  · cases hk
 have hI0:YS l p j0 (j0+1) (l.map nv):=⟨by omega,by omega,by rw[aF],by rw[hf0,HR],by rw[hf0,dE];omega,by rw[zS]⟩
 rw[h1,Int.zero_add]
 have hn1:((j0:Int)= -1)=False:=cK (by omega)
 have hw0:=bE (n:=(j0:Int)+1)
 simp -implicitDefEqProofs only[hn1,hw0,bX,aB,seval]
 refine iP (σ:=Nat×Nat×List AV) [1000000] [0,1,4] (fun x=>YS l p x.1 x.2.1 x.2.2) (fun x=>[(5,.int .i64 (x.1:Int)),(6,.int .i64 (x.2.1:Int))]) (fun x=>st.aC b (.cells x.2.2)) (fun x=>l.length - x.2.1) (by decide +kernel) ⟨(j0,j0+1,l.map nv),hI0,(by simp only[hst];exact aM.mk (by simp -implicitDefEqProofs only[aB,seval]))⟩ ?_
 rintro⟨i,j,W⟩ ⟨i1,i2,i3,i4,i5,i6⟩
 simp only at i1 i2 i3 i4 i5 i6
 simp only
 simp -implicitDefEqProofs only[aB,seval,aTE]
 refine aP (fun h=>?_) (fun h=>?_)
 · have hlt:j<l.length:=by simp at h;omega
   obtain⟨x,hx⟩:∃x,l[j]?=some x:=⟨_,eA hlt⟩
   have hWj:W[j]?=some (nv x):=by
    have e:(W.drop j)[0]?=((l.drop j).map nv)[0]?:=by rw[i6]
    simpa [hx] using e
   have hat:=qV (P:=prog) (t:=46) (b:=b) (w:=1) cZ hlt
   have yL:=qV (P:=prog) (t:=46) (b:=b) (w:=1) (i:=i) (len:=l.length) cZ (by omega)
   rw[xL] at hat yL
   have hld:=aP9 (st:=st.aC b (.cells W)) (aA.aJ _ _ _) hWj rfl
   have hca:=hc x (cM hx) W
   simp only[nv,iB,fF] at hld hca
   have hw:=bE (n:=(j:Int)+1)
   have hw2:=bE (n:=(i:Int)+1)
   simp -implicitDefEqProofs only[hat,hld,aB,seval]
   refine(hca).to ?_
   simp -implicitDefEqProofs only[aB,seval]
   have htl:(l.take (j+1)).filter (fun x=> !p x)=(l.take j).filter (fun x=> !p x)++(if p x=false then[x] else[]):=by
    rw[eD,hx,List.filter_append]
    congr 1
    cases hp:p x<;>simp [hp]
   have hdr:∀V:List AV,V.drop j=W.drop j∨V.drop (j+1)=W.drop (j+1)→V.drop (j+1)=(l.drop (j+1)).map nv:=fun V hV=>by
    have e:W.drop (j+1)=(l.drop (j+1)).map nv:=by rw[←HP,i6,←zS,HP]
    rcases hV with hV | hV
    · rw[←HP,hV,HP,e]
    · rw[hV,e]
   refine aP (fun h7=>?_) (fun h7=>?_)
   · have hp:p x=false:=by simpa using h7
     rw[aH hp] at htl
     simp -implicitDefEqProofs only[yL,hw,hw2,aA.aJ,dS,aB,seval,aTE]
     have hil:i<W.length:=by omega
     refine⟨by omega,(i+1,j+1,aK W i [nv x]),by simp only;omega,⟨by simp only;omega,by simp only;omega,by rw[a82 (by simp only[aX,a8];omega)];exact i3,by simp only;rw[a84 hil,htl,i4,nU];try rfl,by simp only;rw[htl,dQ,aX,a8,←i5],hdr _ (.inr (set_drop hil (by omega)))⟩,aM.mk (by simp -implicitDefEqProofs only[aB,seval])⟩
   · have hp:p x=true:=by simpa using h7
     rw[aE (by simp [hp]),gF] at htl
     simp -implicitDefEqProofs only[hw,aB,seval]
     refine⟨(i,j+1,W),by simp only;omega,⟨by simp only;omega,by simp only;omega,i3,by simp only;rw[htl];exact i4,by simp only;rw[htl];exact i5,hdr W (.inl rfl)⟩,aM.mk (by simp -implicitDefEqProofs only[aB,seval])⟩
 · have hge:j=l.length:=by simp at h;omega
   subst hge
   rw[dZ] at i4 i5
   have hsl:∀(φ:AF) (y:Operand),φ.eval y=.int .i64 (i:Int)→fH prog φ 46 (.mslice b 0 l.length 1) (some y) none none=some (.mslice b i (l.length - i) 1):=fun φ y hy=>by
    unfold fH
    rw[aE (by simp [oN])]
    simp only[nE,cZ,dK,hy]
    rw[aH (by constructor<;>omega)]
    simp only[jQ]
    by_cases h0:i=0
    · simp [h0]
    · simp [h0,i1]
   have hsh:∀(φ:AF) (y:Operand),φ.eval y=.int .i64 (i:Int)→fH prog φ 46 (.mslice b 0 l.length 1) none (some y) none=some (.mslice b 0 i 1):=fun φ y hy=>by
    unfold fH
    rw[aE (by simp [oN])]
    simp only[nE,cZ,dK,hy]
    rw[aH (by constructor<;>omega)]
    simp
   simp -implicitDefEqProofs only[hsl,aB,seval]
   refine a0X cZ eE (by decide) rfl rfl (aA.aJ _ _ _) (by omega) ?_
   rw[dS]
   simp -implicitDefEqProofs only[hsh,aB,seval]
   refine⟨aK W i (kM [.int .i64 0] (l.length - i)),by rw[←i5],rfl,?_⟩
   rw[←i5,a83 (by omega)]
   exact i4
abbrev aTG:=zi tI_3 (zi zI_3 (zi aY (zi tI_4 (zi zI_4 (zi cJ (zi tI_9 (zi zI_9 (zi cV (zi tI_29 (zi zI_29 (zi fN (zi iG (zi iI (zi jN (zi tI_66 (zi zI_66 (zi bZ (zi b9 (zi cA (zi cB (zi bY (zi tI_84 (zi zI_84 (zi mA (zi mB l8)))))))))))))))))))))))))
theorem aX5{p:List Cl}(hp:∀c∈p,gQ c∧c.2.length≤6)(key:ByteArray)(x:Nat)(hx:x<p.length)(st:aA)(hT:st vE=some y8):aD prog 188 [nv x,.pptr (.slice (p.map bR)),.pptr (.str key)] st (fun r st'=>r=.bool (!FN p key x)∧st'=st):=by
 obtain⟨c,hc⟩:∃c,p[x]?=some c:=⟨_,eA hx⟩
 have hat:=bP (av:=bR) (P:=prog) fN hc (kA c)
 have hck:=aA8 (hp c (cM hc)).1.head st hT
 have hF:FN p key x=NI (A6 c.1) key:=by unfold FN;rw[hc]
 rw[hF]
 obtain⟨⟨k,n,s',ts⟩,bd⟩:=c
 rw[iL] at hat
 simp only[bA] at hck
 simp only[nv]
 refine wF [1000000] 3 func188 ntmps188 rfl rfl ?_
 intro _
 simp -implicitDefEqProofs only[aB,seval]
 refine E5 mixed (by decide +kernel) (by decide +kernel) ?_
 simp -implicitDefEqProofs only[hat,aB,seval,aTG]
 refine jC hck ?_
 simp -implicitDefEqProofs only[aB,seval,aTG]
 refine jC (aX9 _ key _) ?_
 simp -implicitDefEqProofs only[aB,seval]
abbrev aTF:=zi tI_9 (zi zI_9 (zi cV (zi tI_29 (zi zI_29 (zi fN (zi iG (zi iI (zi jN (zi tI_46 (zi zI_46 (zi cZ (zi eG (zi eE (zi eT (zi tI_66 (zi zI_66 (zi bZ (zi b9 (zi cA (zi cB bY))))))))))))))))))))
theorem aX4{p:List Cl}(hp:∀c∈p,gQ c∧c.2.length≤6){N:Int}{t:Tm}(ht:bJ N t)(l:List Nat)(hl:l≠[])(hlt:∀i∈l,i<p.length)(h9:l.length≤1048576)(st:aA)(hT:st vE=some y8):aD prog 104 [.slice (p.map bR),.slice (l.map nv),t.av] st (fun r st'=>r=.slice ((uO p t l).map nv)∧st'=st):=by
 refine aD.freeze (aD.cut ?_)
 have hk:=aA8 ht st hT
 have hcl:=a69 l hl h9 st
 have yN:(l.filter fun x=> !(!FN p (A6 t) x))=uO p t l:=by unfold uO;simp only[Bool.not_not]
 generalize hkt:A6 t=key at *
 obtain⟨tk,tn,ts',tts⟩:=t
 simp only[bA] at hk ⊢
 refine wF [1000000] 3 func104 ntmps104 rfl rfl ?_
 intro _
 simp -implicitDefEqProofs only[aB,seval,aTF]
 refine(hk).to ?_
 simp -implicitDefEqProofs only[aB,↓aU,seval,aTF]
 refine(hcl).mono ?_
 rintro _ _ ⟨b,hb,rfl,rfl⟩
 simp -implicitDefEqProofs only[aB,seval]
 have hb0:vE≠b:=by rintro rfl;rw[hT] at hb;cases hb
 have a3S:=a7A l _ [.pptr (.slice (p.map bR)),.pptr (.str key)] (fun i=> !FN p key i) b h9 (st.aC b (.cells (l.map nv))) (aA.aJ _ _ _) (fun x hx cs=>aX5 hp key x (hlt x hx) _ (by rw[dS,aA.aG _ _ hb0];exact hT))
 refine(a3S).mono ?_
 rintro _ _ ⟨W,rfl,rfl,hW⟩
 rw[yN] at hW ⊢
 simp -implicitDefEqProofs only[aB,seval]
 have hfl:∀L:List Nat,(L.map nv).flatMap AV.cells=L.map nv:=fun L=>by
  induction L with
  | nil=>rfl
  | cons a L ih=>simp only[bH,rN,ih];rfl
 refine⟨b,W,_,aA.aJ _ _ _,b,_,by rw[aA.aJ,hW,hfl],fun e he=>?_,⟨1,VX _⟩,by simp [AV.fz],by rw[dS,aA.AQ _ _ _ hb]⟩
 simp only[cH] at he
 obtain⟨_,_,rfl⟩:=he
 rfl
def H2(st0 st':aA)(S c m:Nat)(p:List Cl)(q:List Tm)(idx:Bool)(fuel used:Int)(r:AV):zP→Prop
 | .go i'=>r=.int .i64 (-1)∧∃qt qc qn mx nd,dR st0 st' S c m qt qc qn p q idx fuel used mx nd i'
 | .fail i'=>YR st0 st' S c m p q idx fuel used r (g7 p i'.chs.length i')
 | .stop e=>r=.int .i64 e∧∃qt qc qn mx nd i',dR st0 st' S c m qt qc qn p q idx fuel used mx nd i'
def QT(p:List Cl)(idx:Bool)(cnd:Tm→List Nat→List Nat):Prop:=cnd=if idx=true then uO p else fun _ l=>l
theorem a5W(yn:Int)(ys:ByteArray)(yts:List Tm)(st:aA):aD prog 122 [(Tm.mk 3 yn ys yts).av] st (fun r st'=>r=.bool (tB (.mk 3 yn ys yts))∧st'=st):=by
 have h:=aBE 3 yn ys yts st
 have e:(decide ((3:Int)=3)&&decide ((yts.length:Int)=0)&&decide (ys=⟨#[33]⟩))=tB (.mk 3 yn ys yts):=by
  rw[xF]
  simp [tB,Tm.k,Tm.s,Tm.ts,and_comm]
  exact fun _=>⟨fun h=>fQ h,fun h=>of_decide_eq_true h⟩
 rw[e] at h
 exact h
theorem a5V(yn:Int)(ys:ByteArray)(yts:List Tm)(st:aA):aD prog 121 [(Tm.mk 3 yn ys yts).av] st (fun r st'=>r=.bool (isBuiltin ys (yts.length:Int))∧st'=st):=by
 have h:=SG 3 yn ys yts st
 rw[show(decide ((3:Int)=3)&&isBuiltin ys (yts.length:Int))=isBuiltin ys (yts.length:Int) from rfl] at h
 exact h
abbrev mY:=zi tI_3 (zi zI_3 (zi aY (zi tI_4 (zi zI_4 (zi cJ (zi tI_29 (zi zI_29 (zi fN (zi iG (zi iI (zi jN (zi tI_46 (zi zI_46 (zi cZ (zi eG (zi eE (zi eT (zi tI_66 (zi zI_66 (zi bZ (zi b9 (zi cA (zi cB (zi bY (zi tI_174 (zi zI_174 (zi tI_199 (zi zI_199 (zi TK (zi TL (zi RZ (zi tI_227 (zi zI_227 (zi tI_256 (zi zI_256 (zi tI_257 (zi zI_257 (zi CQ (zi M6 (zi M8 (zi YH (zi tI_258 (zi zI_258 (zi FH (zi M7 (zi M9 (zi YI (zi tI_260 (zi zI_260 (zi I6 (zi I7 (zi JA (zi JB (zi JC (zi JD (zi JE (zi JF (zi JG (zi JH (zi I8 (zi I9 (zi IL (zi tI_321 (zi zI_321 (zi aNR (zi aNS (zi aNT (zi aNU (zi aAM (zi tI_324 (zi zI_324 (zi aNV (zi aNW (zi aNX aAN))))))))))))))))))))))))))))))))))))))))))))))))))))))))))))))))))))))))))
set_option maxHeartbeats 2000000 in
theorem a0H{p:List Cl}(hp:∀c∈p,gQ c∧c.2.length≤6)(hpl:p.length≤20){cnd:Tm→List Nat→List Nat}(hc:∀(ρ:Int→Int) (t:Tm) (l:List Nat),cnd (cD ρ t) l=cnd t l)(hd:∀t l,(∀i∈cnd t l,i∈l)∧(cnd t l).length≤l.length){idx:Bool}(yN:QT p idx cnd)
 {B M k:Nat} (hB:B+26≤524288) (hM:M+520≤16777216) (hk:k+1≤524288) {st0 st:aA} {S c m:Nat} {qt qc qn:AV} {q:List Tm} {fuel used:Int} {mx:Int} {nd:List AV} {s:RS} {i:IS} {g:IG} {rest:List IG}
 (A3:idx=true→st0 vE=some y8) (h:dR st0 st S c m qt qc qn p q idx fuel used mx nd i) (hR:RI p B M k s i) (hg:i.goals=g::rest) (hu0:0≤used) (hu:used≤1000000) :
 aD prog 243 [.ptr S 0] st (fun r st'=>if used=fuel then r=.int .i64 2∧dR st0 st' S c m qt qc qn p q idx fuel used mx nd i else H2 st0 st' S c m p q idx fuel (used+1) r (nK p cnd i g rest)):=by
 have hp1:=fun c h=>(hp c h).1
 obtain⟨hgd,ho,hcl,_⟩:=hR.r.facts
 obtain⟨hgo,hg3,_⟩:=hR.r.goal hg
 have hct:=hR.cut hg
 have hst:=hR.step hp hpl hc hd hB hg
 have bDB:=hR.qO
 have hnn:=hR.n
 have hX:=hR.x
 obtain⟨rk,D,G⟩:=hgd.rs
 have hfo:=NJ hgd ho hgo
 have hyk:(g.t.aN (rs i.σ)).k=3:=by rw[Tm.tJ _ (by omega)];exact hg3
 have C9:=aB9 G (ho.imp fun t ht=>ht.1.2.1) (ho.imp fun t ht=>ht.1.small) c m qt g.t hgo.1.2.1 hgo.1.small
 generalize hT:nK p cnd i g rest=T at *
 unfold nK at hT
 obtain⟨⟨gk,gn,gs',gts⟩,cut,up⟩:=g
 simp only at hgo hg3 hct hfo hyk C9 hT
 generalize (Tm.mk gk gn gs' gts).aN (rs i.σ)=y at *
 obtain⟨yk,yn,ys,yts⟩:=y
 obtain rfl:yk=3:=hyk
 simp only[Tm.s,Tm.ts] at hT
 have gA:=h.cell
 rw[hg,uR] at gA
 simp only[iO] at gA
 obtain⟨t1,t2,t3,t4,t5⟩:=h.sto.shape
 obtain⟨n1,n2,n3,n4,n5⟩:=h.acC.shape
 obtain⟨m1,m2,m3,m4,m5⟩:=h.acN.shape
 obtain⟨l1,l2,l3,l4,l5,l6⟩:=qU rest
 refine aD.nG ?_
 refine wF [1000000] 1 func243 ntmps243 rfl rfl ?_
 intro _
 simp -implicitDefEqProofs only[aB,seval]
 refine wX [(0,1),(1,1),(2,1),(3,1),(4,1),(5,1),(6,1),(7,1),(8,1)] [0,1,2,3,4,5,6,7,8] _ mixed rfl (fR gA) ?_
 simp -implicitDefEqProofs only[wY,aB,seval,mY]
 refine aP (fun h1=>?_) (fun h1=>?_)
 · have h1':used=fuel:=by simpa using h1
   simp -implicitDefEqProofs only[aB,seval]
   exact⟨st,aL.refl _,by rw[aH h1'];exact h⟩
 have h1':used≠fuel:=by simpa using h1
 have hw:=bE (n:=used+1)
 simp -implicitDefEqProofs only[aK,gA,hw,aA.aJ,aB,seval,mY]
 have h2:=h.put (gl:=i.goals) (F:=i.fresh) (fuel':=fuel) (used':=used+1) (mx':=mx) rfl
 rw[hg,uR] at h2
 simp only[iO] at h2
 generalize aA.aC st S _=V at h2 ⊢
 have tG:=h2.cell
 rw[uR] at tG
 simp only[iO] at tG
 have hSV:=h2.sto
 have hr:=fun(s2:aA) (hs2:eN V s2)=>C9 s2 ⟨hs2 _ _ hSV.sub.cells,hs2 _ _ hSV.sub.map⟩
 unfold OP at hr
 by_cases hf:fA (.mk 3 yn ys yts)=true
 case neg=>
  rw[aE (by unfold fA at hf;simpa using hf)] at hr
  rw[aH (by simpa using hf)] at hT
  subst hT
  simp only[bA,Tm.zero,a7] at hr
  refine wX [(0,1),(1,1),(2,1),(3,1),(4,1),(5,1),(6,1),(7,1),(8,1),(9,1),(10,1),(11,1),(12,0),(13,0),(14,1)] [0,1,2,3,4,5,6,7,8,9,10,11,14] V mixed rfl (eN.refl V) ?_
  simp -implicitDefEqProofs only[tG,aB,seval,mY]
  refine MW hr ?_
  simp -implicitDefEqProofs only[aK,aA.aJ,aB,seval,mY]
  exact fun b hb=>⟨NF hb,NF hb,V,(aL.refl _).aC hb,by rw[aE h1'];exact⟨rfl,_,_,_,_,_,_,h2⟩⟩
 rw[aH (by unfold fA at hf;simpa using hf)] at hr
 rw[aE (by rw[hf];simp)] at hT
 have hyo:=hfo hf
 simp only[bA] at hr
 have U8:prog.underlying 258=some (.slice 324):=by kernel_rfl
 refine wX [(0,1),(1,1),(2,1),(3,1),(4,1),(5,1),(6,1),(7,1),(8,1),(9,1),(10,1),(11,1),(12,0),(13,0),(14,1)] [0,1,2,3,4,5,6,7,8,9,10,11,14] V mixed rfl (eN.refl V) ?_
 simp -implicitDefEqProofs only[tG,aB,seval,mY]
 refine MW hr ?_
 simp -implicitDefEqProofs only[aK,aA.aJ,aB,seval,mY]
 intro b4 h4
 refine⟨NF h4,NF h4,?_⟩
 have h40:=h2.aOK h4
 have aPQ:idx=true→(st0.aC b4 (.cells [AV.int IntKind.i64 3,AV.int IntKind.i64 yn,AV.str ys,AV.slice (List.map Tm.av yts)])) vE=some y8:=fun hi=>by
  rw[aA.aG _ _ (by intro e;rw[←e,A3 hi] at h40;cases h40)]
  exact A3 hi
 have NQ:S≠b4:=by rintro rfl;rw[tG] at h4;cases h4
 have h3:=h2.box (o:=.cells [AV.int IntKind.i64 3,AV.int IntKind.i64 yn,AV.str ys,AV.slice (List.map Tm.av yts)]) h4
 have JS:(st0.aC b4 (.cells [AV.int IntKind.i64 3,AV.int IntKind.i64 yn,AV.str ys,AV.slice (List.map Tm.av yts)])) b4=some (.cells [AV.int IntKind.i64 3,AV.int IntKind.i64 yn,AV.str ys,AV.slice (List.map Tm.av yts)]):=aA.aJ _ _ _
 have hun:=fun {st' qt qc qn q idx fuel used mx nd i}=>dR.unbox (st0:=st0) (st:=st') (S:=S) (c:=c) (m:=m) (qt:=qt) (qc:=qc) (qn:=qn) (p:=p) (q:=q) (idx:=idx) (fuel:=fuel) (used:=used) (mx:=mx) (nd:=nd) (i:=i) (b:=b4) (o:=.cells [AV.int IntKind.i64 3,AV.int IntKind.i64 yn,AV.str ys,AV.slice (List.map Tm.av yts)]) (hn:=h40)
 generalize V.aC b4 (.cells [AV.int IntKind.i64 3,AV.int IntKind.i64 yn,AV.str ys,AV.slice (List.map Tm.av yts)])=W at h3 ⊢
 generalize st0.aC b4 (.cells [AV.int IntKind.i64 3,AV.int IntKind.i64 yn,AV.str ys,AV.slice (List.map Tm.av yts)])=W0 at h3 JS hun aPQ
 clear tG hSV hr h2
 have FY:=h3.cell
 rw[uR] at FY
 simp only[iO] at FY
 have hbW:=h3.aV b4 _ JS
 have hlN:=h3.acN.len U8
 rw[h3.ndl] at hlN
 simp only at hlN
 simp -implicitDefEqProofs only[FY,hlN,m1,aB,seval]
 obtain⟨s0,z1,z2,z3⟩:=QE NQ _ _
 refine wX [(0,1),(1,1),(2,1),(3,1),(4,1),(5,1),(6,1),(7,1),(8,1),(9,1),(10,1),(11,1),(12,0),(13,1),(14,1),(15,2)] [0,1,2,3,4,5,6,7,8,9,10,11,13,14] s0 mixed rfl (z3 _ FY hbW) ?_
 simp -implicitDefEqProofs only[z1,z2,m1,aB,seval,mY]
 refine gE.append FH M7 M9 rfl (by decide) h3.acN rfl rfl (by rw[h3.ndl];simp only;omega) (fun qn5 s5 gM hf hn=>?_)
 have hbo:b4∉j4 S c m qt qc qn:=fun hm=>by have:=h3.new b4 hm;rw[JS] at this;cases this
 have hold:∀y o,W y=some o→y∉aT qn→s5 y=some o:=fun y o hy hq=>by
  rw[hf y hq fun hq'=>by
   rcases hn y hq' with h' | h'
   · exact hq h'
   · rw[hy] at h';cases h']
  exact hy
 have uU:=hold S _ FY h3.parts.2.2.2.2.2.1
 have hb5:=hold b4 _ hbW fun hm=>hbo (eL.2 (.inr (.inr (.inr (.inr (.inr hm))))))
 obtain⟨m1,m2,m3,m4,m5⟩:=gM.shape
 simp -implicitDefEqProofs only[aK,uU,m4,m5,aB,seval,mY]
 refine⟨z3 _ uU hb5,?_⟩
 have h5:=h3.a73 (n':=i.nn+1) gM (by rw[dQ,h3.ndl];try rfl) (fun e he=>by
  rcases d6.1 he with he | he
  · exact h3.ndw e he
  · simp only[c7,dT,d4] at he;subst he;rfl) hf hn rfl
 rw[uR] at h5
 simp only[iO] at h5
 generalize aA.aC s5 S _=W5 at h5 ⊢
 clear uU hb5 hold hf hn FY hbW
 have lL:=h5.cell
 rw[uR] at lL
 simp only[iO] at lL
 have hb6:=h5.aV b4 _ JS
 have aO9:=a5W yn ys yts
 have aO4:=a5V yn ys yts
 simp only[bA] at aO9 aO4
 simp -implicitDefEqProofs only[hb6,aB,seval]
 refine(aO9 _).to ?_
 simp -implicitDefEqProofs only[aB,seval]
 refine aP (fun hcu=>?_) (fun hcu=>?_)
 · simp only[hcu,eX] at hT
   subst hT
   simp -implicitDefEqProofs only[lL,aB,seval,mY]
   have hsl:=fun(φ:AF) (dd:Nat) (h:φ dd=.int .i64 (cut:Int))=>aSE CQ h5.acC h (by rw[aF];exact hct)
   have hQ:=(h5.acC.take (k:=cut) (by rw[aF];exact hct) (VF _)).shape
   obtain⟨c1,c2,c3,c4,c5⟩:=hQ
   obtain⟨s1,y1,y2,y3⟩:=QE NQ _ _
   refine wX [(0,1),(1,1),(2,1),(3,1),(4,1),(5,1),(6,1),(7,1),(8,1),(9,1),(10,1),(11,1),(12,2)] [0,1,2,3,4,5,6,7,8,9,10,11] s1 mixed rfl (y3 _ lL hb6) ?_
   simp -implicitDefEqProofs only[aK,y1,lL,hsl,c4,c5,n1,l1,l2,l4,l5,aA.aJ,aB,seval,mY]
   refine⟨_,aL.refl _,?_⟩
   rw[aE h1']
   have h6:=h5.aC2 (k:=cut) (gl:=rest) hct rfl
   exact⟨rfl,_,_,_,_,_,hun h6⟩
 simp only[hcu,iK,dY] at hT
 simp -implicitDefEqProofs only[hb6,aB,seval,mY]
 refine(aO4 _).to ?_
 simp -implicitDefEqProofs only[aB,seval]
 refine aP (fun hbl=>?_) (fun hbl=>?_)
 · simp only[hbl,eX] at hT
   have hks:∀x∈yts,bJ i.fresh x:=sE _ (.mk 3 yn ys yts) (show(3:Int)≠1 by decide) hyo
   have tF:=aXV hgd ho yn ys yts hbl hks c m qt i.tr W5 h5.sto (by have:=hX.YB;have:=hX.phi;omega)
   simp only[bA] at tF
   replace hT:(if(dM i.σ ys yts).1=0 then zP.go { goals:=rest,σ:=(dM i.σ ys yts).2.1,tr:=i.tr++(dM i.σ ys yts).2.2,chs:=i.chs,fresh:=i.fresh,nn:=i.nn+1 } else if(dM i.σ ys yts).1=1 then zP.fail { goals:=i.goals,σ:=(dM i.σ ys yts).2.1,tr:=i.tr++(dM i.σ ys yts).2.2,chs:=i.chs,fresh:=i.fresh,nn:=i.nn+1 } else zP.stop (qT (dM i.σ ys yts).1))=T:=hT
   generalize A4:dM i.σ ys yts=Z at tF hT
   obtain⟨code,σ',add⟩:=Z
   simp only at hT
   obtain⟨s1,y1,y2,y3⟩:=QE NQ _ _
   refine wX [(0,1),(1,1),(2,1),(3,1),(4,1),(5,0),(6,1)] [0,1,2,3,4,6] s1 mixed rfl (y3 _ lL hb6) ?_
   simp -implicitDefEqProofs only[y1,y2,aB,seval,mY]
   refine tF.mono ?_
   rintro _ s6 ⟨rfl,hP⟩
   obtain⟨qt6,h6⟩:=h5.post hP
   have pF:=h6.cell
   rw[uR] at pF
   simp only[iO] at pF
   have hb7:=h6.aV b4 _ JS
   obtain⟨t1,t2,t3,t4,t5⟩:=h6.sto.shape
   simp -implicitDefEqProofs only[aB,seval]
   refine⟨y3 _ pF hb7,?_⟩
   refine aP (fun hc0=>?_) (fun hc0=>?_)
   · have UH:code=0:=by simpa using hc0
     rw[aH UH] at hT
     subst hT
     simp -implicitDefEqProofs only[aK,pF,l1,l2,l4,l5,aB,seval,mY]
     refine⟨_,aL.refl _,?_⟩
     rw[aE h1']
     exact⟨rfl,_,_,_,_,_,hun (h6.put (gl:=rest) (F:=i.fresh) (fuel':=fuel) (used':=used+1) (mx':=mx) rfl)⟩
   have UH:code≠0:=by simpa using hc0
   rw[aE UH] at hT
   simp -implicitDefEqProofs only[aB,seval]
   refine aP (fun hc1=>?_) (fun hc1=>?_)
   · have UI:code=1:=by simpa using hc1
     rw[aH UI] at hT
     subst hT
     simp only at hst
     rw[←hg] at h6
     have hbk:=MN hp (M:=M+520) (by omega) _ _ _ _ _ _ ({ goals:=i.goals,σ:=σ',tr:=i.tr++add,chs:=i.chs,fresh:=i.fresh,nn:=i.nn+1 }:IS) s.chs (T:=g7 p (({ goals:=i.goals,σ:=σ',tr:=i.tr++add,chs:=i.chs,fresh:=i.fresh,nn:=i.nn+1 }:IS)).chs.length ({ goals:=i.goals,σ:=σ',tr:=i.tr++add,chs:=i.chs,fresh:=i.fresh,nn:=i.nn+1 }:IS)) ⟨h6,hst.1,hst.2.1,rfl,⟨by rw[hst.1.len];have:=hR.a.a.qO;omega,mK hst.2.2.1 (by omega)⟩⟩
     simp -implicitDefEqProofs only[aB,seval]
     refine hbk.mono ?_
     rintro r s7 hr
     simp -implicitDefEqProofs only[aB,seval]
     refine⟨s7,aL.refl _,?_⟩
     rw[aE h1']
     simp only[H2]
     cases hB2:g7 p (({ goals:=i.goals,σ:=σ',tr:=i.tr++add,chs:=i.chs,fresh:=i.fresh,nn:=i.nn+1 }:IS)).chs.length ({ goals:=i.goals,σ:=σ',tr:=i.tr++add,chs:=i.chs,fresh:=i.fresh,nn:=i.nn+1 }:IS) with
     | none=>
      rw[hB2] at hr
      obtain⟨e1,qt7,qc7,qn7,mx7,nd7,i7,h7⟩:=hr
      exact⟨e1,_,_,_,_,_,_,hun h7⟩
     | some i7=>
      rw[hB2] at hr
      obtain⟨e1,qt7,qc7,qn7,mx7,nd7,h7⟩:=hr
      exact⟨e1,_,_,_,_,_,hun h7⟩
   have UI:code≠1:=by simpa using hc1
   rw[aE UI] at hT
   subst hT
   simp -implicitDefEqProofs only[aB,seval]
   refine(aX3 code _).to ?_
   simp -implicitDefEqProofs only[aB,seval]
   refine⟨_,aL.refl _,?_⟩
   rw[aE h1']
   exact⟨rfl,_,_,_,_,_,_,hun h6⟩
 simp only[hbl,iK,dY] at hT
 have hpr:=aB7 3 yn ys yts
 have hcf:=aXX p (.mk 3 yn ys yts) (by omega)
 simp only[bA,Tm.s,Tm.ts] at hpr hcf
 obtain⟨s1,y1,y2,y3⟩:=QE NQ _ _
 simp -implicitDefEqProofs only[aB,seval]
 refine wX [(0,1),(1,1),(2,1),(3,1),(4,1),(5,0),(6,0),(7,1)] [0,1,2,3,4,7] s1 mixed rfl (y3 _ lL hb6) ?_
 simp -implicitDefEqProofs only[y1,y2,aB,seval,mY]
 refine(hpr _).to ?_
 simp -implicitDefEqProofs only[aB,seval]
 refine⟨y3 _ lL hb6,?_⟩
 refine(hcf _).to ?_
 simp -implicitDefEqProofs only[aF,aB,seval,mY]
 refine⟨y3 _ lL hb6,?_⟩
 refine aP (fun hl0=>?_) (fun hl0=>?_)
 · have qX:eR p (.mk 3 yn ys yts)= []:=by simpa using hl0
   rw[aH qX] at hT
   subst hT
   simp -implicitDefEqProofs only[aB,seval]
   refine⟨_,aL.refl _,?_⟩
   rw[aE h1']
   exact⟨rfl,_,_,_,_,_,_,hun h5⟩
 have qX:eR p (.mk 3 yn ys yts)≠[]:=by simpa using hl0
 rw[aE qX] at hT
 have hfl:=a2M p (.mk 3 yn ys yts)
 have h5':=h5
 rw[←hg] at h5'
 have F8:=fun(l:List Nat) (hl:∀i∈l,i<p.length) (h20:l.length≤p.length)=>aCJ hp (M:=M+520) (by omega) h5' (.mk 3 yn ys yts) i.nn rest l hgd ho hyo hl (by omega) (by simp only;omega) (hX.up (Nat.le_add_right M 520)).node (by have:=hX.phi;simp only;omega) (by simp only;omega) (by simp only;omega)
 have fB:=fun st hT=>aX4 hp hyo (eR p (.mk 3 yn ys yts)) qX (TS _ _) (by omega) st hT
 have hpW:=fun hi=>h5.aV vE _ (aPQ hi)
 have hds:=hd (.mk 3 yn ys yts) (eR p (.mk 3 yn ys yts))
 simp only[bA] at F8 fB
 obtain rfl:cnd=if idx=true then uO p else fun _ l=>l:=yN
 cases idx with
 | false=>
  simp only[iK,dY] at hT
  simp -implicitDefEqProofs only[lL,aB,seval,mY]
  have htr:=F8 (eR p (.mk 3 yn ys yts)) (TS _ _) (hfl)
  refine wX [(0,1),(1,1),(2,1),(3,1),(4,1),(5,1),(6,1),(7,1),(8,2)] [0,1,2,3,4,5,6,7] s1 mixed rfl (y3 _ lL hb6) ?_
  simp -implicitDefEqProofs only[y2,l1,l2,aB,seval,mY]
  refine htr.mono ?_
  rintro _ s6 ⟨rfl,qt6,qc6,mx6,nd6,h6⟩
  simp -implicitDefEqProofs only[aB,seval]
  refine aP (fun ht0=>?_) (fun ht0=>?_)
  · simp only[ht0,eX] at hT
    subst hT
    simp -implicitDefEqProofs only[aB,seval]
    refine⟨_,aL.refl _,?_⟩
    rw[aE h1']
    exact⟨rfl,_,_,_,_,_,hun h6⟩
  simp only[ht0,iK,dY] at hT
  subst hT
  simp only at hst
  have hbk:=MN hp (M:=M+520) (by omega) _ _ _ _ _ _ (gB p (.mk 3 yn ys yts) i.nn rest (eR p (.mk 3 yn ys yts)) { i with nn:=i.nn+1 }).2 s.chs (T:=g7 p ((gB p (.mk 3 yn ys yts) i.nn rest (eR p (.mk 3 yn ys yts)) { i with nn:=i.nn+1 }).2).chs.length (gB p (.mk 3 yn ys yts) i.nn rest (eR p (.mk 3 yn ys yts)) { i with nn:=i.nn+1 }).2) ⟨h6,hst.1,hst.2.1,rfl,⟨by rw[hst.1.len];have:=hR.a.a.qO;omega,mK hst.2.2.1 (by omega)⟩⟩
  simp -implicitDefEqProofs only[aB,seval]
  refine hbk.mono ?_
  rintro r s7 hr
  simp -implicitDefEqProofs only[aB,seval]
  refine⟨s7,aL.refl _,?_⟩
  rw[aE h1']
  simp only[H2]
  cases hB2:g7 p ((gB p (.mk 3 yn ys yts) i.nn rest (eR p (.mk 3 yn ys yts)) { i with nn:=i.nn+1 }).2).chs.length (gB p (.mk 3 yn ys yts) i.nn rest (eR p (.mk 3 yn ys yts)) { i with nn:=i.nn+1 }).2 with
  | none=>
   rw[hB2] at hr
   obtain⟨e1,qt7,qc7,qn7,mx7,nd7,i7,h7⟩:=hr
   exact⟨e1,_,_,_,_,_,_,hun h7⟩
  | some i7=>
   rw[hB2] at hr
   obtain⟨e1,qt7,qc7,qn7,mx7,nd7,h7⟩:=hr
   exact⟨e1,_,_,_,_,_,hun h7⟩
 | true=>
  simp only[eq_self,eX] at hT hds
  simp -implicitDefEqProofs only[lL,aB,seval,mY]
  refine wX [(0,1),(1,1),(2,1),(3,1),(4,1),(5,1),(6,0),(7,1)] [0,1,2,3,4,5,7] s1 mixed rfl (y3 _ lL hb6) ?_
  simp -implicitDefEqProofs only[y1,y2,aB,seval,mY]
  refine(fB _ (hpW rfl)).to ?_
  simp -implicitDefEqProofs only[aB,seval]
  refine⟨y3 _ lL hb6,?_⟩
  have htr:=F8 (uO p (.mk 3 yn ys yts) (eR p (.mk 3 yn ys yts))) ((fun x hx=>TS _ _ x (hds.1 x hx))) ((mK hds.2 hfl))
  refine wX [(0,1),(1,1),(2,1),(3,1),(4,1),(5,1),(6,1),(7,1),(8,2)] [0,1,2,3,4,5,6,7] s1 mixed rfl (y3 _ lL hb6) ?_
  simp -implicitDefEqProofs only[y2,l1,l2,aB,seval,mY]
  refine htr.mono ?_
  rintro _ s6 ⟨rfl,qt6,qc6,mx6,nd6,h6⟩
  simp -implicitDefEqProofs only[aB,seval]
  refine aP (fun ht0=>?_) (fun ht0=>?_)
  · simp only[ht0,eX] at hT
    subst hT
    simp -implicitDefEqProofs only[aB,seval]
    refine⟨_,aL.refl _,?_⟩
    rw[aE h1']
    exact⟨rfl,_,_,_,_,_,hun h6⟩
  simp only[ht0,iK,dY] at hT
  subst hT
  simp only at hst
  have hbk:=MN hp (M:=M+520) (by omega) _ _ _ _ _ _ (gB p (.mk 3 yn ys yts) i.nn rest (uO p (.mk 3 yn ys yts) (eR p (.mk 3 yn ys yts))) { i with nn:=i.nn+1 }).2 s.chs (T:=g7 p ((gB p (.mk 3 yn ys yts) i.nn rest (uO p (.mk 3 yn ys yts) (eR p (.mk 3 yn ys yts))) { i with nn:=i.nn+1 }).2).chs.length (gB p (.mk 3 yn ys yts) i.nn rest (uO p (.mk 3 yn ys yts) (eR p (.mk 3 yn ys yts))) { i with nn:=i.nn+1 }).2) ⟨h6,hst.1,hst.2.1,rfl,⟨by rw[hst.1.len];have:=hR.a.a.qO;omega,mK hst.2.2.1 (by omega)⟩⟩
  simp -implicitDefEqProofs only[aB,seval]
  refine hbk.mono ?_
  rintro r s7 hr
  simp -implicitDefEqProofs only[aB,seval]
  refine⟨s7,aL.refl _,?_⟩
  rw[aE h1']
  simp only[H2]
  cases hB2:g7 p ((gB p (.mk 3 yn ys yts) i.nn rest (uO p (.mk 3 yn ys yts) (eR p (.mk 3 yn ys yts))) { i with nn:=i.nn+1 }).2).chs.length (gB p (.mk 3 yn ys yts) i.nn rest (uO p (.mk 3 yn ys yts) (eR p (.mk 3 yn ys yts))) { i with nn:=i.nn+1 }).2 with
  | none=>
   rw[hB2] at hr
   obtain⟨e1,qt7,qc7,qn7,mx7,nd7,i7,h7⟩:=hr
   exact⟨e1,_,_,_,_,_,_,hun h7⟩
  | some i7=>
   rw[hB2] at hr
   obtain⟨e1,qt7,qc7,qn7,mx7,nd7,h7⟩:=hr
   exact⟨e1,_,_,_,_,_,hun h7⟩


abbrev aTH:=zi tI_3 (zi zI_3 (zi aY (zi tI_46 (zi zI_46 (zi cZ (zi eG (zi eE (zi eT (zi tI_66 (zi zI_66 (zi bZ (zi b9 (zi cA (zi cB bY))))))))))))))
theorem aZ9(vars:List Int)(n:Int)(st:aA):aD prog 219 [.int .i64 n,.pptr (.slice (vars.map iv))] st (fun r st'=>r=(vr (fE n vars 0)).av∧st'=st):=by
 refine aD.done ?_
 refine wF [1000000] 2 func219 ntmps219 rfl rfl ?_
 intro _
 simp -implicitDefEqProofs only[aB,seval,aTH]
 intro b hb
 refine(aA4 vars n _).to ?_
 simp -implicitDefEqProofs only[aB,seval]
 refine(SV _ _).to ?_
 simp -implicitDefEqProofs only[aK,cP,cL,gI (cL _),gG (bG _),aB,seval,aTH]
 exact⟨Tm.soft _,(aL.refl _).aC hb⟩
abbrev XN:=zi tI_3 (zi zI_3 (zi aY (zi tI_31 (zi zI_31 (zi aQ (zi bS (zi bT (zi cI (zi tI_46 (zi zI_46 (zi cZ (zi eG (zi eE (zi eT (zi tI_66 (zi zI_66 (zi bZ (zi b9 (zi cA (zi cB bY))))))))))))))))))))
theorem aZ8(l:List Tm)(hln:l.length≤1048576)(hsz:bD Tm.nodes l≤1099511627776)(hsm:∀t∈l,t.small=true)(st:aA):aD prog 148 [.slice (l.map Tm.av)] st (fun r st'=>r=.slice ((rF l).map Tm.av)∧st'=st):=by
 refine aD.done ?_
 refine wF [1000000] 1 func148 ntmps148 rfl rfl ?_
 simp only[eW,AV.fits,fC,aF]
 intro ⟨hl,_⟩
 simp -implicitDefEqProofs only[aB,seval]
 refine(SW l _ hsz).to ?_
 simp -implicitDefEqProofs only[aF,aB,↓aU,seval,XN]
 generalize hv:cG l []=vars
 have hR:rF l=l.map fun t=>t.aN fun v=>vr (fE v vars 0):=by rw[←hv];try rfl
 rw[hR]
 refine rK (σ:=Unit) [1000000] [2,3,9,10] (l) 4 4 (fun i _=>(((l).take i).map (fun t=>t.aN fun v=>vr (fE v vars 0))).map Tm.av) (fun _ _=>True) (fun i _=>[(11,.int .i64 i)]) (fun _ _=>st) (fun i _ _ e he=>by simp only[cH] at he;obtain⟨t,_,rfl⟩:=he;exact⟨cU t,aO t⟩) (by decide +kernel) ⟨(),0,trivial,fun h=>absurd rfl h,aM.mk (by simp -implicitDefEqProofs only[iY,jR,a7,aB,↓aU,seval])⟩ (fun i x s b hx hlt bL hdr hinv hb=>?_) (fun s b hge hinv=>?_)
 case refine_1=>
  have hw:=bE (n:=(i:Int)+1)
  have c8:((((l).take i).map (fun t=>t.aN fun v=>vr (fE v vars 0))).map Tm.av).length=i:=by simp only[aF,dE];omega
  have htk:((((l).take i).map (fun t=>t.aN fun v=>vr (fE v vars 0))).map Tm.av)++ [Tm.av ((fun t=>t.aN fun v=>vr (fE v vars 0)) x)]=(((l).take (i+1)).map (fun t=>t.aN fun v=>vr (fE v vars 0))).map Tm.av:=by rw[eD,hx];simp
  have hat:=bP (av:=Tm.av) aQ hx (aO x)
  simp -implicitDefEqProofs only[bL,hat,aB,↓aU,seval,XN]
  refine(SM (fun v=>vr (fE v vars 0)) _ [.pptr (.slice (vars.map iv))] rfl x _ (hsm x (cM hx)) (fun n _ s=>aZ9 vars n s)).to ?_
  simp -implicitDefEqProofs only[aB,seval,XN]
  refine eQ aQ bS bT rfl rfl (f9 (aO _) (cP _)) (by intro e he;simp only[cH] at he;obtain⟨t,_,rfl⟩:=he;exact aO t) hb (by simp only[c8,aX,a8];omega) (by simp only[c8,aX,a8];omega) (fun b' hb'=>?_)
  rw[htk] at hb' ⊢
  simp -implicitDefEqProofs only[aB,seval]
  exact⟨(),b',hb',aM.mk (by simp -implicitDefEqProofs only[hw,aB,seval])⟩
 simp -implicitDefEqProofs only[hge,fS,jW,oL,FM,lU,dZ,aB,seval]
 exact⟨rfl,aL.refl _⟩
def YJ:Option (List Tm)→AV
 | none=>.tup [.slice [],.bool false]
 | some l=>.tup [.slice (l.map Tm.av),.bool true]
theorem aRC:∀ {l:List Tm},(∀t∈l,t.nodes≤120)→bD Tm.nodes l≤120*l.length
 | [],_=>by simp [bD]
 | t::l,h=>by
  have h1:=h t (by simp)
  have h2:=aRC (l:=l) fun x hx=>h x (by simp [hx])
  simp only[bD,aX];omega
abbrev K4:=zi tI_3 (zi zI_3 (zi aY (zi tI_4 (zi zI_4 (zi cJ (zi tI_31 (zi zI_31 (zi aQ (zi bS (zi bT (zi cI (zi tI_46 (zi zI_46 (zi cZ (zi eG (zi eE (zi eT (zi tI_66 (zi zI_66 (zi bZ (zi b9 (zi cA (zi cB (zi bY (zi tI_227 zI_227)))))))))))))))))))))))))
theorem a0K{N:Nat}{σ:Sub}(hg:cT σ)(ho:c9 (bJ N) σ)(vars:List Int)(hv:∀v∈vars,0≤v∧v<(N:Int))(hl:vars.length≤1000)(c m:Nat)(q:AV)(st:aA)(hS:jS st c m q σ) :
 aD prog 244 [.ptr c 0,.slice (vars.map iv)] st (fun r st'=>r=YJ (jV σ vars)∧st'=st):=by
 obtain⟨rk,B,G⟩:=hg.rs
 have C9:=fun(t:Tm) (ht:bJ N t) st hS=>aB9 G (ho.imp fun t ht=>ht.1.2.1) (ho.imp fun t ht=>ht.1.small) c m q t ht.1.2.1 ht.1.small st hS
 refine aD.done ?_
 refine wF [1000000] 2 func244 ntmps244 rfl rfl ?_
 intro _
 simp -implicitDefEqProofs only[aF,aB,seval,K4]
 refine rK (σ:=Unit) [1000000] [0,11,12] vars 4 6 (fun i _=>((vars.take i).map (rs σ)).map Tm.av) (fun i _=>((vars.take i).map (rs σ)).all fA=true) (fun i _=>[(4,.fslice []),(5,.bool false),(13,.int .i64 i)]) (fun _ _=>st) (fun i _ _ e he=>by simp only[cH] at he;obtain⟨t,_,rfl⟩:=he;exact⟨cU _,aO _⟩) (by decide +kernel) ⟨(),0,rfl,fun h=>absurd rfl h,aM.mk (by simp -implicitDefEqProofs only[iY,jR,a7,aB,↓aU,seval])⟩ (fun i x s b hx hlt bL hdr hinv hb=>?_) (fun s b hge hinv=>?_)
 · have hw:=bE (n:=(i:Int)+1)
   have hxm:=cM hx
   obtain⟨hx0,hx1⟩:=hv x hxm
   have hvr:bJ N (vr x):=⟨KH hx0 hx1,by rw[vr,Tm.iD];simp [bD]⟩
   have hat:dG prog 46 (.slice (vars.map iv)) (.int .i64 (i:Int))=some (.pptr (.int .i64 x)):=bP (av:=iv) cZ hx rfl
   have c8:(((vars.take i).map (rs σ)).map Tm.av).length=i:=by simp only[aF,dE];omega
   have d7:((vars.take (i+1)).map (rs σ)).all fA=fA (rs σ x):=by
    rw[eD,hx]
    simp only[EO,nU,bH,a7,EH,hinv,kJ,HO,EF,eU]
   have hr:=C9 (vr x) hvr _ (hS.acc hb)
   rw[yW] at hr
   unfold OP at hr
   simp -implicitDefEqProofs only[bL,hat,aB,seval,K4]
   refine(SV x _).to ?_
   simp -implicitDefEqProofs only[aB,seval]
   by_cases hf:fA (rs σ x)=true
   · rw[aH (by unfold fA at hf;simpa using hf)] at hr
     refine hr.to ?_
     simp -implicitDefEqProofs only[bG,aO,cP,cU,aB,↓aU,seval,K4]
     refine eQ aQ bS bT rfl rfl (f9 (aO _) (cP _)) (gZ _) hb (by simp only[c8,aX,a8];omega) (by simp only[c8,aX,a8];omega) (fun b' hb'=>?_)
     rw[show(((vars.take i).map (rs σ)).map Tm.av)++ [(rs σ x).av]=((vars.take (i+1)).map (rs σ)).map Tm.av by rw[eD,hx];simp] at hb' ⊢
     simp -implicitDefEqProofs only[hw,aB,seval]
     exact⟨(),b',by rw[d7];exact hf,hb',aM.mk (by simp -implicitDefEqProofs only[aB,seval])⟩
   · rw[aE (by unfold fA at hf;simpa using hf)] at hr
     refine hr.to ?_
     simp -implicitDefEqProofs only[aO,cP,cU,aB,↓aU,seval,K4]
     have rY:jV σ vars=none:=by
      unfold jV
      rw[aE]
      rintro⟨h1,_⟩
      exact hf (eH.1 h1 _ (cH.2 ⟨x,hxm,rfl⟩))
     rw[rY]
     exact⟨rfl,aL.aZ (aL.refl _) hb⟩
 · rw[dZ] at hinv
   have hok:∀t∈vars.map (rs σ),bJ N t:=fun t ht=>by
    obtain⟨v,hvm,rfl⟩:=cH.1 ht
    have hf:=eH.1 hinv _ ht
    unfold fA at hf
    simp only[cF,bK] at hf
    exact⟨G.nP ho.nP v (hv v hvm).1 (hv v hvm).2,hf.2⟩
   have hsz:bD Tm.nodes (vars.map (rs σ))≤1099511627776:=by
    have:=aRC (l:=vars.map (rs σ)) fun t ht=>(hok t ht).2
    rw[aF] at this
    omega
   simp -implicitDefEqProofs only[hge,fS,rU,jW,oL,JI,lU,dZ,aB,seval]
   refine(SW (vars.map (rs σ)) _ hsz).to ?_
   simp -implicitDefEqProofs only[aF,aF,aB,seval,K4]
   refine aP (fun h=>?_) (fun h=>?_)
   · simp -implicitDefEqProofs only[aB,seval]
     have h':¬(cG (vars.map (rs σ)) []).length≤26:=by simp at h;omega
     unfold jV
     rw[aE (fun hh=>h' hh.2)]
     exact⟨rfl,aL.refl _⟩
   · simp -implicitDefEqProofs only[aB,seval]
     have h':(cG (vars.map (rs σ)) []).length≤26:=by simp at h;omega
     refine(aZ8 (vars.map (rs σ)) (by rw[aF];omega) hsz (fun t ht=>(hok t ht).1.small) _).to ?_
     simp -implicitDefEqProofs only[aB,seval]
     unfold jV
     rw[aH ⟨hinv,h'⟩]
     exact⟨rfl,aL.refl _⟩
abbrev aTS:=zi tI_3 (zi zI_3 (zi aY (zi tI_4 (zi zI_4 (zi cJ (zi tI_26 (zi zI_26 (zi fZ (zi jF (zi jG (zi mZ (zi tI_29 (zi zI_29 (zi fN (zi iG (zi iI (zi jN (zi tI_31 (zi zI_31 (zi aQ (zi bS (zi bT (zi cI (zi tI_174 (zi zI_174 (zi tI_256 (zi zI_256 (zi tI_260 (zi zI_260 (zi I6 (zi I7 (zi JA (zi JB (zi JC (zi JD (zi JE (zi JF (zi JG (zi JH (zi I8 (zi I9 IL)))))))))))))))))))))))))))))))))))))))))
theorem aZ3(p:List Cl)(q:List Tm)(fuel:Int)(idx:Bool)(hq:q.length≤1048576)(st:aA) :
 aD prog 162 [.slice (p.map bR),.slice (q.map Tm.av),.int .i64 fuel,.bool idx] st (fun r st'=>∃S c m,r=.ptr S 0∧dR st st' S c m (.fslice []) (.fslice []) (.fslice []) p q idx fuel 0 0 [] (pY q)):=by
 have C8:=fun st=>SP q 0 (-1) [] hq st
 simp only[gF] at C8
 rw[eS] at C8
 refine wF [1000000,16] 4 func162 ntmps162 rfl rfl ?_
 intro _
 simp -implicitDefEqProofs only[aB,seval]
 refine(aZ4 st).mono ?_
 rintro _ s1 ⟨c,m,rfl,hS,hQ,hc,hm⟩
 simp -implicitDefEqProofs only[aB,seval,aTS]
 intro S hS0
 have hSc:S≠c:=by rintro rfl;rw[hS.sub.cells] at hS0;cases hS0
 have hSm:S≠m:=by rintro rfl;rw[hS.sub.map] at hS0;cases hS0
 refine(C8 _).to ?_
 obtain⟨l1,l2,l3,l4,l5,l6⟩:=qU (q.map (fun t=>(⟨t,0,-1⟩:IG)))
 simp -implicitDefEqProofs only[aK,aA.aJ,l4,l5,aB,seval,aTS]
 refine⟨S,c,m,rfl,?_⟩
 have hcm:c≠m:=by rintro rfl;have:=hS.sub.cells;rw[hS.sub.map] at this;cases this
 have aOS:st S=none:=by
  cases hh:st S with
  | none=>rfl
  | some o=>have:=hQ.frame S o hh hSc hSm (by simp [dV]);rw[hS0] at this;cases this
 refine⟨aA.aJ _ _ _,hS.aC hSc hSm (by simp [dV]),.inl ⟨rfl,rfl⟩,.inl ⟨rfl,rfl⟩,rfl,by simp,?_,?_,?_⟩
 · simp [j4,dV,aT,hSc,hSm,hcm]
 · intro b hb
   rcases eL.1 hb with rfl | rfl | rfl | hb | hb | hb
   · exact aOS
   · exact hc
   · exact hm
   · simp [dV] at hb
   · simp [aT] at hb
   · simp [aT] at hb
 · intro b o hb
   have e1:b≠S:=by rintro rfl;rw[aOS] at hb;cases hb
   rw[aA.aG _ _ e1]
   exact hQ.frame b o hb (by rintro rfl;rw[hc] at hb;cases hb) (by rintro rfl;rw[hm] at hb;cases hb) (by simp [dV])
theorem aXW(p:List Cl)(q:List Tm)(most fuel:Int)(st:aA) :
 aD prog 153 [.slice (p.map bR),.slice (q.map Tm.av),.int .i64 most,.int .i64 fuel] st (fun r st'=>r=.bool (pJ p&&(lM q&&(decide (0≤most)&&(decide (most≤20)&&(decide (0≤fuel)&&decide (fuel≤300))))))∧st'=st):=by
 have h1:=fun st=>aBB p st
 have h2:=fun st=>aBC q st
 have h3:=fun n lo hi st=>CJ n lo hi st
 refine wF [] 4 func153 ntmps153 rfl rfl ?_
 intro _
 simp -implicitDefEqProofs only[aB,seval]
 refine(h1 _).to ?_
 simp -implicitDefEqProofs only[aB,seval]
 refine cX (fun h=>?_) (fun h=>?_)
 · simp -implicitDefEqProofs only[h,aB,seval]
   refine(h2 _).to ?_
   simp -implicitDefEqProofs only[aB,seval]
   refine cX (fun h5=>?_) (fun h5=>?_)
   · simp -implicitDefEqProofs only[h5,aB,seval]
     refine(h3 _ _ _ _).to ?_
     simp -implicitDefEqProofs only[aB,seval]
     refine cX (fun h6=>?_) (fun h6=>?_)
     · simp -implicitDefEqProofs only[h6,aB,seval]
       refine(h3 _ _ _ _).to ?_
       simp -implicitDefEqProofs only[aB,seval]
       rw[←Bool.and_assoc (decide (0≤most)),h6,eU]
     · simp -implicitDefEqProofs only[h6,aB,seval]
       rw[←Bool.and_assoc (decide (0≤most)),h6]
       try rfl
   · simp -implicitDefEqProofs only[h5,aB,seval]
     rw[iA]
 · simp -implicitDefEqProofs only[h,aB,seval]
   rw[iA]
end Go.AW
