import Derived.Test.YtieofkhcboolkaaGreatDoorWap
import Derived.Test.YtieofkhcboolkaaGreatDoorWao
import Derived.Test.YtieofkhcboolkaaGreatDoorWam
import Derived.Test.YtieofkhcboolkaaGreatDoorWak
import Derived.Test.YtieofkhcboolkaaGreatDoorWaj
import Derived.Test.YtieofkhcboolkaaGreatDoorWai
import Derived.Test.YtieofkhcboolkaaGreatDoorWaf
import Derived.Test.YtieofkhcboolkaaGreatDoorWah
import Derived.Test.YtieofkhcboolkaaGreatDoorWan
import Derived.Test.YtieofkhcboolkaaGreatDoorWal
set_option linter.unusedSimpArgs false
set_option linter.unusedVariables false
set_option maxRecDepth 100000
namespace Go.AW
open Go.Proofs.Tryz
abbrev aN8:=zi aX (zi bZ (zi cJ (zi k9 (zi bQ mB))))
theorem aS6{p:List Cl}(hp:∀c∈p,gF c∧c.2.length≤6)(key:ByteArray)(x:Nat)(hx:x<p.length)(st:aB)(hT:st g9=some iP):aD prog 162 [nv x,.pptr (.slice (p.map bX)),.pptr (.str key)] st (fun r st'=>r=.bool (!C9 p key x)∧st'=st):=by
 obtain⟨c,hc⟩:∃c,p[x]?=some c:=⟨_,eN hx⟩
 have hat:=bD (av:=bX) (P:=prog) qD hc (oG c)
 have hck:=XA (hp c (cD hc)).1.head st hT
 have hF:C9 p key x=KU (yF c.1) key:=by unfold C9;rw[hc]
 rw[hF]
 obtain⟨⟨k,n,s',ts⟩,bd⟩:=c
 rw[gN] at hat
 simp only[aU] at hck
 simp only[nv]
 refine wF [1000000] 3 func162 ntmps162 rfl rfl ?_
 intro _
 simp only[aA,seval]
 refine CT mixed (by decide +kernel) (by decide +kernel) ?_
 simp only[hat,aA,seval,aN8]
 refine fK hck ?_
 simp only[aA,seval,aN8]
 refine fK (aS8 _ key _) ?_
 simp only[aA,seval]
abbrev aN9:=zi cJ (zi fA (zi k9 bQ))
theorem aS5{p:List Cl}(hp:∀c∈p,gF c∧c.2.length≤6){N:Int}{t:Tm}(ht:bG N t)(l:List Nat)(hl:l≠[])(hlt:∀i∈l,i<p.length)(h9:l.length≤1048576)(st:aB)(hT:st g9=some iP):aD prog 85 [.slice (p.map bX),.slice (l.map nv),t.av] st (fun r st'=>r=.slice ((sW p t l).map nv)∧st'=st):=by
 refine aD.freeze (aD.cut ?_)
 have hk:=XA ht st hT
 have hcl:=a3I l hl h9 st
 have wG:(l.filter fun x=> !(!C9 p (yF t) x))=sW p t l:=by unfold sW;simp only[Bool.not_not]
 generalize hkt:yF t=key at *
 obtain⟨tk,tn,ts',tts⟩:=t
 simp only[aU] at hk ⊢
 refine wF [1000000] 3 func85 ntmps85 rfl rfl ?_
 intro _
 simp only[aA,seval,aN9]
 refine(hk).to ?_
 simp only[aA,↓aR,seval,aN9]
 refine(hcl).mono ?_
 rintro _ _ ⟨b,hb,rfl,rfl⟩
 simp only[aA,seval]
 have hb0:g9≠b:=by rintro rfl;rw[hT] at hb;cases hb
 have a0D:=a3J l _ [.pptr (.slice (p.map bX)),.pptr (.str key)] (fun i=> !C9 p key i) b h9 (st.aC b (.cells (l.map nv))) (aB.aO _ _ _) (fun x hx cs=>aS6 hp key x (hlt x hx) _ (by rw[cY,aB.aM _ _ hb0];exact hT))
 refine(a0D).mono ?_
 rintro _ _ ⟨W,rfl,rfl,hW⟩
 rw[wG] at hW ⊢
 simp only[aA,seval]
 have hfl:∀L:List Nat,(L.map nv).flatMap AV.cells=L.map nv:=fun L=>by
  induction L with
  | nil=>rfl
  | cons a L ih=>simp only[aZ,sJ,ih];rfl
 refine⟨b,W,_,aB.aO _ _ _,b,_,by rw[aB.aO,hW,hfl],fun e he=>?_,⟨1,RW _⟩,by simp [AV.fz],by rw[cY,aB.vX _ _ _ hb]⟩
 simp only[cI] at he
 obtain⟨_,_,rfl⟩:=he
 rfl
def FG(st0 st':aB)(S c m:Nat)(p:List Cl)(q:List Tm)(idx:Bool)(fuel used:Int)(r:AV):xD→Prop
 | .go i'=>r=.int .i64 (-1)∧∃qt qc qn mx nd,dI st0 st' S c m qt qc qn p q idx fuel used mx nd i'
 | .fail i'=>UV st0 st' S c m p q idx fuel used r (gQ p i'.chs.length i')
 | .stop e=>r=.int .i64 e∧∃qt qc qn mx nd i',dI st0 st' S c m qt qc qn p q idx fuel used mx nd i'
def NL(p:List Cl)(idx:Bool)(cnd:Tm→List Nat→List Nat):Prop:=cnd=if idx=true then sW p else fun _ l=>l
theorem a2B(yn:Int)(ys:ByteArray)(yts:List Tm)(st:aB):aD prog 101 [(Tm.mk 3 yn ys yts).av] st (fun r st'=>r=.bool (rR (.mk 3 yn ys yts))∧st'=st):=by
 have h:=XF 3 yn ys yts st
 have e:(decide ((3:Int)=3)&&decide ((yts.length:Int)=0)&&decide (ys=⟨#[33]⟩))=rR (.mk 3 yn ys yts):=by
  rw[u9]
  simp [rR,Tm.k,Tm.s,Tm.ts,and_comm]
  exact fun _=>⟨fun h=>eH h,fun h=>of_decide_eq_true h⟩
 rw[e] at h
 exact h
theorem a2A(yn:Int)(ys:ByteArray)(yts:List Tm)(st:aB):aD prog 100 [(Tm.mk 3 yn ys yts).av] st (fun r st'=>r=.bool (isBuiltin ys (yts.length:Int))∧st'=st):=by
 have h:=OT 3 yn ys yts st
 rw[show(decide ((3:Int)=3)&&isBuiltin ys (yts.length:Int))=isBuiltin ys (yts.length:Int) from rfl] at h
 exact h
abbrev lM:=zi aX (zi bZ (zi fA (zi k9 (zi bQ (zi EQ (zi TZ (zi oV (zi ER (zi T6 (zi T7 (zi II (zi aOT aOU))))))))))))
set_option maxHeartbeats 2000000 in
theorem aVL{p:List Cl}(hp:∀c∈p,gF c∧c.2.length≤6)(hpl:p.length≤20){cnd:Tm→List Nat→List Nat}(hc:∀(ρ:Int→Int) (t:Tm) (l:List Nat),cnd (bV ρ t) l=cnd t l)(hd:∀t l,(∀i∈cnd t l,i∈l)∧(cnd t l).length≤l.length){idx:Bool}(wG:NL p idx cnd)
 {B M k:Nat} (hB:B+26≤524288) (hM:M+520≤16777216) (hk:k+1≤524288) {st0 st:aB} {S c m:Nat} {qt qc qn:AV} {q:List Tm} {fuel used:Int} {mx:Int} {nd:List AV} {s:RS} {i:IS} {g:IG} {rest:List IG}
 (uP:idx=true→st0 g9=some iP) (h:dI st0 st S c m qt qc qn p q idx fuel used mx nd i) (hR:RI p B M k s i) (hg:i.goals=g::rest) (hu0:0≤used) (hu:used≤1000000) :
 aD prog 245 [.ptr S 0] st (fun r st'=>if used=fuel then r=.int .i64 2∧dI st0 st' S c m qt qc qn p q idx fuel used mx nd i else FG st0 st' S c m p q idx fuel (used+1) r (lW p cnd i g rest)):=by
 have hp1:=fun c h=>(hp c h).1
 obtain⟨hgd,ho,hcl,_⟩:=hR.r.facts
 obtain⟨hgo,hg3,_⟩:=hR.r.goal hg
 have hct:=hR.cut hg
 have hst:=hR.step hp hpl hc hd hB hg
 have a9P:=hR.pD
 have hnn:=hR.n
 have hX:=hR.x
 obtain⟨rk,D,G⟩:=hgd.rs
 have hfo:=KV hgd ho hgo
 have hyk:(g.t.aG (rs i.σ)).k=3:=by rw[Tm.qR _ (by omega)];exact hg3
 have AR:=YG G (ho.imp fun t ht=>ht.1.2.1) (ho.imp fun t ht=>ht.1.small) c m qt g.t hgo.1.2.1 hgo.1.small
 generalize hT:lW p cnd i g rest=T at *
 unfold lW at hT
 obtain⟨⟨gk,gn,gs',gts⟩,cut,up⟩:=g
 simp only at hgo hg3 hct hfo hyk AR hT
 generalize (Tm.mk gk gn gs' gts).aG (rs i.σ)=y at *
 obtain⟨yk,yn,ys,yts⟩:=y
 obtain rfl:yk=3:=hyk
 simp only[Tm.s,Tm.ts] at hT
 have g8:=h.cell
 rw[hg,sY] at g8
 simp only[iF] at g8
 obtain⟨t1,t2,t3,t4,t5⟩:=h.sto.shape
 obtain⟨n1,n2,n3,n4,n5⟩:=h.acC.shape
 obtain⟨m1,m2,m3,m4,m5⟩:=h.acN.shape
 obtain⟨l1,l2,l3,l4,l5,l6⟩:=pF rest
 refine aD.mL ?_
 refine wF [1000000] 1 func245 ntmps245 rfl rfl ?_
 intro _
 simp only[aA,seval]
 refine wX [(0,1),(1,1),(2,1),(3,1),(4,1),(5,1),(6,1),(7,1),(8,1)] [0,1,2,3,4,5,6,7,8] _ mixed rfl (fY g8) ?_
 simp only[qT,aA,seval,lM]
 refine aP (fun h1=>?_) (fun h1=>?_)
 · have h1':used=fuel:=by simpa using h1
   simp only[aA,seval]
   exact⟨st,aL.refl _,by rw[aJ h1'];exact h⟩
 have h1':used≠fuel:=by simpa using h1
 have hw:=bL (n:=used+1)
 simp only[aK,g8,hw,aB.aO,aA,seval,lM]
 have h2:=h.put (gl:=i.goals) (F:=i.fresh) (fuel':=fuel) (used':=used+1) (mx':=mx) rfl
 rw[hg,sY] at h2
 simp only[iF] at h2
 generalize aB.aC st S _=V at h2 ⊢
 have rX:=h2.cell
 rw[sY] at rX
 simp only[iF] at rX
 have hSV:=h2.sto
 have hr:=fun(s2:aB) (hs2:fP V s2)=>AR s2 ⟨hs2 _ _ hSV.sub.cells,hs2 _ _ hSV.sub.map⟩
 unfold LV at hr
 by_cases hf:eW (.mk 3 yn ys yts)=true
 case neg=>
  rw[aF (by unfold eW at hf;simpa using hf)] at hr
  rw[aJ (by simpa using hf)] at hT
  subst hT
  simp only[aU,Tm.zero,aV] at hr
  refine wX [(0,1),(1,1),(2,1),(3,1),(4,1),(5,1),(6,1),(7,1),(8,1),(9,1),(10,1),(11,1),(12,0),(13,0),(14,1)] [0,1,2,3,4,5,6,7,8,9,10,11,14] V mixed rfl (fP.refl V) ?_
  simp only[rX,aA,seval,lM]
  refine J6 hr ?_
  simp only[aK,aB.aO,aA,seval,lM]
  exact fun b hb=>⟨KS hb,KS hb,V,(aL.refl _).aC hb,by rw[aF h1'];exact⟨rfl,_,_,_,_,_,_,h2⟩⟩
 rw[aJ (by unfold eW at hf;simpa using hf)] at hr
 rw[aF (by rw[hf];simp)] at hT
 have hyo:=hfo hf
 simp only[aU] at hr
 have Q5:prog.underlying 264=some (.slice 314):=by kernel_rfl
 refine wX [(0,1),(1,1),(2,1),(3,1),(4,1),(5,1),(6,1),(7,1),(8,1),(9,1),(10,1),(11,1),(12,0),(13,0),(14,1)] [0,1,2,3,4,5,6,7,8,9,10,11,14] V mixed rfl (fP.refl V) ?_
 simp only[rX,aA,seval,lM]
 refine J6 hr ?_
 simp only[aK,aB.aO,aA,seval,lM]
 intro b4 h4
 refine⟨KS h4,KS h4,?_⟩
 have h40:=h2.aJW h4
 have aKY:idx=true→(st0.aC b4 (.cells [AV.int IntKind.i64 3,AV.int IntKind.i64 yn,AV.str ys,AV.slice (List.map Tm.av yts)])) g9=some iP:=fun hi=>by
  rw[aB.aM _ _ (by intro e;rw[←e,uP hi] at h40;cases h40)]
  exact uP hi
 have K2:S≠b4:=by rintro rfl;rw[rX] at h4;cases h4
 have h3:=h2.box (o:=.cells [AV.int IntKind.i64 3,AV.int IntKind.i64 yn,AV.str ys,AV.slice (List.map Tm.av yts)]) h4
 have GM:(st0.aC b4 (.cells [AV.int IntKind.i64 3,AV.int IntKind.i64 yn,AV.str ys,AV.slice (List.map Tm.av yts)])) b4=some (.cells [AV.int IntKind.i64 3,AV.int IntKind.i64 yn,AV.str ys,AV.slice (List.map Tm.av yts)]):=aB.aO _ _ _
 have hun:=fun {st' qt qc qn q idx fuel used mx nd i}=>dI.unbox (st0:=st0) (st:=st') (S:=S) (c:=c) (m:=m) (qt:=qt) (qc:=qc) (qn:=qn) (p:=p) (q:=q) (idx:=idx) (fuel:=fuel) (used:=used) (mx:=mx) (nd:=nd) (i:=i) (b:=b4) (o:=.cells [AV.int IntKind.i64 3,AV.int IntKind.i64 yn,AV.str ys,AV.slice (List.map Tm.av yts)]) (hn:=h40)
 generalize V.aC b4 (.cells [AV.int IntKind.i64 3,AV.int IntKind.i64 yn,AV.str ys,AV.slice (List.map Tm.av yts)])=W at h3 ⊢
 generalize st0.aC b4 (.cells [AV.int IntKind.i64 3,AV.int IntKind.i64 yn,AV.str ys,AV.slice (List.map Tm.av yts)])=W0 at h3 GM hun aKY
 clear rX hSV hr h2
 have DI:=h3.cell
 rw[sY] at DI
 simp only[iF] at DI
 have hbW:=h3.bB b4 _ GM
 have hlN:=h3.acN.len Q5
 rw[h3.ndl] at hlN
 simp only at hlN
 simp only[DI,hlN,m1,aA,seval]
 obtain⟨s0,z1,z2,z3⟩:=M9 K2 _ _
 refine wX [(0,1),(1,1),(2,1),(3,1),(4,1),(5,1),(6,1),(7,1),(8,1),(9,1),(10,1),(11,1),(12,0),(13,1),(14,1),(15,2)] [0,1,2,3,4,5,6,7,8,9,10,11,13,14] s0 mixed rfl (z3 _ DI hbW) ?_
 simp only[z1,z2,m1,aA,seval,lM]
 refine jF.append KJ ZF ZJ rfl (by decide) h3.acN rfl rfl (by rw[h3.ndl];simp only;omega) (fun qn5 s5 oJ hf hn=>?_)
 have hbo:b4∉jD S c m qt qc qn:=fun hm=>by have:=h3.new b4 hm;rw[GM] at this;cases this
 have hold:∀y o,W y=some o→y∉dO qn→s5 y=some o:=fun y o hy hq=>by
  rw[hf y hq fun hq'=>by
   rcases hn y hq' with h' | h'
   · exact hq h'
   · rw[hy] at h';cases h']
  exact hy
 have s9:=hold S _ DI h3.parts.2.2.2.2.2.1
 have hb5:=hold b4 _ hbW fun hm=>hbo (eG.2 (.inr (.inr (.inr (.inr (.inr hm))))))
 obtain⟨m1,m2,m3,m4,m5⟩:=oJ.shape
 simp only[aK,s9,m4,m5,aA,seval,lM]
 refine⟨z3 _ s9 hb5,?_⟩
 have h5:=h3.a4H (n':=i.nn+1) oJ (by rw[dM,h3.ndl];try rfl) (fun e he=>by
  rcases fQ.1 he with he | he
  · exact h3.ndw e he
  · simp only[c8,dP,dX] at he;subst he;rfl) hf hn rfl
 rw[sY] at h5
 simp only[iF] at h5
 generalize aB.aC s5 S _=W5 at h5 ⊢
 clear s9 hb5 hold hf hn DI hbW
 have kH:=h5.cell
 rw[sY] at kH
 simp only[iF] at kH
 have hb6:=h5.bB b4 _ GM
 have aKK:=a2B yn ys yts
 have aKF:=a2A yn ys yts
 simp only[aU] at aKK aKF
 simp only[hb6,aA,seval]
 refine(aKK _).to ?_
 simp only[aA,seval]
 refine aP (fun hcu=>?_) (fun hcu=>?_)
 · simp only[hcu,gB] at hT
   subst hT
   simp only[kH,aA,seval,lM]
   have hsl:=fun(φ:AF) (dd:Nat) (h:φ dd=.int .i64 (cut:Int))=>aNB GC h5.acC h (by rw[aE];exact hct)
   have hQ:=(h5.acC.take (k:=cut) (by rw[aE];exact hct) (RF _)).shape
   obtain⟨c1,c2,c3,c4,c5⟩:=hQ
   obtain⟨s1,y1,y2,y3⟩:=M9 K2 _ _
   refine wX [(0,1),(1,1),(2,1),(3,1),(4,1),(5,1),(6,1),(7,1),(8,1),(9,1),(10,1),(11,1),(12,2)] [0,1,2,3,4,5,6,7,8,9,10,11] s1 mixed rfl (y3 _ kH hb6) ?_
   simp only[aK,y1,kH,hsl,c4,c5,n1,l1,l2,l4,l5,aB.aO,aA,seval,lM]
   refine⟨_,aL.refl _,?_⟩
   rw[aF h1']
   have h6:=h5.Y7 (k:=cut) (gl:=rest) hct rfl
   exact⟨rfl,_,_,_,_,_,hun h6⟩
 simp only[hcu,gE,d5] at hT
 simp only[hb6,aA,seval,lM]
 refine(aKF _).to ?_
 simp only[aA,seval]
 refine aP (fun hbl=>?_) (fun hbl=>?_)
 · simp only[hbl,gB] at hT
   have hks:∀x∈yts,bG i.fresh x:=qS _ (.mk 3 yn ys yts) (show(3:Int)≠1 by decide) hyo
   have GO:=aSZ hgd ho yn ys yts hbl hks c m qt i.tr W5 h5.sto (by have:=hX.UE;have:=hX.phi;omega)
   simp only[aU] at GO
   replace hT:(if(dD i.σ ys yts).1=0 then xD.go { goals:=rest,σ:=(dD i.σ ys yts).2.1,tr:=i.tr++(dD i.σ ys yts).2.2,chs:=i.chs,fresh:=i.fresh,nn:=i.nn+1 } else if(dD i.σ ys yts).1=1 then xD.fail { goals:=i.goals,σ:=(dD i.σ ys yts).2.1,tr:=i.tr++(dD i.σ ys yts).2.2,chs:=i.chs,fresh:=i.fresh,nn:=i.nn+1 } else xD.stop (rV (dD i.σ ys yts).1))=T:=hT
   generalize DO:dD i.σ ys yts=Z at GO hT
   obtain⟨code,σ',add⟩:=Z
   simp only at hT
   obtain⟨s1,y1,y2,y3⟩:=M9 K2 _ _
   refine wX [(0,1),(1,1),(2,1),(3,1),(4,1),(5,0),(6,1)] [0,1,2,3,4,6] s1 mixed rfl (y3 _ kH hb6) ?_
   simp only[y1,y2,aA,seval,lM]
   refine GO.mono ?_
   rintro _ s6 ⟨rfl,hP⟩
   obtain⟨qt6,h6⟩:=h5.post hP
   have nX:=h6.cell
   rw[sY] at nX
   simp only[iF] at nX
   have hb7:=h6.bB b4 _ GM
   obtain⟨t1,t2,t3,t4,t5⟩:=h6.sto.shape
   simp only[aA,seval]
   refine⟨y3 _ nX hb7,?_⟩
   refine aP (fun hc0=>?_) (fun hc0=>?_)
   · have QG:code=0:=by simpa using hc0
     rw[aJ QG] at hT
     subst hT
     simp only[aK,nX,l1,l2,l4,l5,aA,seval,lM]
     refine⟨_,aL.refl _,?_⟩
     rw[aF h1']
     exact⟨rfl,_,_,_,_,_,hun (h6.put (gl:=rest) (F:=i.fresh) (fuel':=fuel) (used':=used+1) (mx':=mx) rfl)⟩
   have QG:code≠0:=by simpa using hc0
   rw[aF QG] at hT
   simp only[aA,seval]
   refine aP (fun hc1=>?_) (fun hc1=>?_)
   · have QH:code=1:=by simpa using hc1
     rw[aJ QH] at hT
     subst hT
     simp only at hst
     rw[←hg] at h6
     have hbk:=JY hp (M:=M+520) (by omega) _ _ _ _ _ _ ({ goals:=i.goals,σ:=σ',tr:=i.tr++add,chs:=i.chs,fresh:=i.fresh,nn:=i.nn+1 }:IS) s.chs (T:=gQ p (({ goals:=i.goals,σ:=σ',tr:=i.tr++add,chs:=i.chs,fresh:=i.fresh,nn:=i.nn+1 }:IS)).chs.length ({ goals:=i.goals,σ:=σ',tr:=i.tr++add,chs:=i.chs,fresh:=i.fresh,nn:=i.nn+1 }:IS)) ⟨h6,hst.1,hst.2.1,rfl,⟨by rw[hst.1.len];have:=hR.a.a.pD;omega,jP hst.2.2.1 (by omega)⟩⟩
     simp only[aA,seval]
     refine hbk.mono ?_
     rintro r s7 hr
     simp only[aA,seval]
     refine⟨s7,aL.refl _,?_⟩
     rw[aF h1']
     simp only[FG]
     cases hB2:gQ p (({ goals:=i.goals,σ:=σ',tr:=i.tr++add,chs:=i.chs,fresh:=i.fresh,nn:=i.nn+1 }:IS)).chs.length ({ goals:=i.goals,σ:=σ',tr:=i.tr++add,chs:=i.chs,fresh:=i.fresh,nn:=i.nn+1 }:IS) with
     | none=>
      rw[hB2] at hr
      obtain⟨e1,qt7,qc7,qn7,mx7,nd7,i7,h7⟩:=hr
      exact⟨e1,_,_,_,_,_,_,hun h7⟩
     | some i7=>
      rw[hB2] at hr
      obtain⟨e1,qt7,qc7,qn7,mx7,nd7,h7⟩:=hr
      exact⟨e1,_,_,_,_,_,hun h7⟩
   have QH:code≠1:=by simpa using hc1
   rw[aF QH] at hT
   subst hT
   simp only[aA,seval]
   refine(aS4 code _).to ?_
   simp only[aA,seval]
   refine⟨_,aL.refl _,?_⟩
   rw[aF h1']
   exact⟨rfl,_,_,_,_,_,_,hun h6⟩
 simp only[hbl,gE,d5] at hT
 have hpr:=YD 3 yn ys yts
 have hcf:=aS1 p (.mk 3 yn ys yts) (by omega)
 simp only[aU,Tm.s,Tm.ts] at hpr hcf
 obtain⟨s1,y1,y2,y3⟩:=M9 K2 _ _
 simp only[aA,seval]
 refine wX [(0,1),(1,1),(2,1),(3,1),(4,1),(5,0),(6,0),(7,1)] [0,1,2,3,4,7] s1 mixed rfl (y3 _ kH hb6) ?_
 simp only[y1,y2,aA,seval,lM]
 refine(hpr _).to ?_
 simp only[aA,seval]
 refine⟨y3 _ kH hb6,?_⟩
 refine(hcf _).to ?_
 simp only[aE,aA,seval,lM]
 refine⟨y3 _ kH hb6,?_⟩
 refine aP (fun hl0=>?_) (fun hl0=>?_)
 · have pI:eP p (.mk 3 yn ys yts)= []:=by simpa using hl0
   rw[aJ pI] at hT
   subst hT
   simp only[aA,seval]
   refine⟨_,aL.refl _,?_⟩
   rw[aF h1']
   exact⟨rfl,_,_,_,_,_,_,hun h5⟩
 have pI:eP p (.mk 3 yn ys yts)≠[]:=by simpa using hl0
 rw[aF pI] at hT
 have hfl:=aZE p (.mk 3 yn ys yts)
 have h5':=h5
 rw[←hg] at h5'
 have DR:=fun(l:List Nat) (hl:∀i∈l,i<p.length) (h20:l.length≤p.length)=>YM hp (M:=M+520) (by omega) h5' (.mk 3 yn ys yts) i.nn rest l hgd ho hyo hl (by omega) (by simp only;omega) (hX.up (Nat.le_add_right M 520)).node (by have:=hX.phi;simp only;omega) (by simp only;omega) (by simp only;omega)
 have fF:=fun st hT=>aS5 hp hyo (eP p (.mk 3 yn ys yts)) pI (P1 _ _) (by omega) st hT
 have hpW:=fun hi=>h5.bB g9 _ (aKY hi)
 have hds:=hd (.mk 3 yn ys yts) (eP p (.mk 3 yn ys yts))
 simp only[aU] at DR fF
 obtain rfl:cnd=if idx=true then sW p else fun _ l=>l:=wG
 cases idx with
 | false=>
  simp only[gE,d5] at hT
  simp only[kH,aA,seval,lM]
  have htr:=DR (eP p (.mk 3 yn ys yts)) (P1 _ _) (hfl)
  refine wX [(0,1),(1,1),(2,1),(3,1),(4,1),(5,1),(6,1),(7,1),(8,2)] [0,1,2,3,4,5,6,7] s1 mixed rfl (y3 _ kH hb6) ?_
  simp only[y2,l1,l2,aA,seval,lM]
  refine htr.mono ?_
  rintro _ s6 ⟨rfl,qt6,qc6,mx6,nd6,h6⟩
  simp only[aA,seval]
  refine aP (fun ht0=>?_) (fun ht0=>?_)
  · simp only[ht0,gB] at hT
    subst hT
    simp only[aA,seval]
    refine⟨_,aL.refl _,?_⟩
    rw[aF h1']
    exact⟨rfl,_,_,_,_,_,hun h6⟩
  simp only[ht0,gE,d5] at hT
  subst hT
  simp only at hst
  have hbk:=JY hp (M:=M+520) (by omega) _ _ _ _ _ _ (fS p (.mk 3 yn ys yts) i.nn rest (eP p (.mk 3 yn ys yts)) { i with nn:=i.nn+1 }).2 s.chs (T:=gQ p ((fS p (.mk 3 yn ys yts) i.nn rest (eP p (.mk 3 yn ys yts)) { i with nn:=i.nn+1 }).2).chs.length (fS p (.mk 3 yn ys yts) i.nn rest (eP p (.mk 3 yn ys yts)) { i with nn:=i.nn+1 }).2) ⟨h6,hst.1,hst.2.1,rfl,⟨by rw[hst.1.len];have:=hR.a.a.pD;omega,jP hst.2.2.1 (by omega)⟩⟩
  simp only[aA,seval]
  refine hbk.mono ?_
  rintro r s7 hr
  simp only[aA,seval]
  refine⟨s7,aL.refl _,?_⟩
  rw[aF h1']
  simp only[FG]
  cases hB2:gQ p ((fS p (.mk 3 yn ys yts) i.nn rest (eP p (.mk 3 yn ys yts)) { i with nn:=i.nn+1 }).2).chs.length (fS p (.mk 3 yn ys yts) i.nn rest (eP p (.mk 3 yn ys yts)) { i with nn:=i.nn+1 }).2 with
  | none=>
   rw[hB2] at hr
   obtain⟨e1,qt7,qc7,qn7,mx7,nd7,i7,h7⟩:=hr
   exact⟨e1,_,_,_,_,_,_,hun h7⟩
  | some i7=>
   rw[hB2] at hr
   obtain⟨e1,qt7,qc7,qn7,mx7,nd7,h7⟩:=hr
   exact⟨e1,_,_,_,_,_,hun h7⟩
 | true=>
  simp only[eq_self,gB] at hT hds
  simp only[kH,aA,seval,lM]
  refine wX [(0,1),(1,1),(2,1),(3,1),(4,1),(5,1),(6,0),(7,1)] [0,1,2,3,4,5,7] s1 mixed rfl (y3 _ kH hb6) ?_
  simp only[y1,y2,aA,seval,lM]
  refine(fF _ (hpW rfl)).to ?_
  simp only[aA,seval]
  refine⟨y3 _ kH hb6,?_⟩
  have htr:=DR (sW p (.mk 3 yn ys yts) (eP p (.mk 3 yn ys yts))) ((fun x hx=>P1 _ _ x (hds.1 x hx))) ((jP hds.2 hfl))
  refine wX [(0,1),(1,1),(2,1),(3,1),(4,1),(5,1),(6,1),(7,1),(8,2)] [0,1,2,3,4,5,6,7] s1 mixed rfl (y3 _ kH hb6) ?_
  simp only[y2,l1,l2,aA,seval,lM]
  refine htr.mono ?_
  rintro _ s6 ⟨rfl,qt6,qc6,mx6,nd6,h6⟩
  simp only[aA,seval]
  refine aP (fun ht0=>?_) (fun ht0=>?_)
  · simp only[ht0,gB] at hT
    subst hT
    simp only[aA,seval]
    refine⟨_,aL.refl _,?_⟩
    rw[aF h1']
    exact⟨rfl,_,_,_,_,_,hun h6⟩
  simp only[ht0,gE,d5] at hT
  subst hT
  simp only at hst
  have hbk:=JY hp (M:=M+520) (by omega) _ _ _ _ _ _ (fS p (.mk 3 yn ys yts) i.nn rest (sW p (.mk 3 yn ys yts) (eP p (.mk 3 yn ys yts))) { i with nn:=i.nn+1 }).2 s.chs (T:=gQ p ((fS p (.mk 3 yn ys yts) i.nn rest (sW p (.mk 3 yn ys yts) (eP p (.mk 3 yn ys yts))) { i with nn:=i.nn+1 }).2).chs.length (fS p (.mk 3 yn ys yts) i.nn rest (sW p (.mk 3 yn ys yts) (eP p (.mk 3 yn ys yts))) { i with nn:=i.nn+1 }).2) ⟨h6,hst.1,hst.2.1,rfl,⟨by rw[hst.1.len];have:=hR.a.a.pD;omega,jP hst.2.2.1 (by omega)⟩⟩
  simp only[aA,seval]
  refine hbk.mono ?_
  rintro r s7 hr
  simp only[aA,seval]
  refine⟨s7,aL.refl _,?_⟩
  rw[aF h1']
  simp only[FG]
  cases hB2:gQ p ((fS p (.mk 3 yn ys yts) i.nn rest (sW p (.mk 3 yn ys yts) (eP p (.mk 3 yn ys yts))) { i with nn:=i.nn+1 }).2).chs.length (fS p (.mk 3 yn ys yts) i.nn rest (sW p (.mk 3 yn ys yts) (eP p (.mk 3 yn ys yts))) { i with nn:=i.nn+1 }).2 with
  | none=>
   rw[hB2] at hr
   obtain⟨e1,qt7,qc7,qn7,mx7,nd7,i7,h7⟩:=hr
   exact⟨e1,_,_,_,_,_,_,hun h7⟩
  | some i7=>
   rw[hB2] at hr
   obtain⟨e1,qt7,qc7,qn7,mx7,nd7,h7⟩:=hr
   exact⟨e1,_,_,_,_,_,hun h7⟩

theorem aOX(t:Tm):t.same t=true:=(Tm.BD t t).2 rfl
abbrev aOA:=zi aX (zi fA bQ)
theorem aVB(vars:List Int)(n:Int)(st:aB):aD prog 157 [.int .i64 n,.pptr (.slice (vars.map iv))] st (fun r st'=>r=(vr (d4 n vars 0)).av∧st'=st):=by
 refine aD.done ?_
 refine wF [1000000] 2 func157 ntmps157 rfl rfl ?_
 intro _
 simp only[aA,seval,aOA]
 intro b hb
 refine(OQ vars n _).to ?_
 simp only[aA,seval]
 refine(O7 _ _).to ?_
 simp only[aK,bT,bR,eJ (bR _),eE (aT _),aA,seval,aOA]
 exact⟨Tm.soft _,(aL.refl _).aC hb⟩
abbrev TI:=zi aX (zi fA (zi bS bQ))
theorem YF(l:List Tm)(hln:l.length≤1048576)(hsz:bK Tm.nodes l≤1099511627776)(hsm:∀t∈l,t.small=true)(st:aB):aD prog 82 [.slice (l.map Tm.av)] st (fun r st'=>r=.slice ((kJ l).map Tm.av)∧st'=st):=by
 refine aD.done ?_
 refine wF [1000000] 1 func82 ntmps82 rfl rfl ?_
 simp only[d7,AV.fits,d9,aE]
 intro ⟨hl,_⟩
 simp only[aA,seval]
 refine(z6 l _ hsz).to ?_
 simp only[aE,aA,↓aR,seval,TI]
 generalize hv:aY l []=vars
 have hR:kJ l=l.map fun t=>t.aG fun v=>vr (d4 v vars 0):=by rw[←hv];try rfl
 rw[hR]
 refine oA (σ:=Unit) [1000000] [2,3,9,10] (l) 4 4 (fun i _=>(((l).take i).map (fun t=>t.aG fun v=>vr (d4 v vars 0))).map Tm.av) (fun _ _=>True) (fun i _=>[(11,.int .i64 i)]) (fun _ _=>st) (fun i _ _ e he=>by simp only[cI] at he;obtain⟨t,_,rfl⟩:=he;exact⟨cC t,aH t⟩) (by decide +kernel) ⟨(),0,trivial,fun h=>absurd rfl h,aN.mk (by simp only[iK,jG,aV,aA,↓aR,seval])⟩ (fun i x s b hx hlt bH hdr hinv hb=>?_) (fun s b hge hinv=>?_)
 case refine_1=>
  have hw:=bL (n:=(i:Int)+1)
  have cF:((((l).take i).map (fun t=>t.aG fun v=>vr (d4 v vars 0))).map Tm.av).length=i:=by simp only[aE,dC];omega
  have htk:((((l).take i).map (fun t=>t.aG fun v=>vr (d4 v vars 0))).map Tm.av)++ [Tm.av ((fun t=>t.aG fun v=>vr (d4 v vars 0)) x)]=(((l).take (i+1)).map (fun t=>t.aG fun v=>vr (d4 v vars 0))).map Tm.av:=by rw[eA,hx];simp
  have hat:=bD (av:=Tm.av) a8 hx (aH x)
  simp only[bH,hat,aA,↓aR,seval,TI]
  refine(J4 (fun v=>vr (d4 v vars 0)) _ [.pptr (.slice (vars.map iv))] rfl x _ (hsm x (cD hx)) (fun n _ s=>aVB vars n s)).to ?_
  simp only[aA,seval,TI]
  refine eD a8 fW fX rfl rfl (eO (aH _) (bT _)) (by intro e he;simp only[cI] at he;obtain⟨t,_,rfl⟩:=he;exact aH t) hb (by simp only[cF,aS,aW];omega) (by simp only[cF,aS,aW];omega) (fun b' hb'=>?_)
  rw[htk] at hb' ⊢
  simp only[aA,seval]
  exact⟨(),b',hb',aN.mk (by simp only[hw,aA,seval])⟩
 simp only[hge,dZ,gV,nW,uJ,kF,dW,aA,seval]
 exact⟨rfl,aL.refl _⟩
def UN:Option (List Tm)→AV
 | none=>.tup [.slice [],.bool false]
 | some l=>.tup [.slice (l.map Tm.av),.bool true]
theorem aMB:∀ {l:List Tm},(∀t∈l,t.nodes≤120)→bK Tm.nodes l≤120*l.length
 | [],_=>by simp [bK]
 | t::l,h=>by
  have h1:=h t (by simp)
  have h2:=aMB (l:=l) fun x hx=>h x (by simp [hx])
  simp only[bK,aS];omega
abbrev H2:=zi aX (zi bZ (zi fA (zi bS (zi bQ oV))))
theorem aVR{N:Nat}{σ:Sub}(hg:cS σ)(ho:cV (bG N) σ)(vars:List Int)(hv:∀v∈vars,0≤v∧v<(N:Int))(hl:vars.length≤1000)(c m:Nat)(q:AV)(st:aB)(hS:iY st c m q σ) :
 aD prog 246 [.ptr c 0,.slice (vars.map iv)] st (fun r st'=>r=UN (j8 σ vars)∧st'=st):=by
 obtain⟨rk,B,G⟩:=hg.rs
 have AR:=fun(t:Tm) (ht:bG N t) st hS=>YG G (ho.imp fun t ht=>ht.1.2.1) (ho.imp fun t ht=>ht.1.small) c m q t ht.1.2.1 ht.1.small st hS
 refine aD.done ?_
 refine wF [1000000] 2 func246 ntmps246 rfl rfl ?_
 intro _
 simp only[aE,aA,seval,H2]
 refine oA (σ:=Unit) [1000000] [0,11,12] vars 4 6 (fun i _=>((vars.take i).map (rs σ)).map Tm.av) (fun i _=>((vars.take i).map (rs σ)).all eW=true) (fun i _=>[(4,.fslice []),(5,.bool false),(13,.int .i64 i)]) (fun _ _=>st) (fun i _ _ e he=>by simp only[cI] at he;obtain⟨t,_,rfl⟩:=he;exact⟨cC _,aH _⟩) (by decide +kernel) ⟨(),0,rfl,fun h=>absurd rfl h,aN.mk (by simp only[iK,jG,aV,aA,↓aR,seval])⟩ (fun i x s b hx hlt bH hdr hinv hb=>?_) (fun s b hge hinv=>?_)
 · have hw:=bL (n:=(i:Int)+1)
   have hxm:=cD hx
   obtain⟨hx0,hx1⟩:=hv x hxm
   have hvr:bG N (vr x):=⟨HB hx0 hx1,by rw[vr,Tm.gK];simp [bK]⟩
   have hat:c9 prog 26 (.slice (vars.map iv)) (.int .i64 (i:Int))=some (.pptr (.int .i64 x)):=bD (av:=iv) g7 hx rfl
   have cF:(((vars.take i).map (rs σ)).map Tm.av).length=i:=by simp only[aE,dC];omega
   have dJ:((vars.take (i+1)).map (rs σ)).all eW=eW (rs σ x):=by
    rw[eA,hx]
    simp only[B7,sK,aZ,aV,B0,hinv,j3,List.all_nil,u7,dU]
   have hr:=AR (vr x) hvr _ (hS.acc hb)
   rw[tH] at hr
   unfold LV at hr
   simp only[bH,hat,aA,seval,H2]
   refine(O7 x _).to ?_
   simp only[aA,seval]
   by_cases hf:eW (rs σ x)=true
   · rw[aJ (by unfold eW at hf;simpa using hf)] at hr
     refine hr.to ?_
     simp only[aT,aH,bT,cC,aA,↓aR,seval,H2]
     refine eD a8 fW fX rfl rfl (eO (aH _) (bT _)) (dS _) hb (by simp only[cF,aS,aW];omega) (by simp only[cF,aS,aW];omega) (fun b' hb'=>?_)
     rw[show(((vars.take i).map (rs σ)).map Tm.av)++ [(rs σ x).av]=((vars.take (i+1)).map (rs σ)).map Tm.av by rw[eA,hx];simp] at hb' ⊢
     simp only[hw,aA,seval]
     exact⟨(),b',by rw[dJ];exact hf,hb',aN.mk (by simp only[aA,seval])⟩
   · rw[aF (by unfold eW at hf;simpa using hf)] at hr
     refine hr.to ?_
     simp only[aH,bT,cC,aA,↓aR,seval,H2]
     have qI:j8 σ vars=none:=by
      unfold j8
      rw[aF]
      rintro⟨h1,_⟩
      exact hf (dQ.1 h1 _ (cI.2 ⟨x,hxm,rfl⟩))
     rw[qI]
     exact⟨rfl,aL.a7 (aL.refl _) hb⟩
 · rw[dW] at hinv
   have hok:∀t∈vars.map (rs σ),bG N t:=fun t ht=>by
    obtain⟨v,hvm,rfl⟩:=cI.1 ht
    have hf:=dQ.1 hinv _ ht
    unfold eW at hf
    simp only[cB,bO] at hf
    exact⟨G.lY ho.lY v (hv v hvm).1 (hv v hvm).2,hf.2⟩
   have hsz:bK Tm.nodes (vars.map (rs σ))≤1099511627776:=by
    have:=aMB (l:=vars.map (rs σ)) fun t ht=>(hok t ht).2
    rw[aE] at this
    omega
   simp only[hge,dZ,nV,gV,nW,GD,kF,dW,aA,seval]
   refine(z6 (vars.map (rs σ)) _ hsz).to ?_
   simp only[aE,aE,aA,seval,H2]
   refine aP (fun h=>?_) (fun h=>?_)
   · simp only[aA,seval]
     have h':¬(aY (vars.map (rs σ)) []).length≤26:=by simp at h;omega
     unfold j8
     rw[aF (fun hh=>h' hh.2)]
     exact⟨rfl,aL.refl _⟩
   · simp only[aA,seval]
     have h':(aY (vars.map (rs σ)) []).length≤26:=by simp at h;omega
     refine(YF (vars.map (rs σ)) (by rw[aE];omega) hsz (fun t ht=>(hok t ht).1.small) _).to ?_
     simp only[aA,seval]
     unfold j8
     rw[aJ ⟨hinv,h'⟩]
     exact⟨rfl,aL.refl _⟩
abbrev aOF:=zi aX (zi bZ (zi fA (zi k9 (zi bS (zi EQ (zi ER II))))))
theorem aU3(p:List Cl)(q:List Tm)(fuel:Int)(idx:Bool)(hq:q.length≤1048576)(st:aB) :
 aD prog 152 [.slice (p.map bX),.slice (q.map Tm.av),.int .i64 fuel,.bool idx] st (fun r st'=>∃S c m,r=.ptr S 0∧dI st st' S c m (.fslice []) (.fslice []) (.fslice []) p q idx fuel 0 0 [] (oL q)):=by
 have AQ:=fun st=>O3 q 0 (-1) [] hq st
 simp only[iB] at AQ
 rw[eQ] at AQ
 refine wF [1000000,16] 4 func152 ntmps152 rfl rfl ?_
 intro _
 simp only[aA,seval]
 refine(aU4 st).mono ?_
 rintro _ s1 ⟨c,m,rfl,hS,hQ,hc,hm⟩
 simp only[aA,seval,aOF]
 intro S hS0
 have hSc:S≠c:=by rintro rfl;rw[hS.sub.cells] at hS0;cases hS0
 have hSm:S≠m:=by rintro rfl;rw[hS.sub.map] at hS0;cases hS0
 refine(AQ _).to ?_
 obtain⟨l1,l2,l3,l4,l5,l6⟩:=pF (q.map (fun t=>(⟨t,0,-1⟩:IG)))
 simp only[aK,aB.aO,l4,l5,aA,seval,aOF]
 refine⟨S,c,m,rfl,?_⟩
 have hcm:c≠m:=by rintro rfl;have:=hS.sub.cells;rw[hS.sub.map] at this;cases this
 have aJ4:st S=none:=by
  cases hh:st S with
  | none=>rfl
  | some o=>have:=hQ.frame S o hh hSc hSm (by simp [dL]);rw[hS0] at this;cases this
 refine⟨aB.aO _ _ _,hS.aC hSc hSm (by simp [dL]),.inl ⟨rfl,rfl⟩,.inl ⟨rfl,rfl⟩,rfl,by simp,?_,?_,?_⟩
 · simp [jD,dL,dO,hSc,hSm,hcm]
 · intro b hb
   rcases eG.1 hb with rfl | rfl | rfl | hb | hb | hb
   · exact aJ4
   · exact hc
   · exact hm
   · simp [dL] at hb
   · simp [dO] at hb
   · simp [dO] at hb
 · intro b o hb
   have e1:b≠S:=by rintro rfl;rw[aJ4] at hb;cases hb
   rw[aB.aM _ _ e1]
   exact hQ.frame b o hb (by rintro rfl;rw[hc] at hb;cases hb) (by rintro rfl;rw[hm] at hb;cases hb) (by simp [dL])
theorem aS0(p:List Cl)(q:List Tm)(most fuel:Int)(st:aB) :
 aD prog 151 [.slice (p.map bX),.slice (q.map Tm.av),.int .i64 most,.int .i64 fuel] st (fun r st'=>r=.bool (qY p&&(gX q&&(decide (0≤most)&&(decide (most≤20)&&(decide (0≤fuel)&&decide (fuel≤300))))))∧st'=st):=by
 have h1:=fun st=>aTF p st
 have h2:=fun st=>OS q st
 have h3:=fun n lo hi st=>CY n lo hi st
 refine wF [] 4 func151 ntmps151 rfl rfl ?_
 intro _
 simp only[aA,seval]
 refine(h1 _).to ?_
 simp only[aA,seval]
 refine cU (fun h=>?_) (fun h=>?_)
 · simp only[h,aA,seval]
   refine(h2 _).to ?_
   simp only[aA,seval]
   refine cU (fun h5=>?_) (fun h5=>?_)
   · simp only[h5,aA,seval]
     refine(h3 _ _ _ _).to ?_
     simp only[aA,seval]
     refine cU (fun h6=>?_) (fun h6=>?_)
     · simp only[h6,aA,seval]
       refine(h3 _ _ _ _).to ?_
       simp only[aA,seval]
       rw[←I2 (decide (0≤most)),h6,dU]
     · simp only[h6,aA,seval]
       rw[←I2 (decide (0≤most)),h6]
       try rfl
   · simp only[h5,aA,seval]
     rw[fB]
 · simp only[h,aA,seval]
   rw[fB]
theorem aVE(st:aB):aD prog 154 [] st (fun r st'=>r=.tup []∧st'=st):=by
 refine wF [1000000] 0 func154 ntmps154 rfl rfl ?_
 intro _
 simp only[aA,seval,]
structure N1 where
 st:aB
 qt:AV
 qc:AV
 qn:AV
 mx:Int
 nd:List AV
 s:RS
 i:IS
 out:List (List Tm)
 b:Nat
 u:Nat
 B:Nat
 M:Nat
 e:Int
structure aP6 (st0:aB) (S c m:Nat) (p:List Cl) (q:List Tm) (idx:Bool) (cnd:Tm→List Nat→List Nat) (vars:List Int) (most fuel:Nat) (T:List (List Tm)×Int) (x:N1):Prop where
 a:dI st0 x.st S c m x.qt x.qc x.qn p q idx fuel x.u x.mx x.nd x.i
 r:RI p x.B x.M x.u x.s x.i
 t:T=(x.out++(jL p cnd vars (most - x.out.length) (fuel - x.u) x.i).1,(jL p cnd vars (most - x.out.length) (fuel - x.u) x.i).2)
 u:x.u≤fuel
 B:x.B≤26+26*x.u
 M:x.M≤26+520*x.u
structure U9 (st0:aB) (S c m:Nat) (p:List Cl) (q:List Tm) (idx:Bool) (cnd:Tm→List Nat→List Nat) (vars:List Int) (most fuel:Nat) (T:List (List Tm)×Int) (x:N1):Prop where
 d:aL x.st st0
 b:x.out.map cG≠[]→x.st x.b=none
 l:x.out.length≤most
 g:x.e= -1→aP6 st0 S c m p q idx cnd vars most fuel T x
 f:x.e≠-1→T=(x.out,x.e)
abbrev ML:=zi aX (zi bZ (zi fA (zi BQ (zi bS (zi nM (zi EQ (zi oV (zi ER II))))))))
set_option maxHeartbeats 2000000 in
theorem aVC{p:List Cl}(hp:∀c∈p,gF c∧c.2.length≤6)(hpl:p.length≤20){cnd:Tm→List Nat→List Nat}(hc:∀(ρ:Int→Int) (t:Tm) (l:List Nat),cnd (bV ρ t) l=cnd t l)(hd:∀t l,(∀i∈cnd t l,i∈l)∧(cnd t l).length≤l.length){idx:Bool}(wG:NL p idx cnd)
 {q:List Tm} (hq:∀t∈q,bG 26 t∧t.k=3) (h6:q.length≤6) {most fuel:Nat} (hm:most≤20) (hf:fuel≤300) {st0 st:aB} {S c m:Nat} (uP:idx=true→st0 g9=some iP) (h:dI st0 st S c m (.fslice []) (.fslice []) (.fslice []) p q idx fuel 0 0 [] (oL q)) :
 aD prog 153 [.ptr S 0,.int .i64 (most:Int),.func 154 []] st (fun r st'=>∃b s,r=.tup [bE 1 b ((jL p cnd (aY q []) most fuel (oL q)).1.map cG),.int .i64 (jL p cnd (aY q []) most fuel (oL q)).2]∧st'=a7 s b ((jL p cnd (aY q []) most fuel (oL q)).1.map cG)∧((jL p cnd (aY q []) most fuel (oL q)).1.map cG≠[]→s b=none)∧aL s st0):=by
 have hnd:bK Tm.nodes q≤1099511627776:=by
  have:=DX q fun t ht=>(hq t ht).1.2
  omega
 have hva:=fun st=>z6 q st hnd
 have hv:∀v∈aY q [],0≤v∧v<26:=fun v hv=>by
  rcases (tP q [] fun t ht=>(hq t ht).1.1.2.1).1 hv with h | ⟨t,ht,h⟩
  · cases h
  · exact(hq t ht).1.1.2.2 v h
 have hvl:(aY q []).length≤1000:=by
  have h1:=wZ q []
  have h2:=DX q fun t ht=>(hq t ht).1.2
  simp only[aW] at h1
  omega
 have LG:=RI.start (p:=p) hq h6
 generalize hT:jL p cnd (aY q []) most fuel (oL q)=T
 generalize aY q []=vars at *
 have hI0:U9 st0 S c m p q idx cnd vars most fuel T ⟨st,.fslice [],.fslice [],.fslice [],0,[],lJ q,oL q,[],0,0,26,26,-1⟩:=
  ⟨h.vW,by simp,jH _,fun _=>⟨h,LG,by rw[←hT];try rfl,jH _,cZ _,cZ _⟩,fun h=>absurd rfl h⟩
 have QI:=h.cell
 simp only[iF] at QI
 obtain⟨l1,l2,l3,l4,l5,l6⟩:=pF (oL q).goals
 refine wF [1000000] 3 func153 ntmps153 rfl rfl ?_
 intro _
 simp only[QI,aA,seval,ML]
 refine(hva _).to ?_
 simp only[aA,seval]
 clear QI l1 l2 l3 l4 l5 l6
 have hne:∀l:List IG,eC prog .neq 262 (eQ l) .nilptr=some (.bool (!l.isEmpty)):=fun l=>by
  have h:prog.underlying 262=some (.pointer 311):=by kernel_rfl
  cases l with
  | nil=>rw[eQ];simp only[eC,h];rfl
  | cons g l=>obtain⟨⟨k,n,s,ts⟩,cut,up⟩:=g;rw[sY];simp only[eC,h];rfl
 refine iG (σ:=N1) [1000000] [0,1,2,8] (fun x=>U9 st0 S c m p q idx cnd vars most fuel T x)
  (fun x=>[(6,.fslice []),(7,.int .i64 0),(9,bE 1 x.b (x.out.map cG)),(10,.int .i64 x.e)])
  (fun x=>a7 x.st x.b (x.out.map cG))
  (fun x=>(most - x.out.length)+(fuel - x.u)+(if x.e= -1 then 1 else 0)) (by decide +kernel) ⟨_,hI0,aN.mk (by simp only[iK,aV,aA,seval])⟩ ?_
 clear hI0 h hT LG
 rintro⟨st,qt,qc,qn,mx,nd,s,i,out,b,u,B,M,e⟩ ⟨hdr,hb,hlen,hgo,iE⟩
 simp only at hdr hb hlen hgo iE
 simp only
 simp only[aA,seval]
 refine aP (fun h=>?_) (fun h=>?_)
 case refine_2=>
  have h':e≠-1:=by simpa using h
  have hTe:=iE h'
  subst hTe
  simp only[nQ,aA,seval]
  exact⟨b,st,rfl,rfl,hb,hdr⟩
 obtain rfl:e= -1:=by simpa using h
 obtain⟨ha,hR,ht,hu,hBB,hMM⟩:=hgo rfl
 simp only at ha hR ht hu hBB hMM
 have hb0:out.map cG≠[]→st0 b=none:=fun h=>(hdr b).1 (hb h)
 have hA:=ha.acc hb
 have a1G:idx=true→a7 st0 b (out.map cG) g9=some iP:=fun hi=>by
  by_cases hl:out.map cG= []
  · rw[hl];exact uP hi
  · rw[o7 (by rintro rfl;have:=hb0 hl;rw[uP hi] at this;cases this)];exact uP hi
 have hlo:(out.map cG).length=out.length:=aE _
 have hun:prog.underlying 27=some (.slice 38):=by kernel_rfl
 have uO:=t7 (w:=1) (b:=b) (l:=out.map cG) hun
 rw[hlo] at uO
 have LH:∀l:List (List Tm),∀e∈l.map cG,e.width=1:=fun l e he=>by simp only[cI] at he;obtain⟨t,_,rfl⟩:=he;rfl
 have g8:=hA.cell
 simp only[iF] at g8
 obtain⟨l1,l2,l3,l4,l5,l6⟩:=pF i.goals
 have wH:=hne i.goals
 simp only[aA,seval]
 refine(aVE _).to ?_
 simp only[g8,l1,wH,aA,seval,ML]
 cases hg:i.goals with
 | cons g rest=>
  rw[hg] at wH
  simp only[List.isEmpty_cons,iW] at wH
  refine aP (fun h2=>?_) (fun h2=>absurd h2 (by first | rw[hg];simp | simp))
  simp only[aA,seval]
  rw[a1X hg] at ht
  have gA:=aVL hp hpl hc hd wG (B:=B) (M:=M) (k:=u) (by omega) (by omega) (by omega) a1G hA hR hg (by omega) (by omega)
  have hRs:=hR.step hp hpl hc hd (by omega) hg
  have hse:=a11 (p:=p) (cnd:=cnd) (i:=i) (g:=g) (rest:=rest)
  refine gA.mono ?_
  clear gA
  rintro r s2 hr
  split at hr
  · rename_i hfu
    obtain⟨rfl,hA2⟩:=hr
    obtain⟨s3,rfl,hb3,hA3⟩:=hA2.BS hb0
    rw[aJ (by omega)] at ht
    simp only[aA,seval]
    exact⟨⟨s3,qt,qc,qn,mx,nd,s,i,out,b,u,B,M,2⟩,by simp,⟨hA3.vW,hb3,hlen,fun h=>absurd h (by simp),fun _=>by rw[ht];simp⟩,aN.mk (by simp only[aA,seval])⟩
  · rename_i hfu
    have a9T:u<fuel:=by omega
    rw[aF (by omega)] at ht
    cases hS:lW p cnd i g rest with
    | stop e=>
     rw[hS] at hr ht hse
     simp only[VB] at hse
     simp only at ht
     obtain⟨rfl,qt2,qc2,qn2,mx2,nd2,i2,hA2⟩:=hr
     obtain⟨s3,rfl,hb3,hA3⟩:=hA2.BS hb0
     simp only[aA,seval]
     exact⟨⟨s3,qt,qc,qn,mx,nd,s,i,out,b,u,B,M,e⟩,by simp [hse],⟨hA3.vW,hb3,hlen,fun h=>absurd h hse,fun _=>by rw[ht];simp⟩,aN.mk (by simp only[aA,seval])⟩
    | go i'=>
     rw[hS] at hr ht hRs
     simp only at ht hRs
     obtain⟨s',hR'⟩:=hRs
     obtain⟨rfl,qt2,qc2,qn2,mx2,nd2,hA2⟩:=hr
     obtain⟨s3,rfl,hb3,hA3⟩:=hA2.BS hb0
     simp only[aA,seval]
     exact⟨⟨s3,qt2,qc2,qn2,mx2,nd2,s',i',out,b,u+1,B+26,M+520,-1⟩,by simp;omega,⟨hA3.vW,hb3,hlen,fun _=>⟨hA3,hR',by rw[ht,Nat.sub_sub],by simp only;omega,by simp only;omega,by simp only;omega⟩,fun h=>absurd rfl h⟩,aN.mk (by simp only[aA,seval])⟩
    | fail i'=>
     rw[hS] at hr ht hRs
     simp only[FG] at ht hRs hr
     obtain⟨_,_,_,hRb⟩:=hRs
     cases hbk:gQ p i'.chs.length i' with
     | none=>
      rw[hbk] at hr ht
      simp only at ht
      obtain⟨rfl,qt2,qc2,qn2,mx2,nd2,i2,hA2⟩:=hr
      obtain⟨s3,rfl,hb3,hA3⟩:=hA2.BS hb0
      simp only[aA,seval]
      exact⟨⟨s3,qt,qc,qn,mx,nd,s,i,out,b,u,B,M,0⟩,by simp,⟨hA3.vW,hb3,hlen,fun h=>absurd h (by simp),fun _=>by rw[ht];simp⟩,aN.mk (by simp only[aA,seval])⟩
     | some i2=>
      rw[hbk] at hr ht
      simp only at ht
      obtain⟨s',hR'⟩:=hRb i2 hbk
      obtain⟨rfl,qt2,qc2,qn2,mx2,nd2,hA2⟩:=hr
      obtain⟨s3,rfl,hb3,hA3⟩:=hA2.BS hb0
      simp only[aA,seval]
      exact⟨⟨s3,qt2,qc2,qn2,mx2,nd2,s',i2,out,b,u+1,B+26,M+520,-1⟩,by simp;omega,⟨hA3.vW,hb3,hlen,fun _=>⟨hA3,hR',by rw[ht,Nat.sub_sub],by simp only;omega,by simp only;omega,by simp only;omega⟩,fun h=>absurd rfl h⟩,aN.mk (by simp only[aA,seval])⟩
 | nil=>
  rw[hg] at wH
  simp only[List.isEmpty_nil,fU] at wH
  refine aP (fun h2=>absurd h2 (by first | rw[hg];simp | simp)) (fun h2=>?_)
  simp only[uO,aA,seval]
  rw[a1Y hg] at ht
  refine aP (fun h2=>?_) (fun h2=>?_)
  · have h':out.length=most:=by simp at h2;omega
    rw[aJ (by omega)] at ht
    simp only[nQ,aA,seval]
    have hTe:T=(out,1):=by rw[ht];simp
    subst hTe
    exact⟨b,st,rfl,rfl,hb,hdr⟩
  have h':out.length<most:=by simp at h2;omega
  rw[aF (by omega)] at ht
  simp only[g8,hg,aA,seval,ML]
  obtain⟨hgd,ho,_,_⟩:=hR.r.facts
  have hfr:26≤i.fresh:=by
   obtain⟨ρ,S',_⟩:=hR.r
   have h1:=S'.rng 25 (by omega) (by have:=S'.h26;omega)
   rw[S'.idn 25 (by omega) (by omega)] at h1
   omega
  refine(aVR (N:=i.fresh) hgd ho vars (fun v h=>⟨(hv v h).1,by have:=(hv v h).2;omega⟩) hvl c m qt _ hA.sto.sub).to ?_
  cases qI:j8 i.σ vars with
  | none=>
   rw[qI] at ht
   simp only[UN]
   simp only at ht
   simp only[nQ,aA,seval]
   have hTe:T=(out,3):=by rw[ht];simp
   subst hTe
   exact⟨b,st,rfl,rfl,hb,hdr⟩
  | some a=>
   rw[qI] at ht
   simp only[UN]
   simp only at ht
   simp only[aA,seval,ML]
   refine eD (P:=prog) (b:=b) (l:=out.map cG) (xs:=[cG a]) AC PO PR rfl rfl (eO rfl rfl) (LH out) hb (by simp only[aS,aW,hlo];omega) (by simp only[aS,aW,hlo];omega) (fun b' hb'=>?_)
   rw[show(out.map cG)++ [cG a]=(out++ [a]).map cG by simp] at hb' ⊢
   have hA':=ha.acc hb'
   have aKC:(out++ [a]).map cG≠[]→st0 b'=none:=fun h=>(hdr b').1 (hb' h)
   have aZ5:=hA'.cell
   simp only[iF] at aZ5
   simp only[aA,seval]
   have hbk:=JY hp (M:=M) (by omega) _ qt qc qn mx nd i s.chs (st0:=a7 st0 b' ((out++ [a]).map cG)) (S:=S) (c:=c) (m:=m) (q:=q) (idx:=idx) (fuel:=fuel) (used:=u) (T:=gQ p i.chs.length i) ⟨hA',hR.cr,hR.x,rfl,by have:=hR.pD;have:=hR.n;constructor<;>omega⟩
   refine hbk.mono ?_
   rintro r s2 hr
   have hln:(out++ [a]).length=out.length+1:=by simp
   cases hbk:gQ p i.chs.length i with
   | none=>
    rw[hbk] at hr ht
    simp only at ht
    obtain⟨rfl,qt2,qc2,qn2,mx2,nd2,i2,hA2⟩:=hr
    obtain⟨s3,rfl,hb3,hA3⟩:=hA2.BS aKC
    simp only[aA,seval]
    exact⟨⟨s3,qt,qc,qn,mx,nd,s,i,out++ [a],b',u,B,M,0⟩,by simp only[hln];simp;omega,⟨hA3.vW,hb3,by simp only[hln];omega,fun h=>absurd h (by simp),fun _=>by rw[ht]⟩,aN.mk (by simp only[aA,seval])⟩
   | some i2=>
    rw[hbk] at hr ht
    simp only at ht
    obtain⟨s',hR'⟩:=hR.back hp (by omega) hbk
    obtain⟨rfl,qt2,qc2,qn2,mx2,nd2,hA2⟩:=hr
    obtain⟨s3,rfl,hb3,hA3⟩:=hA2.BS aKC
    simp only[aA,seval]
    exact⟨⟨s3,qt2,qc2,qn2,mx2,nd2,s',i2,out++ [a],b',u,B,M,-1⟩,by simp [hln];omega,⟨hA3.vW,hb3,by simp only[hln];omega,fun _=>⟨hA3,hR',by rw[ht];simp only[hln,nP,fC,eL,Nat.sub_sub],hu,hBB,hMM⟩,fun h=>absurd rfl h⟩,aN.mk (by simp only[aA,seval])⟩
theorem vE.a3M{st st':aB}{a o:AV}{k:IntKind}{n:Int}(h:Made st a o st'):vE st [a,.int k n] (.tup [o,.int k n]) st':=by
 obtain⟨bs,h1,h2,h3,h4⟩:=h
 exact⟨_,bs,rfl,h1,h2,aME.2 ⟨o,.int k n,bs,[],rfl,by simp,h3,⟨rfl,rfl⟩⟩,h4⟩
def U4(st:aB)(L:List AV)(e:Int)(r:AV)(st':aB):Prop:=∃o,r=.tup [o,.int .i64 e]∧Made st (.slice L) o st'∧(L= []→o=.fslice [])
structure tW (st:aB) (L:List AV) (b i:Nat) (os:List AV) (bs:List Nat) (s:aB):Prop where
 len:os.length=i
 own:cP s (L.take i) os bs
 nd:bs.Nodup
 new:∀q∈bs,st q=none
 bn:L≠[]→b∉bs
 cell:L≠[]→s b=some (.cells (os.flatMap AV.cells++(L.drop i).flatMap AV.cells))
 bB:∀q,q∉bs→(L≠[]→q≠b)→s q=st q
theorem tW.start{st:aB}{L:List AV}{b:Nat}:tW st L b 0 [] [] (a7 st b L):=by
 refine⟨rfl,by simp [cP],oX,by simp,by simp,fun h=>?_,fun q _ h=>?_⟩
 · rw[jR h,aB.aO];try rfl
 · cases L with
   | nil=>rfl
   | cons x l=>exact o7 (h (by simp))
theorem tW.done{st s:aB}{L os:List AV}{b w:Nat}{bs:List Nat}(h:tW st L b L.length os bs s)(hb:L≠[]→st b=none)(hw:∀e∈L,e.width=w):Made st (.slice L) (bE w b L) s:=by
 obtain⟨h1,h2,h3,h4,h5,h6,h7⟩:=h
 rw[dW] at h2
 by_cases hL:L= []
 · subst hL
   simp only[cP] at h2
   obtain⟨rfl,rfl⟩:=h2
   exact⟨[],oX,by simp,.inl ⟨rfl,rfl,rfl⟩,fun q hq=>h7 q hq (fun h=>absurd rfl h)⟩
 · refine⟨b::bs,List.nodup_cons.2 ⟨h5 hL,h3⟩,fun q hq=>?_,?_,fun q hq=>?_⟩
   · rcases c8.1 hq with rfl | hq
     · exact hb hL
     · exact h4 q hq
   · rw[pA hL]
     refine .inr ⟨b,bs,os,w,rfl,rfl,?_,h2,hw⟩
     have:=h6 hL
     rw[j4] at this
     simpa using this
   · simp only[c8,not_or] at hq
     exact h7 q hq.2 fun _=>hq.1
theorem tW.step{st s s2:aB}{L os B:List AV}{b i:Nat}{bs bx:List Nat}{e r:AV}(h:tW st L b i os bs s)(he:L[i]?=some (.agg [e]))(hB:(L.drop (i+1)).flatMap AV.cells=B)(m1:bx.Nodup)(m2:∀q∈bx,s q=none)(m3:cO s2 e r bx)(m4:∀q,q∉bx→s2 q=s q) :
 tW st L b (i+1) (os++ [.agg [r]]) (bs++bx) (s2.aC b (.cells (os.flatMap AV.cells++ [r]++B))):=by
 obtain⟨h1,h2,h3,h4,h5,h6,h7⟩:=h
 have hi:i<L.length:=(gS.1 he).1
 have hL:L≠[]:=by rintro rfl;simp at hi
 have DO:=cP.iU _ _ _ h2
 have yD:∀q∈bs,s q≠none:=fun q hq=>by obtain⟨cs,e1,_⟩:=DO.2 q hq;rw[e1];simp
 have hsb:=h6 hL
 have hbx:b∉bx:=fun hq=>by have:=m2 b hq;rw[hsb] at this;cases this
 have DK:∀q∈bs,q∉bx:=fun q hq hq'=>yD q hq (m2 q hq')
 have hbs:∀q∈bs,(s2.aC b (.cells (os.flatMap AV.cells++ [r]++B))) q=s q:=fun q hq=>by
  rw[aB.aM _ _ (by rintro rfl;exact h5 hL hq),m4 q (DK q hq)]
 refine⟨by simp [h1],?_,tY.2 ⟨h3,m1,fun a ha c hc e=>DK a ha (e▸hc)⟩,fun q hq=>?_,fun _ hq=>?_,fun _=>?_,fun q hq hne=>?_⟩
 · rw[eA,he,B7]
   refine h2.snoc hbs ?_
   refine a30.2 ⟨r,rfl,cO.bB _ _ _ (fun x hx=>?_) m3⟩
   exact aB.aM _ _ (by rintro rfl;exact hbx hx)
 · rcases fQ.1 hq with hq | hq
   · exact h4 q hq
   · have h8:q∉bs:=fun h=>DK q h hq
     have h9:q≠b:=by rintro rfl;exact hbx hq
     rw[←h7 q h8 fun _=>h9]
     exact m2 q hq
 · rcases fQ.1 hq with hq | hq
   · exact h5 hL hq
   · exact hbx hq
 · rw[aB.aO,hB]
   simp [AV.cells]
 · simp only[fQ,not_or] at hq
   rw[aB.aM _ _ (hne hL),m4 q hq.2,h7 q hq.1 hne]
abbrev aOG:=zi aX (zi bZ (zi BQ (zi k9 (zi bS (zi nM EQ)))))
set_option maxHeartbeats 2000000 in
theorem aTK(p:List Cl){cnd:Tm→List Nat→List Nat}(hc:∀(ρ:Int→Int) (t:Tm) (l:List Nat),cnd (bV ρ t) l=cnd t l)(hd:∀t l,(∀i∈cnd t l,i∈l)∧(cnd t l).length≤l.length){idx:Bool}(wG:NL p idx cnd)
 (q:List Tm) (most fuel:Int) (st:aB) (uP:idx=true→st g9=some iP) :
 aD prog 79 [.slice (p.map bX),.slice (q.map Tm.av),.int .i64 most,.int .i64 fuel,.bool idx] st (U4 st ((kT p cnd q most fuel).1.map cG) (kT p cnd q most fuel).2):=by
 have aKG:=aS0 p q most fuel
 have GI:=aNG p hd q most fuel
 refine wF [1000000] 5 func79 ntmps79 rfl rfl ?_
 intro _
 simp only[aA,seval]
 refine(aKG _).to ?_
 simp only[aA,seval]
 refine aP (fun h=>?_) (fun h=>?_)
 · have hS:kT p cnd q most fuel=([],9):=by
    unfold kT
    rw[aF (by rw[show nH p q most fuel=false from by unfold nH;simpa only[iV] using h];simp)]
   rw[hS]
   simp only[aA,seval]
   exact⟨_,rfl,⟨[],oX,by simp,.inl ⟨rfl,rfl,rfl⟩,fun _ _=>rfl⟩,fun _=>rfl⟩
 have hok:nH p q most fuel=true:=by unfold nH;simpa using h
 have hk:=hok
 simp only[nH,cB,bO] at hk
 obtain⟨kp,kq,k1,k2,k3,k4⟩:=hk
 obtain⟨p1,p2⟩:=HE kp
 obtain⟨q1,q2⟩:=A9 kq
 have hTT:kT p cnd q most fuel=jL p cnd (aY q []) most.toNat fuel.toNat (oL q):=by
  unfold kT
  rw[aJ hok,a5U (fun c h=>(p2 c h).1) hc q2]
 rw[hTT] at GI ⊢
 clear hTT aKG hok h
 obtain⟨mo,rfl⟩:=pV k1
 obtain⟨fu,rfl⟩:=pV k3
 rw[kX,kX] at GI ⊢
 simp only[aA,seval]
 refine(aU3 p q (fu:Int) idx (by omega) st).mono ?_
 rintro _ s1 ⟨S,c,m,rfl,hA⟩
 simp only[aA,seval]
 refine(aVC p2 p1 hc hd wG q2 q1 (most:=mo) (fuel:=fu) (by omega) (by omega) uP hA).mono ?_
 generalize jL p cnd (aY q []) mo fu (oL q)=T at GI ⊢
 rintro _ _ ⟨b,s2,rfl,rfl,hb,hD⟩
 obtain⟨L,e⟩:=T
 simp only at GI hb ⊢
 have hb':L.map cG≠[]→st b=none:=fun h=>(hD b).1 (hb h)
 have hun:prog.underlying 27=some (.slice 38):=by kernel_rfl
 have uO:=t7 (w:=1) (b:=b) (l:=L.map cG) hun
 rw[aE] at uO
 have hwd:∀e∈L.map cG,e.width=1:=fun e he=>by simp only[cI] at he;obtain⟨t,_,rfl⟩:=he;rfl
 simp only[uO,aA,seval]
 refine dV (σ:=List AV×List Nat×aB) [1000000] [10,11,12,13,32,33] L (fun j x=>tW st (L.map cG) b j x.1 x.2.1 x.2.2) (fun j x=>[(34,.int .i64 j)]) (fun j x=>x.2.2) (by decide +kernel) ⟨([],[],a7 st b (L.map cG)),tW.start,aN.drop (PL hD) (by simp only[aA,↓aR,seval])⟩ (fun j a x hx hlt bH hdr hinv=>?_) (fun x hge hinv=>?_)
 case refine_2=>
  simp only[hge,nQ,aA,seval]
  have a0S:tW st (L.map cG) b (L.map cG).length x.1 x.2.1 x.2.2:=by rw[aE];exact hinv
  exact⟨_,rfl,a0S.done hb' hwd,fun h=>by rw[h];try rfl⟩
 obtain⟨os,bs,s⟩:=x
 simp only at hinv
 have hw:=bL (n:=(j:Int)+1)
 have hne:L.map cG≠[]:=by intro h;have:=fE List.length h;simp at this;subst this;simp at hlt
 have yB:(L.map cG)[j]?=some (.agg [.slice (a.map Tm.av)]):=by rw[mD,hx];try rfl
 have hc2:=hinv.cell hne
 have a0F:((L.map cG).drop j).flatMap AV.cells= [.slice (a.map Tm.av)]++((L.map cG).drop (j+1)).flatMap AV.cells:=by
  rw[←E6,hdr,aZ,sJ,E6];try rfl
 rw[a0F,←nP] at hc2
 have hA2:(os.flatMap AV.cells).length=j*1:=by
  rw[hinv.own.aJP (fun q hq=>hwd q (lB hq)),dC,aE,lP (by omega)]
 obtain⟨e1,e2,e3,e4,e5,e6⟩:=RQ (B:=((L.map cG).drop (j+1)).flatMap AV.cells) hA2
 have hat:=uL (P:=prog) (b:=b) (w:=1) (i:=j) AC (len:=(L.map cG).length) (by rw[aE];omega)
 have htk:List.take 1 (List.drop (j*1) (os.flatMap AV.cells++ [.slice (a.map Tm.av)]++((L.map cG).drop (j+1)).flatMap AV.cells))= [.slice (a.map Tm.av)]:=by
  rw[nP,List.drop_append,List.drop_of_length_le (by omega),hA2]
  simp
 obtain⟨hal,hav⟩:=GI.2 a (cD hx)
 rw[pA hne] at uO ⊢
 rw[aE] at hat uO ⊢
 simp only[bH,hat,hc2,htk,e5,aA,↓aR,seval,aOG]
 refine(RZ a _ (by omega) fun x hx s=>RY x s (Tm.y8 (dQ.1 hav x hx))).mono ?_
 rintro r s3 ⟨bx,m1,m2,m3,m4⟩
 have hbx:b∉bx:=fun h=>by have:=m2 b h;rw[hc2] at this;cases this
 have f1:=(m4 b hbx).trans hc2
 obtain⟨hqc,hqs,hqa,hqw,hqj⟩:=cO.aMC m3
 simp only[hat,f1,hqc,hqs,e4,e5,B5,List.set_cons_zero,aA,seval,aOG]
 exact⟨(os++ [.agg [r]],bs++bx,s3.aC b (.cells (os.flatMap AV.cells++ [r]++((L.map cG).drop (j+1)).flatMap AV.cells))),hinv.step yB rfl m1 m2 m3 m4,aN.mk (by simp only[hw,aA,seval])⟩
theorem aTJ(p:List Cl)(q:List Tm)(most fuel:Int)(st:aB) :
 aD prog 21 [.slice (p.map bX),.slice (q.map Tm.av),.int .i64 most,.int .i64 fuel] st (U4 st ((kT p (fun _ l=>l) q most fuel).1.map cG) (kT p (fun _ l=>l) q most fuel).2):=by
 refine wF [1000000] 4 func21 ntmps21 rfl rfl ?_
 intro _
 simp only[aA,seval]
 refine(aTK p (cnd:=fun _ l=>l) (fun _ _ _=>rfl) (fun _ l=>⟨fun _ h=>h,cZ _⟩) (idx:=false) rfl q most fuel st (fun h=>by cases h)).mono ?_
 intro r s1 h
 obtain⟨o,rfl,hM,hN⟩:=h
 obtain⟨hqc,hqs,hqa,hqw,hqj⟩:=cO.aMC hM.choose_spec.2.2.1
 simp only[hqj,aA,seval]
 exact⟨_,rfl,hM,hN⟩
theorem aTI(p:List Cl)(q:List Tm)(most fuel:Int)(st:aB) :
 aD prog 21 [.slice (p.map bX),.slice (q.map Tm.av),.int .i64 most,.int .i64 fuel] st (vE st [.slice ((kT p (fun _ l=>l) q most fuel).1.map cG),.int .i64 (kT p (fun _ l=>l) q most fuel).2]):=
 (aTJ p q most fuel st).mono fun _ _ ⟨o,h1,h2,_⟩=>by subst h1;exact vE.a3M h2




theorem a5Z(q cH:List Tm)(st:aB):aD prog 15 [.slice (q.map Tm.av),cG cH] st (vE st [.slice (((kN q cH).getD []).map Tm.av),.bool (kN q cH).isSome]):=by
 refine(aS9 q cH st).mono ?_
 rintro _ _ ⟨o,rfl,h⟩
 exact vE.a3L h
end Go.AW
namespace Go.AW
section
variable {h:bM} {st:aB}
end
end Go.AW
namespace Go.AW
open Go.Proofs.Tryz
theorem aWS(l:List Tm):lV Tm.same l l=true:=(PU (fun x _ y=>Tm.BD x y)).2 rfl
abbrev a6P:=zi bZ (zi bS nM)
theorem aSF(l l':List Tm)(st:aB):aD prog 55 [cG l,cG l'] st (fun r st'=>r=.bool (lV Tm.same l l')∧st'=st):=by
 refine wF [1000000] 2 func55 ntmps55 rfl rfl ?_
 intro _
 simp only[cG,aA,seval,a6P]
 refine(W4 l l' 71 _ fun x _ y s=>FY x y s).to ?_
 simp only[aA,seval]
abbrev MG:=zi aX (zi bZ (zi BQ nM))
theorem aVA(L:List (List Tm))(st:aB):aD prog 12 [.slice (L.map cG),.slice (L.map cG)] st (fun r st'=>r=.bool true∧st'=st):=by
 refine wF [1000000] 2 func12 ntmps12 rfl rfl ?_
 simp only[d7,AV.fits,d9,aE]
 intro ⟨⟨hl,_⟩,_⟩
 simp only[bF,aE,aA,seval,MG]
 refine dV (σ:=Unit) [1000000] [0,1] L (fun _ _=>True) (fun i _=>[(4,.bool false),(5,.int .i64 i)]) (fun _ _=>st) (by decide +kernel) ⟨(),trivial,aN.mk (by simp only[aA,↓aR,seval])⟩ (fun i x _ hx hlt bH hdr _=>?_) (fun _ hge _=>?_)
 case refine_2=>
  simp only[hge,aE,aA,seval,MG]
 have hw:=bL (n:=(i:Int)+1)
 have hat:c9 prog 27 (.slice (L.map cG)) (.int .i64 (i:Int))=some (.pptr (cG x)):=bD (av:=cG) AC hx rfl
 simp only[bH,aE,aA,seval,MG]
 refine wX [(0,1),(1,1),(2,1),(3,1),(4,1),(5,1),(6,1),(7,1),(8,0),(9,1)] [0,1,2,3,4,5,6,7,9] eR mixed rfl fN ?_
 simp only[hat,aA,seval,MG]
 refine(aSF x x _).to ?_
 rw[aWS]
 simp only[hw,aA,seval]
 refine⟨fN,?_⟩
 exact⟨(),aN.mk (by simp only[aA,seval])⟩

def xL(T:Tm→ByteArray)(t:Tm):Prop:=(∀st:aB,aD prog 148 [t.av] st (fun r st'=>r=.str (T t)∧st'=st))∧(T t).size≤32*t.nodes∧1≤(T t).size∧t.nodes≤1000
abbrev TU:=zi aX (zi cJ (zi bS bQ))
theorem XT{T:Tm→ByteArray}(l:List Tm)(hT:∀t∈l,xL T t)(hn:bK Tm.nodes l≤10000)(hl:l.length≤10000)(st:aB):aD prog 239 [.slice (l.map Tm.av)] st (fun r st'=>r=.str (gT T l)∧st'=st):=by
 refine wF [1000000] 1 func239 ntmps239 rfl rfl ?_
 intro _
 simp only[aA,seval]
 refine dV (σ:=Unit) [1000000] [0,2] l (fun i _=>True) (fun i _=>[(3,.str (gT T (l.take i))),(4,.int .i64 i)]) (fun _ _=>st) (by decide +kernel) ⟨(),trivial,aN.mk (by simp only[jG,aA,↓aR,seval]<;>rfl)⟩ (fun i x _ hx hlt bH hdr hinv=>?_) (fun _ hge hinv=>?_)
 case refine_2=>
  rw[dW]
  simp only[hge,aE,aA,seval,TU]
 have hxm:=cD hx
 obtain⟨c1,c2,c3,c4⟩:=hT x hxm
 have hw:=bL (n:=(i:Int)+1)
 have hat:=bD (av:=Tm.av) a8 hx (aH x)
 have gA:=WM (T:=T) hx
 have hsz:=CR (T:=T) (l:=l.take i) fun y hy=>(hT y (lB hy)).2.1
 have hsl:bK Tm.nodes (l.take i)≤bK Tm.nodes l:=S7 l i
 have hln:(l.take i).length≤10000:=by rw[dC];omega
 have hm:maxLen=9223372036854775807:=by rfl
 have hs1:(gT T (l.take i)).size+(⟨#[44]⟩:ByteArray).size≤maxLen:=by show _+1≤_;omega
 have hs2:(gT T (l.take i)++(⟨#[44]⟩:ByteArray)).size+(T x).size≤maxLen:=by rw[cL];show _+1+_≤_;omega
 have hs3:(gT T (l.take i)).size+(T x).size≤maxLen:=by omega
 by_cases h0:0<i
 · rw[aJ h0] at gA
   have h0':((0:Int)<(i:Int))=True:=cK (by omega)
   simp only[aE,hat,aT,aH,bH,h0',hs1,↓reduceIte,bF,aA,seval,TU]
   refine(c1 _).to ?_
   simp only[hs2,↓reduceIte,aA,seval]
   exact⟨(),aN.mk (by simp only[hw,gA,↓reduceIte,aA,seval])⟩
 · rw[aF h0] at gA
   have h0':((0:Int)<(i:Int))=False:=bU (by omega)
   simp only[aE,hat,aT,aH,bH,h0',↓reduceIte,bF,bP,aA,seval,TU]
   refine(c1 _).to ?_
   simp only[hs3,↓reduceIte,aA,seval]
   exact⟨(),aN.mk (by simp only[hw,gA,↓reduceIte,aA,seval])⟩
abbrev H5:=zi aX (zi cJ bQ)
theorem XU{T:Tm→ByteArray}(t:Tm)(hT:xL T t)(lv:Nat)(hlv:lv≤10)(st:aB):aD prog 300 [t.av,.int .i64 (lv:Int)] st (fun r st'=>r=.str (rO T t lv)∧st'=st):=by
 obtain⟨c1,c2,c3,c4⟩:=hT
 have hm:maxLen=9223372036854775807:=by rfl
 have hs1:(⟨#[40]⟩:ByteArray).size+(T t).size≤maxLen:=by show 1+_≤_;omega
 have hs2:((⟨#[40]⟩:ByteArray)++T t).size+(⟨#[41]⟩:ByteArray).size≤maxLen:=by rw[cL];show 1+_+1≤_;omega
 have hi:=XV t
 obtain⟨k,n,s,ts⟩:=t
 rw[show rO T (.mk k n s ts) lv=if(pK (.mk k n s ts)&&decide (lv<bY s))=true then(⟨#[40]⟩++T (.mk k n s ts))++⟨#[41]⟩ else T (.mk k n s ts) from rfl]
 generalize hTT:T (.mk k n s ts)=u at *
 simp only[aU] at hi c1 ⊢
 refine wF [1000000] 2 func300 ntmps300 rfl rfl ?_
 intro _
 simp only[aA,seval,H5]
 refine(hi _).to ?_
 cases hk:pK (.mk k n s ts) with
 | false=>
  rw[fB,aF (by decide)]
  simp only[aA,seval,H5]
  refine(c1 _).to ?_
  simp only[aA,seval]
 | true=>
  rw[dU]
  simp only[aA,seval,H5]
  refine(vS s _).to ?_
  by_cases h:lv<bY s
  · rw[eH h,aJ rfl]
    have h':((lv:Int)<(bY s:Int))=True:=cK (by omega)
    simp only[h',↓reduceIte,bF,aA,seval,H5]
    refine(c1 _).to ?_
    simp only[hs1,hs2,↓reduceIte,aA,seval]
  · rw[d6 h,aF (by decide)]
    have h':((lv:Int)<(bY s:Int))=False:=bU (by omega)
    simp only[h',↓reduceIte,bP,aA,seval,H5]
    refine(c1 _).to ?_
    simp only[↓reduceIte,aA,seval]
abbrev TT:=zi aX (zi cJ bQ)
theorem aT4{T:Tm→ByteArray}(t:Tm)(hT:xL T t)(lv:Nat)(hlv:lv≤10)(st:aB):aD prog 236 [t.av,.int .i64 (lv:Int)] st (fun r st'=>r=.str (r0 T t lv)∧st'=st):=by
 have hb:=XU t hT lv hlv
 obtain⟨c1,c2,c3,c4⟩:=hT
 have hm:maxLen=9223372036854775807:=by rfl
 have hs1:(⟨#[40]⟩:ByteArray).size+(T t).size≤maxLen:=by show 1+_≤_;omega
 have hs2:((⟨#[40]⟩:ByteArray)++T t).size+(⟨#[41]⟩:ByteArray).size≤maxLen:=by rw[cL];show 1+_+1≤_;omega
 have hi:=XW t
 unfold r0
 refine wF [1000000] 2 func236 ntmps236 rfl rfl ?_
 intro _
 simp only[aT,aH,cC,↓reduceIte,aA,seval,TT]
 refine(hi _).to ?_
 cases hk:BG t with
 | false=>
  rw[aF (by decide)]
  simp only[aT,aH,↓reduceIte,aA,seval,TT]
  refine(hb _).to ?_
  simp only[↓reduceIte,aA,seval]
 | true=>
  rw[aJ rfl]
  simp only[aT,aH,↓reduceIte,aA,seval,TT]
  refine(c1 _).to ?_
  simp only[↓reduceIte,hs1,hs2,aA,seval]
abbrev aOL:=zi aX (zi bZ (zi cJ bQ))
theorem aUA{T:Tm→ByteArray}(t:Tm)(hT:xL T t)(lv:Nat)(hlv:lv≤10)(st:aB):aD prog 238 [t.av,.int .i64 (lv:Int)] st (fun r st'=>r=.str (r9 T t lv)∧st'=st):=by
 have hb:=XU t hT lv hlv
 have hbs:=OM (T:=T) (t:=t) lv
 obtain⟨c1,c2,c3,c4⟩:=hT
 have hm:maxLen=9223372036854775807:=by rfl
 unfold r9
 generalize rO T t lv=u at *
 have hs1:(⟨#[40]⟩:ByteArray).size+u.size≤maxLen:=by show 1+_≤_;omega
 have hs2:((⟨#[40]⟩:ByteArray)++u).size+(⟨#[41]⟩:ByteArray).size≤maxLen:=by rw[cL];show 1+_+1≤_;omega
 have hi:=XW t
 have hpl:=aT7 u (by omega)
 refine wF [1000000] 2 func238 ntmps238 rfl rfl ?_
 intro _
 simp only[aT,aH,cC,↓reduceIte,aA,seval,aOL]
 refine(hb _).to ?_
 simp only[aT,aH,↓reduceIte,aA,seval,aOL]
 refine(hi _).to ?_
 cases hk:BG t with
 | true=>
  rw[vA,aJ rfl]
  simp only[↓reduceIte,hs1,hs2,aA,seval]
 | false=>
  rw[pU]
  simp only[↓reduceIte,aA,seval]
  refine(hpl _).to ?_
  cases hq:uT (sb u) with
  | true=>
   rw[aF (by decide)]
   simp only[↓reduceIte,aA,seval]
  | false=>
   rw[aJ (by decide)]
   simp only[↓reduceIte,hs1,hs2,aA,seval]
theorem FP{st:aB}{b q:Nat}{l:List AV}{o:AO}(hb:l≠[]→st b=none)(h:st q=some o):a7 st b l q=some o:=by
 cases l with
 | nil=>exact h
 | cons x l=>exact(aB.aM _ _ (by rintro rfl;have:=hb (by simp);rw[h] at this;cases this)).trans h
abbrev BN:=zi cJ (zi bS bQ)
set_option maxHeartbeats 1000000 in
theorem aT5{T:Tm→ByteArray}(n:Nat)(t:Tm)(hn:t.nodes≤n+1)(hws:Ws t)(wC:t.nodes≤1000)(hT:∀x,Ws x→x.nodes<t.nodes→xL T x)(hp:l7 t=true)(st:aB):aD prog 234 [t.av] st (fun r st'=>r=.str (yG T (spine n t))∧st'=st):=by
 obtain⟨q1,q2,q3⟩:=L8 n t hws
 obtain⟨e1,e2⟩:=S6 n t hn
 have dR:=S5 n t
 have hnp:=mO (spine n t).2
 have hne:1≤(spine n t).1.length:=by
  cases n with
  | zero=>obtain⟨m,x,y,rfl⟩:=wN hp;simp only[Tm.gK,bK] at hn;have:=mO x;omega
  | succ m=>unfold spine;rw[aJ hp];simp
 generalize spine n t=p at *
 obtain⟨its,tl⟩:=p
 simp only at q1 q2 q3 e1 e2 dR hnp hne
 have hTi:∀x∈its,xL T x:=fun x hx=>hT x (q1 x hx) (by have:=LQ hx;omega)
 have hTt:xL T tl:=hT tl q2 (by omega)
 have rW:=XT its hTi (by omega) (by omega)
 have P9:=CR (T:=T) (l:=its) fun x hx=>(hTi x hx).2.1
 obtain⟨c1,c2,c3,c4⟩:=hTt
 have hm:maxLen=9223372036854775807:=by rfl
 have hs1:(⟨#[91]⟩:ByteArray).size+(gT T its).size≤maxLen:=by show 1+_≤_;omega
 have hs2:((⟨#[91]⟩:ByteArray)++gT T its).size+(⟨#[93]⟩:ByteArray).size≤maxLen:=by rw[cL];show 1+_+1≤_;omega
 have hs3:((⟨#[91]⟩:ByteArray)++gT T its).size+(⟨#[124]⟩:ByteArray).size≤maxLen:=by rw[cL];show 1+_+1≤_;omega
 have hs4:(((⟨#[91]⟩:ByteArray)++gT T its)++(⟨#[124]⟩:ByteArray)).size+(T tl).size≤maxLen:=by rw[cL,cL];show 1+_+1+_≤_;omega
 have hs5:((((⟨#[91]⟩:ByteArray)++gT T its)++(⟨#[124]⟩:ByteArray))++T tl).size+(⟨#[93]⟩:ByteArray).size≤maxLen:=by rw[cL,cL,cL];show 1+_+1+_+1≤_;omega
 refine aD.oH ?_
 refine wF [1000000,1] 1 func234 ntmps234 rfl rfl ?_
 intro _
 simp only[cC,↓reduceIte,aA,seval,BN]
 intro b1 hb1
 have hD:=fun(o:AO)=>(aL.refl st).aC (o:=o) hb1
 refine oA (σ:=Unit) [1000000,1] [1,2] its 4 3 (fun i _=>(its.take i).map Tm.av) (fun _ _=>True) (fun i _=>[]) (fun i _=>st.aC b1 (.cells (pR i t).av.cells)) (fun i _ _ e he=>by simp only[cI] at he;obtain⟨x,_,rfl⟩:=he;exact⟨cC _,aH _⟩) (by decide +kernel) ⟨(),0,trivial,fun h=>absurd rfl h,aN.mk (by simp only[iK,jG,aV,↓reduceIte,aA,seval])⟩ (fun i x s b hx hlt bH hdr hinv hb=>?_) (fun s b hge hinv=>?_)
 case refine_1=>
  obtain⟨g1,g2⟩:=dR i x hx
  have hst:=S4 i t
  generalize pR i t=u at *
  have hpu:=J0 u
  rw[g1] at hpu
  obtain⟨m,y,z,rfl⟩:=wN g1
  rw[tF.1] at g2
  rw[tF.2] at hst
  subst g2
  have hcs:(Tm.mk 3 m ⟨#[46]⟩ [y,z]).av.cells= [.int .i64 3,.int .i64 m,.str ⟨#[46]⟩,.slice [y.av,z.av]]:=by rw[aU];try rfl
  rw[hcs] at hb ⊢
  have hlk:a7 (st.aC b1 (.cells [.int .i64 3,.int .i64 m,.str ⟨#[46]⟩,.slice [y.av,z.av]])) b ((its.take i).map Tm.av) b1=some (.cells [.int .i64 3,.int .i64 m,.str ⟨#[46]⟩,.slice [y.av,z.av]]):=FP hb (aB.aO _ _ _)
  have hi0:=bD (av:=Tm.av) (l:=[y,z]) (i:=0) a8 rfl (aH y)
  have hi1:=bD (av:=Tm.av) (l:=[y,z]) (i:=1) a8 rfl (aH z)
  rw[show((0:Nat):Int)=0 from rfl] at hi0
  rw[show((1:Nat):Int)=1 from rfl] at hi1
  have cF:((its.take i).map Tm.av).length=i:=by simp only[aE,dC];omega
  have htk:(its.take i).map Tm.av++ [y.av]=(its.take (i+1)).map Tm.av:=by rw[eA,hx];simp
  rw[hst]
  simp only[aU,aZ,aV] at hlk hpu hi0 hi1 hb ⊢
  have hLw:∀e∈(its.take i).map Tm.av,e.width=4:=dS _
  generalize (its.take i).map Tm.av=L at *
  simp only[↓reduceIte,hlk,aA,seval,BN]
  refine(hpu _).to ?_
  simp only[aT,aH,cC,↓reduceIte,hlk,hi0,aA,seval,BN]
  refine eD a8 fW fX rfl rfl (eO (aH _) (bT _)) (fun e he=>hLw e he) hb (by simp only[cF,aS,aW];omega) (by simp only[cF,aS,aW];omega) (fun b' hb'=>?_)
  rw[htk] at hb' ⊢
  have a00:=FP (l:=(its.take (i+1)).map Tm.av) hb' (aB.aO st b1 (.cells [.int .i64 3,.int .i64 m,.str ⟨#[46]⟩,.slice [y.av,z.av]]))
  have hnb:(its.take (i+1)).map Tm.av≠[]→b1≠b':=fun h=>by rintro rfl;have:=hb' h;rw[aB.aO] at this;cases this
  have hup:=fun o=>o9 (st:=st.aC b1 (.cells [.int .i64 3,.int .i64 m,.str ⟨#[46]⟩,.slice [y.av,z.av]])) (o:=o) hnb
  simp only[aK,aT,aH,bT,bR,↓reduceIte,a00,hi1,hup,cY,aA,seval,BN]
  exact⟨(),b',fun h=>by have:=hb' h;rw[aB.aM _ _ (c7 (hnb h))] at this ⊢;exact this,aN.mk (by simp only[↓reduceIte,aA,seval])⟩
 rw[dW,←e1]
 have hpt:=J0 tl
 rw[e2] at hpt
 have hnt:=aTT tl
 simp only[iD,GD,kF,aV,bR,eJ (bR _),eE (aT _),↓reduceIte,aA,seval,BN]
 refine(hpt _).to ?_
 simp only[bR,eJ (bR _),eE (aT _),↓reduceIte,aA,seval,BN]
 refine(hnt _).to ?_
 unfold yG
 cases hnk:A1 tl with
 | true=>
  rw[aJ rfl]
  simp only[↓reduceIte,aA,seval]
  refine(rW _).to ?_
  simp only[↓reduceIte,hs1,hs2,aA,seval]
  exact hD _
 | false=>
  rw[aF (by decide)]
  simp only[↓reduceIte,aA,seval]
  refine wP [(0,1),(1,2),(2,1),(3,1),(4,2),(5,2),(6,1),(7,1),(8,1)] [0,1,2,3,4,5,6,7,8] mixed ?_
  simp only[↓reduceIte,aA,seval]
  refine fK (rW _) ?_
  simp only[bR,eJ (bR _),eE (aT _),↓reduceIte,hs1,hs3,aA,seval,BN]
  refine fK (c1 _) ?_
  simp only[↓reduceIte,hs4,hs5,aA,seval]
  exact hD _
abbrev tO:=zi aX (zi cJ (zi bS bQ))
set_option maxHeartbeats 1000000 in
theorem XY:∀(n:Nat) (t:Tm) (st:aB),Ws t→t.nodes≤n→t.nodes≤1000→aD prog 148 [t.av] st (fun r st'=>r=.str (tx n t)∧st'=st):=by
 intro n
 induction n with
 | zero=>intro t st _ h;have:=mO t;omega
 | succ n IH=>
 intro t st hws hn wC
 have hsz:=BR (n+1) t hws
 have hT:∀x,Ws x→x.nodes<t.nodes→xL (tx n) x:=fun x hx hlt=>⟨fun st=>IH x st hx (by omega) (by omega),BR n x hx,UK hx (by have:=mO x;omega),by omega⟩
 have hpt:=J0 t
 have hit:=XV t
 have a0Z:=aT5 (T:=tx n) n t hn hws wC hT
 have hm:maxLen=9223372036854775807:=by rfl
 unfold tx at hsz ⊢
 refine wF [1000000] 1 func148 ntmps148 rfl rfl ?_
 intro _
 simp only[aT,aH,cC,↓reduceIte,aA,seval,tO]
 refine(hpt _).to ?_
 cases hp:l7 t with
 | true=>
  rw[aJ rfl]
  simp only[aT,aH,↓reduceIte,aA,seval,tO]
  refine(a0Z hp _).to ?_
  simp only[↓reduceIte,aA,seval]
 | false=>
  rw[hp] at hsz
  rw[aF (by decide)] at hsz ⊢
  simp only[aT,aH,↓reduceIte,aA,seval,tO]
  refine(hit _).to ?_
  cases hi:pK t with
  | true=>
   rw[hi] at hsz
   rw[aJ rfl] at hsz ⊢
   obtain⟨m,s,x,y,rfl,hs⟩:=G4 hi
   have hk:=hws.own.2
   have hxl:x.nodes<(Tm.mk 3 m s [x,y]).nodes:=by simp only[Tm.gK,bK];have:=mO y;omega
   have hyl:y.nodes<(Tm.mk 3 m s [x,y]).nodes:=by simp only[Tm.gK,bK];have:=mO x;omega
   have hx:=hT x (hk x (by simp)) hxl
   have hy:=hT y (hk y (by simp)) hyl
   rw[tF.1,tF.2,show(Tm.mk 3 m s [x,y]).s=s from rfl] at hsz ⊢
   have h6:s.size≤6:=hws.size.1
   have hl3:bY s≤3:=by unfold bY;cases (decide (s=⟨#[61]⟩)||decide (s=⟨#[92,61]⟩)||decide (s=⟨#[61,61]⟩)||decide (s=⟨#[60]⟩)||decide (s=⟨#[62]⟩)||decide (s=⟨#[61,60]⟩)||decide (s=⟨#[62,61]⟩)||decide (s=⟨#[61,58,61]⟩)||decide (s=⟨#[105,115]⟩))<;>cases (decide (s=⟨#[43]⟩)||decide (s=⟨#[45]⟩))<;>cases (decide (s=⟨#[42]⟩)||decide (s=⟨#[47,47]⟩)||decide (s=⟨#[109,111,100]⟩))<;>decide
   have hll:lvl (bY s)≤10:=by unfold lvl;split<;>omega
   have cl:=aT4 x hx (lvl (bY s)) hll
   have cr:=aUA y hy (bY s - 1) (by omega)
   have csp:=aUB s (by omega)
   have clv:=vS s
   rw[cL,cL] at hsz
   generalize hA:r0 (tx n) x (lvl (bY s))=A at *
   generalize hB:r9 (tx n) y (bY s - 1)=B at *
   generalize n7 s=C at *
   have hs1:A.size+C.size≤maxLen:=by omega
   have hs2:(A++C).size+B.size≤maxLen:=by rw[cL];omega
   have hi0:=bD (av:=Tm.av) (l:=[x,y]) (i:=0) a8 rfl (aH x)
   have hi1:=bD (av:=Tm.av) (l:=[x,y]) (i:=1) a8 rfl (aH y)
   rw[show((0:Nat):Int)=0 from rfl] at hi0
   rw[show((1:Nat):Int)=1 from rfl] at hi1
   simp only[aU,aZ,aV] at hi0 hi1 ⊢
   generalize hL:bY s=L at *
   obtain⟨L1,hL1⟩:∃L1,L1=L - 1:=⟨_,rfl⟩
   have hw:=mW (x:=(L:Int) - 1) (m:=L1) (by omega) (by omega)
   rw[←hL1] at cr
   by_cases h3:L=3
   case' pos=>
    have h3':((L:Int)=3)=True:=cK (by omega)
    have hlv:lvl L=2:=by unfold lvl;rw[aJ h3]
   case' neg=>
    have h3':((L:Int)=3)=False:=bU (by omega)
    have hlv:lvl L=L:=by unfold lvl;rw[aF h3]
   all_goals
    rw[hlv] at cl
    simp only[↓reduceIte,aA,seval,tO]
    refine(clv _).to ?_
    simp only[↓reduceIte,h3',bF,bP,aA,seval]
    refine wP [(0,1),(4,1),(6,1),(10,1),(14,1),(15,1),(1,2),(2,1),(3,2),(5,2),(7,2),(8,2),(9,1),(11,2),(12,1),(13,2),(16,2),(17,1),(18,1)] [0,4,6,10,14,15,1,2,3,5,7,8,9,11,12,13,16,17,18] mixed ?_
    simp only[aT,aH,↓reduceIte,hi0,hw,aA,seval,tO]
    refine fK (cl _) ?_
    simp only[↓reduceIte,aA,seval,tO]
    refine fK (csp _) ?_
    simp only[aT,aH,↓reduceIte,hi1,hs1,aA,seval,tO]
    refine fK (cr _) ?_
    simp only[↓reduceIte,hs2,aA,seval]
  | false=>
   rw[hi] at hsz
   rw[aF (by decide)] at hsz ⊢
   cases ha:zW t with
   | true=>
    rw[ha] at hsz
    rw[aJ rfl] at hsz ⊢
    obtain⟨k,m,s,ts⟩:=t
    rw[FS,cB,bO,bO] at ha
    obtain⟨rfl,h0⟩:=ha
    have h0':((0:Int)<(ts.length:Int))=True:=cK (by omega)
    simp only[Tm.s,Tm.ts] at hsz ⊢
    simp only[Tm.gK] at hn wC hT hsz
    have hk:=hws.own.2
    have h4:ts.length≤4:=by rcases yJ hws.own.1 with h | h | h<;>omega
    have rW:=XT (T:=tx n) ts (fun x hx=>hT x (hk x hx) (by have:=LQ hx;omega)) (by omega) (by omega)
    rw[cL,cL,cL] at hsz
    generalize gT (tx n) ts=A at *
    have a92:s.size+A.size≤100000:=by omega
    have hs1:s.size+(⟨#[40]⟩:ByteArray).size≤maxLen:=by show _+1≤_;omega
    have hs2:(s++(⟨#[40]⟩:ByteArray)).size+A.size≤maxLen:=by rw[cL];show _+1+_≤_;omega
    have hs3:((s++(⟨#[40]⟩:ByteArray))++A).size+(⟨#[41]⟩:ByteArray).size≤maxLen:=by rw[cL,cL];show _+1+_+1≤_;omega
    simp only[aU]
    simp only[↓reduceIte,h0',aE,bF,aA,seval,tO]
    refine wP [(0,1),(3,1),(1,2),(2,1),(4,2),(5,2),(6,1),(7,1),(8,1)] [0,3,1,2,4,5,6,7,8] mixed ?_
    simp only[↓reduceIte,hs1,aA,seval,tO]
    refine fK (rW _) ?_
    simp only[↓reduceIte,hs2,hs3,aA,seval]
   | false=>
    rw[aF (by decide)]
    have hl:=aT2 t hws (fun h=>by
     obtain⟨k,m,s,ts⟩:=t
     rw[FS,show k=3 from h] at ha
     simp only[bF,dU,dB] at ha
     exact I6.1 (by show ts.length=0;omega))
    generalize wK t=A at *
    obtain⟨k,m,s,ts⟩:=t
    rw[FS] at ha
    simp only[aU] at hl ⊢
    by_cases hk:k=3
    case pos=>
     rw[hk] at ha hl ⊢
     simp only[bF,dU,dB] at ha
     have h0':((0:Int)<(ts.length:Int))=False:=bU (by omega)
     simp only[↓reduceIte,h0',aE,bF,bP,aA,seval,tO]
     refine(hl _).to ?_
     simp only[↓reduceIte,aA,seval]
    case neg=>
     have hk':=bU hk
     simp only[↓reduceIte,hk',bP,aA,seval,tO]
     refine(hl _).to ?_
     simp only[↓reduceIte,aA,seval]
end Go.AW
namespace Go.AW
def rA(t:Tm):ByteArray:=tx 130 t
def uC(T:Tm→ByteArray)(h:ByteArray):List Tm→ByteArray
 | []=>h
 | x::xs=>xs.foldl (fun o y=>(o++⟨#[44]⟩)++T y) ((h++⟨#[58,45]⟩)++T x)
def PB(c:Cl):ByteArray:=uC rA (rA c.1) c.2++⟨#[46]⟩
def fmtC(c:Cl):ByteArray:=if lT c then PB c else⟨#[]⟩
def HI(l:List UInt8):lE:=fun a=>rd l (4*l.length+4) 30 a 3
def sZ(l:List UInt8):Nat→Nat→List Tm→Option (List Tm×Nat)
 | 0,_,_=>none
 | m+1,a,acc=>match HI l a with
  | none=>none
  | some (t,e)=>if cT l e 44 then sZ l m (e+1) (acc++ [t]) else some (acc++ [t],e)
def sV(l:List UInt8):Option (Cl×Nat):=
 match HI l 0 with
 | none=>none
 | some (h,e)=>if(cT l e 58&&cT l (e+1) 45)=true then match sZ l 7 (e+2) [] with
  | none=>none
  | some (b,e2)=>some ((h,b),e2)
  else some ((h,[]),e)
def oQ(l:List UInt8):Option Cl:=match sV l with
 | none=>none
 | some (c,e)=>if l.length≤1000∧e+1=l.length∧cT l e 46=true∧sb (fmtC c)=l then some c else none
def nT(c:Nat):List UInt8→List UInt8→List (List UInt8)
 | [],acc=>[acc]
 | x::l,acc=>if x.toNat=c then acc::nT c l [] else nT c l (acc++ [x])
def AX:List (List UInt8)→List Cl→Option (List Cl)
 | [],acc=>some acc
 | l::ls,acc=>match oQ l with
  | none=>none
  | some c=>AX ls (acc++ [c])
def yK(l:List UInt8):Option (List Cl):=
 let ls:=nT 10 l []
 if 21<ls.length∨ls.getLast?≠some [] then none else AX ls.dropLast []
def nC(l:List UInt8):Option (List Tm):=match sZ l 7 0 [] with
 | none=>none
 | some (g,e)=>if l.length≤1000∧e=l.length∧gX g=true then some g else none
theorem aR5{T:Tm→ByteArray}{h:ByteArray}{l:List Tm}{i:Nat}{x:Tm}(hx:l[i]?=some x):uC T h (l.take (i+1))=(if i=0 then uC T h (l.take i)++⟨#[58,45]⟩ else uC T h (l.take i)++⟨#[44]⟩)++T x:=by
 rw[eA,hx]
 cases l with
 | nil=>simp at hx
 | cons y l=>
  cases i with
  | zero=>simp at hx;subst hx;rfl
  | succ i=>
   rw[aF (by omega),vD]
   simp only[uC,B7,fC,I5,tX,List.foldl_nil]
theorem WW{T:Tm→ByteArray}{h:ByteArray}{l:List Tm}{m:Nat}(hT:∀x∈l,(T x).size≤m):(uC T h l).size≤h.size+l.length*(m+2):=by
 have hg:∀(xs:List Tm) (o:ByteArray),(∀x∈xs,(T x).size≤m)→(xs.foldl (fun o y=>(o++⟨#[44]⟩)++T y) o).size≤o.size+xs.length*(m+2):=by
  intro xs
  induction xs with
  | nil=>intro o _;simp
  | cons x xs ih=>
   intro o hx
   refine jP (ih _ fun y hy=>hx y (by simp [hy])) ?_
   rw[cL,cL]
   have:=hx x (by simp)
   simp only[aS,oY]
   show o.size+1+_+_≤_
   omega
 cases l with
 | nil=>simp [uC]
 | cons x l=>
  refine jP (hg l _ fun y hy=>hT y (by simp [hy])) ?_
  rw[cL,cL]
  have:=hT x (by simp)
  simp only[aS,oY]
  show h.size+2+_+_≤_
  omega
theorem aPQ{t:Tm}(h:t.valid=true):Ws t∧t.nodes≤120:=by
 simp only[Tm.valid,cB,bO] at h
 exact⟨⟨_,h.1⟩,h.2⟩
theorem P2{t:Tm}(h:t.goal=true):t.valid=true:=by
 obtain⟨k,n,s,ts⟩:=t
 simp only[Tm.goal,cB] at h
 exact h.1
theorem aV5{c:Cl}(h:lT c=true):(Ws c.1∧c.1.nodes≤120)∧c.2.length≤6∧∀x∈c.2,Ws x∧x.nodes≤120:=by
 simp only[lT,cB,bO,dQ] at h
 exact⟨aPQ h.1.1,h.2.1,fun x hx=>aPQ (P2 (h.2.2 x hx))⟩
theorem KZ{l:List UInt8}(hl:l.length≤1000):∀(m a:Nat) (acc ts:List Tm) (e:Nat),a≤l.length→(∀x∈acc,Dn x)→sZ l m a acc=some (ts,e)→a<e∧e≤l.length∧(∀x∈ts,Dn x)∧ts.length≤acc.length+m:=by
 intro m
 induction m with
 | zero=>intro a acc ts e _ _ h;cases h
 | succ m ih=>
  intro a acc ts e ha oJ h
  unfold sZ at h
  split at h
  · cases h
  rename_i t e1 h1
  obtain⟨h2,h3,h4⟩:=BA hl _ _ _ a t e1 ha h1
  have GJ:∀x∈acc++ [t],Dn x:=by intro x hx;rw[fQ] at hx;rcases hx with hx | hx;exact oJ x hx;rw[E8] at hx;subst hx;exact h4
  split at h
  · rename_i h5
    have h6:=oN h5
    obtain⟨g1,g2,g3,g4⟩:=ih (e1+1) _ ts e (by omega) GJ h
    rw[dM,NT] at g4
    exact⟨by omega,g2,g3,by omega⟩
  · cases h
    exact⟨h2,h3,GJ,by rw[dM,NT];omega⟩
abbrev uE (c:Cl):Prop:=Dn c.1∧c.2.length≤7∧∀x∈c.2,Dn x
theorem KB{l:List UInt8}(hl:l.length≤1000){c:Cl}{e:Nat}(h:sV l=some (c,e)):0<e∧e≤l.length∧uE c:=by
 unfold sV at h
 split at h
 · cases h
 rename_i t e1 h1
 obtain⟨h2,h3,h4⟩:=BA hl _ _ _ 0 t e1 (jH _) h1
 split at h
 · rename_i h5
   rw[cB] at h5
   have h6:=oN h5.2
   split at h
   · cases h
   rename_i b e2 h7
   obtain⟨g1,g2,g3,g4⟩:=KZ hl _ _ _ _ _ (by omega) (by simp) h7
   cases h
   exact⟨by omega,g2,h4,by rw[aW] at g4;show b.length≤7;omega,g3⟩
 · cases h
   exact⟨h2,h3,h4,by show 0≤7;omega,by intro x hx;cases hx⟩
theorem aMG{l:List UInt8}{c:Cl}(h:oQ l=some c):uE c∧lT c=true:=by
 unfold oQ at h
 split at h
 · cases h
 rename_i c' e h1
 split at h
 · rename_i h2
   cases h
   refine⟨(KB h2.1 h1).2.2,?_⟩
   have h3:=h2.2.2.2
   unfold fmtC at h3
   split at h3
   · assumption
   · have:=fE List.length h3
     simp at this
     omega
 · cases h
theorem Y8(c:Nat):∀(l acc:List UInt8),nT c l acc≠[]
 | [],acc=>by simp [nT]
 | x::l,acc=>by unfold nT;split<;>simp [Y8 c l]
theorem PD(c:Nat):∀(l acc:List UInt8),(nT c l acc).length≤l.length+1
 | [],acc=>by simp [nT]
 | x::l,acc=>by unfold nT;split;have:=PD c l [];simp only[aS];omega;have:=PD c l (acc++ [x]);simp only[aS];omega
end Go.AW
namespace Go.AW
open Go.Proofs.Tryz
theorem YN{t:Tm}(h:Ws t∧t.nodes≤120)(st:aB):aD prog 148 [t.av] st (fun r st'=>r=.str (rA t)∧st'=st):=XY 130 t st h.1 (by omega) (by omega)
theorem NA{t:Tm}(h:Ws t∧t.nodes≤120):(rA t).size≤3840:=by have:=BR 130 t h.1;unfold rA;omega
abbrev MR:=zi aX (zi cJ (zi bS (zi bQ mB)))
set_option maxHeartbeats 1000000 in
theorem aUI(c:Cl)(hc:(Ws c.1∧c.1.nodes≤120)∧c.2.length≤6∧∀x∈c.2,Ws x∧x.nodes≤120)(st:aB):aD prog 328 [bX c] st (fun r st'=>r=.str (PB c)∧st'=st):=by
 obtain⟨⟨k,n,s,ks⟩,ts⟩:=c
 obtain⟨hh,hl,hb⟩:=hc
 simp only at hh hl hb
 have hhd:=fun st=>YN hh st
 have hhs:=NA hh
 unfold PB
 simp only
 generalize rA (.mk k n s ks)=H at *
 simp only[aU] at hhd
 simp only[gN]
 have hm:maxLen=9223372036854775807:=by rfl
 refine wF [1000000] 1 func328 ntmps328 rfl rfl ?_
 intro _
 simp only[aA,seval,MR]
 refine(hhd _).to ?_
 simp only[aA,seval]
 refine dV (σ:=Unit) [1000000] [1,2] ts (fun i _=>True) (fun i _=>[(3,.str (uC rA H (ts.take i))),(4,.int .i64 i)]) (fun _ _=>st) (by decide +kernel) ⟨(),trivial,aN.mk (by simp only[jG,aA,↓aR,seval]<;>rfl)⟩ (fun i x _ hx hlt bH hdr hinv=>?_) (fun _ hge hinv=>?_)
 case refine_2=>
  rw[dW]
  have hsz:=WW (T:=rA) (h:=H) (l:=ts) (m:=3840) fun x hx=>NA (hb x hx)
  have hs:(uC rA H ts).size+(⟨#[46]⟩:ByteArray).size≤maxLen:=by
   have:ts.length*(3840+2)≤6*3842:=pX _ hl
   show _+1≤_;omega
  simp only[aE,hge,hs,↓reduceIte,aA,seval,MR]
 have hxm:=cD hx
 have c1:=fun st=>YN (hb x hxm) st
 have c2:=NA (hb x hxm)
 have hw:=bL (n:=(i:Int)+1)
 have hat:=bD (av:=Tm.av) a8 hx (aH x)
 have gA:=aR5 (T:=rA) (h:=H) hx
 have hsz:=WW (T:=rA) (h:=H) (l:=ts.take i) (m:=3840) fun y hy=>NA (hb y (lB hy))
 have hln:(ts.take i).length*(3840+2)≤6*3842:=pX _ (by rw[dC];omega)
 generalize uC rA H (ts.take i)=B at *
 generalize rA x=X at *
 have hs1:B.size+(⟨#[44]⟩:ByteArray).size≤maxLen:=by show _+1≤_;omega
 have hs2:(B++(⟨#[44]⟩:ByteArray)).size+X.size≤maxLen:=by rw[cL];show _+1+_≤_;omega
 have hs3:B.size+(⟨#[58,45]⟩:ByteArray).size≤maxLen:=by show _+2≤_;omega
 have hs4:(B++(⟨#[58,45]⟩:ByteArray)).size+X.size≤maxLen:=by rw[cL];show _+2+_≤_;omega
 by_cases h0:i=0
 · rw[aJ h0] at gA
   have h0':((i:Int)=0)=True:=cK (by omega)
   simp only[aE,hat,aT,aH,bH,h0',hs3,↓reduceIte,bF,aA,seval,MR]
   refine(c1 _).to ?_
   simp only[hs4,↓reduceIte,aA,seval]
   exact⟨(),aN.mk (by simp only[hw,gA,↓reduceIte,aA,seval])⟩
 · rw[aF h0] at gA
   have h0':((i:Int)=0)=False:=bU (by omega)
   simp only[aE,hat,aT,aH,bH,h0',hs1,↓reduceIte,bF,bP,aA,seval,MR]
   refine(c1 _).to ?_
   simp only[hs2,↓reduceIte,aA,seval]
   exact⟨(),aN.mk (by simp only[hw,gA,↓reduceIte,aA,seval])⟩
abbrev TX:=zi bZ (zi cJ mB)
theorem OP(c:Cl)(st:aB):aD prog 284 [bX c] st (fun r st'=>r=.str (fmtC c)∧st'=st):=by
 have hv:=YJ c
 unfold fmtC
 cases h:lT c with
 | true=>
  rw[h] at hv
  have ht:=aUI c (aV5 h)
  rw[aJ rfl]
  obtain⟨⟨k,n,s,ks⟩,ts⟩:=c
  simp only[gN] at hv ht ⊢
  refine wF [1000000] 1 func284 ntmps284 rfl rfl ?_
  intro _
  simp only[aA,seval,TX]
  refine(hv _).to ?_
  simp only[aA,seval,TX]
  refine(ht _).to ?_
  simp only[aA,seval]
 | false=>
  rw[h] at hv
  rw[aF (by decide)]
  obtain⟨⟨k,n,s,ks⟩,ts⟩:=c
  simp only[gN] at hv ⊢
  refine wF [1000000] 1 func284 ntmps284 rfl rfl ?_
  intro _
  simp only[aA,seval,TX]
  refine(hv _).to ?_
  simp only[aA,seval]
theorem YE{s:ByteArray}(hs:s.size≤1000)(a:Nat)(ha:a≤s.size)(st:aB):aD prog 282 [.str s,.int .i64 (a:Int),.int .i64 30,.int .i64 3] st (fun r st'=>mF (HI (sb s) a) r∧st'=st):=
 aT9 hs (4*(sb s).length+4) 30 a 3 st ha (by omega) (by omega) (by rw[cQ];omega)
def sI(o:Option (List Tm×Nat))(r:AV):Prop:=match o with | some (ts,e)=>r=.tup [.slice (ts.map Tm.av),.int .i64 (e:Int)] | none=>r=.tup [.slice [],.int .i64 (-1)]
abbrev TW:=zi aX (zi bZ (zi kU (zi y6 (zi cJ (zi bS bQ)))))
set_option maxHeartbeats 1000000 in
theorem X1{s:ByteArray}(hs:s.size≤1000)(a:Nat)(ha:a≤s.size)(st:aB):aD prog 220 [.str s,.int .i64 (a:Int)] st (fun r st'=>sI (sZ (sb s) 7 a []) r∧st'=st):=by
 generalize hT:sZ (sb s) 7 a []=T
 refine aD.drop (Q:=sI T) (aD.fin ?_)
 refine wF [1000000] 2 func220 ntmps220 rfl rfl ?_
 intro _
 simp only[aA,seval,TW]
 refine iG (σ:=Nat×List Tm×Nat×Nat) [1000000] [0] (fun x=>sZ (sb s) x.2.2.1 x.1 x.2.1=T∧x.1≤s.size∧x.2.1.length+x.2.2.1=7∧(x.2.1.map Tm.av≠[]→st x.2.2.2=none)) (fun x=>[(1,.int .i64 (x.1:Int)),(4,.fslice []),(5,.int .i64 0),(6,bE 4 x.2.2.2 (x.2.1.map Tm.av))]) (fun x=>a7 st x.2.2.2 (x.2.1.map Tm.av)) (fun x=>x.2.2.1) (by decide +kernel) ⟨(a,[],7,0),⟨hT,ha,rfl,by simp⟩,aN.mk (by simp only[aV,iK,aA,seval])⟩ ?_
 rintro⟨i,acc,m,b⟩ ⟨ht,hi,hlen,hb⟩
 simp only at ht hi hlen hb ⊢
 have fin:∀(l:List Tm) (b':Nat) (r':AV),(l.map Tm.av≠[]→st b'=none)→sI T (r'.fin b' (l.map Tm.av))→∃b2 l2 s0,a7 st b' (l.map Tm.av)=a7 s0 b2 l2∧(l2≠[]→s0 b2=none)∧(∀e∈l2,e.cE=false)∧iI l2∧aL s0 st∧sI T (r'.fin b2 l2):=fun l b' r' h1 h2=>⟨b',_,st,rfl,h1,iM _,⟨4,dS _⟩,aL.refl _,h2⟩
 have hTn:T=none→∀(b':Nat) (l:List AV),sI T ((AV.tup [.fslice [],.int .i64 (-1)]).fin b' l):=by
  rintro rfl b' l
  simp only[sI,jS,dZ,nW,aZ,aV]
 have hln:(acc.map Tm.av).length=acc.length:=aE _
 have hal:=t7 (P:=prog) (b:=b) (w:=4) (l:=acc.map Tm.av) UL
 rw[hln] at hal
 by_cases h6:acc.length≤6
 case neg=>
  have h6':((acc.length:Int)≤6)=False:=bU (by omega)
  obtain rfl:m=0:=by omega
  simp only[hal,h6',bP,aA,seval]
  exact fin _ _ _ hb (hTn ht.symm _ _)
 have h6':((acc.length:Int)≤6)=True:=cK (by omega)
 obtain⟨m,rfl⟩:∃m',m=m'+1:=⟨m - 1,by omega⟩
 simp only[sZ] at ht
 simp only[hal,h6',bF,aA,seval]
 refine(YE hs i hi _).mono ?_
 rintro r _ ⟨hr,rfl⟩
 cases hRi:HI (sb s) i with
 | none=>
  rw[hRi] at ht hr
  obtain⟨k,hk,rfl⟩:=hr
  have hk0:((-1 - (k:Int))<0)=True:=cK (by omega)
  simp only[aH,bT,cC,hk0,lH,bF,aA,↓aR,seval,TW]
  exact fin _ _ _ hb (hTn ht.symm _ _)
 | some p=>
  obtain⟨t,e⟩:=p
  rw[hRi] at ht hr
  simp only at ht
  obtain⟨g1,g2,g3⟩:=BA (by rw[cQ];exact hs) _ _ _ i t e (by rw[cQ];exact hi) hRi
  rw[cQ] at g2
  simp only[mF] at hr
  subst hr
  have he0:((e:Int)<0)=False:=bU (by omega)
  simp only[aT,aH,bT,cC,he0,iW,tQ,bP,aA,↓aR,seval,TW]
  refine eD a8 fW fX rfl rfl (eO (aH _) (bT _)) (dS _) hb (by simp only[aE,aS,aW];omega) (by simp only[aE,aS,aW];omega) (fun b' hb'=>?_)
  rw[show acc.map Tm.av++ [t.av]=(acc++ [t]).map Tm.av by simp] at hb' ⊢
  have hw1:=bL (n:=(e:Int)+1)
  simp only[aA,seval]
  refine(k0 s e 44 _).to ?_
  cases h3:cT (sb s) e 44 with
  | true=>
   have h4:=oN h3
   rw[cQ] at h4
   rw[h3,aJ rfl] at ht
   simp only[hw1,aA,seval]
   refine⟨(e+1,acc++ [t],m,b'),by simp only;omega,⟨ht,by simp only;omega,by simp only[dM,aS,aW];omega,hb'⟩,aN.mk (by simp only[aA,seval]<;>rfl)⟩
  | false=>
   rw[h3,aF (by decide)] at ht
   simp only[nQ,iW,tQ,aA,seval]
   refine fin _ _ _ hb' ?_
   subst ht
   simp only[sI,jS,dZ,kF,aZ,aV]
abbrev cl0:Cl:=(IK,[])
def zE(o:Option Cl):AV:=match o with | some c=>.tup [bX c,.bool true] | none=>.tup [bX cl0,.bool false]
theorem rP:(AV.tup [.agg [.int .i64 0,.int .i64 0,.str ⟨#[]⟩,.fslice [],.fslice []],.bool false]).soft=zE none:=by simp only[zE,gN,jC,iT,jN,oT,k8,k7,aZ,aV]
theorem PC(c:Cl):(AV.tup [bX c,.bool true]).soft=zE (some c):=by
 obtain⟨⟨k,n,s,ks⟩,ts⟩:=c
 simp only[zE,gN,jC,iT,jN,oT,k8,nG,aZ,aV]
theorem wO{l:List UInt8}{c:Cl}{e:Nat}(h:sV l=some (c,e))(h1:¬(l.length≤1000∧e+1=l.length∧cT l e 46=true∧sb (fmtC c)=l)):oQ l=none:=by
 unfold oQ
 rw[h]
 simp only
 rw[aF h1]
theorem SD{l:List UInt8}{c:Cl}{e:Nat}(h:sV l=some (c,e))(h1:l.length≤1000∧e+1=l.length∧cT l e 46=true∧sb (fmtC c)=l):oQ l=some c:=by
 unfold oQ
 rw[h]
 simp only
 rw[aJ h1]
theorem SX{a b:ByteArray}(h:sb a=sb b):a=b:=by rw[←WQ a,←WQ b,h]
abbrev jO:=zi aX (zi bZ (zi kU (zi y6 (zi cJ (zi bS (zi T9 (zi bQ mB)))))))
set_option maxHeartbeats 2000000 in
theorem aSU(s:ByteArray)(st:aB):aD prog 218 [.str s] st (fun r st'=>r=zE (oQ (sb s))∧st'=st):=by
 refine aD.done ?_
 refine wF [1000000,6] 1 func218 ntmps218 rfl rfl ?_
 intro _
 simp only[aA,seval,jO]
 intro b2 hb2
 have hD:=fun(o:AO)=>(aL.refl st).aC (o:=o) hb2
 by_cases hs:s.size≤1000
 case neg=>
  have hs':((1000:Int)<(s.size:Int))=True:=cK (by omega)
  have hP:oQ (sb s)=none:=by
   unfold oQ
   split
   · rfl
   · rw[aF fun h=>hs (by rw[←cQ];exact h.1)]
  rw[hP]
  simp only[aK,hs',bF,aA,seval,jO]
  exact⟨rP,hD _⟩
 have hs':((1000:Int)<(s.size:Int))=False:=bU (by omega)
 have h0:=fun st=>YE hs 0 (jH _) st
 rw[show((0:Nat):Int)=0 from rfl] at h0
 simp only[hs',bP,aA,seval]
 refine(h0 _).mono ?_
 rintro r _ ⟨hr,rfl⟩
 cases hRi:HI (sb s) 0 with
 | none=>
  have hP:oQ (sb s)=none:=by unfold oQ sV;rw[hRi]
  rw[hP]
  rw[hRi] at hr
  obtain⟨k,hk,rfl⟩:=hr
  have hk0:((-1 - (k:Int))<0)=True:=cK (by omega)
  simp only[aK,aH,bT,cC,hk0,lH,bF,aA,↓aR,seval,jO]
  exact⟨rP,hD _⟩
 | some p=>
  obtain⟨⟨hk,hn,hsn,hts⟩,e⟩:=p
  rw[hRi] at hr
  simp only[mF,aU] at hr
  subst hr
  obtain⟨g1,g2,g3⟩:=BA (by rw[cQ];exact hs) _ _ _ 0 _ e (jH _) hRi
  rw[cQ] at g2
  have he0:((e:Int)<0)=False:=bU (by omega)
  obtain⟨f1,hf1⟩:∃f1,f1=e+1:=⟨_,rfl⟩
  obtain⟨f2,hf2⟩:∃f2,f2=e+2:=⟨_,rfl⟩
  have hw1:=mW (x:=(e:Int)+1) (m:=f1) (by omega) (by omega)
  have hw2:=mW (x:=(e:Int)+2) (m:=f2) (by omega) (by omega)
  simp only[aK,he0,bP,aA,↓aR,seval,jO]
  intro b6 h6
  have hbb:b6≠b2:=fun h=>by rw[h,aB.aO] at h6;cases h6
  have h6':st b6=none:=by rwa [aB.aM _ _ hbb] at h6
  have hE:∀o1 o2 o3,aL (((st.aC b2 o1).aC b6 o2).aC b2 o3) st:=fun o1 o2 o3=>((hD _).aC h6').aC hb2
  refine(k0 s e 58 _).to ?_
  by_cases hbd:(cT (sb s) e 58&&cT (sb s) (e+1) 45)=true
  case neg=>
   obtain⟨b,hb⟩:∃b:List Tm,b= []:=⟨_,rfl⟩
   have hcl:sV (sb s)=some ((.mk hk hn hsn hts,b),e):=by
    unfold sV
    rw[hRi,hb]
    simp only
    rw[aF hbd]
   obtain⟨e2,he2⟩:∃e2,e2=e:=⟨_,rfl⟩
   rw[←he2] at hcl
   cases h58:cT (sb s) e 58 with
   | false=>
    simp only[aA,seval,jO]
    rw[←he2]
    have hdn:=(KB (by rw[cQ];exact hs) hcl).2.2
    have hwl:=bL (n:=(s.size:Int) - 1)
    by_cases he:e2+1=s.size
    case neg=>
     rw[wO hcl (fun h=>he (by rw[cQ] at h;exact h.2.1))]
     have he':((e2:Int)=(s.size:Int) - 1)=False:=bU (by omega)
     simp only[aK,hwl,he',hbb.symm,bP,aA,seval,jO]
     exact⟨rP,hE _ _ _⟩
    have he':((e2:Int)=(s.size:Int) - 1)=True:=cK (by omega)
    simp only[hwl,he',bF,aA,seval]
    refine(k0 s e2 46 _).to ?_
    cases hd:cT (sb s) e2 46 with
    | false=>
     rw[wO hcl (fun h=>by rw[hd] at h;exact absurd h.2.2.1 (by decide))]
     simp only[aK,hbb.symm,aA,seval,jO]
     exact⟨rP,hE _ _ _⟩
    | true=>
     simp only[aA,seval,jO]
     refine(aD.pQ (by rw[show hH [AV.agg [.int .i64 hk,.int .i64 hn,.str hsn,.slice (hts.map Tm.av),.fslice []]]= [bX (.mk hk hn hsn hts,b)] by simp only[hH,gN,hb,jC,jN,k8,nG,k7,aZ,aV]];exact OP (.mk hk hn hsn hts,b) _):aD prog 284 _ _ _).to ?_
     by_cases hf:fmtC (.mk hk hn hsn hts,b)=s
     case neg=>
      rw[wO hcl (fun h=>hf (SX h.2.2.2))]
      have hf':=bU hf
      simp only[aK,hf',hbb.symm,bP,aA,seval,jO]
      exact⟨rP,hE _ _ _⟩
     rw[SD hcl ⟨by rw[cQ];exact hs,by rw[cQ];exact he,hd,by rw[hf]⟩]
     have hf':=cK hf
     simp only[hf',bF,aA,seval,jO]
     refine(aD.pQ (by rw[show hH [AV.agg [.int .i64 hk,.int .i64 hn,.str hsn,.slice (hts.map Tm.av),.fslice []]]= [bX (.mk hk hn hsn hts,b)] by simp only[hH,gN,hb,jC,jN,k8,nG,k7,aZ,aV]];exact OZ (.mk hk hn hsn hts,b) hdn.1.2 (by have:=hdn.2.1;omega) (fun x hx=>(hdn.2.2 x hx).2) _):aD prog 203 _ _ _).to ?_
     rw[gN]
     simp only[aK,hbb.symm,aA,seval,jO]
     rw[←gN]
     exact⟨PC _,hE _ _ _⟩
   | true=>
    simp only[hw1,aA,seval]
    refine(k0 s f1 45 _).to ?_
    rw[h58,dU,←hf1] at hbd
    rw[show cT (sb s) f1 45=false by simpa using hbd]
    simp only[aA,seval,jO]
    rw[←he2]
    have hdn:=(KB (by rw[cQ];exact hs) hcl).2.2
    have hwl:=bL (n:=(s.size:Int) - 1)
    by_cases he:e2+1=s.size
    case neg=>
     rw[wO hcl (fun h=>he (by rw[cQ] at h;exact h.2.1))]
     have he':((e2:Int)=(s.size:Int) - 1)=False:=bU (by omega)
     simp only[aK,hwl,he',hbb.symm,bP,aA,seval,jO]
     exact⟨rP,hE _ _ _⟩
    have he':((e2:Int)=(s.size:Int) - 1)=True:=cK (by omega)
    simp only[hwl,he',bF,aA,seval]
    refine(k0 s e2 46 _).to ?_
    cases hd:cT (sb s) e2 46 with
    | false=>
     rw[wO hcl (fun h=>by rw[hd] at h;exact absurd h.2.2.1 (by decide))]
     simp only[aK,hbb.symm,aA,seval,jO]
     exact⟨rP,hE _ _ _⟩
    | true=>
     simp only[aA,seval,jO]
     refine(aD.pQ (by rw[show hH [AV.agg [.int .i64 hk,.int .i64 hn,.str hsn,.slice (hts.map Tm.av),.fslice []]]= [bX (.mk hk hn hsn hts,b)] by simp only[hH,gN,hb,jC,jN,k8,nG,k7,aZ,aV]];exact OP (.mk hk hn hsn hts,b) _):aD prog 284 _ _ _).to ?_
     by_cases hf:fmtC (.mk hk hn hsn hts,b)=s
     case neg=>
      rw[wO hcl (fun h=>hf (SX h.2.2.2))]
      have hf':=bU hf
      simp only[aK,hf',hbb.symm,bP,aA,seval,jO]
      exact⟨rP,hE _ _ _⟩
     rw[SD hcl ⟨by rw[cQ];exact hs,by rw[cQ];exact he,hd,by rw[hf]⟩]
     have hf':=cK hf
     simp only[hf',bF,aA,seval,jO]
     refine(aD.pQ (by rw[show hH [AV.agg [.int .i64 hk,.int .i64 hn,.str hsn,.slice (hts.map Tm.av),.fslice []]]= [bX (.mk hk hn hsn hts,b)] by simp only[hH,gN,hb,jC,jN,k8,nG,k7,aZ,aV]];exact OZ (.mk hk hn hsn hts,b) hdn.1.2 (by have:=hdn.2.1;omega) (fun x hx=>(hdn.2.2 x hx).2) _):aD prog 203 _ _ _).to ?_
     rw[gN]
     simp only[aK,hbb.symm,aA,seval,jO]
     rw[←gN]
     exact⟨PC _,hE _ _ _⟩
  rw[cB,←hf1] at hbd
  have a0L:=oN hbd.2
  rw[cQ] at a0L
  rw[hbd.1]
  simp only[hw1,aA,seval]
  refine(k0 s f1 45 _).to ?_
  rw[hbd.2]
  simp only[hw2,aA,seval]
  refine(X1 hs f2 (by omega) _).mono ?_
  rintro r _ ⟨hr,rfl⟩
  cases hG:sZ (sb s) 7 f2 [] with
  | none=>
   have hP:oQ (sb s)=none:=by
    unfold oQ sV
    rw[hRi]
    simp only
    rw[aJ (by rw[←hf1,hbd.1,hbd.2];try rfl),←hf2,hG]
   rw[hP]
   rw[hG] at hr
   simp only[sI] at hr
   subst hr
   have hwl:=bL (n:=(s.size:Int) - 1)
   have he':((-1:Int)=(s.size:Int) - 1)=False:=bU (by omega)
   simp only[aK,hwl,he',hbb.symm,bP,aA,seval,jO]
   exact⟨rP,hE _ _ _⟩
  | some p=>
   obtain⟨b,e2⟩:=p
   rw[hG] at hr
   simp only[sI] at hr
   subst hr
   have hcl:sV (sb s)=some ((.mk hk hn hsn hts,b),e2):=by
    unfold sV
    rw[hRi]
    simp only
    rw[aJ (by rw[←hf1,hbd.1,hbd.2];try rfl),←hf2,hG]
   have hg2:=KZ (by rw[cQ];exact hs) _ _ _ _ _ (by rw[cQ];omega) (by simp) hG
   rw[cQ] at hg2
   simp only[aK,aA,seval,jO]
   have hdn:=(KB (by rw[cQ];exact hs) hcl).2.2
   have hwl:=bL (n:=(s.size:Int) - 1)
   by_cases he:e2+1=s.size
   case neg=>
    rw[wO hcl (fun h=>he (by rw[cQ] at h;exact h.2.1))]
    have he':((e2:Int)=(s.size:Int) - 1)=False:=bU (by omega)
    simp only[aK,hwl,he',hbb.symm,bP,aA,seval,jO]
    exact⟨rP,hE _ _ _⟩
   have he':((e2:Int)=(s.size:Int) - 1)=True:=cK (by omega)
   simp only[hwl,he',bF,aA,seval]
   refine(k0 s e2 46 _).to ?_
   cases hd:cT (sb s) e2 46 with
   | false=>
    rw[wO hcl (fun h=>by rw[hd] at h;exact absurd h.2.2.1 (by decide))]
    simp only[aK,hbb.symm,aA,seval,jO]
    exact⟨rP,hE _ _ _⟩
   | true=>
    simp only[aA,seval,jO]
    refine(aD.pQ (by rw[show hH [AV.agg [.int .i64 hk,.int .i64 hn,.str hsn,.slice (hts.map Tm.av),.slice (b.map Tm.av)]]= [bX (.mk hk hn hsn hts,b)] by simp only[hH,gN,AV.soft]];exact OP (.mk hk hn hsn hts,b) _):aD prog 284 _ _ _).to ?_
    by_cases hf:fmtC (.mk hk hn hsn hts,b)=s
    case neg=>
     rw[wO hcl (fun h=>hf (SX h.2.2.2))]
     have hf':=bU hf
     simp only[aK,hf',hbb.symm,bP,aA,seval,jO]
     exact⟨rP,hE _ _ _⟩
    rw[SD hcl ⟨by rw[cQ];exact hs,by rw[cQ];exact he,hd,by rw[hf]⟩]
    have hf':=cK hf
    simp only[hf',bF,aA,seval,jO]
    refine(aD.pQ (by rw[show hH [AV.agg [.int .i64 hk,.int .i64 hn,.str hsn,.slice (hts.map Tm.av),.slice (b.map Tm.av)]]= [bX (.mk hk hn hsn hts,b)] by simp only[hH,gN,AV.soft]];exact OZ (.mk hk hn hsn hts,b) hdn.1.2 (by have:=hdn.2.1;omega) (fun x hx=>(hdn.2.2 x hx).2) _):aD prog 203 _ _ _).to ?_
    rw[gN]
    simp only[aK,hbb.symm,aA,seval,jO]
    rw[←gN]
    exact⟨PC _,hE _ _ _⟩
end Go.AW
