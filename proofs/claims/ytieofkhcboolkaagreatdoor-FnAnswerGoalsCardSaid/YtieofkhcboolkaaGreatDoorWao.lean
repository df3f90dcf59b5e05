import Derived.Test.YtieofkhcboolkaaGreatDoorWan
import Derived.Test.YtieofkhcboolkaaGreatDoorWak
import Derived.Test.YtieofkhcboolkaaGreatDoorWal
import Derived.Test.YtieofkhcboolkaaGreatDoorWai
import Derived.Test.YtieofkhcboolkaaGreatDoorWaj
set_option linter.unusedSimpArgs false
set_option linter.unusedVariables false
set_option maxRecDepth 100000
namespace Go.AW
open Go.Proofs.Tryz
theorem gG.DT{st st':aB}{c m:Nat}{q:AV}{σ:Sub}{tr:List Int}(h:gG st c m q σ tr)(hc:st' c=st c)(hm:st' m=st m)(ht:∀b∈dL q,st' b=st b):gG st' c m q σ tr:=by
 refine⟨⟨by rw[hc];exact h.sub.cells,by rw[hm];exact h.sub.map⟩,?_,h.apart⟩
 rcases h.fG with h1 | ⟨b,cs,h1,h2,h3⟩
 · exact .inl h1
 · exact .inr ⟨b,cs,h1,by rw[ht b (by rw[h1];simp [dL])];exact h2,h3⟩
section
variable {st0 st:aB} {S c m:Nat} {qt qc qn:AV} {p:List Cl} {q:List Tm} {idx:Bool} {fuel used mx:Int} {nd:List AV} {i:IS}
theorem dI.a4G{st':aB}{qc':AV}{YV:List IC}{cs:List AV}(h:dI st0 st S c m qt qc qn p q idx fuel used mx nd i)(oJ:jF st' 9 qc' (YV.map rY))(hf:∀y,y∉dO qc→y∉dO qc'→st' y=st y)(hn:∀y∈dO qc',y∈dO qc∨st y=none)
 (hcs:cs=iF c p q idx fuel used i.fresh (eQ i.goals) qc' qn mx):dI st0 (st'.aC S (.cells cs)) S c m qt qc' qn p q idx fuel used mx nd { i with chs:=YV }:=by
 obtain⟨h1,h2,h3,h4,h5,h6,h7,h8,h9,h10,h11,h12,h13,h14⟩:=h.parts
 have same:∀b,st b≠none→b∉dO qc→st' b=st b:=fun b hb hq=>hf b hq fun hq'=>by
  rcases hn b hq' with h' | h'
  · exact hq h'
  · exact hb h'
 have hS:S∉dO qc':=fun hb=>by
  rcases hn S hb with h' | h'
  · exact h5 h'
  · rw[h.cell] at h';cases h'
 subst hcs
 have held:=fun b x=>h.held b (eG.2 x)
 refine h.go (aB.aO _ _ _) (h.sto.DT ?_ ?_ fun b hb=>?_) (oJ.bB fun b hb=>aB.aM _ _ (by rintro rfl;exact hS hb)) (h.acN.bB fun b hb=>?_) h.ndl h.ndw ?_ (fun b hb=>?_) fun b o hb hn'=>?_
 · rw[aB.aM _ _ (c7 h1)];exact same c (held c (.inr (.inl rfl))) h8
 · rw[aB.aM _ _ (c7 h2)];exact same m (held m (.inr (.inr (.inl rfl)))) h11
 · rw[aB.aM _ _ (by rintro rfl;exact h4 hb)];exact same b (held b (.inr (.inr (.inr (.inl hb))))) (h13 b hb).1
 · rw[aB.aM _ _ (by rintro rfl;exact h6 hb)];exact same b (held b (.inr (.inr (.inr (.inr (.inr hb)))))) fun h'=>h14 b h' hb
 · have hd:=h.dis
   unfold jD at hd ⊢
   refine RV hd (SB _) fun b hb=>?_
   rcases hn b hb with h' | h'
   · exact .inl h'
   · refine .inr fun hm=>h.held b ?_ h'
     unfold jD;exact hm
 · rcases eG.1 hb with rfl | rfl | rfl | hb | hb | hb
   · exact .inl (eG.2 (.inl rfl))
   · exact .inl (eG.2 (.inr (.inl rfl)))
   · exact .inl (eG.2 (.inr (.inr (.inl rfl))))
   · exact .inl (eG.2 (.inr (.inr (.inr (.inl hb)))))
   · rcases hn b hb with h' | h'
     · exact .inl (eG.2 (.inr (.inr (.inr (.inr (.inl h'))))))
     · exact .inr h'
   · exact .inl (eG.2 (.inr (.inr (.inr (.inr (.inr hb))))))
 · have hno:=fun x=>hn' (eG.2 x)
   rw[aB.aM _ _ (by rintro rfl;exact hno (.inl rfl)),same b (by rw[hb];simp) fun h'=>hno (.inr (.inr (.inr (.inr (.inl h')))))]
   exact hb
theorem dI.a4H{st':aB}{qn':AV}{nd':List AV}{n':Nat}{cs:List AV}(h:dI st0 st S c m qt qc qn p q idx fuel used mx nd i)(oJ:jF st' 6 qn' nd')(hl:nd'.length=n')(hw:∀e∈nd',e.width=6)(hf:∀y,y∉dO qn→y∉dO qn'→st' y=st y)(hn:∀y∈dO qn',y∈dO qn∨st y=none)
 (hcs:cs=iF c p q idx fuel used i.fresh (eQ i.goals) qc qn' mx):dI st0 (st'.aC S (.cells cs)) S c m qt qc qn' p q idx fuel used mx nd' { i with nn:=n' }:=by
 obtain⟨h1,h2,h3,h4,h5,h6,h7,h8,h9,h10,h11,h12,h13,h14⟩:=h.parts
 have same:∀b,st b≠none→b∉dO qn→st' b=st b:=fun b hb hq=>hf b hq fun hq'=>by
  rcases hn b hq' with h' | h'
  · exact hq h'
  · exact hb h'
 have hS:S∉dO qn':=fun hb=>by
  rcases hn S hb with h' | h'
  · exact h6 h'
  · rw[h.cell] at h';cases h'
 subst hcs
 have held:=fun b x=>h.held b (eG.2 x)
 refine h.go (aB.aO _ _ _) (h.sto.DT ?_ ?_ fun b hb=>?_) (h.acC.bB fun b hb=>?_) (oJ.bB fun b hb=>aB.aM _ _ (by rintro rfl;exact hS hb)) hl hw ?_ (fun b hb=>?_) fun b o hb hn'=>?_
 · rw[aB.aM _ _ (c7 h1)];exact same c (held c (.inr (.inl rfl))) h9
 · rw[aB.aM _ _ (c7 h2)];exact same m (held m (.inr (.inr (.inl rfl)))) h12
 · rw[aB.aM _ _ (by rintro rfl;exact h4 hb)];exact same b (held b (.inr (.inr (.inr (.inl hb))))) (h13 b hb).2
 · rw[aB.aM _ _ (by rintro rfl;exact h5 hb)];exact same b (held b (.inr (.inr (.inr (.inr (.inl hb)))))) (h14 b hb)
 · have hd:=h.dis
   unfold jD at hd ⊢
   have:=RV (X:=[S,c,m]++dL qt++dO qc) (A:=dO qn) (A':=dO qn') (Y:=[]) (by rw[iB];exact hd) (SB _) fun b hb=>by
    rcases hn b hb with h' | h'
    · exact .inl h'
    · refine .inr fun hm=>h.held b ?_ h'
      rw[iB] at hm
      unfold jD;exact hm
   rwa [iB] at this
 · rcases eG.1 hb with rfl | rfl | rfl | hb | hb | hb
   · exact .inl (eG.2 (.inl rfl))
   · exact .inl (eG.2 (.inr (.inl rfl)))
   · exact .inl (eG.2 (.inr (.inr (.inl rfl))))
   · exact .inl (eG.2 (.inr (.inr (.inr (.inl hb)))))
   · exact .inl (eG.2 (.inr (.inr (.inr (.inr (.inl hb))))))
   · rcases hn b hb with h' | h'
     · exact .inl (eG.2 (.inr (.inr (.inr (.inr (.inr h'))))))
     · exact .inr h'
 · have hno:=fun x=>hn' (eG.2 x)
   rw[aB.aM _ _ (by rintro rfl;exact hno (.inl rfl)),same b (by rw[hb];simp) fun h'=>hno (.inr (.inr (.inr (.inr (.inr h')))))]
   exact hb
theorem dI.nodes{k:Nat}(h:dI st0 st S c m qt qc qn p q idx fuel used mx nd i)(hk:k<i.nn):∃b,qn=.mslice b 0 nd.length 6:=by
 have hl:=h.ndl
 rcases h.acN with ⟨_,e⟩ | ⟨b,cs,e,_⟩
 · subst e;simp at hl;omega
 · exact⟨b,e⟩
theorem dI.nodeAt{b n:Nat}(h:dI st0 st S c m qt qc (.mslice b 0 n 6) p q idx fuel used mx nd i):∃cs,st b=some (.cells cs)∧nd.length*6≤cs.length:=by
 rcases h.acN with ⟨e,_⟩ | ⟨b',cs,e,h2,_,h4⟩
 · cases e
 · cases e;exact⟨cs,h2,h4⟩
theorem aNA:∀(n:Nat) (cs:List AV),cs.length=n*6→∃nd:List AV,nd.length=n∧(∀e∈nd,e.width=6)∧nd.flatMap AV.cells=cs
 | 0,cs,h=>⟨[],rfl,by simp,by have:cs= []:=rH (by simpa using h);subst this;rfl⟩
 | n+1,cs,h=>by
  obtain⟨nd,h1,h2,h3⟩:=aNA n (cs.drop 6) (by rw[mZ,h];omega)
  refine⟨.agg (cs.take 6)::nd,by simp [h1],fun e he=>?_,?_⟩
  · rcases c8.1 he with rfl | he
    · show(cs.take 6).length=6
      rw[dC,h];omega
    · exact h2 e he
  · rw[sJ,h3]
    exact sL 6 cs
theorem dI.aM4{b k:Nat}{cs:List AV}{x:AV}(h:dI st0 st S c m qt qc qn p q idx fuel used mx nd i)(hq:qn=.mslice b 0 nd.length 6)(hb:st b=some (.cells cs))(hk:k<nd.length*6) :
 ∃nd',dI st0 (st.aC b (.cells (aK cs k [x]))) S c m qt qc qn p q idx fuel used mx nd' i:=by
 obtain⟨h1,h2,h3,h4,h5,h6,h7,h8,h9,h10,h11,h12,h13,h14⟩:=h.parts
 have hbq:b∈dO qn:=by rw[hq];simp [dO]
 have hne:∀a,a∉dO qn→st.aC b (.cells (aK cs k [x])) a=st a:=fun a ha=>aB.aM _ _ (by rintro rfl;exact ha hbq)
 have hcl:nd.length*6≤cs.length:=by
  rcases h.acN with ⟨e,_⟩ | ⟨b',cs',e1,e2,e3,e4⟩
  · rw[hq] at e;cases e
  · rw[hq] at e1
    cases e1
    rw[hb] at e2;cases e2
    exact e4
 have hlen:(aK cs k [x]).length=cs.length:=by
  simp only[aK,dM,dC,mZ,aS,aW]
  omega
 obtain⟨nd',n1,n2,n3⟩:=aNA nd.length ((aK cs k [x]).take (nd.length*6)) (by rw[dC,hlen];omega)
 refine⟨nd',h.go (by rw[hne S h6];exact h.cell) (h.sto.DT (hne c h9) (hne m h12) fun b hb=>hne b (h13 b hb).2) (h.acC.bB fun b hb=>hne b (h14 b hb)) (.inr ⟨b,_,by rw[hq,n1],aB.aO _ _ _,by rw[n1,n3],by rw[n1,hlen];exact hcl⟩) (by rw[n1];exact h.ndl) n2 h.dis (fun b hb=>.inl hb) fun a o ha hn=>?_⟩
 rw[hne a fun h'=>hn (eG.2 (.inr (.inr (.inr (.inr (.inr h'))))))]
 exact ha
end
theorem aNB{φ:AF}{t:TypeId}{ag:Bool}{w d k:Nat}{st:aB}{qc:AV}{l:List AV}(hI:eI prog t=some (ag,w))(hA:jF st w qc l)(h:φ d=.int .i64 (k:Int))(hk:k≤l.length):gZ prog φ t qc none (some (.tmp d)) none=some (xX k qc):=by
 rcases hA with ⟨rfl,rfl⟩ | ⟨b,cs,rfl,_⟩
 · have h0:k=0:=by simpa using hk
   subst h0
   exact aNC hI h
 · exact S3 hI h hk
section
variable {st0 st:aB} {S c m:Nat} {qt qc qn:AV} {p:List Cl} {q:List Tm} {idx:Bool} {fuel used mx:Int} {nd:List AV} {i:IS}
theorem dI.Y7{k:Nat}{cs:List AV}{gl:List IG}(h:dI st0 st S c m qt qc qn p q idx fuel used mx nd i)(hk:k≤i.chs.length)(hcs:cs=iF c p q idx fuel used i.fresh (eQ gl) (xX k qc) qn mx) :
 dI st0 (st.aC S (.cells cs)) S c m qt (xX k qc) qn p q idx fuel used mx nd { i with goals:=gl,chs:=i.chs.take k }:=by
 obtain⟨h1,h2,h3,h4,h5,h6,_⟩:=h.parts
 subst hcs
 have hA:=h.acC.take (k:=k) (by rw[aE];exact hk) (RF _)
 rw[←E7] at hA
 refine h.go (aB.aO _ _ _) (h.sto.aC h1 h2 h4) (hA.bB fun b hb=>aB.aM _ _ (by rw[D4] at hb;rintro rfl;exact h5 hb)) (h.acN.bB fun b hb=>aB.aM _ _ (by rintro rfl;exact h6 hb)) h.ndl h.ndw (by unfold jD;rw[D4];exact h.dis) (fun b hb=>.inl (by unfold jD at hb;rw[D4] at hb;exact hb)) fun b o hb hn=>?_
 rw[aB.aM _ _ (by rintro rfl;exact hn (eG.2 (.inl rfl)))]
 exact hb
theorem dI.aWC{k:Nat}{cs:List AV}(h:dI st0 st S c m qt qc qn p q idx fuel used mx nd i)(hk:k≤i.nn)(hcs:cs=iF c p q idx fuel used i.fresh (eQ i.goals) qc (xX k qn) mx) :
 dI st0 (st.aC S (.cells cs)) S c m qt qc (xX k qn) p q idx fuel used mx (nd.take k) { i with nn:=k }:=by
 obtain⟨h1,h2,h3,h4,h5,h6,_⟩:=h.parts
 subst hcs
 have hnl:=h.ndl
 have hA:=h.acN.take (k:=k) (by rw[hnl];exact hk) h.ndw
 refine h.go (aB.aO _ _ _) (h.sto.aC h1 h2 h4) (h.acC.bB fun b hb=>aB.aM _ _ (by rintro rfl;exact h5 hb)) (hA.bB fun b hb=>aB.aM _ _ (by rw[D4] at hb;rintro rfl;exact h6 hb)) (by rw[dC,hnl];simp only;omega) (fun e he=>h.ndw e (lB he)) (by unfold jD;rw[D4];exact h.dis) (fun b hb=>.inl (by unfold jD at hb;rw[D4] at hb;exact hb)) fun b o hb hn=>?_
 rw[aB.aM _ _ (by rintro rfl;exact hn (eG.2 (.inl rfl)))]
 exact hb
end
def mX(c m:Nat)(st:aB)(q:AV)(tr:List Int)(x:Int×Sub×List Int)(r:AV)(st':aB):Prop:=r=.int .i64 x.1∧vG c m st q x.2.1 (tr++x.2.2) st'
theorem mX.same{c m:Nat}{st:aB}{q:AV}{σ:Sub}{tr:List Int}(h:gG st c m q σ tr){r:AV}(k:Int)(hr:r=.int .i64 k):mX c m st q tr (k,σ,[]) r st:=⟨hr,q,by rw[iB];exact h,mH.refl _ _ _ _⟩
theorem gG.aPC{P:Program}{t e:TypeId}{st:aB}{c m:Nat}{q:AV}{σ:Sub}{tr:List Int}(h:gG st c m q σ tr)(hu:P.underlying t=some (.slice e)):oE P t q=some (.int .i64 (tr.length:Int)):=by
 rcases h.fG with ⟨rfl,rfl⟩ | ⟨b,cs,rfl,_⟩<;>simp only[oE,hu,aW]
theorem F5{N:Nat}{σ:Sub}(hg:cS σ)(ho:cV (bG N) σ)(a b:Tm)(ha:bG N a)(hb:bG N b)(c m:Nat)(q:AV)(tr:List Int)(st:aB)(hS:gG st c m q σ tr)(hl:tr.length+N≤1099511627776) :
 aD prog 340 [.ptr c 0,a.av,b.av] st (fun r st'=>r=.bool (jE σ a b).1∧vG c m st q (jE σ a b).2.1 (tr++(jE σ a b).2.2) st'):=by
 obtain⟨r,σ',tr',hU⟩:=tS hg ho ha hb
 obtain⟨g,kQ⟩:=hU.run
 have hlen:=DY hU.nN.nodup hU.gC
 rw[hU.eq]
 exact YO g σ a b r σ' tr' hg (ho.imp fun t ht=>ht.1.small) ha.1.small hb.1.small kQ c m q tr st hS (by omega)
abbrev lL:=zi aX (zi bZ (zi cJ (zi fA (zi bS (zi bQ (zi oV ES))))))
theorem aSZ{N:Nat}{σ:Sub}(hg:cS σ)(ho:cV (bG N) σ)(n:Int)(s:ByteArray)(ks:List Tm)(hb:isBuiltin s (ks.length:Int)=true)(hv:∀x∈ks,bG N x)(c m:Nat)(q:AV)(tr:List Int)(st:aB)(hS:gG st c m q σ tr)(hl:tr.length+N≤1099511627776) :
 aD prog 306 [.ptr c 0,(Tm.mk 3 n s ks).av] st (mX c m st q tr (dD σ s ks)):=by
 have QL:=aS3 3 n s ks
 have hcs:=WU hb
 have DJ:=fun x y (hxy:ks= [x,y]) h=>aS2 n s x y h (hv x (by simp [hxy])).1 (hv y (by simp [hxy])).1
 simp only[aU] at QL DJ ⊢
 refine wF [1000000] 2 func306 ntmps306 rfl rfl ?_
 intro _
 simp only[aA,seval,lL]
 refine(QL _).to ?_
 simp only[aA,seval]
 refine aP (fun h=>?_) (fun h=>?_)
 · have h':ks.length=2∧gC rQ s=true:=by simp at h;exact⟨by omega,h.2⟩
   obtain⟨x,y,rfl⟩:=uS h'.1
   have e:dD σ s [x,y]=(xW s x y,σ,[]):=by simp only[dD];rw[aJ h'.2]
   rw[e]
   have hc:=DJ x y rfl h'.2
   simp only[aZ,aV] at hc
   simp only[aA,↓aR,seval,lL]
   refine(hc _).to ?_
   simp only[aA,seval]
   exact mX.same hS _ rfl
 have hnc:ks.length=2→gC rQ s=false:=fun h2=>by simpa [h2] using h
 clear QL DJ h
 simp only[aA,seval,lL]
 refine aP (fun h=>?_) (fun h=>?_)
 · have hs:s=⟨#[116,114,117,101]⟩:=by simpa using h
   have hk:=LO (ts:=ks) (by subst hs;simpa [isBuiltin] using hb)
   subst hk
   simp only[aA,seval]
   exact mX.same hS _ (by simp [iO,hs])
 have ht:s≠⟨#[116,114,117,101]⟩:=by simpa using h
 simp only[aA,seval]
 refine aP (fun h=>?_) (fun h=>?_)
 · have hs:s=⟨#[102,97,105,108]⟩:=by simpa using h
   have hk:=LO (ts:=ks) (by subst hs;simpa [isBuiltin] using hb)
   subst hk
   simp only[aA,seval]
   exact mX.same hS _ (by simp [iO,hs])
 have hf:s≠⟨#[102,97,105,108]⟩:=by simpa using h
 simp only[aA,seval]
 refine aP (fun h=>?_) (fun h=>?_)
 · have hs:s=⟨#[61]⟩:=by simpa using h
   obtain⟨x,y,rfl⟩:=uS (ts:=ks) (by subst hs;simp [isBuiltin] at hb;omega)
   have e:dD σ s [x,y]=sG σ x y:=by simp only[dD];rw[aF (by rw[hnc rfl];simp),aJ hs]
   rw[e]
   have dR:c9 prog 34 (.slice [x.av,y.av]) (.int .i64 0)=some (.pptr x.av):=bD (av:=Tm.av) (l:=[x,y]) (i:=0) a8 rfl (aH x)
   have fR:c9 prog 34 (.slice [x.av,y.av]) (.int .i64 1)=some (.pptr y.av):=bD (av:=Tm.av) (l:=[x,y]) (i:=1) a8 rfl (aH y)
   simp only[aA,↓aR,seval]
   refine wX [(0,1),(1,1),(2,1),(3,1),(4,1),(5,1),(6,1),(7,0),(8,0),(9,1)] [0,1,2,3,4,5,6,9] eR mixed rfl fN ?_
   simp only[dR,fR,aT,aH,aA,seval,lL]
   refine(F5 hg ho x y (hv x (by simp)) (hv y (by simp)) c m q tr _ hS hl).mono ?_
   rintro _ s2 ⟨rfl,hP⟩
   simp only[aA,seval]
   refine⟨fN,?_⟩
   refine(pC _ _).to ?_
   simp only[aA,seval]
   exact⟨fN,rfl,hP⟩
 have he:s≠⟨#[61]⟩:=by simpa using h
 simp only[aA,seval]
 refine aP (fun h=>?_) (fun h=>?_)
 · have hs:s=⟨#[92,61]⟩:=by simpa using h
   obtain⟨x,y,rfl⟩:=uS (ts:=ks) (by subst hs;simp [isBuiltin] at hb;omega)
   have e:dD σ s [x,y]=(iO (!(jE σ x y).1),σ,[]):=by simp only[dD];rw[aF (by rw[hnc rfl];simp),aF he,aJ hs]
   rw[e]
   have e1:=hS.sub.cells
   have hql:=hS.aPC IT
   obtain⟨hqa,hqw,hqj,hqc,hqs⟩:=hS.shape
   have dR:c9 prog 34 (.slice [x.av,y.av]) (.int .i64 0)=some (.pptr x.av):=bD (av:=Tm.av) (l:=[x,y]) (i:=0) a8 rfl (aH x)
   have fR:c9 prog 34 (.slice [x.av,y.av]) (.int .i64 1)=some (.pptr y.av):=bD (av:=Tm.av) (l:=[x,y]) (i:=1) a8 rfl (aH y)
   simp only[e1,hql,hqa,aA,↓aR,seval,lL]
   refine wX [(0,1),(1,1),(2,1),(3,1),(4,1),(5,1),(6,1),(7,0),(8,1)] [0,1,2,3,4,5,6,8] eR mixed rfl fN ?_
   simp only[dR,fR,aT,aH,aA,seval,lL]
   refine(F5 hg ho x y (hv x (by simp)) (hv y (by simp)) c m q tr _ hS hl).mono ?_
   rintro _ s2 ⟨rfl,hP⟩
   obtain⟨r,σ',add,hU⟩:=tS hg ho (hv x (by simp)) (hv y (by simp))
   rw[hU.eq] at hP ⊢
   obtain⟨q',hS2,hQ2⟩:=hP
   have aZS:=DY hU.nN.nodup hU.gC
   simp only[aA,seval]
   refine⟨fN,?_⟩
   refine(O6 σ' (tr++add) tr.length (by simp) c m q' s2 hS2 (by rw[dM];omega)).mono ?_
   rintro _ s3 ⟨rfl,q2,hS3,hb3,hk3⟩
   rw[E3,FA,show σ'.out add=σ from funext fun n=>hU.out n] at hS3
   simp only[aA,seval]
   refine(pC _ _).to ?_
   simp only[aA,seval]
   refine⟨rfl,q2,by rw[iB];exact hS3,fun b o h h1 h2 h3=>hk3 b o (hQ2.frame b o h h1 h2 h3) h1 h2,fun b hb'=>hQ2.fresh b (hb3 b hb')⟩
 have hne:s≠⟨#[92,61]⟩:=by simpa using h
 simp only[aA,seval]
 refine aP (fun h=>?_) (fun h=>?_)
 · have hs:s=⟨#[61,61]⟩:=by simpa using h
   obtain⟨x,y,rfl⟩:=uS (ts:=ks) (by subst hs;simp [isBuiltin] at hb;omega)
   have e:dD σ s [x,y]=(iO (x.same y),σ,[]):=by simp only[dD];rw[aF (by rw[hnc rfl];simp),aF he,aF hne,aJ hs]
   rw[e]
   have dR:c9 prog 34 (.slice [x.av,y.av]) (.int .i64 0)=some (.pptr x.av):=bD (av:=Tm.av) (l:=[x,y]) (i:=0) a8 rfl (aH x)
   have fR:c9 prog 34 (.slice [x.av,y.av]) (.int .i64 1)=some (.pptr y.av):=bD (av:=Tm.av) (l:=[x,y]) (i:=1) a8 rfl (aH y)
   simp only[aA,↓aR,seval]
   refine CT mixed (by decide +kernel) (by decide +kernel) ?_
   simp only[dR,fR,aT,aH,aA,seval,lL]
   refine fK (FY x y _) ?_
   simp only[aA,seval]
   refine fK (pC _ _) ?_
   simp only[aA,seval]
   exact mX.same hS _ rfl
 have hee:s≠⟨#[61,61]⟩:=by simpa using h
 simp only[aA,seval]
 refine aP (fun h=>?_) (fun h=>?_)
 · have hs:s=⟨#[105,115]⟩:=by simpa using h
   obtain⟨x,y,rfl⟩:=uS (ts:=ks) (by subst hs;simp [isBuiltin] at hb;omega)
   have e:dD σ s [x,y]=if y.ev.2≠0 then(y.ev.2,σ,[]) else sG σ x (nZ y.ev.1):=by simp only[dD];rw[aF (by rw[hnc rfl];simp),aF he,aF hne,aF hee]
   rw[e]
   have hy:=hv y (by simp)
   have hin:=LM (N:=N) (Tm.uG y hy.1)
   have har:=fun st=>JX y st hy.1
   generalize y.ev.1=a at *
   generalize y.ev.2=ca at *
   have dR:c9 prog 34 (.slice [x.av,y.av]) (.int .i64 0)=some (.pptr x.av):=bD (av:=Tm.av) (l:=[x,y]) (i:=0) a8 rfl (aH x)
   have fR:c9 prog 34 (.slice [x.av,y.av]) (.int .i64 1)=some (.pptr y.av):=bD (av:=Tm.av) (l:=[x,y]) (i:=1) a8 rfl (aH y)
   simp only[fR,aT,aH,aA,↓aR,seval,lL]
   refine(har _).to ?_
   simp only[aA,seval]
   refine aP (fun h4=>?_) (fun h4=>?_)
   · simp only[aA,seval]
     have h4':ca≠0:=by simpa using h4
     rw[aJ h4']
     exact mX.same hS _ rfl
   have h4':ca=0:=by simpa using h4
   subst h4'
   rw[aF (by simp)]
   simp only[aA,seval]
   refine wX [(0,1),(1,1),(2,1),(3,1),(4,1),(5,0),(6,0),(7,0),(8,1)] [0,1,2,3,4,8] eR mixed rfl fN ?_
   simp only[dR,aT,aH,aA,seval,lL]
   refine(aU6 a _).to ?_
   simp only[aA,seval]
   refine⟨fN,?_⟩
   refine(F5 hg ho x (nZ a) (hv x (by simp)) hin c m q tr _ hS hl).mono ?_
   rintro _ s2 ⟨rfl,hP⟩
   simp only[aA,seval]
   refine⟨fN,?_⟩
   refine(pC _ _).to ?_
   simp only[aA,seval]
   exact⟨fN,rfl,hP⟩
 have his:s≠⟨#[105,115]⟩:=by simpa using h
 simp only[aA,seval]
 refine aP (fun h=>?_) (fun h=>?_)
 · have hs:s=⟨#[118,97,114]⟩:=by simpa using h
   obtain⟨x,rfl⟩:=G6 (ts:=ks) (by subst hs;simp [isBuiltin] at hb;omega)
   have e:dD σ s [x]=(iO (tL s x),σ,[]):=rfl
   rw[e]
   subst hs
   obtain⟨xk,xn,xs,xt⟩:=x
   have dR:c9 prog 34 (.slice [(Tm.mk xk xn xs xt).av]) (.int .i64 0)=some (.pptr (Tm.mk xk xn xs xt).av):=bD (av:=Tm.av) (l:=[Tm.mk xk xn xs xt]) (i:=0) a8 rfl (aH _)
   have eat:=zZ xk xn xs xt
   simp only[aU] at dR eat
   simp only[aZ,aV,aU]
   simp only[dR,aA,↓aR,seval,lL]
   refine(pC _ _).to ?_
   simp only[aA,seval]
   exact mX.same hS _ rfl
 have hva:s≠⟨#[118,97,114]⟩:=by simpa using h
 simp only[aA,seval]
 refine aP (fun h=>?_) (fun h=>?_)
 · have hs:s=⟨#[110,111,110,118,97,114]⟩:=by simpa using h
   obtain⟨x,rfl⟩:=G6 (ts:=ks) (by subst hs;simp [isBuiltin] at hb;omega)
   have e:dD σ s [x]=(iO (tL s x),σ,[]):=rfl
   rw[e]
   subst hs
   obtain⟨xk,xn,xs,xt⟩:=x
   have dR:c9 prog 34 (.slice [(Tm.mk xk xn xs xt).av]) (.int .i64 0)=some (.pptr (Tm.mk xk xn xs xt).av):=bD (av:=Tm.av) (l:=[Tm.mk xk xn xs xt]) (i:=0) a8 rfl (aH _)
   have eat:=zZ xk xn xs xt
   simp only[aU] at dR eat
   simp only[aZ,aV,aU]
   simp only[dR,aA,↓aR,seval,lL]
   refine(pC _ _).to ?_
   simp only[aA,seval]
   exact mX.same hS _ rfl
 have hnv:s≠⟨#[110,111,110,118,97,114]⟩:=by simpa using h
 simp only[aA,seval]
 refine aP (fun h=>?_) (fun h=>?_)
 · have hs:s=⟨#[97,116,111,109]⟩:=by simpa using h
   obtain⟨x,rfl⟩:=G6 (ts:=ks) (by subst hs;simp [isBuiltin] at hb;omega)
   have e:dD σ s [x]=(iO (tL s x),σ,[]):=rfl
   rw[e]
   subst hs
   obtain⟨xk,xn,xs,xt⟩:=x
   have dR:c9 prog 34 (.slice [(Tm.mk xk xn xs xt).av]) (.int .i64 0)=some (.pptr (Tm.mk xk xn xs xt).av):=bD (av:=Tm.av) (l:=[Tm.mk xk xn xs xt]) (i:=0) a8 rfl (aH _)
   have eat:=zZ xk xn xs xt
   simp only[aU] at dR eat
   simp only[aZ,aV,aU]
   simp only[dR,aA,↓aR,seval,lL]
   refine(eat _).to ?_
   simp only[aA,seval]
   refine(pC _ _).to ?_
   simp only[aA,seval]
   exact mX.same hS _ rfl
 have hat:s≠⟨#[97,116,111,109]⟩:=by simpa using h
 simp only[aA,seval]
 refine aP (fun h=>?_) (fun h=>?_)
 · have hs:s=⟨#[105,110,116]⟩:=by simpa using h
   obtain⟨x,rfl⟩:=G6 (ts:=ks) (by subst hs;simp [isBuiltin] at hb;omega)
   have e:dD σ s [x]=(iO (tL s x),σ,[]):=rfl
   rw[e]
   subst hs
   obtain⟨xk,xn,xs,xt⟩:=x
   have dR:c9 prog 34 (.slice [(Tm.mk xk xn xs xt).av]) (.int .i64 0)=some (.pptr (Tm.mk xk xn xs xt).av):=bD (av:=Tm.av) (l:=[Tm.mk xk xn xs xt]) (i:=0) a8 rfl (aH _)
   have eat:=zZ xk xn xs xt
   simp only[aU] at dR eat
   simp only[aZ,aV,aU]
   simp only[dR,aA,↓aR,seval,lL]
   refine(pC _ _).to ?_
   simp only[aA,seval]
   exact mX.same hS _ rfl
 have hint:s≠⟨#[105,110,116]⟩:=by simpa using h
 have hs:s=⟨#[97,114,103]⟩∧ks.length=3:=by
  rcases hcs with ⟨h2,h3⟩ | ⟨h2,h3⟩ | ⟨h2,h3⟩ | ⟨h2,h3⟩
  · rw[hnc h2] at h3
    simp [he,hne,hee,his] at h3
  · simp [ht,hf] at h3
  · simp [hva,hnv,hat,hint] at h3
  · exact⟨h3,h2⟩
 obtain⟨hs,hk3⟩:=hs
 obtain⟨x,y,z,rfl⟩:=aLJ hk3
 have hz:=hv z (by simp)
 have hy:=hv y (by simp)
 have e:dD σ s [x,y,z]=vP σ x y z:=rfl
 rw[e]
 unfold vP
 have dR:c9 prog 34 (.slice [x.av,y.av,z.av]) (.int .i64 0)=some (.pptr x.av):=bD (av:=Tm.av) (l:=[x,y,z]) (i:=0) a8 rfl (aH x)
 have fR:c9 prog 34 (.slice [x.av,y.av,z.av]) (.int .i64 1)=some (.pptr y.av):=bD (av:=Tm.av) (l:=[x,y,z]) (i:=1) a8 rfl (aH y)
 have qJ:c9 prog 34 (.slice [x.av,y.av,z.av]) (.int .i64 2)=some (.pptr z.av):=bD (av:=Tm.av) (l:=[x,y,z]) (i:=2) a8 rfl (aH z)
 clear hcs hb hnc hv e
 obtain⟨xk,xn,xs,xt⟩:=x
 obtain⟨yk,yn,ys,yt⟩:=y
 have hyl:yt.length≤4:=by
  exact hy.1.kind.2
 rw[aU] at dR
 simp only[aU xk,aU yk] at dR fR qJ
 simp only[aZ,aV,aU xk,aU yk,Tm.k,Tm.ts]
 simp only[dR,aA,↓aR,seval,lL]
 refine cU (fun h=>?_) (fun h=>?_)
 case refine_2=>
  have h':xk=1:=by simpa using h
  simp only[h,aA,seval]
  rw[aJ (.inl h')]
  exact mX.same hS _ rfl
 have hx1:xk≠1:=by simpa using h
 simp only[h,fR,aA,seval,lL]
 refine aP (fun h1=>?_) (fun h1=>?_)
 · have h':yk=1:=by simpa using h1
   simp only[aA,seval]
   rw[aJ (.inr h')]
   exact mX.same hS _ rfl
 have hy1:yk≠1:=by simpa using h1
 rw[aF (fun h2=>h2.elim hx1 hy1)]
 have h3:∀s2,(xk≠2∨yk≠3∨yt.length=0)→s2=st→mX c m st q tr (if xk≠2∨yk≠3∨yt.length=0 then((3:Int),σ,[]) else match m7 (.mk xk xn xs xt) (.mk yk yn ys yt) with | some u=>sG σ z u | none=>(1,σ,[])) (.int .i64 3) s2:=fun s2 hh e=>by
  subst e
  rw[aJ hh]
  exact mX.same hS _ rfl
 simp only[dR,aA,seval,lL]
 refine cU (fun h4=>?_) (fun h4=>?_)
 case refine_2=>
  have h':xk≠2:=by simpa using h4
  simp only[h4,aA,seval]
  exact h3 _ (.inl h') rfl
 have hx2:xk=2:=by simpa using h4
 simp only[h4,fR,aA,seval,lL]
 refine cU (fun h5=>?_) (fun h5=>?_)
 case refine_2=>
  have h':yk≠3:=by simpa using h5
  simp only[h5,aA,seval]
  exact h3 _ (.inr (.inl h')) rfl
 have hy3:yk=3:=by simpa using h5
 simp only[h5,fR,aE,aA,seval,lL]
 refine aP (fun h6=>?_) (fun h6=>?_)
 · have h':yt.length=0:=by simp at h6;simp [h6]
   simp only[aA,seval]
   exact h3 _ (.inr (.inr h')) rfl
 have hyt:yt.length≠0:=by simp at h6;simpa using h6
 clear h3
 rw[aF (by simp [hx2,hy3];intro h7;simp [h7] at hyt)]
 simp only[aA,seval]
 refine CT mixed (by decide +kernel) (by decide +kernel) ?_
 simp only[dR,fR,aE,aA,seval,lL]
 refine fK (CY xn 1 _ _) ?_
 simp only[aA,seval]
 refine aP (fun h7=>?_) (fun h7=>?_)
 · have h':¬(1≤xn∧xn≤yt.length):=by simp at h7;omega
   have ea:m7 (.mk xk xn xs xt) (.mk yk yn ys yt)=none:=aF h'
   rw[ea]
   simp only[aA,seval]
   exact mX.same hS _ rfl
 have h':1≤xn∧xn≤yt.length:=by simp at h7;omega
 obtain⟨i,hi⟩:∃i:Nat,xn - 1=i:=⟨(xn - 1).toNat,by omega⟩
 have hlt:i<yt.length:=by omega
 obtain⟨u,hu⟩:∃u,yt[i]?=some u:=⟨_,eN hlt⟩
 have ea:m7 (.mk xk xn xs xt) (.mk yk yn ys yt)=some u:=by
  refine(aJ h').trans ?_
  show yt[(xn - 1).toNat]?=some u
  rw[hi,kX,hu]
 rw[ea]
 have huv:bG N u:=qS N (.mk yk yn ys yt) hy1 hy u (cD hu)
 have hw:IntKind.i64.wrap (xn - 1)=(i:Int):=by rw[wrap64 (by omega) (by omega)];exact hi
 have QB:=bD (av:=Tm.av) (P:=prog) a8 hu (aH u)
 simp only[aA,seval]
 refine wX [(0,1),(1,1),(2,1),(3,1),(4,1),(5,1),(6,1),(7,1),(8,1),(9,1),(10,1),(11,1),(12,1),(13,1),(14,1),(15,0),(16,0),(17,1)] [0,1,2,3,4,5,6,7,8,9,10,11,12,13,14,17] eR mixed rfl fN ?_
 simp only[dR,fR,qJ,QB,hw,aT,aH,aA,seval,lL]
 refine(F5 hg ho z u hz huv c m q tr _ hS hl).mono ?_
 rintro _ s2 ⟨rfl,hP⟩
 simp only[aA,seval]
 refine⟨fN,?_⟩
 refine(pC _ _).to ?_
 simp only[aA,seval]
 exact⟨fN,rfl,hP⟩
abbrev aOE:=zi aX bQ
theorem aVQ(n:Int)(F:Nat)(h0:0≤n)(h1:n≤1048576)(hF:F≤536870912)(st:aB):aD prog 343 [.int .i64 n,.pptr (.int .i64 (F:Int))] st (fun r st'=>r=(vr (n+(F:Int))).av∧st'=st):=by
 refine aD.done ?_
 refine wF [1000000] 2 func343 ntmps343 rfl rfl ?_
 intro _
 have hw:=bL (n:=n+(F:Int))
 simp only[hw,aA,seval,aOE]
 intro b3 h3
 refine(O7 _ _).to ?_
 simp only[aK,bT,bR,eJ (bR _),eE (aT _),aA,seval,aOE]
 exact⟨by simp only[Tm.soft],(aL.refl _).aC h3⟩
theorem O4{F:Nat}(hF:F≤536870912)(t:Tm)(h:bG 26 t)(st:aB):aD prog 63 [t.av,.func 343 [.pptr (.int .i64 (F:Int))]] st (fun r st'=>r=(dE F t).av∧st'=st):=
 J4 (fun v=>vr (v+(F:Int))) _ _ rfl t st h.1.small fun n hn s=>aVQ n F (h.1.2.2 n hn).1 (by have:=(h.1.2.2 n hn).2;omega) hF s
theorem aJ0{b:Nat}{L:List AV}(l:List IG):(eQ l).fin b L=eQ l:=by
 cases l with
 | nil=>rw[eQ];unfold AV.fin;split<;>rfl
 | cons g l=>obtain⟨⟨k,n,s,ts⟩,cut,up⟩:=g;rw[sY];exact uJ
abbrev nL:=zi aX (zi bZ (zi fA (zi k9 (zi bS (zi bQ (zi mB (zi EQ (zi oV (zi ER (zi T6 (zi T7 (zi II (zi ES (zi aOU aOV))))))))))))))
set_option maxHeartbeats 2000000 in
theorem YM{p:List Cl}(hp:∀c∈p,gF c∧c.2.length≤6){M:Nat}(hM:M≤268435456){st0 st:aB}{S c m:Nat}{qt qc qn:AV}{q:List Tm}{idx:Bool}{fuel used mx:Int}{nd:List AV}{i:IS}(h:dI st0 st S c m qt qc qn p q idx fuel used mx nd i)
 (goal:Tm) (at':Nat) (rest:List IG) (list:List Nat) (hg:cS i.σ) (ho:cV (bG i.fresh) i.σ) (hgo:bG i.fresh goal) (hl:∀x∈list,x<p.length) (hll:list.length≤1048576) (ha:at'<i.nn) (hX:IX p M i) (hMl:i.fresh+26*pO i.chs+26*list.length≤M) (hch:i.chs.length≤524288) (hnn:i.nn≤524288) :
 aD prog 308 [.ptr S 0,goal.av,.int .i64 (at':Int),.slice (list.map nv),eQ rest] st (fun r st'=>r=.bool (fS p goal at' rest list i).1∧∃qt' qc' mx' nd',dI st0 st' S c m qt' qc' qn p q idx fuel used mx' nd' (fS p goal at' rest list i).2):=by
 obtain⟨bN,rfl⟩:=h.nodes ha
 obtain⟨gk,gn,gs',gts⟩:=goal
 obtain⟨g1,g2,g3,g4,g5,g6⟩:=pF rest
 generalize hT:fS p (.mk gk gn gs' gts) at' rest list i=T
 simp only[aU]
 have hun:prog.underlying 26=some (.slice 3):=by kernel_rfl
 have g8:st S=some (.cells [.ptr c 0,.slice (p.map bX),.slice (q.map Tm.av),.bool idx,.bool false,.int .i64 fuel,.int .i64 used,.int .i64 i.fresh,eQ i.goals,qc,.mslice bN 0 nd.length 6,.int .i64 mx]):=h.cell
 have hcc:=h.sto.sub.cells
 have htl:=h.sto.aPC (P:=prog) hun
 obtain⟨t1,t2,t3,t4,t5⟩:=h.sto.shape
 refine aD.mL ?_
 refine wF [1000000] 5 func308 ntmps308 rfl rfl ?_
 intro _
 simp only[aE,g8,hcc,htl,t1,aA,seval,nL]
 refine dV (σ:=aB×AV) [1000000] [0,2,3,4,6,11,28,29] list (fun k s=>dI st0 s.1 S c m s.2 qc (.mslice bN 0 nd.length 6) p q idx fuel used mx nd { i with fresh:=i.fresh+26*k }∧fS p (.mk gk gn gs' gts) at' rest (list.drop k) { i with fresh:=i.fresh+26*k }=T)
  (fun k s=>[(10,.bool false),(30,.int .i64 k)]) (fun k s=>s.1) (by decide +kernel) ⟨(st,qt),⟨h,hT⟩,aN.mk (by simp only[aA,↓aR,seval])⟩ (fun k x s hx hlt bH hdr hinv=>?_) (fun s hge hinv=>?_)
 case refine_2=>
  simp only[hge,aA,seval]
  obtain⟨hi,he⟩:=hinv
  rw[j4] at he
  unfold fS at he
  subst he
  exact⟨s.1,aL.refl _,rfl,_,_,_,_,hi⟩
 obtain⟨st,qt⟩:=s
 obtain⟨h,hT⟩:=hinv
 simp only at h hT
 obtain⟨t1,t2,t3,t4,t5⟩:=h.sto.shape
 obtain⟨n1,n2,n3,n4,n5⟩:=h.acC.shape
 obtain⟨m1,m2,m3,m4,m5⟩:=h.acN.shape
 obtain⟨l1,l2,l3,l4,l5,l6⟩:=pF i.goals
 have hxl:=hl x (cD hx)
 obtain⟨cl,hcx⟩:∃cl,p[x]?=some cl:=⟨_,eN hxl⟩
 obtain⟨tA,qK⟩:=hp cl (cD hcx)
 rw[hdr,fS.eq_def] at hT
 simp only[hcx] at hT
 have hat:c9 prog 26 (.slice (list.map nv)) (.int .i64 (k:Int))=some (.pptr (.int .i64 (x:Int))):=bD (av:=nv) g7 hx rfl
 have AJ:=bD (av:=bX) (P:=prog) qD hcx (oG cl)
 have hw:=bL (n:=(k:Int)+1)
 generalize hF:i.fresh+26*k=F at *
 have hFM:F+26≤M:=by have:=aLP i.chs 0;omega
 have a1R:=bL (n:=(F:Int)+26)
 have g8:st S=some (.cells [.ptr c 0,.slice (p.map bX),.slice (q.map Tm.av),.bool idx,.bool false,.int .i64 fuel,.int .i64 used,.int .i64 F,eQ i.goals,qc,.mslice bN 0 nd.length 6,.int .i64 mx]):=h.cell
 obtain⟨⟨ck,cn,cs',cts⟩,bd⟩:=cl
 rw[gN] at AJ
 simp only[bH,aK,g8,hat,a1R,aA,↓aR,seval,nL]
 have h2:=h.put (gl:=i.goals) (F:=F+26) (fuel':=fuel) (used':=used) (mx':=mx) (cs:=[.ptr c 0,.slice (p.map bX),.slice (q.map Tm.av),.bool idx,.bool false,.int .i64 fuel,.int .i64 used,.int .i64 ((F:Int)+26),eQ i.goals,qc,.mslice bN 0 nd.length 6,.int .i64 mx]) rfl
 generalize st.aC S (.cells [.ptr c 0,.slice (p.map bX),.slice (q.map Tm.av),.bool idx,.bool false,.int .i64 fuel,.int .i64 used,.int .i64 ((F:Int)+26),eQ i.goals,qc,.mslice bN 0 nd.length 6,.int .i64 mx])=V at *
 simp only at h2
 have rX:V S=some (.cells [.ptr c 0,.slice (p.map bX),.slice (q.map Tm.av),.bool idx,.bool false,.int .i64 fuel,.int .i64 used,.int .i64 ((F:Int)+26),eQ i.goals,qc,.mslice bN 0 nd.length 6,.int .i64 mx]):=h2.cell
 refine wX [(0,1),(1,1),(2,1),(3,1),(4,1),(5,1),(6,1),(7,1),(8,1),(9,1),(10,1),(11,1),(12,1),(13,1),(14,0),(15,0),(16,1)] [0,1,2,3,4,5,6,7,8,9,10,11,12,13,16] (one S (.cells [.ptr c 0,.slice (p.map bX),.slice (q.map Tm.av),.bool idx,.bool false,.int .i64 fuel,.int .i64 used,.int .i64 ((F:Int)+26),eQ i.goals,qc,.mslice bN 0 nd.length 6,.int .i64 mx])) mixed rfl (fY rX) ?_
 simp only[qT,AJ,aA,seval,nL]
 have hsh:=fun st=>O4 (F:=F) (by omega) (.mk ck cn cs' cts) tA.head st
 have hhd:bG ((F+26:Nat):Int) (dE F (.mk ck cn cs' cts)):=(tA.dE F (.mk ck cn cs' cts) (by simp)).mono (by have:=tA.fr.1;omega)
 have htr:=h2.sto
 obtain⟨r,σ',add,U⟩:=tS (N:=F+26) hg (fun n u e=>(ho n u e).mono (by omega)) (hgo.mono (by omega)) hhd
 have htl:i.tr.length≤i.fresh:=hX.UE
 have hun:=F5 (N:=F+26) hg (fun n u e=>(ho n u e).mono (by omega)) (.mk gk gn gs' gts) (dE F (.mk ck cn cs' cts)) (hgo.mono (by omega)) hhd c m qt i.tr V h2.sto (by omega)
 rw[U.eq] at hT hun
 simp only at hT hun
 have GX:=U.A6
 have hso:=U.wS
 clear U
 generalize hy:dE F (.mk ck cn cs' cts)=y at *
 obtain⟨yk,yn,ys,yt⟩:=y
 simp only[aU] at hsh hun ⊢
 refine(hsh _).to ?_
 simp only[aA,seval]
 refine⟨fY rX,?_⟩
 refine hun.mono ?_
 rintro _ s2 ⟨rfl,hP⟩
 obtain⟨qt2,h3⟩:=h2.post hP
 have DH:s2 S=some (.cells [.ptr c 0,.slice (p.map bX),.slice (q.map Tm.av),.bool idx,.bool false,.int .i64 fuel,.int .i64 used,.int .i64 ((F:Int)+26),eQ i.goals,qc,.mslice bN 0 nd.length 6,.int .i64 mx]):=h3.cell
 simp only[aA,seval]
 refine⟨fY DH,?_⟩
 refine aP (fun hr=>?_) (fun hr=>?_)
 · have hr':r=false:=by simpa using hr
   rw[aF (by rw[hr'];simp)] at hT
   simp only[DH,aA,seval,nL]
   have hud:=O6 σ' (i.tr++add) i.tr.length (by simp) c m qt2 s2 h3.sto (by
    have:=h3.sto
    have:add.length≤F+26:=DY hso.nodup hso.gC
    rw[dM];omega)
   refine hud.mono ?_
   rintro _ s4 ⟨rfl,qt4,hS4,hb4,hf4⟩
   simp only[hw,aA,seval]
   have h5:=h3.UF hS4 (fun b o hb e1 e2 _=>hf4 b o hb e1 e2) (fun b hb=>.inl (hb4 b hb))
   simp only[E3,FA,GX] at h5
   refine⟨(s4,qt4),⟨?_,?_⟩,aN.mk (by simp only[aA,seval])⟩
   · rw[show i.fresh+26*(k+1)=F+26 by omega];exact h5
   · rw[show i.fresh+26*(k+1)=F+26 by omega];exact hT
 have hr':r=true:=by simpa using hr
 have a08:nd.length=i.nn:=h3.ndl
 rw[aJ hr'] at hT
 have G1:prog.underlying 263=some (.slice 317):=by kernel_rfl
 have Q5:prog.underlying 264=some (.slice 314):=by kernel_rfl
 have hlC:=h3.acC.len G1
 have hlN:=h3.acN.len Q5
 rw[aE] at hlC
 rw[h3.ndl] at hlN
 simp only at hlC hlN
 have aKA:=uL (P:=prog) (b:=bN) (w:=6) (i:=at') KJ (len:=nd.length) (by rw[h3.ndl];exact ha)
 simp only[aE,DH,hlC,hw,n1,aA,seval,nL]
 refine aP (fun h7=>?_) (fun h7=>?_)
 · have h':k+1<list.length:=by simp at h7;omega
   have hdn:list.drop (k+1)≠[]:=by intro e;have:=fE List.length e;simp at this;omega
   rw[aF hdn] at hT
   have hsl:=fun(φ:AF) (d:Nat) (h:φ d=.int .i64 ((k:Int)+1))=>aNE h' h
   refine wX [(0,1),(1,1),(2,1),(3,1),(4,1),(5,1),(6,1),(7,1),(8,1),(9,1),(10,1),(11,1),(12,1),(13,1),(14,1),(15,1),(16,1),(17,1),(18,1),(19,1),(20,0),(21,1),(22,1),(23,2)] [0,1,2,3,4,5,6,7,8,9,10,11,12,13,14,15,16,17,18,19,21,22] (one S (.cells [.ptr c 0,.slice (p.map bX),.slice (q.map Tm.av),.bool idx,.bool false,.int .i64 fuel,.int .i64 used,.int .i64 ((F:Int)+26),eQ i.goals,qc,.mslice bN 0 nd.length 6,.int .i64 mx])) mixed rfl (fY DH) ?_
   simp only[hsl,hw,g3,g4,n1,m1,qT,aA,seval,nL]
   refine jF.append GC ZE ZI rfl (by decide) h3.acC rfl (a12 ⟨.mk gk gn gs' gts,at',rest,list.drop (k+1),i.tr.length,nd.length⟩) (by rw[aE];simp only;omega) (fun qc5 s5 oJ hf hn=>?_)
   have aZ6:(i.chs.map rY)++ [rY ⟨.mk gk gn gs' gts,at',rest,list.drop (k+1),i.tr.length,nd.length⟩]=(i.chs++ [(⟨.mk gk gn gs' gts,at',rest,list.drop (k+1),i.tr.length,nd.length⟩:IC)]).map rY:=by simp
   have oJ:=aZ6▸oJ
   obtain⟨c1,c2,c3,c4,c5⟩:=oJ.shape
   have hS5:s5 S=s2 S:=hf S h3.parts.2.2.2.2.1 (fun hb=>by
    rcases hn S hb with h' | h'
    · exact h3.parts.2.2.2.2.1 h'
    · rw[DH] at h';cases h')
   have aKI:=hS5.trans DH
   have a0K:=fY aKI
   simp only[aK,aKI,c4,c5,m1,aB.aO,aA,seval,nL]
   refine⟨a0K,?_⟩
   have h5:=h3.a4G oJ hf hn (cs:=[.ptr c 0,.slice (p.map bX),.slice (q.map Tm.av),.bool idx,.bool false,.int .i64 fuel,.int .i64 used,.int .i64 ((F:Int)+26),eQ i.goals,qc5,.mslice bN 0 nd.length 6,.int .i64 mx]) rfl
   generalize s5.aC S (.cells [.ptr c 0,.slice (p.map bX),.slice (q.map Tm.av),.bool idx,.bool false,.int .i64 fuel,.int .i64 used,.int .i64 ((F:Int)+26),eQ i.goals,qc5,.mslice bN 0 nd.length 6,.int .i64 mx])=V5 at *
   rw[show(⟨.mk gk gn gs' gts,at',rest,list.drop (k+1),i.tr.length,nd.length⟩:IC)=⟨.mk gk gn gs' gts,at',rest,list.drop (k+1),i.tr.length,i.nn⟩ by rw[a08]] at h5
   obtain⟨csN,hbN,hcN⟩:=h5.nodeAt
   obtain⟨c1,c2,c3,c4,c5⟩:=(h5).acC.shape
   have hSN:S≠bN:=fun e=>(h5).parts.2.2.2.2.2.1 (by rw[e];simp [dO])
   have s9:=h5.cell
   simp only[iF] at s9
   rw[show((F+26:Nat):Int)=(F:Int)+26 from rfl] at s9
   simp only[aK,aE,s9,hbN,hSN,aKA,AJ,aA,seval,nL]
   refine⟨by omega,?_⟩
   obtain⟨nd6,h6⟩:=(h5).aM4 (x:=.int .i64 (x:Int)) (k:=at'*6+5) rfl hbN (by omega)
   have Q0:=h6.ndl
   simp only at Q0
   rw[show aK csN (at'*6+5) [.int .i64 (x:Int)]=List.take (at'*6+5) csN++ [AV.int IntKind.i64 (x:Int)]++List.drop (at'*6+5+1) csN from rfl] at h6
   generalize aB.aC _ bN (.cells (List.take (at'*6+5) csN++ [AV.int IntKind.i64 (x:Int)]++List.drop (at'*6+5+1) csN))=V6 at *
   have kH:=h6.cell
   simp only[iF] at kH
   rw[show((F+26:Nat):Int)=(F:Int)+26 from rfl] at kH
   refine oA (σ:=Unit) [1000000] [0,2,3,4,6,10,11,12,13,14,15,16,28,29,30,31,32,33,34,35,36,37,38,39,40,41,42,43,44,45,46,47,48,49,50,51,52,53,54,55,56,57,58,59,60,61,62,63,64,65,66,67,68,70,71,72,73,74,75,76,77,78,79,80,81,82,83,84,85,86,87,88,89,90,91,92,93,94,95,96,97,98,99,100,101,102,103,104,105,106,107,108,109,110,111,112,113,114,115,116,117,118,119] bd 4 17 (fun j _=>((bd.take j).map (dE F)).map Tm.av) (fun _ _=>True) (fun j _=>[(120,.int .i64 j)]) (fun _ _=>V6) (fun j _ _ e he=>by simp only[cI] at he;obtain⟨t,_,rfl⟩:=he;exact⟨cC _,aH _⟩) (by decide +kernel) ⟨(),0,trivial,fun h=>absurd rfl h,aN.mk (by simp only[iK,jG,aV,aA,↓aR,seval])⟩ (fun j y5 _ b5 hx5 a02 QX a0G QV hb5=>?_) (fun _ b5 QS QV=>?_)
   · have hw5:=wrap64 (n:=(j:Int)+1) (by simp only at qK;omega) (by simp only at qK;omega)
     have QA:=bD (av:=Tm.av) (P:=prog) a8 hx5 (aH y5)
     have GU:(((bd.take j).map (dE F)).map Tm.av).length=j:=by simp only[aE,dC];omega
     have hyb:=tA.body y5 (cD hx5)
     simp only[QX,QA,aT,aH,bT,cC,aA,↓aR,seval,nL]
     refine(O4 (F:=F) (by omega) y5 hyb.1 _).to ?_
     simp only[aT,aH,cC,aA,seval,nL]
     refine eD a8 fW fX rfl rfl (eO (aH _) (bT _)) (dS _) hb5 (by simp only[GU,aS,aW];simp only at qK;omega) (by simp only[GU,aS,aW];simp only at qK;omega) (fun b' hb'=>?_)
     rw[show(((bd.take j).map (dE F)).map Tm.av)++ [(dE F y5).av]=((bd.take (j+1)).map (dE F)).map Tm.av by rw[eA,hx5];simp] at hb' ⊢
     simp only[aA,seval]
     exact⟨(),b',hb',aN.mk (by simp only[hw5,aA,seval])⟩
   · have AQ:=fun st=>O3 (bd.map (dE F)) i.chs.length at' rest (by simp only[aE];simp only at qK;omega) st
     simp only[QS,fO,dZ,nV,iD,gV,nW,uJ,GD,P0,kF,dW,aJ0,aA,seval]
     refine(AQ _).to ?_
     have h7:=h6.put (gl:=(bd.map (dE F)).map (fun t=>(⟨t,i.chs.length,at'⟩:IG))++rest) (F:=F+26) (fuel':=fuel) (used':=used) (mx':=mx) rfl
     simp only[iF] at h7
     rw[show((F+26:Nat):Int)=(F:Int)+26 from rfl] at h7
     have hgl:(bd.map (dE F)).map (fun t=>(⟨t,i.chs.length,at'⟩:IG))++rest=bd.map (fun t=>(⟨dE F t,i.chs.length,at'⟩:IG))++rest:=by rw[rI];try rfl
     rw[hgl] at h7 ⊢
     generalize bd.map (fun t=>(⟨dE F t,i.chs.length,at'⟩:IG))++rest=NG at *
     obtain⟨u1,u2,u3,u4,u5,u6⟩:=pF NG
     have GS:=h7.acC.len G1
     simp only[aE] at GS
     simp only[aK,kH,u4,u5,aA,seval,nL]
     generalize aB.aC V6 S _=V7 at h7 ⊢
     have nX:=h7.cell
     simp only[iF] at nX
     rw[show((F+26:Nat):Int)=(F:Int)+26 from rfl] at nX
     refine wX [(0,1),(1,1),(2,1),(3,1),(4,1),(5,1),(6,1),(7,1),(8,1),(9,1),(10,0),(11,1),(12,1),(13,2)] [0,1,2,3,4,5,6,7,8,9,11,12] _ mixed rfl (fY nX) ?_
     simp only[aK,nX,GS,c1,qT,aA,seval,nL]
     refine⟨fY nX,?_⟩
     subst hT
     exact⟨_,aL.refl _,rfl,qt2,_,_,nd6,h7.put (gl:=NG) (F:=F+26) rfl⟩
 · have h':list.drop (k+1)= []:=B2 (by simp at h7;omega)
   rw[aJ h'] at hT
   obtain⟨csN,hbN,hcN⟩:=h3.nodeAt
   obtain⟨c1,c2,c3,c4,c5⟩:=(h3).acC.shape
   have hSN:S≠bN:=fun e=>(h3).parts.2.2.2.2.2.1 (by rw[e];simp [dO])
   have s9:=h3.cell
   simp only[iF] at s9
   rw[show((F+26:Nat):Int)=(F:Int)+26 from rfl] at s9
   simp only[aK,aE,s9,hbN,hSN,aKA,AJ,m1,aA,seval,nL]
   refine⟨by omega,?_⟩
   obtain⟨nd6,h6⟩:=(h3).aM4 (x:=.int .i64 (x:Int)) (k:=at'*6+5) rfl hbN (by omega)
   have Q0:=h6.ndl
   simp only at Q0
   rw[show aK csN (at'*6+5) [.int .i64 (x:Int)]=List.take (at'*6+5) csN++ [AV.int IntKind.i64 (x:Int)]++List.drop (at'*6+5+1) csN from rfl] at h6
   generalize aB.aC _ bN (.cells (List.take (at'*6+5) csN++ [AV.int IntKind.i64 (x:Int)]++List.drop (at'*6+5+1) csN))=V6 at *
   have kH:=h6.cell
   simp only[iF] at kH
   rw[show((F+26:Nat):Int)=(F:Int)+26 from rfl] at kH
   refine oA (σ:=Unit) [1000000] [0,2,3,4,6,10,11,12,13,14,15,16,28,29,30,31,32,33,34,35,36,37,38,39,40,41,42,43,44,45,46,47,48,49,50,51,52,53,54,55,56,57,58,59,60,61,62,63,64,65,66,67,68,70,71,72,73,74,75,76,77,78,79,80,81,82,83,84,85,86,87,88,89,90,91,92,93,94,95,96,97,98,99,100,101,102,103,104,105,106,107,108,109,110,111,112,113,114,115,116,117,118,119] bd 4 17 (fun j _=>((bd.take j).map (dE F)).map Tm.av) (fun _ _=>True) (fun j _=>[(120,.int .i64 j)]) (fun _ _=>V6) (fun j _ _ e he=>by simp only[cI] at he;obtain⟨t,_,rfl⟩:=he;exact⟨cC _,aH _⟩) (by decide +kernel) ⟨(),0,trivial,fun h=>absurd rfl h,aN.mk (by simp only[iK,jG,aV,aA,↓aR,seval])⟩ (fun j y5 _ b5 hx5 a02 QX a0G QV hb5=>?_) (fun _ b5 QS QV=>?_)
   · have hw5:=wrap64 (n:=(j:Int)+1) (by simp only at qK;omega) (by simp only at qK;omega)
     have QA:=bD (av:=Tm.av) (P:=prog) a8 hx5 (aH y5)
     have GU:(((bd.take j).map (dE F)).map Tm.av).length=j:=by simp only[aE,dC];omega
     have hyb:=tA.body y5 (cD hx5)
     simp only[QX,QA,aT,aH,bT,cC,aA,↓aR,seval,nL]
     refine(O4 (F:=F) (by omega) y5 hyb.1 _).to ?_
     simp only[aT,aH,cC,aA,seval,nL]
     refine eD a8 fW fX rfl rfl (eO (aH _) (bT _)) (dS _) hb5 (by simp only[GU,aS,aW];simp only at qK;omega) (by simp only[GU,aS,aW];simp only at qK;omega) (fun b' hb'=>?_)
     rw[show(((bd.take j).map (dE F)).map Tm.av)++ [(dE F y5).av]=((bd.take (j+1)).map (dE F)).map Tm.av by rw[eA,hx5];simp] at hb' ⊢
     simp only[aA,seval]
     exact⟨(),b',hb',aN.mk (by simp only[hw5,aA,seval])⟩
   · have AQ:=fun st=>O3 (bd.map (dE F)) i.chs.length at' rest (by simp only[aE];simp only at qK;omega) st
     simp only[QS,fO,dZ,nV,iD,gV,uJ,GD,P0,kF,dW,aJ0,aA,seval]
     refine(AQ _).to ?_
     have h7:=h6.put (gl:=(bd.map (dE F)).map (fun t=>(⟨t,i.chs.length,at'⟩:IG))++rest) (F:=F+26) (fuel':=fuel) (used':=used) (mx':=mx) rfl
     simp only[iF] at h7
     rw[show((F+26:Nat):Int)=(F:Int)+26 from rfl] at h7
     have hgl:(bd.map (dE F)).map (fun t=>(⟨t,i.chs.length,at'⟩:IG))++rest=bd.map (fun t=>(⟨dE F t,i.chs.length,at'⟩:IG))++rest:=by rw[rI];try rfl
     rw[hgl] at h7 ⊢
     generalize bd.map (fun t=>(⟨dE F t,i.chs.length,at'⟩:IG))++rest=NG at *
     obtain⟨u1,u2,u3,u4,u5,u6⟩:=pF NG
     have GS:=h7.acC.len G1
     simp only[aE] at GS
     simp only[aK,kH,u4,u5,aA,seval,nL]
     generalize aB.aC V6 S _=V7 at h7 ⊢
     have nX:=h7.cell
     simp only[iF] at nX
     rw[show((F+26:Nat):Int)=(F:Int)+26 from rfl] at nX
     refine wX [(0,1),(1,1),(2,1),(3,1),(4,1),(5,1),(6,1),(7,1),(8,1),(9,1),(10,0),(11,1),(12,1),(13,2)] [0,1,2,3,4,5,6,7,8,9,11,12] _ mixed rfl (fY nX) ?_
     simp only[aK,nX,GS,c1,qT,aA,seval,nL]
     refine⟨fY nX,?_⟩
     subst hT
     exact⟨_,aL.refl _,rfl,qt2,_,_,nd6,h7.put (gl:=NG) (F:=F+26) rfl⟩
theorem a1W(p:List Cl)(s:IS):gQ p s.chs.length s=match s.chs.getLast? with
 | none=>none
 | some c=>if(fS p c.goal c.node c.rest c.list (s.pop c)).1=true then some (fS p c.goal c.node c.rest c.list (s.pop c)).2 else gQ p (s.chs.length - 1) (fS p c.goal c.node c.rest c.list (s.pop c)).2:=by
 obtain⟨gl,σ,tr,chs,F,nn⟩:=s
 cases chs with
 | nil=>rfl
 | cons c l=>rw[aS,gQ];try rfl
structure UU (p:List Cl) (M:Nat) (st0:aB) (S c m:Nat) (q:List Tm) (idx:Bool) (fuel used:Int) (T:Option IS) (st:aB) (qt qc qn:AV) (mx:Int) (nd:List AV) (i:IS) (cs:List RC):Prop where
 s:dI st0 st S c m qt qc qn p q idx fuel used mx nd i
 r:iQ i.fresh cs i.chs i.σ i.tr
 x:IX p M i
 t:gQ p i.chs.length i=T
 n:i.chs.length≤524288∧i.nn≤524288
def UV(st0 st':aB)(S c m:Nat)(p:List Cl)(q:List Tm)(idx:Bool)(fuel used:Int)(r:AV):Option IS→Prop
 | some i'=>r=.int .i64 (-1)∧∃qt qc qn mx nd,dI st0 st' S c m qt qc qn p q idx fuel used mx nd i'
 | none=>r=.int .i64 0∧∃qt qc qn mx nd i',dI st0 st' S c m qt qc qn p q idx fuel used mx nd i'
abbrev H1:=zi aX (zi fA (zi bQ (zi EQ (zi oV (zi ER (zi T6 (zi T7 (zi II aOV))))))))
set_option maxHeartbeats 2000000 in
theorem JY{p:List Cl}(hp:∀c∈p,gF c∧c.2.length≤6){M:Nat}(hM:M≤16777216){st0:aB}{S c m:Nat}{q:List Tm}{idx:Bool}{fuel used:Int}{T:Option IS}(st:aB)(qt qc qn:AV)(mx:Int)(nd:List AV)(i:IS)(cs:List RC)
 (hI:UU p M st0 S c m q idx fuel used T st qt qc qn mx nd i cs) :
 aD prog 247 [.ptr S 0] st (fun r st'=>UV st0 st' S c m p q idx fuel used r T):=by
 refine aD.mL ?_
 refine wF [1000000] 1 func247 ntmps247 rfl rfl ?_
 intro _
 simp only[aA,seval]
 refine iG (σ:=aB×AV×AV×AV×Int×List AV×IS×List RC) [1000000] [0] (fun x=>UU p M st0 S c m q idx fuel used T x.1 x.2.1 x.2.2.1 x.2.2.2.1 x.2.2.2.2.1 x.2.2.2.2.2.1 x.2.2.2.2.2.2.1 x.2.2.2.2.2.2.2) (fun x=>[(2,.int .i64 0)]) (fun x=>x.1) (fun x=>x.2.2.2.2.2.2.1.chs.length) (by decide +kernel) ⟨(st,qt,qc,qn,mx,nd,i,cs),hI,aN.mk (by simp only[aA,seval])⟩ ?_
 clear hI
 rintro⟨st,qt,qc,qn,mx,nd,i,cs⟩ ⟨hs,hr,hx,ht,hn1,hn2⟩
 simp only at hs hr hx ht hn1 hn2
 simp only
 obtain⟨gl,τ,tr,ch,F,nn⟩:=i
 obtain⟨t1,t2,t3,t4,t5⟩:=hs.sto.shape
 obtain⟨n1,n2,n3,n4,n5⟩:=hs.acC.shape
 obtain⟨m1,m2,m3,m4,m5⟩:=hs.acN.shape
 obtain⟨l1,l2,l3,l4,l5,l6⟩:=pF gl
 have G1:prog.underlying 263=some (.slice 317):=by kernel_rfl
 have hlC:=hs.acC.len G1
 rw[aE] at hlC
 simp only at hlC hr hx ht hn1 hn2
 have g8:=hs.cell
 simp only[iF] at g8
 replace ht:=(a1W p ⟨gl,τ,tr,ch,F,nn⟩).symm.trans ht
 simp only at ht
 cases hr with
 | nil=>
  simp only[List.getLast?_nil] at ht
  subst ht
  simp only[aW] at hlC
  simp only[g8,hlC,n1,vY,↓I3,List.contains,List.elem,sH,iA,sub,zC,↓reduceIte,reduceCtorEq,H1]
  refine aP (fun h=>absurd h (by decide)) (fun h=>?_)
  simp only[aA,seval]
  exact⟨st,aL.refl _,rfl,_,_,_,_,_,_,hs⟩
 | @snoc cs ds cR d _ _ C h1 h2=>
  obtain⟨hP,hMl,hnt,htn,htr,hli⟩:=hx.pop
  have e3:(IS.pop ⟨gl,τ,tr,ds++ [d],F,nn⟩ d)=⟨gl,τ.out (tr.drop d.fG),tr.take d.fG,ds,F,d.taken⟩:=by simp only[IS.pop,NP]
  simp only[List.getLast?_append,List.getLast?_singleton,Option.some_or,e3] at ht
  obtain⟨bC,csC,rfl,hbC,a0X,htk⟩:=hs.acC.at (RF _) (i:=ds.length) (e:=rY d) (by simp)
  have hlm:((ds++ [d]).map rY).length=ds.length+1:=by simp
  rw[hlm] at hs g8 hlC
  have hSb:S≠bC:=fun e=>hs.parts.2.2.2.2.1 (by rw[e];simp [dO])
  have hdl:ds.length+1≤524288:=by simp only[dM,aS,aW] at hn1;omega
  have hw:IntKind.i64.wrap ((ds.length:Int)+1 - 1)=(ds.length:Int):=by rw[wrap64 (by omega) (by omega)];omega
  have aZX:=uL (P:=prog) (b:=bC) (w:=9) (i:=ds.length) GC (len:=ds.length+1) (by omega)
  have yA:=fun(φ:AF) (dd:Nat) (h:φ dd=.int .i64 (ds.length:Int))=>S3 (b:=bC) (n:=ds.length+1) (k:=ds.length) GC h (by omega)
  obtain⟨⟨dk,dn,ds',dts⟩,KE,KG,PH,F9,C6⟩:=d
  rw[aLA] at htk
  simp only at htn htr hnt hli hMl hP
  obtain⟨g1,g2,g3,g4,g5,g6⟩:=pF KG
  have a1O:(csC.drop (ds.length*9)).take 9= [.int .i64 dk,.int .i64 dn,.str ds',.slice (dts.map Tm.av),.int .i64 (KE:Int),eQ KG,.slice (PH.map nv),.int .i64 (F9:Int),.int .i64 (C6:Int)]:=htk
  simp only[dM,aS,aW,g8,hlC,aA,seval,H1]
  refine aP (fun h=>?_) (fun h=>absurd h (by simp))
  simp only[aK,dM,aS,aW,g8,hlC,hbC,a0X,a1O,aZX,yA,hw,g5,aA,↓aR,seval,H1]
  have hs2:=hs.Y7 (k:=ds.length) (gl:=gl) (by simp only[dM,aS,aW];omega) (cs:=iF c p q idx fuel used F (eQ gl) (.mslice bC 0 ds.length 9) qn mx) rfl
  simp only[FA,iF] at hs2
  generalize aB.aC st S _=V at hs2 ⊢
  have rX:=hs2.cell
  simp only[iF,xX] at rX hs2
  have htl:=hs2.sto.fG
  refine wX [(0,1),(1,1),(2,1),(3,1),(4,1),(5,1),(6,2)] [0,1,2,3,4,5] _ mixed rfl (fY rX) ?_
  simp only[qT,aA,seval,H1]
  refine(O6 τ tr F9 htr c m qt V hs2.sto (by have:=hx.UE;have:=hx.phi;simp only at *;omega)).mono ?_
  rintro _ s4 ⟨rfl,qt4,hS4,hb4,hf4⟩
  have hs4:=hs2.UF hS4 (fun b o hb e1 e2 _=>hf4 b o hb e1 e2) (fun b hb=>.inl (hb4 b hb))
  have QJ:=hs4.cell
  simp only[iF] at QJ
  obtain⟨q1,q2,q3,q4,q5⟩:=hs4.sto.shape
  have a0B:=fun(φ:AF) (dd:Nat) (h:φ dd=.int .i64 (C6:Int))=>aNB KJ hs4.acN h (by rw[hs4.ndl];exact htn)
  simp only[aA,seval]
  have hAN:=hs4.acN.take (k:=C6) (by rw[hs4.ndl];exact htn) hs4.ndw
  obtain⟨e1',e2',e3',e4',e5'⟩:=hAN.shape
  have hs6:=hs4.aWC (k:=C6) htn rfl
  simp only[iF] at hs6
  obtain⟨ρ,Sm,e1,hok,hG,e2⟩:=h1
  simp only at e1 e2
  have DR:=YM hp (show M≤268435456 by omega) hs6 (.mk dk dn ds' dts) KE KG PH Sm.g2 Sm.o2 (e1▸Sm.BB hok) hli (by omega) hnt hP hMl (by first | omega | (simp only;omega)) (by first | omega | (simp only;omega))
  simp only[aU] at DR
  have GZ:=M8 (fun c h=>(hp c h).1) (nn:=C6) (at':=KE) (tr:=tr.take F9) hok hG cR.left F gl Sm C
  rw[←e1,←e2] at GZ
  refine wX [(0,1),(1,1),(2,1),(3,1),(4,1),(5,1),(6,1),(7,1),(8,1),(9,1),(10,2)] [0,1,2,3,4,5,6,7,8,9] _ mixed rfl (fY QJ) ?_
  simp only[aK,QJ,a0B,e4',e5',m1,g1,g2,qT,aA,seval,H1]
  refine DR.mono ?_
  rintro _ s7 ⟨rfl,qt7,qc7,mx7,nd7,hs7⟩
  simp only[aA,seval]
  refine aP (fun h=>?_) (fun h=>?_)
  · simp only[aA,seval]
    rw[aJ h] at ht
    subst ht
    exact⟨s7,aL.refl _,rfl,_,_,_,_,_,hs7⟩
  · rw[aF (by rw[h];simp)] at ht
    cases hrt:iS p cs cR.goal cR.rest cR.σ cR.N cR.left with
    | some s=>
     rw[e2,hrt] at GZ
     obtain⟨i2,k1,_⟩:=GZ
     rw[←e2] at k1
     rw[k1] at h
     cases h
    | none=>
     rw[e2,hrt] at GZ
     obtain⟨F',hF,k1⟩:=GZ
     rw[←e2] at k1
     have hX7:=LI (fun c h=>(hp c h).1) (rest:=KG) PH _ hli (at':=KE) (by simp only;exact hnt) (by simp only;exact hMl) hP Sm.g2 Sm.o2 (e1▸Sm.BB hok)
     rw[k1] at hs7 ht hX7
     simp only[aA,seval]
     refine⟨(s7,qt7,qc7,_,mx7,nd7,⟨gl,τ.out (tr.drop F9),tr.take F9,ds,F',C6⟩,cs),by simp only;omega,⟨hs7,C.mono hF,hX7,?_,by simp only;omega,by simp only;omega⟩,aN.mk (by simp only[aA,seval])⟩
     simpa using ht
end Go.AW
namespace Go.AW
theorem IX.node{p:List Cl}{M:Nat}{i:IS}(h:IX p M i):IX p M { i with nn:=i.nn+1 }:=
 ⟨h.tnd,h.tin,h.phi,fun c hc=>by obtain⟨h1,h2,h3,h4⟩:=h.ch c hc;exact⟨h1,by simp only;omega,h3,h4⟩,h.mono⟩
theorem IX.more{p:List Cl}{M:Nat}{i:IS}{σ':Sub}{add:List Int}{gl:List IG}(h:IX p M i)(S:m6 (i.fresh:Int) i.σ σ' add):IX p M { i with goals:=gl,σ:=σ',tr:=i.tr++add }:=by
 refine⟨tY.2 ⟨h.tnd,S.nodup,fun a ha b hb e=>?_⟩,fun n hn=>?_,h.phi,fun c hc=>?_,h.mono⟩
 · subst e
   exact(h.tin a ha).2 (S.new a hb).1
 · simp only[fQ] at hn
   rcases hn with hn | hn
   · have h1:=h.tin n hn
     have hna:n∉add:=fun ha=>h1.2 (S.new n ha).1
     exact⟨h1.1,by simp only;rw[S.bB n hna];exact h1.2⟩
   · exact⟨S.gC n hn,(S.new n hn).2⟩
 · obtain⟨h1,h2,h3,h4⟩:=h.ch c hc
   exact⟨h1,h2,by simp only[dM];omega,h4⟩
theorem IX.cut{p:List Cl}{M:Nat}{i:IS}{gl:List IG}(h:IX p M i)(k:Nat):IX p M { i with goals:=gl,chs:=i.chs.take k }:=
 ⟨h.tnd,h.tin,by have:=aLP i.chs k;have:=h.phi;simp only;omega,fun c hc=>h.ch c (lB hc),h.mono.sublist (List.take_sublist _ _)⟩
def N3(p:List Cl)(M:Nat):xD→Prop
 | .go s=>IX p M s
 | .fail s=>IX p M s
 | .stop _=>True
theorem a1Z{p:List Cl}(hp:∀c∈p,gF c)(hpl:p.length≤20){cnd:Tm→List Nat→List Nat}(hc:∀t l,(∀i∈cnd t l,i∈l)∧(cnd t l).length≤l.length){M:Nat}{i:IS}{g:IG}{rest:List IG}(h:IX p M i)(hg:cS i.σ)(ho:cV (bG i.fresh) i.σ)(hgo:bG i.fresh g.t) :
 N3 p (M+520) (lW p cnd i g rest):=by
 have hU:=h.up (M':=M+520) (by omega)
 unfold lW
 split
 · trivial
 rename_i fF
 have QQ:eW (g.t.aG (rs i.σ))=true:=by simpa using fF
 have hok:=KV hg ho hgo QQ
 generalize g.t.aG (rs i.σ)=t at *
 split
 · exact(hU.cut (gl:=rest) g.cut).node
 split
 · have S:=L7 hg ho t.s t.ts fun x hx=>by
    obtain⟨k,n,s',ts⟩:=t
    by_cases hk:k=1
    · obtain⟨_,_,_,h2⟩:=(show cM i.fresh (.mk 1 n s' ts) from hk▸hok.1).var
      simp only[Tm.ts] at hx
      rw[h2] at hx;cases hx
    · exact qS _ (.mk k n s' ts) hk hok x hx
   split
   · exact(hU.more (gl:=rest) S).node
   · split
     · exact(hU.more (gl:=i.goals) S).node
     · trivial
 split
 · trivial
 obtain⟨c1,c2⟩:=hc t (eP p t)
 have hfl:(eP p t).length≤p.length:=by
  have:=List.length_filter_le (fun j=>match p[j]? with | some c=>GQ c t | none=>false) (List.range p.length)
  rw[I7] at this
  exact this
 have hr:∀x∈cnd t (eP p t),x<p.length:=fun x hx=>by
  have:=c1 x hx
  unfold eP at this
  exact vC.1 (List.mem_filter.1 this).1
 have hT:=LI hp (rest:=rest) (cnd t (eP p t)) { i with nn:=i.nn+1 } hr (at':=i.nn) (by simp only;omega) (by have:=h.phi;simp only;omega) hU.node hg ho hok
 split
 · exact hT
 · exact hT
end Go.AW
namespace Go.AW
open Go.Proofs.Tryz
theorem aK9{p:List Cl}{goal:Tm}{at':Nat}{rest:List IG}:∀(l:List Nat) (s:IS),(fS p goal at' rest l s).1=false→∃F,(fS p goal at' rest l s).2= { s with fresh:=F }
 | [],s,_=>⟨s.fresh,by rw[fS.eq_def]⟩
 | j::l,s,h=>by
  rw[fS.eq_def] at h ⊢
  simp only at h ⊢
  split at h
  · exact⟨s.fresh,rfl⟩
  · split at h
    · cases h
    · rename_i hu
      rw[aF hu]
      obtain⟨F,e⟩:=aK9 l { s with fresh:=s.fresh+26 } h
      exact⟨F,e⟩
theorem LJ{p:List Cl}{goal:Tm}{at':Nat}{rest:List IG}:∀(l:List Nat) (s:IS),(fS p goal at' rest l s).2.nn=s.nn
 | [],s=>by rw[fS.eq_def]
 | j::l,s=>by
  rw[fS.eq_def]
  simp only
  split
  · rfl
  · split
    · rfl
    · exact LJ l { s with fresh:=s.fresh+26 }
theorem Rl.facts{s:RS}{i:IS}(h:Rl s i):cS i.σ∧cV (bG i.fresh) i.σ∧i.chs.length=s.chs.length∧i.goals.length=s.goals.length:=by
 obtain⟨ρ,S,G,C⟩:=h
 have:=fE List.length G.1
 simp only[aE] at this
 exact⟨S.g2,S.o2,C.len,this⟩
theorem Rl.goal{s:RS}{i:IS}{h:IG}{hs:List IG}(hR:Rl s i)(hh:i.goals=h::hs):bG i.fresh h.t∧h.t.k=3∧∃g gs,s.goals=g::gs∧h.cut=g.bB:=by
 obtain⟨ρ,S,G,C⟩:=hR
 rw[hh] at G
 cases hg:s.goals with
 | nil=>rw[hg] at G;exact absurd G.1 (by simp)
 | cons g gs=>
  rw[hg] at G
  have he:=(List.cons.inj G.1).1
  simp only[Prod.mk.injEq] at he
  obtain⟨e1,e2⟩:=he
  obtain⟨h1,h2⟩:=G.2 g (by simp)
  rw[e1]
  exact⟨S.BB h1,by rw[yM];exact h2,g,gs,rfl,e2⟩
section
variable {p:List Cl} (hp:∀c∈p,gF c) {cnd:Tm→List Nat→List Nat} (hc:∀(ρ:Int→Int) (t:Tm) (l:List Nat),cnd (bV ρ t) l=cnd t l)
include hp hc
theorem Rl.step{s:RS}{i:IS}{h:IG}{hs:List IG}(hR:Rl s i)(hh:i.goals=h::hs):∃g gs,s.goals=g::gs∧match lW p cnd i h hs with
 | .stop e=>k6 p cnd s g gs=.stop e
 | .go i'=>∃s',k6 p cnd s g gs=.go s'∧Rl s' i'
 | .fail i'=>k6 p cnd s g gs=.fail∧iQ i'.fresh s.chs i'.chs i'.σ i'.tr:=by
 obtain⟨_,_,g,gs,hg,_⟩:=hR.goal hh
 obtain⟨h',hs',e,k⟩:=aNI hp hc hR hg
 rw[hh] at e
 cases e
 refine⟨g,gs,hg,?_⟩
 cases hr:k6 p cnd s g gs with
 | stop e=>rw[hr] at k;simp only at k;rw[k]
 | go s'=>rw[hr] at k;simp only at k;obtain⟨i',e,k⟩:=k;rw[e];exact⟨s',rfl,k⟩
 | fail=>rw[hr] at k;simp only at k;obtain⟨i',e,k⟩:=k;rw[e];exact⟨rfl,k⟩
end
theorem aZE(p:List Cl)(t:Tm):(eP p t).length≤p.length:=by
 have:=List.length_filter_le (fun j=>match p[j]? with | some c=>GQ c t | none=>false) (List.range p.length)
 rw[I7] at this
 exact this
theorem P1(p:List Cl)(t:Tm):∀x∈eP p t,x<p.length:=fun x hx=>by
 unfold eP at hx
 exact vC.1 (List.mem_filter.1 hx).1
theorem aK8{p:List Cl}{N:Nat}{i':IS}:∀(n:Nat) (i:IS),(∀c∈i.chs,c.taken≤N)→gQ p n i=some i'→i'.nn≤N
 | 0,i,_,e=>by simp [gQ] at e
 | n+1,i,h,e=>by
  rw[gQ] at e
  split at e
  · cases e
  · rename_i c hl
    split at e
    · cases e
      rw[LJ]
      exact h c (NU hl)
    · rename_i hf
      obtain⟨F,e2⟩:=aK9 _ _ (by simpa using hf)
      rw[e2] at e
      exact aK8 n _ (fun c hc=>h c (NQ _ hc)) e
def N2(k:Nat):xD→Prop
 | .go s=>s.nn=k
 | .fail s=>s.nn=k
 | .stop _=>True
theorem a10{p:List Cl}{cnd:Tm→List Nat→List Nat}{i:IS}{g:IG}{rest:List IG}:N2 (i.nn+1) (lW p cnd i g rest):=by
 unfold lW
 split
 · trivial
 split
 · exact rfl
 split
 · split
   · exact rfl
   · split
     · exact rfl
     · trivial
 split
 · trivial
 split
 · exact LJ _ _
 · exact LJ _ _
def VB:xD→Prop
 | .stop e=>e≠-1
 | _=>True
theorem a11{p:List Cl}{cnd:Tm→List Nat→List Nat}{i:IS}{g:IG}{rest:List IG}:VB (lW p cnd i g rest):=by
 unfold lW
 split
 · exact(by decide:(3:Int)≠-1)
 split
 · trivial
 split
 · split
   · trivial
   · split
     · trivial
     · show rV _≠-1
       unfold rV
       split
       · decide
       · split
         · decide
         · split<;>decide
 split
 · exact(by decide:(8:Int)≠-1)
 split<;>trivial
structure RI (p:List Cl) (B M k:Nat) (s:RS) (i:IS):Prop where
 r:Rl s i
 a:lF p B s
 x:IX p M i
 n:i.nn≤k
theorem RI.pD{p:List Cl}{B M k:Nat}{s:RS}{i:IS}(h:RI p B M k s i):i.chs.length≤B:=by rw[h.r.facts.2.2.1];exact h.a.a.pD
theorem RI.cr{p:List Cl}{B M k:Nat}{s:RS}{i:IS}(h:RI p B M k s i):iQ i.fresh s.chs i.chs i.σ i.tr:=by obtain⟨_,_,_,C⟩:=h.r;exact C
theorem RI.cut{p:List Cl}{B M k:Nat}{s:RS}{i:IS}{g:IG}{gs:List IG}(h:RI p B M k s i)(hg:i.goals=g::gs):g.cut≤i.chs.length:=by
 obtain⟨_,_,g',gs',e,e2⟩:=h.r.goal hg
 rw[e2,h.r.facts.2.2.1]
 have:=h.a.k.goals.2 g' (by rw[e];simp)
 exact this
section
variable {p:List Cl} (hp:∀c∈p,gF c∧c.2.length≤6) (hpl:p.length≤20) {cnd:Tm→List Nat→List Nat} (hc:∀(ρ:Int→Int) (t:Tm) (l:List Nat),cnd (bV ρ t) l=cnd t l) (hd:∀t l,(∀i∈cnd t l,i∈l)∧(cnd t l).length≤l.length)
include hp
theorem RI.WR{B M k:Nat}(hB:B≤524288){s:RS}{i i':IS}(ha:lF p B s)(hC:iQ i.fresh s.chs i.chs i.σ i.tr)(hx:IX p M i)(hn:i.nn≤k)(e:gQ p i.chs.length i=some i'):∃s',RI p B M k s' i':=by
 have hp1:=fun c h=>(hp c h).1
 have key:=OJ hp1 i.chs.length s.chs i hC
 cases hr:gY p i.chs.length s.chs with
 | none=>rw[hr] at key;simp only at key;rw[key] at e;cases e
 | some s'=>
  rw[hr] at key
  obtain⟨i2,e2,R⟩:=key
  rw[e2] at e
  cases e
  rw[hC.len] at hr
  exact⟨s',R,ha.back hp hB hr,aK7 hp1 _ s.chs i hC hx i' e2,aK8 _ i (fun c hc=>jP (hx.ch c hc).2.1 hn) e2⟩
theorem RI.back{B M k:Nat}(hB:B≤524288){s:RS}{i i':IS}(h:RI p B M k s i)(e:gQ p i.chs.length i=some i'):∃s',RI p B M k s' i':=
 RI.WR hp hB h.a h.cr h.x h.n e
include hpl hc hd
theorem RI.step{B M k:Nat}(hB:B+26≤524288){s:RS}{i:IS}{g:IG}{gs:List IG}(h:RI p B M k s i)(hg:i.goals=g::gs):match lW p cnd i g gs with
 | .stop e=>True
 | .go i'=>∃s',RI p (B+26) (M+520) (k+1) s' i'
 | .fail i'=>iQ i'.fresh s.chs i'.chs i'.σ i'.tr∧IX p (M+520) i'∧i'.nn≤k+1∧∀i2,gQ p i'.chs.length i'=some i2→∃s',RI p (B+26) (M+520) (k+1) s' i2:=by
 have hp1:=fun c h=>(hp c h).1
 have hn:=a10 (p:=p) (cnd:=cnd) (i:=i) (g:=g) (rest:=gs)
 have hx:=a1Z hp1 hpl hd (rest:=gs) h.x h.r.facts.1 h.r.facts.2.1 (h.r.goal hg).1
 obtain⟨g',gs',e,k⟩:=h.r.step hp1 hc hg
 have hk:=h.n
 cases hs:lW p cnd i g gs with
 | stop e=>trivial
 | go i'=>
  rw[hs] at hn hx k
  simp only[N2,N3] at hn hx k
  obtain⟨s',e1,R⟩:=k
  exact⟨s',R,h.a.step hp (by omega) hB hd e e1,hx,by omega⟩
 | fail i'=>
  rw[hs] at hn hx k
  simp only[N2,N3] at hn hx k
  obtain⟨e1,C⟩:=k
  exact⟨C,hx,by omega,fun i2 e2=>RI.WR hp hB (h.a.up (by omega)) C hx (by omega) e2⟩
end
theorem RI.start{p:List Cl}{q:List Tm}(hq:∀t∈q,bG 26 t∧t.k=3)(h6:q.length≤6):RI p 26 26 0 (lJ q) (oL q):=by
 refine⟨aNH hq,lF.start hq h6,⟨oX,fun n hn=>(by cases hn),(by show 26+26*pO []≤26;simp [pO]),fun c hc=>(by cases hc),List.Pairwise.nil⟩,cZ _⟩
theorem a1Y{p:List Cl}{cnd:Tm→List Nat→List Nat}{vars:List Int}{most fuel:Nat}{s:IS}(hg:s.goals= []):jL p cnd vars most fuel s=if most=0 then([],1) else match j8 s.σ vars with
 | none=>([],3)
 | some a=>match gQ p s.chs.length s with
  | none=>([a],0)
  | some s'=>(a::(jL p cnd vars (most - 1) fuel s').1,(jL p cnd vars (most - 1) fuel s').2):=by
 rw[jL.eq_def,hg]
 simp only
 split<;>rfl
theorem a1X{p:List Cl}{cnd:Tm→List Nat→List Nat}{vars:List Int}{most fuel:Nat}{s:IS}{g:IG}{rest:List IG}(hg:s.goals=g::rest):jL p cnd vars most fuel s=if fuel=0 then([],2) else match lW p cnd s g rest with
 | .stop e=>([],e)
 | .go s'=>jL p cnd vars most (fuel - 1) s'
 | .fail s'=>match gQ p s'.chs.length s' with
  | none=>([],0)
  | some s''=>jL p cnd vars most (fuel - 1) s'':=by
 rw[jL.eq_def,hg]
 simp only
 split<;>rfl
section
variable {st0 st:aB} {S c m:Nat} {qt qc qn:AV} {p:List Cl} {q:List Tm} {idx:Bool} {fuel used mx:Int} {nd:List AV} {i:IS}
theorem dI.acc{b:Nat}{l:List AV}(h:dI st0 st S c m qt qc qn p q idx fuel used mx nd i)(hb:l≠[]→st b=none):dI (a7 st0 b l) (a7 st b l) S c m qt qc qn p q idx fuel used mx nd i:=by
 cases l with
 | nil=>exact h
 | cons x l=>
  have hn:=hb (by simp)
  have hne:∀a∈jD S c m qt qc qn,a7 st b (x::l) a=st a:=fun a ha=>o7 (by rintro rfl;exact h.held a ha hn)
  have a09:∀a∈jD S c m qt qc qn,a7 st0 b (x::l) a=st0 a:=fun a ha=>o7 (by rintro rfl;exact h.held a ha hn)
  refine⟨by rw[hne S (eG.2 (.inl rfl))];exact h.cell,h.sto.DT (hne c (eG.2 (.inr (.inl rfl)))) (hne m (eG.2 (.inr (.inr (.inl rfl))))) (fun b hb=>hne b (eG.2 (.inr (.inr (.inr (.inl hb)))))),
   h.acC.bB fun b hb=>hne b (eG.2 (.inr (.inr (.inr (.inr (.inl hb)))))),h.acN.bB fun b hb=>hne b (eG.2 (.inr (.inr (.inr (.inr (.inr hb)))))),h.ndl,h.ndw,h.dis,fun a ha=>by rw[a09 a ha];exact h.new a ha,fun a o ha=>?_⟩
  by_cases e:a=b
  · subst e
    rw[jR (by simp),aB.aO] at ha ⊢
    exact ha
  · rw[o7 e] at ha ⊢
    exact h.bB a o ha
theorem dI.BS{b:Nat}{l:List AV}{st2:aB}(h:dI (a7 st0 b l) st2 S c m qt qc qn p q idx fuel used mx nd i)(hb:l≠[]→st0 b=none):∃s,st2=a7 s b l∧(l≠[]→s b=none)∧dI st0 s S c m qt qc qn p q idx fuel used mx nd i:=by
 cases l with
 | nil=>exact⟨st2,rfl,fun h=>absurd rfl h,h⟩
 | cons x l=>
  have hn:=hb (by simp)
  have h2:st2 b=some (.cells ((x::l).flatMap AV.cells)):=h.bB b _ (by rw[jR (by simp),aB.aO])
  have hbn:b∉jD S c m qt qc qn:=fun hm=>by
   have:=h.new b hm
   rw[jR (by simp),aB.aO] at this
   cases this
  obtain⟨s',hs'⟩:∃s':aB,∀y,s' y=if y=b then none else st2 y:=⟨_,fun _=>rfl⟩
  have hne:∀a∈jD S c m qt qc qn,s' a=st2 a:=fun a ha=>by rw[hs',aF (by rintro rfl;exact hbn ha)]
  refine⟨s',?_,fun _=>by rw[hs',aJ rfl],?_⟩
  · funext y
    by_cases e:y=b
    · subst e;rw[jR (by simp),aB.aO,h2]
    · rw[o7 e,hs',aF e]
  · refine⟨by rw[hne S (eG.2 (.inl rfl))];exact h.cell,h.sto.DT (hne c (eG.2 (.inr (.inl rfl)))) (hne m (eG.2 (.inr (.inr (.inl rfl))))) (fun b hb=>hne b (eG.2 (.inr (.inr (.inr (.inl hb)))))),
     h.acC.bB fun b hb=>hne b (eG.2 (.inr (.inr (.inr (.inr (.inl hb)))))),h.acN.bB fun b hb=>hne b (eG.2 (.inr (.inr (.inr (.inr (.inr hb)))))),h.ndl,h.ndw,h.dis,fun a ha=>?_,fun a o ha=>?_⟩
    · have:=h.new a ha
      rwa [o7 (by rintro rfl;exact hbn ha)] at this
    · have e:a≠b:=by rintro rfl;rw[hn] at ha;cases ha
      rw[hs',aF e]
      exact h.bB a o (by rw[o7 e];exact ha)
theorem KS{st:aB}{b:Nat}{o:AO}(h:st b=none):fP st (st.aC b o):=fun x p hx=>by
 rw[aB.aM _ _ (by rintro rfl;rw[h] at hx;cases hx)];exact hx
theorem M9{S b:Nat}(hne:S≠b)(X Y:AO):∃s0:aB,s0 S=some X∧s0 b=some Y∧∀st:aB,st S=some X→st b=some Y→fP s0 st:=by
 refine⟨(one S X).aC b Y,by rw[aB.aM _ _ hne];exact qT,aB.aO _ _ _,fun st h1 h2 x p hx=>?_⟩
 by_cases e:x=b
 · subst e;rw[aB.aO] at hx;cases hx;exact h2
 · rw[aB.aM _ _ e] at hx;exact fY h1 x p hx
theorem dI.box{b:Nat}{o:AO}(h:dI st0 st S c m qt qc qn p q idx fuel used mx nd i)(hn:st b=none):dI (st0.aC b o) (st.aC b o) S c m qt qc qn p q idx fuel used mx nd i:=by
 have hne:∀(s:aB) a,a∈jD S c m qt qc qn→(s.aC b o) a=s a:=fun s a ha=>aB.aM _ _ (by rintro rfl;exact h.held a ha hn)
 refine⟨by rw[hne _ S (eG.2 (.inl rfl))];exact h.cell,h.sto.DT (hne _ c (eG.2 (.inr (.inl rfl)))) (hne _ m (eG.2 (.inr (.inr (.inl rfl))))) (fun b hb=>hne _ b (eG.2 (.inr (.inr (.inr (.inl hb)))))),
  h.acC.bB fun b hb=>hne _ b (eG.2 (.inr (.inr (.inr (.inr (.inl hb)))))),h.acN.bB fun b hb=>hne _ b (eG.2 (.inr (.inr (.inr (.inr (.inr hb)))))),h.ndl,h.ndw,h.dis,fun a ha=>by rw[hne _ a ha];exact h.new a ha,fun a o' ha=>?_⟩
 by_cases e:a=b
 · subst e
   rw[aB.aO] at ha ⊢
   exact ha
 · rw[aB.aM _ _ e] at ha ⊢
   exact h.bB a o' ha
theorem dI.unbox{b:Nat}{o:AO}(h:dI (st0.aC b o) st S c m qt qc qn p q idx fuel used mx nd i)(hn:st0 b=none):dI st0 st S c m qt qc qn p q idx fuel used mx nd i:=by
 refine⟨h.cell,h.sto,h.acC,h.acN,h.ndl,h.ndw,h.dis,fun a ha=>?_,fun a o' ha=>?_⟩
 · have:=h.new a ha
   by_cases e:a=b
   · subst e;exact hn
   · rwa [aB.aM _ _ e] at this
 · have e:a≠b:=by rintro rfl;rw[hn] at ha;cases ha
   exact h.bB a o' (by rw[aB.aM _ _ e];exact ha)
end
end Go.AW
namespace Go.AW
theorem a7S{l:List Tm}{f g:Int→Tm}(hc:∀t∈l,t.cv=true)(hf:∀t∈l,∀v∈t.vl,(f v).cv=true)(h:∀t∈l,(t.aG f).aG g=t):kJ (l.map (Tm.aG f))=kJ l:=by
 have hk:(0:Int)≠1:=by decide
 have hW:∀l:List Tm,HL (.mk 0 0 ⟨#[]⟩ l)=.mk 0 0 ⟨#[]⟩ (kJ l):=fun l=>by
  have e:(Tm.mk 0 0 ⟨#[]⟩ l).vars []=aY l []:=by simp [Tm.vars]
  unfold HL kJ
  rw[Tm.i8 _ hk,e]
 have:=variant (x:=.mk 0 0 ⟨#[]⟩ l) (y:=.mk 0 0 ⟨#[]⟩ (l.map (Tm.aG f))) (f:=f) (g:=g) (Tm.lU.2 ⟨fun h=>absurd h hk,hc⟩) (fun v hv=>by
  obtain⟨t,ht,hvt⟩:=(Tm.kV hk).1 hv
  exact hf t ht v hvt) (by rw[Tm.i8 f hk]) (by
  rw[Tm.i8 g hk,rI]
  congr 1
  conv=>lhs;rw[←List.map_id l]
  exact pW fun t ht=>(h t ht).symm)
 rw[hW,hW] at this
 injection this with _ _ _ e
 exact e.symm
theorem a4T{l:List Tm}(hc:∀t∈l,t.cv=true):kJ (kJ l)=kJ l:=by
 have h:=a7S (l:=l) (f:=fun v=>vr (d4 v (aY l []) 0)) (g:=fun i=>vr (((aY l [])[i.toNat]?).getD 0)) hc (fun _ _ _ _=>rfl) fun t ht=>by
  rw[tG]
  conv=>rhs;rw[←G8 t (hc t ht)]
  refine n6 t fun v hv=>?_
  rw[tH]
  obtain⟨j,h1,h2,h3,_⟩:=LK v (aY l []) 0 ((tP l [] hc).2 (.inr ⟨t,ht,hv⟩))
  rw[h1,show((0:Int)+(j:Nat)).toNat=j by omega,h3]
  try rfl
 exact h
def NI(vars:List Int)(a:List Tm):Prop:=a.length=vars.length∧a.all Tm.valid=true∧kJ a=a
theorem aQZ{N:Nat}{σ:Sub}(hg:cS σ)(ho:cV (bG N) σ){vars:List Int}(hv:∀v∈vars,0≤v∧v<(N:Int)){a:List Tm}(h:j8 σ vars=some a):NI vars a:=by
 obtain⟨rk,B,G⟩:=hg.rs
 unfold j8 at h
 split at h
 · rename_i hh
   cases h
   obtain⟨h1,h2⟩:=hh
   have hok:∀t∈vars.map (rs σ),bG N t:=fun t ht=>by
    obtain⟨v,hvm,rfl⟩:=cI.1 ht
    have hf:=dQ.1 h1 _ ht
    unfold eW at hf
    simp only[cB,bO] at hf
    exact⟨G.lY ho.lY v (hv v hvm).1 (hv v hvm).2,hf.2⟩
   exact⟨by rw[a4U hok,aE],by rw[aMR hok h1,bO];exact h2,a4T fun t ht=>(hok t ht).1.2.1⟩
 · cases h
theorem SN{p:List Cl}(hp:∀c∈p,gF c∧c.2.length≤6)(hpl:p.length≤20){cnd:Tm→List Nat→List Nat}(hd:∀t l,(∀i∈cnd t l,i∈l)∧(cnd t l).length≤l.length){vars:List Int}(hv:∀v∈vars,0≤v∧v<26) :
 ∀(n most fuel:Nat) (s:RS) (B:Nat),most+fuel≤n→lF p B s→B+26*fuel≤8000→(kS p cnd vars most fuel s).1.length≤most∧∀a∈(kS p cnd vars most fuel s).1,NI vars a:=by
 intro n
 induction n with
 | zero=>
  intro most fuel s B hn hs hB
  obtain rfl:most=0:=by omega
  obtain rfl:fuel=0:=by omega
  cases hg:s.goals with
  | nil=>rw[SM hg];simp
  | cons g rest=>rw[SL hg];simp
 | succ n ih=>
  intro most fuel s B hn hs hB
  cases hg:s.goals with
  | nil=>
   rw[SM hg]
   by_cases hm:most=0
   · rw[aJ hm];simp
   rw[aF hm]
   cases ha:j8 s.σ vars with
   | none=>simp
   | some a=>
    have hok:=aQZ hs.a.gW hs.a.ok (fun v h=>⟨(hv v h).1,by have:=(hv v h).2;have:=hs.l.1;omega⟩) ha
    simp only
    cases hb:gY p s.chs.length s.chs with
    | none=>
     simp only[aS,aW,c8,dP,dX]
     exact⟨by omega,fun x hx=>by rw[hx];exact hok⟩
    | some s'=>
     obtain⟨h1,h2⟩:=ih (most - 1) fuel s' B (by omega) (hs.back hp (by omega) hb) hB
     simp only[aS,c8]
     refine⟨by omega,fun x hx=>?_⟩
     rcases hx with rfl | hx
     · exact hok
     · exact h2 x hx
  | cons g rest=>
   rw[SL hg]
   by_cases hf:fuel=0
   · rw[aJ hf];simp
   rw[aF hf]
   cases hst:k6 p cnd s g rest with
   | stop e=>simp
   | go s'=>exact ih most (fuel - 1) s' (B+26) (by omega) (hs.step hp (by omega) (by omega) hd hg hst) (by omega)
   | fail=>
    simp only
    cases hb:gY p s.chs.length s.chs with
    | none=>simp
    | some s'=>exact ih most (fuel - 1) s' B (by omega) (hs.back hp (by omega) hb) (by omega)
theorem HF{q:List Tm}(hq:∀t∈q,bG 26 t∧t.k=3):(∀v∈aY q [],0≤v∧v<26)∧(aY q []).length≤26:=by
 have hv:∀v∈aY q [],0≤v∧v<26:=fun v hv=>by
  rcases (tP q [] fun t ht=>(hq t ht).1.1.2.1).1 hv with h | ⟨t,ht,h⟩
  · cases h
  · exact(hq t ht).1.1.2.2 v h
 refine⟨hv,?_⟩
 have hnd:=M6 q [] (fun t ht=>Tm.rS t (hq t ht).1.1.2.1) oX
 exact DY (N:=26) hnd fun n hn=>hv n hn
theorem aNG(p:List Cl){cnd:Tm→List Nat→List Nat}(hd:∀t l,(∀i∈cnd t l,i∈l)∧(cnd t l).length≤l.length)(q:List Tm)(most fuel:Int):(kT p cnd q most fuel).1.length≤20∧∀a∈(kT p cnd q most fuel).1,a.length≤26∧a.all Tm.valid=true:=by
 unfold kT
 split
 · rename_i h
   simp only[nH,cB,bO] at h
   obtain⟨hp,hq,h1,h2,h3,h4⟩:=h
   obtain⟨p1,p2⟩:=HE hp
   obtain⟨q1,q2⟩:=A9 hq
   obtain⟨v1,v2⟩:=HF q2
   obtain⟨r1,r2⟩:=SN p2 p1 hd v1 _ most.toNat fuel.toNat (lJ q) 26 (cZ _) (lF.start q2 q1) (by omega)
   unfold wT
   refine⟨by omega,fun a ha=>?_⟩
   obtain⟨h5,h6,_⟩:=r2 a ha
   exact⟨by omega,h6⟩
 · simp
theorem a5T(p:List Cl){cnd:Tm→List Nat→List Nat}(hd:∀t l,(∀i∈cnd t l,i∈l)∧(cnd t l).length≤l.length)(q:List Tm)(most fuel:Int):∀a∈(kT p cnd q most fuel).1,gX q=true∧NI (aY q []) a:=by
 unfold kT
 split
 · rename_i h
   simp only[nH,cB,bO] at h
   obtain⟨hp,hq,h1,h2,h3,h4⟩:=h
   obtain⟨p1,p2⟩:=HE hp
   obtain⟨q1,q2⟩:=A9 hq
   obtain⟨r1,r2⟩:=SN p2 p1 hd (HF q2).1 _ most.toNat fuel.toNat (lJ q) 26 (cZ _) (lF.start q2 q1) (by omega)
   exact fun a ha=>⟨hq,r2 a ha⟩
 · simp
abbrev ba (l:List UInt8):ByteArray:=⟨⟨l⟩⟩
def dK(x:UInt8):Bool:=decide (48≤x.toNat)&&decide (x.toNat≤57)
def rC(x:UInt8):Bool:=decide (65≤x.toNat)&&decide (x.toNat≤90)
def cT(l:List UInt8)(n c:Nat):Bool:=match l[n]? with | some x=>decide (x.toNat=c) | none=>false
def gD(l:List UInt8)(n:Nat)(p:UInt8→Bool):Bool:=match l[n]? with | some x=>p x | none=>false
def nU(l:List UInt8):Nat:=l.foldl (fun n x=>n*10+(x.toNat - 48)) 0
def iL(l:List UInt8):Nat×Bool:=if l.length=0∨(cT l 0 48=true∧1<l.length) then(0,false) else(nU l,true)
def uU(l:List UInt8)(a:Nat):Option (Int×Nat):=
 let f:=if cT l a 45 then a+1 else a
 let t:=((l.drop f).takeWhile dK).take 4
 if(iL t).2=false∨(a<f∧(iL t).1=0)∨999<(iL t).1 then none else some (if a<f then -((iL t).1:Int) else((iL t).1:Int),f+t.length)
def kE(l:List UInt8)(b g:ByteArray):ByteArray:=if l.take g.size=sb g∧b.size<g.size then g else b
def oR(l:List UInt8)(a:Nat):Option (ByteArray×Nat):=
 let t:=(l.drop a).takeWhile letter
 if 6<t.length then none else if 0<t.length then some (ba t,a+t.length)
 else let b:=jB.foldl (kE (l.drop a)) ⟨#[]⟩
  if b.size=0 then none else some (b,a+b.size)
theorem ZB{l:List UInt8}{i:Nat}{x:UInt8}(h:l[i]?=some x):nU (l.take (i+1))=nU (l.take i)*10+(x.toNat - 48):=by
 simp [nU,eA,h,I5]
theorem ZA:∀(l:List UInt8) (n:Nat),(∀x∈l,dK x=true)→l.foldl (fun n x=>n*10+(x.toNat - 48)) n+1≤(n+1)*10 ^ l.length
 | [],n,_=>by simp
 | x::l,n,h=>by
  have hx:=h x (by simp)
  simp only[dK,cB,bO] at hx
  have:=ZA l (n*10+(x.toNat - 48)) (fun y hy=>h y (by simp [hy]))
  simp only[tX,aS,Nat.pow_succ]
  refine jP this ?_
  rw[Nat.mul_comm (10 ^ l.length) 10,←Nat.mul_assoc]
  exact pX _ (by omega)
theorem PF{l:List UInt8}(h:∀x∈l,dK x=true):nU l<10 ^ l.length:=Nat.lt_of_succ_le (by have:=ZA l 0 h;simpa [nU] using this)
theorem a45(s:ByteArray)(a b:Nat):sb (s.extract a b)=((sb s).drop a).take (b - a):=by
 simp only[sb,ByteArray.data_extract,Array.toList_extract,List.extract_eq_take_drop]
theorem aR0{g:ByteArray}(h:g.size=0):g=⟨#[]⟩:=by
 obtain⟨⟨l⟩⟩:=g
 have:l.length=0:=h
 rw[I6.1 this]
theorem WQ(s:ByteArray):ba (sb s)=s:=rfl
theorem FV(s:ByteArray)(a b:Nat):s.extract a b=ba (((sb s).drop a).take (b - a)):=by rw[←a45]
theorem oN{l:List UInt8}{n c:Nat}(h:cT l n c=true):n<l.length:=by
 unfold cT at h
 rcases lD n l.length with h1 | h1
 · exact h1
 · rw[xF h1] at h;cases h
theorem a2C{l:List UInt8}{n:Nat}{p:UInt8→Bool}(h:gD l n p=true):n<l.length:=by
 unfold gD at h
 rcases lD n l.length with h1 | h1
 · exact h1
 · rw[xF h1] at h;cases h
theorem qO{l:List UInt8}{n c:Nat}{x:UInt8}(h:l[n]?=some x):cT l n c=decide (x.toNat=c):=by simp only[cT,h]
theorem uR{l:List UInt8}{n:Nat}{p:UInt8→Bool}{x:UInt8}(h:l[n]?=some x):gD l n p=p x:=by simp only[gD,h]
theorem aL2{l:List UInt8}(h:∀x∈l,dK x=true)(hl:l.length≤4):(iL l).1<10000:=by
 unfold iL
 split
 · simp
 · exact tZ (PF h) (jP (NW (by omega) hl) (by decide))
theorem UH{p:UInt8→Bool}{l:List UInt8}{i:Nat}(hi:i≤(l.takeWhile p).length)(h:gD l i p=true):i<(l.takeWhile p).length:=by
 induction l generalizing i with
 | nil=>simp [gD] at h
 | cons x l ih=>
  cases i with
  | zero=>simp [gD] at h;simp [E9,h]
  | succ i=>
   rw[E9] at hi ⊢
   split at hi
   · rename_i hx
     rw[aJ hx]
     simp only[aS] at hi ⊢
     have:=ih (i:=i) (by omega) (by simpa [gD] using h)
     omega
   · simp at hi
theorem UG{p:UInt8→Bool}{l:List UInt8}{i:Nat}(hi:i≤(l.takeWhile p).length)(h:gD l i p=false):i=(l.takeWhile p).length:=by
 induction l generalizing i with
 | nil=>simp at hi;simp [hi]
 | cons x l ih=>
  cases i with
  | zero=>simp [gD] at h;simp [E9,h]
  | succ i=>
   rw[E9] at hi ⊢
   split at hi
   · rename_i hx
     rw[aJ hx]
     simp only[aS] at hi ⊢
     have:=ih (i:=i) (by omega) (by simpa [gD] using h)
     omega
   · simp at hi
theorem aPH(p:UInt8→Bool)(l:List UInt8):l.take (l.takeWhile p).length=l.takeWhile p:=by
 induction l with
 | nil=>rfl
 | cons x l ih=>
  rw[E9]
  split
  · simp [ih]
  · rfl
theorem DS(l:List UInt8)(a i:Nat)(p:UInt8→Bool):gD (l.drop a) i p=gD l (a+i) p:=by simp only[gD,NR]
theorem aPF{p:UInt8→Bool}{l:List UInt8}:∀x∈l.takeWhile p,p x=true:=by
 induction l with
 | nil=>simp
 | cons y l ih=>
  rw[E9]
  split
  · rename_i h;intro x hx;simp only[c8] at hx;rcases hx with rfl | hx;exact h;exact ih x hx
  · simp
theorem aPG{p:UInt8→Bool}{l:List UInt8}{k:Nat}(hk:k≤(l.takeWhile p).length):l.take k=(l.takeWhile p).take k:=by
 rw[←aPH p l,xG,lP hk]
theorem IP(p:UInt8→Bool)(l:List UInt8):(l.takeWhile p).length≤l.length:=(List.takeWhile_sublist p).length_le
theorem WS(L:List UInt8):∀(gs:List ByteArray) (b:ByteArray),b.size≤3→(∀g∈gs,g.size≤3)→(gs.foldl (kE L) b).size≤3
 | [],b,h,_=>h
 | g::gs,b,h,hg=>by
  rw[tX]
  refine WS L gs _ ?_ fun x hx=>hg x (by simp [hx])
  unfold kE
  split
  · exact hg g (by simp)
  · exact h
theorem aM9:∀g∈jB,g.size≤3:=by decide
theorem aR4(L:List UInt8)(i:Nat):((jB.take i).foldl (kE L) ⟨#[]⟩).size≤3:=WS L _ _ (by decide) fun g hg=>aM9 g (lB hg)
def iN(nm:ByteArray):Bool:=decide (nm=⟨#[105,115]⟩)||decide (nm=⟨#[109,111,100]⟩)
def qU(l:List UInt8)(a:Nat):Option (ByteArray×Nat):=
 let f:=if cT l a 32 then a+1 else a
 if l.length≤f then none else match oR l f with
 | none=>none
 | some (nm,e)=>if bY nm=0 then none else if iN nm≠decide (a<f)∨(iN nm=true∧cT l e 32=false) then none else some (nm,if iN nm then e+1 else e)
abbrev lE:=Nat→Option (Tm×Nat)
def sF(R:lE)(l:List UInt8)(c1 c2:Nat):Nat→Nat→List Tm→Option (List Tm×Nat)
 | 0,_,_=>none
 | n+1,a,acc=>match R a with
  | none=>none
  | some (t,e)=>if(cT l e c1||cT l e c2)=true then some (acc++ [t],e) else if cT l e 44 then sF R l c1 c2 n (e+1) (acc++ [t]) else none
abbrev oO (nm:ByteArray) (ts:List Tm):Tm:=.mk 3 0 nm ts
def vU:List Tm→Tm→Tm
 | [],t=>t
 | x::xs,t=>oO ⟨#[46]⟩ [x,vU xs t]
def AU(R:lE)(l:List UInt8)(a:Nat):Option (Tm×Nat):=
 match sF R l 93 124 (l.length+1) a [] with
 | none=>none
 | some (ts,e)=>if cT l e 93 then some (vU ts (oO ⟨#[91,93]⟩ []),e+1) else match R (e+1) with
  | none=>none
  | some (t,e')=>if cT l e' 93 then some (vU ts t,e'+1) else none
def JU(l:List UInt8)(a:Nat):Nat:=match l[a]? with | some x=>x.toNat | none=>0
def nD(R:Nat→lE)(l:List UInt8)(d a:Nat):Option (Tm×Nat):=
 if d<1∨l.length≤a then none
 else if cT l a 40 then match R d (a+1) with
  | none=>none
  | some (t,e)=>if cT l e 41 then some (t,e+1) else none
 else if(cT l a 91&& !cT l (a+1) 93)=true then AU (R (d - 1)) l (a+1)
 else if gD l a rC then some (vr ((JU l a - 65:Nat):Int),a+1)
 else if(gD l a dK||(cT l a 45&&gD l (a+1) dK))=true then match uU l a with
  | none=>none
  | some (n,e)=>some (.mk 2 n ⟨#[]⟩ [],e)
 else match oR l a with
  | none=>none
  | some (nm,e)=>if cT l e 40=false then some (oO nm [],e) else match sF (R (d - 1)) l 41 41 (l.length+1) (e+1) [] with
   | none=>none
   | some (ts,e')=>some (oO nm ts,e'+1)
def D3(R:lE)(l:List UInt8)(lev:Nat):Nat→Tm→Nat→Option (Tm×Nat)
 | 0,_,_=>none
 | n+1,left,e=>match qU l e with
  | none=>some (left,e)
  | some (nm,e1)=>if bY nm≠lev then some (left,e) else match R e1 with
   | none=>none
   | some (rt,e2)=>if lev=3 then some (oO nm [left,rt],e2) else D3 R l lev n (oO nm [left,rt]) e2
def rd(l:List UInt8):Nat→Nat→Nat→Nat→Option (Tm×Nat)
 | 0,_,_,_=>none
 | n+1,d,a,0=>nD (fun d a=>rd l n d a 3) l d a
 | n+1,d,a,lv+1=>match rd l n d a lv with
  | none=>none
  | some (t,e)=>D3 (fun a=>rd l n d a lv) l (lv+1) (l.length+1) t e
theorem a5G{l:List UInt8}{a c:Nat}(ha:a≤l.length):a≤(if cT l a c=true then a+1 else a)∧(if cT l a c=true then a+1 else a)≤l.length:=by
 split
 · have:=oN ‹_›;omega
 · omega
theorem a4N{l:List UInt8}{a:Nat}{x:Int}{e:Nat}(ha:a≤l.length)(h:uU l a=some (x,e)):a<e∧e≤l.length:=by
 unfold uU at h
 have hf:=a5G (c:=45) ha
 simp only at h
 generalize (if cT l a 45=true then a+1 else a)=f at h hf
 split at h
 · cases h
 rename_i h1
 simp only[Option.some.injEq,Prod.mk.injEq] at h
 obtain⟨_,rfl⟩:=h
 have h2:(((l.drop f).takeWhile dK).take 4).length≠0:=by
  intro h0
  refine h1 (Or.inl ?_)
  unfold iL
  rw[aJ (Or.inl h0)]
 have h3:=IP dK (l.drop f)
 rw[mZ] at h3
 have h4:(((l.drop f).takeWhile dK).take 4).length≤((l.drop f).takeWhile dK).length:=by rw[dC];omega
 omega
theorem WT(L:List UInt8):∀(gs:List ByteArray) (b:ByteArray),b.size≤L.length→(gs.foldl (kE L) b).size≤L.length
 | [],b,h=>h
 | g::gs,b,h=>by
  rw[tX]
  refine WT L gs _ ?_
  unfold kE
  split
  · rename_i h1
    have:=fE List.length h1.1
    rw[dC,cQ] at this
    omega
  · exact h
theorem HH{l:List UInt8}{a:Nat}{x:ByteArray}{e:Nat}(ha:a≤l.length)(h:oR l a=some (x,e)):a<e∧e≤l.length:=by
 unfold oR at h
 simp only at h
 have h3:=IP letter (l.drop a)
 rw[mZ] at h3
 split at h
 · cases h
 split at h
 · cases h;omega
 split at h
 · cases h
 · have:=WT (l.drop a) jB ⟨#[]⟩ (jH _)
   rw[mZ] at this
   cases h;omega
theorem aMD{l:List UInt8}{a:Nat}{x:ByteArray}{e:Nat}(h:qU l a=some (x,e)):a<e∧e≤l.length∧bY x≠0:=by
 unfold qU at h
 have h6:a≤(if cT l a 32=true then a+1 else a):=by split<;>omega
 simp only at h
 generalize (if cT l a 32=true then a+1 else a)=f at h h6
 split at h
 · cases h
 rename_i h1
 split at h
 · cases h
 rename_i nm e0 h2
 have h3:=HH (by omega) h2
 split at h
 · cases h
 rename_i h7
 split at h
 · cases h
 rename_i h4
 simp only[Option.some.injEq,Prod.mk.injEq] at h
 obtain⟨rfl,rfl⟩:=h
 split
 · rename_i h5
   have:cT l e0 32=true:=by
    cases hb:cT l e0 32 with
    | true=>rfl
    | false=>exact absurd (Or.inr ⟨h5,hb⟩) h4
   have:=oN this
   exact⟨by omega,by omega,h7⟩
 · exact⟨by omega,by omega,h7⟩
def xK(R:lE)(l:List UInt8):Prop:=∀a t e,a≤l.length→R a=some (t,e)→a<e∧e≤l.length∧Dn t
theorem M1{R:lE}{l:List UInt8}{c1 c2:Nat}(hR:xK R l):∀(n a:Nat) (acc:List Tm) (ts:List Tm) (e:Nat),a≤l.length→(∀x∈acc,Dn x)→sF R l c1 c2 n a acc=some (ts,e)→a<e∧e<l.length∧(∀x∈ts,Dn x)∧ts.length≤acc.length+n∧(cT l e c1=true∨cT l e c2=true):=by
 intro n
 induction n with
 | zero=>intro a acc ts e _ _ h;cases h
 | succ n ih=>
  intro a acc ts e ha oJ h
  unfold sF at h
  split at h
  · cases h
  rename_i t e1 h1
  obtain⟨h2,h3,h4⟩:=hR a t e1 ha h1
  have GJ:∀x∈acc++ [t],Dn x:=by intro x hx;rw[fQ] at hx;rcases hx with hx | hx;exact oJ x hx;rw[E8] at hx;subst hx;exact h4
  split at h
  · rename_i h5
    cases h
    rw[rE] at h5
    refine⟨h2,?_,GJ,by rw[dM,NT];omega,h5⟩
    rcases h5 with h5 | h5<;>exact oN h5
  split at h
  · rename_i h5
    have h6:=oN h5
    obtain⟨g1,g2,g3,g4,g5⟩:=ih (e1+1) _ ts e (by omega) GJ h
    rw[dM,NT] at g4
    exact⟨by omega,g2,g3,by omega,g5⟩
  · cases h
theorem PI{nm:ByteArray}{ts:List Tm}(hl:ts.length≤1048576)(h:∀x∈ts,Dn x):Dn (oO nm ts):=xZ (by decide) hl h
theorem PJ{nm:ByteArray}{x y:Tm}(hx:Dn x)(hy:Dn y):Dn (oO nm [x,y]):=PI (by simp) (by intro z hz;simp only[c8,dP,dX] at hz;rcases hz with rfl | rfl;exact hx;exact hy)
theorem ZC{nm:ByteArray}:Dn (oO nm []):=PI (by simp) (by simp)
theorem O9{t:Tm}(ht:Dn t):∀ts:List Tm,(∀x∈ts,Dn x)→Dn (vU ts t)
 | [],_=>ht
 | x::xs,h=>PJ (h x (by simp)) (O9 ht xs fun y hy=>h y (by simp [hy]))
theorem a2D{R:lE}{l:List UInt8}(hR:xK R l)(hl:l.length≤1000){a:Nat}{t:Tm}{e:Nat}(ha:a≤l.length)(h:AU R l a=some (t,e)):a<e∧e≤l.length∧Dn t:=by
 unfold AU at h
 split at h
 · cases h
 rename_i ts e1 h1
 obtain⟨g1,g2,g3,g4,g5⟩:=M1 hR _ _ _ _ _ ha (by simp) h1
 split at h
 · cases h
   exact⟨by omega,by omega,O9 ZC _ g3⟩
 split at h
 · cases h
 rename_i t2 e2 h2
 obtain⟨k1,k2,k3⟩:=hR _ _ _ (by omega) h2
 split at h
 · rename_i h5
   cases h
   have:=oN h5
   exact⟨by omega,by omega,O9 k3 _ g3⟩
 · cases h
theorem a39{R:Nat→lE}{l:List UInt8}(hR:∀d,xK (R d) l)(hl:l.length≤1000){d a:Nat}{t:Tm}{e:Nat}(h:nD R l d a=some (t,e)):a<e∧e≤l.length∧Dn t:=by
 unfold nD at h
 split at h
 · cases h
 rename_i h0
 have ha:a<l.length:=by omega
 split at h
 · split at h
   · cases h
   rename_i t1 e1 h1
   obtain⟨k1,k2,k3⟩:=hR _ _ _ _ (by omega) h1
   split at h
   · rename_i h5
     cases h
     have:=oN h5
     exact⟨by omega,by omega,k3⟩
   · cases h
 split at h
 · obtain⟨k1,k2,k3⟩:=a2D (hR _) hl (by omega) h
   exact⟨by omega,k2,k3⟩
 split at h
 · cases h
   exact⟨by omega,by omega,PK _⟩
 split at h
 · split at h
   · cases h
   rename_i n e1 h1
   cases h
   have:=a4N (by omega) h1
   exact⟨this.1,this.2,xZ (by decide) (by simp) (by simp)⟩
 split at h
 · cases h
 rename_i nm e1 h1
 have g:=HH (by omega) h1
 split at h
 · cases h
   exact⟨g.1,g.2,ZC⟩
 split at h
 · cases h
 rename_i h6 _ ts e2 h2
 have h7:cT l e1 40=true:=by simpa using h6
 have h8:=oN h7
 obtain⟨k1,k2,k3,k4,k5⟩:=M1 (hR _) _ _ _ _ _ (by omega) (by simp) h2
 cases h
 refine⟨by omega,by omega,PI ?_ k3⟩
 rw[aW] at k4
 omega
theorem a3S{R:lE}{l:List UInt8}(hR:xK R l)(lev:Nat):∀(n:Nat) (t0:Tm) (e0:Nat) (t:Tm) (e:Nat),e0≤l.length→Dn t0→D3 R l lev n t0 e0=some (t,e)→e0≤e∧e≤l.length∧Dn t:=by
 intro n
 induction n with
 | zero=>intro t0 e0 t e _ _ h;cases h
 | succ n ih=>
  intro t0 e0 t e h0 ht h
  unfold D3 at h
  split at h
  · cases h;exact⟨by omega,h0,ht⟩
  rename_i nm e1 h1
  have g:=aMD h1
  split at h
  · cases h;exact⟨by omega,h0,ht⟩
  split at h
  · cases h
  rename_i rt e2 h2
  obtain⟨k1,k2,k3⟩:=hR _ _ _ g.2.1 h2
  split at h
  · cases h;exact⟨by omega,k2,PJ ht k3⟩
  · obtain⟨q1,q2,q3⟩:=ih _ _ _ _ k2 (PJ ht k3) h
    exact⟨by omega,q2,q3⟩
theorem BA{l:List UInt8}(hl:l.length≤1000):∀(n d lv:Nat),xK (fun a=>rd l n d a lv) l:=by
 intro n
 induction n with
 | zero=>intro d lv a t e _ h;cases h
 | succ n ih=>
  intro d lv a t e ha h
  cases lv with
  | zero=>
   simp only[rd] at h
   exact a39 (fun d=>ih d 3) hl h
  | succ lv=>
   simp only[rd] at h
   split at h
   · cases h
   rename_i t1 e1 h1
   obtain⟨k1,k2,k3⟩:=ih d lv a t1 e1 ha h1
   obtain⟨q1,q2,q3⟩:=a3S (ih d lv) _ _ _ _ _ _ k2 k3 h
   exact⟨by omega,q2,q3⟩
def kO:Nat→Nat→ByteArray→ByteArray
 | 0,_,acc=>acc
 | f+1,n,acc=>if 9<n then kO f (n / 10) (⟨#[UInt8.ofNat (48+n % 10)]⟩++acc) else⟨#[UInt8.ofNat (48+n)]⟩++acc
def mK(n:Int):ByteArray:=if n<0 then⟨#[45]⟩++kO 20 (-n).toNat ⟨#[]⟩ else kO 20 n.toNat ⟨#[]⟩
def pM(n:Int):ByteArray:=⟨#[UInt8.ofNat (65+n.toNat)]⟩
def l7(t:Tm):Bool:=decide (t.k=3)&&(decide (t.s=⟨#[46]⟩)&&decide (t.ts.length=2))
def A1(t:Tm):Bool:=decide (t.k=3)&&(decide (t.s=⟨#[91,93]⟩)&&decide (t.ts.length=0))
def pK(t:Tm):Bool:=decide (t.k=3)&&(decide (t.ts.length=2)&&decide (0<bY t.s))
def BG(t:Tm):Bool:=decide (t.k=3)&&(decide (t.ts.length=0)&&decide (0<bY t.s))
def zW(t:Tm):Bool:=decide (t.k=3)&&decide (0<t.ts.length)
def nA(t:Tm)(i:Nat):Tm:=t.ts.getD i a67
 where a67:Tm:=.mk 0 0 ⟨#[]⟩ []
def gT(T:Tm→ByteArray):List Tm→ByteArray
 | []=>⟨#[]⟩
 | x::xs=>xs.foldl (fun o y=>(o++⟨#[44]⟩)++T y) (⟨#[]⟩++T x)
def spine:Nat→Tm→List Tm×Tm
 | 0,t=>([],t)
 | n+1,t=>if l7 t then(nA t 0::(spine n (nA t 1)).1,(spine n (nA t 1)).2) else([],t)
def n7(nm:ByteArray):ByteArray:=if iN nm then(⟨#[32]⟩++nm)++⟨#[32]⟩ else nm
def uT(l:List UInt8):Bool:=gD l 0 letter||(gD l 0 dK||(gD l 0 rC||(cT l 0 91||cT l 0 40)))
def rO(T:Tm→ByteArray)(t:Tm)(lv:Nat):ByteArray:=if pK t&&decide (lv<bY t.s) then(⟨#[40]⟩++T t)++⟨#[41]⟩ else T t
def r0(T:Tm→ByteArray)(t:Tm)(lv:Nat):ByteArray:=if BG t then(⟨#[40]⟩++T t)++⟨#[41]⟩ else rO T t lv
def r9(T:Tm→ByteArray)(t:Tm)(lv:Nat):ByteArray:=if BG t|| !uT (sb (rO T t lv)) then(⟨#[40]⟩++rO T t lv)++⟨#[41]⟩ else rO T t lv
def yG(T:Tm→ByteArray)(p:List Tm×Tm):ByteArray:=if A1 p.2 then(⟨#[91]⟩++gT T p.1)++⟨#[93]⟩ else(((⟨#[91]⟩++gT T p.1)++⟨#[124]⟩)++T p.2)++⟨#[93]⟩
def wK(t:Tm):ByteArray:=if t.k=1 then pM t.n else if t.k=2 then mK t.n else t.s
def lvl(n:Nat):Nat:=if n=3 then 2 else n
def tx:Nat→Tm→ByteArray
 | 0,_=>⟨#[]⟩
 | n+1,t=>if l7 t then yG (tx n) (spine n t) else if pK t then(r0 (tx n) (nA t 0) (lvl (bY t.s))++n7 t.s)++r9 (tx n) (nA t 1) (bY t.s - 1)
  else if zW t then((t.s++⟨#[40]⟩)++gT (tx n) t.ts)++⟨#[41]⟩ else wK t
theorem WM{T:Tm→ByteArray}{l:List Tm}{i:Nat}{x:Tm}(hx:l[i]?=some x):gT T (l.take (i+1))=(if 0<i then gT T (l.take i)++⟨#[44]⟩ else gT T (l.take i))++T x:=by
 rw[eA,hx]
 cases l with
 | nil=>simp at hx
 | cons y l=>
  cases i with
  | zero=>simp at hx;subst hx;rfl
  | succ i=>
   rw[aJ (by omega),vD]
   simp only[gT,B7,fC,I5,tX,List.foldl_nil]
theorem cL(a b:ByteArray):(a++b).size=a.size+b.size:=ByteArray.size_append
theorem AB:∀(f n:Nat) (acc:ByteArray),(kO f n acc).size≤f+acc.size
 | 0,n,acc=>by simp [kO]
 | f+1,n,acc=>by
  unfold kO
  split
  · refine jP (AB f _ _) ?_
    rw[cL]
    show f+(1+acc.size)≤_
    omega
  · rw[cL]
    show 1+acc.size≤_
    omega
abbrev Ws (t:Tm):Prop:=∃d,t.shape d=true
theorem Ws.own{k n:Int}{s:ByteArray}{ts:List Tm}(h:Ws (.mk k n s ts)):eK k n s ts.length=true∧∀x∈ts,Ws x:=by
 obtain⟨d,h⟩:=h
 rw[Tm.BF,cB,cB,dQ] at h
 exact⟨h.1.2,fun x hx=>⟨_,h.2 x hx⟩⟩
theorem yJ{k n:Int}{s:ByteArray}{len:Int}(h:eK k n s len=true):(k=1∧0≤n∧n≤25∧s=⟨#[]⟩∧len=0)∨(k=2∧-999≤n∧n≤999∧s=⟨#[]⟩∧len=0)∨(k=3∧n=0∧yH s=true∧len≤4):=by
 unfold eK at h
 by_cases h1:k=1
 · rw[eH h1] at h
   simp only[cond_true,cB,bO] at h
   exact Or.inl ⟨h1,h.1.1.1,h.1.1.2,h.1.2,h.2⟩
 rw[d6 h1] at h
 by_cases h2:k=2
 · rw[eH h2] at h
   simp only[cond_true,AA,cB,bO] at h
   exact Or.inr (Or.inl ⟨h2,h.1.1.1,h.1.1.2,h.1.2,h.2⟩)
 rw[d6 h2] at h
 by_cases h3:k=3
 · rw[eH h3] at h
   simp only[cond_true,AA,cB,bO] at h
   exact Or.inr (Or.inr ⟨h3,h.1.1,h.1.2,h.2⟩)
 · rw[d6 h3] at h
   cases h
theorem RT{s:ByteArray}(h:yH s=true):1≤s.size∧s.size≤6:=by
 unfold yH at h
 rw[rE] at h
 rcases h with h | h
 · simp only[r7,cB,bO] at h
   omega
 · rw[List.any_eq_true] at h
   obtain⟨x,hx,h⟩:=h
   rw[bO] at h
   subst h
   revert hx
   revert s
   decide
theorem Ws.size{t:Tm}(h:Ws t):t.s.size≤6∧(t.k=3→1≤t.s.size):=by
 obtain⟨k,n,s,ts⟩:=t
 rcases yJ h.own.1 with h | h | h
 · rw[show(Tm.mk k n s ts).s=s from rfl,h.2.2.2.1];exact⟨by decide,fun h3=>by have:k=3:=h3;omega⟩
 · rw[show(Tm.mk k n s ts).s=s from rfl,h.2.2.2.1];exact⟨by decide,fun h3=>by have:k=3:=h3;omega⟩
 · have:=RT h.2.2.1;exact⟨this.2,fun _=>this.1⟩
theorem mO(t:Tm):1≤t.nodes:=by obtain⟨k,n,s,ts⟩:=t;rw[Tm.gK];omega
theorem LQ{x:Tm}{l:List Tm}(h:x∈l):x.nodes≤bK Tm.nodes l:=by
 induction l with
 | nil=>cases h
 | cons y l ih=>
  simp only[bK]
  rcases c8.1 h with rfl | h
  · omega
  · have:=ih h;omega
theorem S7:∀(l:List Tm) (i:Nat),bK Tm.nodes (l.take i)≤bK Tm.nodes l
 | [],i=>by simp
 | x::l,0=>by simp [bK]
 | x::l,i+1=>by simp only[vD,bK];have:=S7 l i;omega
theorem CR{T:Tm→ByteArray}{l:List Tm}(h:∀x∈l,(T x).size≤32*x.nodes):(gT T l).size≤32*bK Tm.nodes l+l.length:=by
 have hg:∀(xs:List Tm) (o:ByteArray),(∀x∈xs,(T x).size≤32*x.nodes)→(xs.foldl (fun o y=>(o++⟨#[44]⟩)++T y) o).size≤o.size+32*bK Tm.nodes xs+xs.length:=by
  intro xs
  induction xs with
  | nil=>intro o _;simp [bK]
  | cons x xs ih=>
   intro o hx
   refine jP (ih _ fun y hy=>hx y (by simp [hy])) ?_
   rw[cL,cL]
   have:=hx x (by simp)
   simp only[bK,aS]
   show o.size+1+_+_+_≤_
   omega
 cases l with
 | nil=>exact jH _
 | cons x l=>
  refine jP (hg l _ fun y hy=>h y (by simp [hy])) ?_
  rw[cL]
  have:=h x (by simp)
  simp only[bK,aS]
  show 0+_+_+_≤_
  omega
theorem wN{t:Tm}(h:l7 t=true):∃n x y,t=.mk 3 n ⟨#[46]⟩ [x,y]:=by
 obtain⟨k,n,s,ts⟩:=t
 simp only[l7,cB,bO] at h
 simp only[Tm.k,Tm.s,Tm.ts] at h
 obtain⟨rfl,rfl,h3⟩:=h
 match ts,h3 with
 | [x,y],_=>exact⟨n,x,y,rfl⟩
theorem tF{k n:Int}{s:ByteArray}{x y:Tm}:nA (.mk k n s [x,y]) 0=x∧nA (.mk k n s [x,y]) 1=y:=⟨rfl,rfl⟩
theorem L8:∀(n:Nat) (t:Tm),Ws t→(∀x∈(spine n t).1,Ws x)∧Ws (spine n t).2∧bK Tm.nodes (spine n t).1+(spine n t).1.length+(spine n t).2.nodes=t.nodes
 | 0,t,h=>⟨by simp [spine],h,by simp [spine,bK]⟩
 | n+1,t,h=>by
  unfold spine
  split
  · rename_i hp
    obtain⟨m,x,y,rfl⟩:=wN hp
    have hk:=h.own.2
    obtain⟨h1,h2,h3⟩:=L8 n y (hk y (by simp))
    simp only[tF]
    refine⟨fun z hz=>?_,h2,?_⟩
    · rcases c8.1 hz with rfl | hz
      · exact hk z (by simp)
      · exact h1 z hz
    · simp only[bK,aS,Tm.gK]
      omega
  · exact⟨by simp,h,by simp [bK]⟩
theorem G4{t:Tm}(h:pK t=true):∃n s x y,t=.mk 3 n s [x,y]∧0<bY s:=by
 obtain⟨k,n,s,ts⟩:=t
 simp only[pK,cB,bO] at h
 simp only[Tm.k,Tm.s,Tm.ts] at h
 obtain⟨rfl,h2,h3⟩:=h
 match ts,h2 with
 | [x,y],_=>exact⟨n,s,x,y,rfl,h3⟩
theorem OM{T:Tm→ByteArray}{t:Tm}(lv:Nat):(T t).size≤(rO T t lv).size∧(rO T t lv).size≤(T t).size+2:=by
 unfold rO
 split
 · rw[cL,cL];show _≤1+_+1∧1+_+1≤_;omega
 · omega
theorem a2P{T:Tm→ByteArray}{t:Tm}(lv:Nat):(T t).size≤(r0 T t lv).size∧(r0 T t lv).size≤(T t).size+2:=by
 unfold r0
 split
 · rw[cL,cL];show _≤1+_+1∧1+_+1≤_;omega
 · exact OM lv
theorem a40{T:Tm→ByteArray}{t:Tm}(lv:Nat):(T t).size≤(r9 T t lv).size∧(r9 T t lv).size≤(T t).size+4:=by
 have:=OM (T:=T) (t:=t) lv
 unfold r9
 split
 · rw[cL,cL];show _≤1+_+1∧1+_+1≤_;omega
 · omega
theorem BR:∀(n:Nat) (t:Tm),Ws t→(tx n t).size≤32*t.nodes
 | 0,t,_=>jH _
 | n+1,t,h=>by
  have hT:=BR n
  unfold tx
  split
  · rename_i hp
    obtain⟨h1,h2,h3⟩:=L8 n t h
    have ha:=CR (T:=tx n) (l:=(spine n t).1) fun x hx=>hT x (h1 x hx)
    have hb:=hT _ h2
    have hq:=mO (spine n t).2
    have hl:1≤(spine n t).1.length∨n=0:=by
     cases n with
     | zero=>exact Or.inr rfl
     | succ m=>left;unfold spine;rw[aJ hp];simp
    have h4:3≤t.nodes:=by obtain⟨m,x,y,rfl⟩:=wN hp;simp only[Tm.gK,bK];have:=mO x;have:=mO y;omega
    have hb2:1≤(spine n t).1.length∨((tx n (spine n t).2).size=0∧(gT (tx n) (spine n t).1).size=0):=by
     rcases hl with hl | rfl
     · left;omega
     · right;exact⟨rfl,rfl⟩
    unfold yG
    split
    · rw[cL,cL];show 1+_+1≤_;omega
    · rw[cL,cL,cL,cL];show 1+_+1+_+1≤_;omega
  split
  · rename_i hp
    obtain⟨m,s,x,y,rfl,hs⟩:=G4 hp
    have hk:=h.own.2
    have h6:=h.size.1
    simp only[tF,Tm.gK,bK,Tm.s]
    have hx:=hT x (hk x (by simp))
    have hy:=hT y (hk y (by simp))
    have hl:=(a2P (T:=tx n) (t:=x) (lvl (bY s))).2
    have hr:=(a40 (T:=tx n) (t:=y) (bY s - 1)).2
    rw[cL,cL]
    have hsp:(n7 s).size≤8:=by
     have h6:s.size≤6:=h6
     unfold n7
     split
     · rw[cL,cL];show 1+_+1≤_;omega
     · omega
    show _+(n7 s).size+_≤_
    omega
  split
  · obtain⟨k,m,s,ts⟩:=t
    have ha:=CR (T:=tx n) (l:=ts) fun x hx=>hT x (h.own.2 x hx)
    have h6:s.size≤6:=h.size.1
    have h4:ts.length≤4:=by rcases yJ h.own.1 with h | h | h<;>omega
    rw[cL,cL,cL,Tm.gK]
    simp only[Tm.s,Tm.ts]
    show s.size+1+_+1≤_
    omega
  · have h6:=h.size.1
    have hp:=mO t
    unfold wK
    split
    · show 1≤_;omega
    · split
      · unfold mK
        split
        · rw[cL];have:=AB 20 (-t.n).toNat ⟨#[]⟩;have h0:(⟨#[]⟩:ByteArray).size=0:=rfl;show 1+_≤_;omega
        · have:=AB 20 t.n.toNat ⟨#[]⟩;have h0:(⟨#[]⟩:ByteArray).size=0:=rfl;omega
      · omega
def pR:Nat→Tm→Tm
 | 0,t=>t
 | i+1,t=>pR i (nA t 1)
theorem S4:∀(i:Nat) (t:Tm),pR (i+1) t=nA (pR i t) 1
 | 0,t=>rfl
 | i+1,t=>by rw[pR,S4 i];try rfl
theorem S5:∀(n:Nat) (t:Tm) (i:Nat) (x:Tm),(spine n t).1[i]?=some x→l7 (pR i t)=true∧nA (pR i t) 0=x
 | 0,t,i,x,h=>by simp [spine] at h
 | n+1,t,i,x,h=>by
  unfold spine at h
  split at h
  · rename_i hp
    cases i with
    | zero=>simp at h;exact⟨hp,h⟩
    | succ i=>exact S5 n _ i x (by simpa using h)
  · simp at h
theorem S6:∀(n:Nat) (t:Tm),t.nodes≤n+1→(spine n t).2=pR (spine n t).1.length t∧l7 (spine n t).2=false
 | 0,t,h=>by
  refine⟨rfl,?_⟩
  cases hp:l7 t with
  | false=>exact hp
  | true=>obtain⟨m,x,y,rfl⟩:=wN hp;simp only[Tm.gK,bK] at h;have:=mO x;omega
 | n+1,t,h=>by
  unfold spine
  split
  · rename_i hp
    obtain⟨m,x,y,rfl⟩:=wN hp
    simp only[Tm.gK,bK] at h
    have:=mO x
    have:=S6 n y (by omega)
    exact⟨this.1,this.2⟩
  · rename_i hp
    exact⟨rfl,by simpa using hp⟩
theorem UK{n:Nat}{t:Tm}(h:Ws t)(hn:1≤n):1≤(tx n t).size:=by
 obtain⟨n,rfl⟩:∃m,n=m+1:=⟨n - 1,by omega⟩
 unfold tx
 split
 · unfold yG
   split
   · rw[cL,cL];show 1≤1+_+1;omega
   · rw[cL];show 1≤_+1;omega
 split
 · rename_i hp
   obtain⟨m,s,x,y,rfl,hs⟩:=G4 hp
   have h6:1≤s.size:=h.size.2 rfl
   rw[cL,cL]
   have:1≤(n7 s).size:=by
    unfold n7
    split
    · rw[cL,cL];omega
    · exact h6
   show 1≤_+(n7 s).size+_
   omega
 split
 · rw[cL];show 1≤_+1;omega
 · obtain⟨k,m,s,ts⟩:=t
   rw[show wK (.mk k m s ts)=if k=1 then pM m else if k=2 then mK m else s from rfl]
   rcases yJ h.own.1 with h1 | h1 | h1
   · rw[aJ h1.1];exact cZ _
   · rw[aF (by omega),aJ h1.1]
     unfold mK
     split
     · rw[cL];show 1≤1+_;omega
     · have hf:∀f n acc,1≤(kO (f+1) n acc).size:=by
        intro f
        induction f with
        | zero=>
         intro n acc;unfold kO;split
         · simp only[kO];rw[cL];show 1≤1+_;omega
         · rw[cL];show 1≤1+_;omega
        | succ f ih=>
         intro n acc;unfold kO;split
         · exact ih _ _
         · rw[cL];show 1≤1+_;omega
       exact hf 19 _ _
   · rw[aF (by omega),aF (by omega)];exact(RT h1.2.2.1).1

def RM(x:Tm):ByteArray:=if x.k=1 then⟨#[]⟩ else if x.k=2 then mK x.n else x.s++⟨#[47]⟩++kO 20 x.ts.length ⟨#[]⟩
def yF(t:Tm):ByteArray:=if t.k=1 then⟨#[]⟩ else match t.ts with
 | []=>⟨#[]⟩
 | x::_=>RM x
def KU(a b:ByteArray):Bool:=decide (a=⟨#[]⟩)||(decide (b=⟨#[]⟩)||decide (a=b))
def C9(p:List Cl)(key:ByteArray)(i:Nat):Bool:=match p[i]? with
 | some c=>KU (yF c.1) key
 | none=>false
def sW(p:List Cl)(t:Tm)(l:List Nat):List Nat:=l.filter (C9 p (yF t))
section
variable (p:List Cl)
variable {p}
end
end Go.AW
