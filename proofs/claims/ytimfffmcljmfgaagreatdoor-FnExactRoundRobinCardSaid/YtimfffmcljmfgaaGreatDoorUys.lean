import Derived.Test.YtimfffmcljmfgaaGreatDoorUyr
import Derived.Test.YtimfffmcljmfgaaGreatDoorUym
import Derived.Test.YtimfffmcljmfgaaGreatDoorUyq
import Derived.Test.YtimfffmcljmfgaaGreatDoorUyg
import Derived.Test.YtimfffmcljmfgaaGreatDoorUyi
import Derived.ProofKit
import Derived.Test.YtimfffmcljmfgaaGreatDoorUyk
set_option linter.unusedSimpArgs false
set_option linter.unusedVariables false
set_option maxRecDepth 100000
namespace Go.AW
open Go.Proofs.Tryz
def jE(st:aA)(w:Nat)(q:AV)(l:List AV):Prop:=
 (q=.fslice []∧l= [])∨∃b,q=.mslice b 0 l.length w∧st b=Option.some (.cells (l.flatMap AV.cells))∧(l.flatMap AV.cells).length=l.length*w
theorem jE.shape{st:aA}{w:Nat}{q:AV}{l:List AV}(h:jE st w q l):q.isAgg=false∧q.width=1∧q.cD=false∧q.cells= [q]∧q.storable=true:=by
 rcases h with ⟨rfl,_⟩ | ⟨b',rfl,_⟩<;>exact⟨rfl,rfl,rfl,rfl,rfl⟩
theorem jE.aU{st st':aA}{w:Nat}{q:AV}{l:List AV}(h:jE st w q l)(hk:∀b∈aS q,st' b=st b):jE st' w q l:=by
 rcases h with h | ⟨b,rfl,hb,h2⟩
 · exact .inl h
 · exact .inr ⟨b,rfl,by rw[hk b (by simp [aS])];exact hb,h2⟩
theorem jE.some{st:aA}{w:Nat}{q:AV}{l:List AV}(h:jE st w q l):∀b∈aS q,∃cs,st b=Option.some (.cells cs):=by
 intro b hb
 rcases h with ⟨rfl,_⟩ | ⟨b',rfl,hb',_⟩
 · simp [aS] at hb
 · simp only[aS,cQ,dD,dN] at hb;subst hb;exact⟨_,hb'⟩
theorem jE.append{P:Program}{t:TypeId}{ag:Bool}{bytes w:Nat}{zs:List AV}{st:aA}{q:AV}{l:List AV}{x:AV}{K:AV→aA→Prop}(hI:eI P t=Option.some (ag,w))(hB:eB P t=Option.some bytes)(hZ:eZ P t=Option.some zs)(hz:zs.length=w)(hb8:bytes≤4096)
 (h:jE st w q l) (hx:x.width=w) (hxs:x.cells.all AV.storable=true) (hl:l.length≤1073741824)
 (hK:∀q' st',jE st' w q' (l++ [x])→(∀y,y∉aS q→y∉aS q'→st' y=st y)→(∀y∈aS q',y∈aS q∨st y=none)→K q' st'):iZ P t st q (.fslice [x]) K:=by
 have eL:uV w [x]:=by intro e he;simp only[cQ,dD,dN] at he;subst he;exact⟨hx,hxs⟩
 have xC:(l.length+1)*bytes≤140737488355328:=by
  have:=HO (show l.length+1≤1073741825 by omega) hb8
  omega
 have hxc:x.cells.length=w:=by rw[pN,hx]
 unfold iZ
 simp only[hI,hB,hZ,wJ]
 refine⟨hz,eL,?_⟩
 rcases h with ⟨rfl,rfl⟩ | ⟨b,rfl,hb,hcl⟩
 · simp only[bL,a8,gU] at xC ⊢
   refine⟨by omega,by omega,by simp,fun h=>by simp at h,fun _ b hb=>?_⟩
   refine hK _ _ (.inr ⟨b,rfl,by simp [aA.aJ],by simp [hxc]⟩) (fun y _ hy=>?_) (fun y hy=>?_)
   · simp only[aS,cQ,dD,dN] at hy
     rw[aA.aF _ _ hy]
   · simp only[aS,cQ,dD,dN] at hy
     subst hy;exact .inr hb
 · simp only[a8,bL,gU,hb]
   have hH:(l.flatMap AV.cells).take (l.length*w)++ [x].flatMap AV.cells=(l++ [x]).flatMap AV.cells:=by rw[←hcl,dQ];simp
   have hlen:((l++ [x]).flatMap AV.cells).length=(l++ [x]).length*w:=by
    rw[r7,dP,hcl]
    simp only[pF,List.flatMap_nil,fA,hxc,dP,a8,bL]
    rw[r9];omega
   refine⟨trivial,xC,by omega,by omega,?_,fun b' hb'=>?_⟩
   · rw[hH]
     refine hK _ _ (.inr ⟨b,by simp,aA.aJ _ _ _,hlen⟩) (fun y hy _=>?_) (fun y hy=>.inl hy)
     simp only[aS,cQ,dD,dN] at hy
     rw[aA.aF _ _ hy]
   · rw[hH]
     refine hK _ _ (.inr ⟨b',by simp,aA.aJ _ _ _,hlen⟩) (fun y hy hy'=>?_) (fun y hy=>?_)
     · simp only[aS,cQ,dD,dN] at hy hy'
       rw[aA.aF _ _ hy']
       simp [aA.erase,hy]
     · simp only[aS,cQ,dD,dN] at hy
       subst hy;exact .inr hb'
theorem jE.own{st:aA}{w:Nat}{q:AV}{l os:List AV}{bs:List Nat}(h:jE st w q os)(ho:aW st l os bs)(hw:∀e∈l,e.width=w)(hne:l= []→bs= []):aV st (.slice l) q (aS q++bs):=by
 have hl:=ho.length
 rcases h with ⟨rfl,rfl⟩ | ⟨b,rfl,hb,_⟩
 · have:l= []:=nG (by simpa using hl.symm)
   subst this
   rw[hne rfl]
   simp only[aV]
   exact .inl ⟨trivial,trivial,rfl⟩
 · simp only[aV]
   exact .inr ⟨b,bs,os,w,by rw[hl],rfl,hb,ho,hw⟩
theorem QF{S:aA}{q q':AV}{b:Nat}(hn:∀y∈aS q',y∈aS q∨S y=none)(h:b∉aS q)(hb:S b≠none):b∉aS q':=fun hm=>by
 rcases hn b hm with h' | h'
 · exact h h'
 · exact hb h'
structure jY (st0 T:aA) (qw qa:AV) (ba:Nat) (bs:List Nat) (W:List Nat) (osx A os LV:List AV):Prop where
 w:jE T 1 qw (W.map nv)
 a:jE T 1 qa osx
 o:aW T A os bs
 l:LV≠[]→T ba=some (.cells (LV.flatMap AV.cells))
 d1:∀b∈aS qw,b∉aS qa∧b∉bs∧(LV≠[]→b≠ba)
 d2:∀b∈aS qa,b∉bs∧(LV≠[]→b≠ba)
 d3:LV≠[]→ba∉bs
 nd:bs.Nodup
 n1:∀b∈aS qw,st0 b=none
 n2:∀b∈aS qa,st0 b=none
 n3:∀b∈bs,st0 b=none
 n4:LV≠[]→st0 ba=none
 k:∀b o,st0 b=some o→T b=some o
section
variable {st0 T T':aA} {qw qa q':AV} {ba:Nat} {bs:List Nat} {W:List Nat} {osx A os LV:List AV}
theorem jY.aLR(h:jY st0 T qw qa ba bs W osx A os LV){b:Nat}(hb:b∈bs):T b≠none:=by
 obtain⟨cs,e,_⟩:=(aW.fZ _ _ _ h.o).2 b hb
 rw[e];simp
theorem jY.fresh(h:jY st0 T qw qa ba bs W osx A os LV){b:Nat}(hb:T b=none):st0 b=none∧b∉aS qw∧b∉aS qa∧b∉bs∧(LV≠[]→b≠ba):=by
 refine⟨?_,fun hq=>?_,fun hq=>?_,fun hq=>h.aLR hq hb,fun hL e=>?_⟩
 · cases hs:st0 b with
   | none=>rfl
   | some o=>rw[h.k b o hs] at hb;cases hb
 · obtain⟨cs,e⟩:=h.w.some b hq;rw[hb] at e;cases e
 · obtain⟨cs,e⟩:=h.a.some b hq;rw[hb] at e;cases e
 · rw[e,h.l hL] at hb;cases hb
theorem jY.QW{i:Nat}(h:jY st0 T qw qa ba bs W osx A os LV)(gK:jE T' 1 q' (W.map nv++ [nv i]))(hf:∀y,y∉aS qw→y∉aS q'→T' y=T y)(hn:∀y∈aS q',y∈aS qw∨T y=none):jY st0 T' q' qa ba bs (W++ [i]) osx A os LV:=by
 have hd:∀b∈aS q',b∉aS qa∧b∉bs∧(LV≠[]→b≠ba):=fun b hb=>by
  rcases hn b hb with h' | h'
  · exact h.d1 b h'
  · exact(h.fresh h').2.2
 have hk:∀b,b∉aS qw→T b≠none→T' b=T b:=fun b h1 h2=>hf b h1 (QF hn h1 h2)
 have ha:∀b∈aS qa,T' b=T b:=fun b hb=>hf b (fun h'=>(h.d1 b h').1 hb) (fun h'=>(hd b h').1 hb)
 have hb':∀b∈bs,T' b=T b:=fun b hb=>hf b (fun h'=>(h.d1 b h').2.1 hb) (fun h'=>(hd b h').2.1 hb)
 refine⟨by simpa using gK,h.a.aU ha,aW.aU _ _ _ hb' h.o,fun hL=>?_,hd,h.d2,h.d3,h.nd,fun b hb=>?_,h.n2,h.n3,h.n4,fun b o hb=>?_⟩
 · rw[hf ba (fun h'=>(h.d1 ba h').2.2 hL rfl) (fun h'=>(hd ba h').2.2 hL rfl)];exact h.l hL
 · rcases hn b hb with h' | h'
   · exact h.n1 b h'
   · exact(h.fresh h').1
 · have h1:b∉aS qw:=fun h'=>by rw[h.n1 b h'] at hb;cases hb
   have h2:=h.k b o hb
   rw[hk b h1 (by rw[h2];simp)];exact h2
theorem jY.KS{x:AV}(h:jY st0 T qw qa ba bs W osx A os LV)(gK:jE T' 1 q' (osx++ [x]))(hf:∀y,y∉aS qa→y∉aS q'→T' y=T y)(hn:∀y∈aS q',y∈aS qa∨T y=none):jY st0 T' qw q' ba bs W (osx++ [x]) A os LV:=by
 have hd:∀b∈aS q',b∉bs∧(LV≠[]→b≠ba):=fun b hb=>by
  rcases hn b hb with h' | h'
  · exact h.d2 b h'
  · exact(h.fresh h').2.2.2
 have hdw:∀b∈aS qw,b∉aS q':=fun b hb hq=>by
  rcases hn b hq with h' | h'
  · exact(h.d1 b hb).1 h'
  · exact(h.fresh h').2.1 hb
 refine⟨h.w.aU fun b hb=>hf b (h.d1 b hb).1 (hdw b hb),gK,aW.aU _ _ _ (fun b hb=>hf b (fun h'=>(h.d2 b h').1 hb) (fun h'=>(hd b h').1 hb)) h.o,fun hL=>?_,fun b hb=>⟨hdw b hb,(h.d1 b hb).2⟩,hd,h.d3,h.nd,h.n1,fun b hb=>?_,h.n3,h.n4,fun b o hb=>?_⟩
 · rw[hf ba (fun h'=>(h.d2 ba h').2 hL rfl) (fun h'=>(hd ba h').2 hL rfl)];exact h.l hL
 · rcases hn b hb with h' | h'
   · exact h.n2 b h'
   · exact(h.fresh h').1
 · have h1:b∉aS qa:=fun h'=>by rw[h.n2 b h'] at hb;cases hb
   have h2:=h.k b o hb
   rw[hf b h1 (QF hn h1 (by rw[h2];simp))];exact h2
theorem jY.more{A2 os2:List AV}{bs2:List Nat}(h:jY st0 T qw qa ba bs W osx A os LV)(ho:aW T' A2 os2 bs2)(hn:bs2.Nodup)(hf:∀b∈bs2,T b=none)(hk:∀b,b∉bs2→T' b=T b):jY st0 T' qw qa ba (bs++bs2) W osx (A++A2) (os++os2) LV:=by
 have hw:∀b∈aS qw,b∉bs2:=fun b hb h2=>(h.fresh (hf b h2)).2.1 hb
 have ha:∀b∈aS qa,b∉bs2:=fun b hb h2=>(h.fresh (hf b h2)).2.2.1 hb
 have hs:∀b∈bs,b∉bs2:=fun b hb h2=>(h.fresh (hf b h2)).2.2.2.1 hb
 have hl:LV≠[]→ba∉bs2:=fun hL h2=>(h.fresh (hf ba h2)).2.2.2.2 hL rfl
 refine⟨h.w.aU fun b hb=>hk b (hw b hb),h.a.aU fun b hb=>hk b (ha b hb),aW.app (aW.aU _ _ _ (fun b hb=>hk b (hs b hb)) h.o) ho,fun hL=>by rw[hk ba (hl hL)];exact h.l hL,fun b hb=>⟨(h.d1 b hb).1,?_,(h.d1 b hb).2.2⟩,fun b hb=>⟨?_,(h.d2 b hb).2⟩,fun hL=>?_,jW.2 ⟨h.nd,hn,fun x hx y hy e=>hs x hx (e▸hy)⟩,h.n1,h.n2,fun b hb=>?_,h.n4,fun b o hb=>?_⟩
 · simp only[dS,kH];exact⟨(h.d1 b hb).2.1,hw b hb⟩
 · simp only[dS,kH];exact⟨(h.d2 b hb).1,ha b hb⟩
 · simp only[dS,kH];exact⟨h.d3 hL,hl hL⟩
 · rcases dS.1 hb with hb | hb
   · exact h.n3 b hb
   · exact(h.fresh (hf b hb)).1
 · have h2:=h.k b o hb
   rw[hk b fun h'=>by rw[hf b h'] at h2;cases h2];exact h2
theorem jY.a1B{LV':List AV}(h:jY st0 T qw qa ba bs W osx A os LV)(hL:LV≠[])(hL':LV'≠[]):jY st0 (T.aC ba (.cells (LV'.flatMap AV.cells))) qw qa ba bs W osx A os LV':=by
 refine⟨h.w.aU fun b hb=>aA.aF _ _ ((h.d1 b hb).2.2 hL),h.a.aU fun b hb=>aA.aF _ _ ((h.d2 b hb).2 hL),aW.aU _ _ _ (fun b hb=>aA.aF _ _ (by rintro rfl;exact h.d3 hL hb)) h.o,fun _=>aA.aJ _ _ _,fun b hb=>⟨(h.d1 b hb).1,(h.d1 b hb).2.1,fun _=>(h.d1 b hb).2.2 hL⟩,fun b hb=>⟨(h.d2 b hb).1,fun _=>(h.d2 b hb).2 hL⟩,fun _=>h.d3 hL,h.nd,h.n1,h.n2,h.n3,fun _=>h.n4 hL,fun b o hb=>?_⟩
 rw[aA.aF _ _ (by rintro rfl;rw[h.n4 hL] at hb;cases hb)];exact h.k b o hb
end
structure BA (st0 T:aA) (q:AV) (l:List AV):Prop where
 a:jE T 1 q l
 n:∀b∈aS q,st0 b=none
 k:∀b o,st0 b=some o→T b=some o
theorem BA.push{st0 T T':aA}{q q':AV}{l:List AV}{x:AV}(h:BA st0 T q l)(gK:jE T' 1 q' (l++ [x]))(hf:∀y,y∉aS q→y∉aS q'→T' y=T y)(hn:∀y∈aS q',y∈aS q∨T y=none):BA st0 T' q' (l++ [x]):=by
 refine⟨gK,fun b hb=>?_,fun b o hb=>?_⟩
 · rcases hn b hb with h' | h'
   · exact h.n b h'
   · cases hs:st0 b with
     | none=>rfl
     | some o=>rw[h.k b o hs] at h';cases h'
 · have h1:b∉aS q:=fun h'=>by rw[h.n b h'] at hb;cases hb
   have h2:=h.k b o hb
   rw[hf b h1 (QF hn h1 (by rw[h2];simp))];exact h2
theorem jY.final{st0 T T':aA}{qw qa qe:AV}{ba:Nat}{bs:List Nat}{W:List Nat}{A os LV:List AV}{E:List Int}(h:jY st0 T qw qa ba bs W os A os LV)(hE:BA T T' qe (E.map iv))(hA:∀e∈A,e.width=1) :
 ∃s2,aM T' s2∧qN st0 [.slice (W.map nv),.slice A,.slice (E.map iv)] (.tup [qw,qa,qe]) s2:=by
 have hko:∀b,T b≠none→T' b=T b:=fun b hb=>by
  cases e:T b with
  | none=>exact absurd e hb
  | some o=>exact hE.k b o e
 have fw:∀b∈aS qw,T b≠none:=fun b hb=>by obtain⟨cs,e⟩:=h.w.some b hb;rw[e];simp
 have fa:∀b∈aS qa,T b≠none:=fun b hb=>by obtain⟨cs,e⟩:=h.a.some b hb;rw[e];simp
 have fb:∀b∈bs,T b≠none:=fun b hb=>h.aLR hb
 have fe:∀b∈aS qe,T b=none:=hE.n
 have f0:∀b∈aS qe,st0 b=none:=fun b hb=>(h.fresh (fe b hb)).1
 have hAb:A= []→bs= []:=fun e=>by have:=h.o;rw[e] at this;simp only[aW] at this;exact this.2
 obtain⟨B,hB⟩:∃B,B=aS qw++((aS qa++bs)++aS qe):=⟨_,rfl⟩
 have eX:∀b,b∈B↔b∈aS qw∨b∈aS qa∨b∈bs∨b∈aS qe:=fun b=>by rw[hB];simp []
 obtain⟨s2,hs⟩:∃s2:aA,s2=fun b=>if b∈B then T' b else st0 b:=⟨_,rfl⟩
 have hs2:∀b,(b∈aS qw∨b∈aS qa∨b∈bs∨b∈aS qe)→s2 b=T' b:=fun b hb=>by rw[hs];exact aH ((eX b).2 hb)
 have o1:aV s2 (.slice (W.map nv)) qw (aS qw++ []):=
  jE.own (os:=W.map nv) (h.w.aU fun b hb=>(hs2 b (.inl hb)).trans (hko b (fw b hb))) (aW.flat (by simp [nv,AV.flat])) (aKB W) (fun _=>rfl)
 have o2:aV s2 (.slice A) qa (aS qa++bs):=
  jE.own (h.a.aU fun b hb=>(hs2 b (.inr (.inl hb))).trans (hko b (fa b hb))) (aW.aU _ _ _ (fun b hb=>(hs2 b (.inr (.inr (.inl hb)))).trans (hko b (fb b hb))) h.o) hA hAb
 have o3:aV s2 (.slice (E.map iv)) qe (aS qe++ []):=
  jE.own (os:=E.map iv) (hE.a.aU fun b hb=>hs2 b (.inr (.inr (.inr hb)))) (aW.flat (by simp [AV.flat])) (by intro e he;simp only[bY] at he;obtain⟨t,_,rfl⟩:=he;rfl) (fun _=>rfl)
 rw[fA] at o1 o3
 refine⟨s2,fun b=>?_,[qw,qa,qe],B,rfl,?_,fun b hb=>?_,?_,fun b hb=>by rw[hs];exact aG hb⟩
 · rw[hs]
   dsimp only
   split
   · exact⟨fun e=>e,fun o e=>e⟩
   · refine⟨fun e=>?_,fun o e=>?_⟩
     · cases hs:st0 b with
       | none=>rfl
       | some o=>rw[hE.k b o (h.k b o hs)] at e;cases e
     · exact hE.k b o (h.k b o e)
 · rw[hB]
   refine jW.2 ⟨C5 _,jW.2 ⟨jW.2 ⟨C5 _,h.nd,fun x hx y hy e=>(h.d2 x hx).1 (e▸hy)⟩,C5 qe,fun x hx y hy e=>?_⟩,fun x hx y hy e=>?_⟩
   · subst e
     have hy':=fe x hy
     rcases dS.1 hx with hx | hx
     · exact fa x hx hy'
     · exact fb x hx hy'
   · subst e
     rcases dS.1 hy with hy | hy
     · rcases dS.1 hy with hy | hy
       · exact(h.d1 x hx).1 hy
       · exact(h.d1 x hx).2.1 hy
     · exact fw x hx (fe x hy)
 · rcases (eX b).1 hb with hb | hb | hb | hb
   · exact h.n1 b hb
   · exact h.n2 b hb
   · exact h.n3 b hb
   · exact f0 b hb
 · simp only[aW]
   exact⟨qw,[qa,qe],aS qw,(aS qa++bs)++aS qe,rfl,hB,o1,qa,[qe],aS qa++bs,aS qe,rfl,rfl,o2,qe,[],aS qe,[],rfl,by rw[fA],o3,rfl,rfl⟩
abbrev aMQ:=zi tI_3 (zi zI_3 (zi a7 (zi tI_49 (zi zI_49 (zi j7 (zi rC (zi rF (zi rV (zi tI_62 (zi zI_62 (zi kX (zi kY (zi kZ (zi k8 (zi k9 (zi lA kU))))))))))))))))
theorem aQD(l:List Ss)(g:FuncId)(cY:List AV)(p:Ss→Bool)(st:aA)(hc:∀x∈l,aD prog g ([aX x]++cY) st (fun r st'=>r=.bool (p x)∧st'=st)) :
 aD prog 169 [.slice (l.map aX),.func g cY] st (fun r st'=>∃j:Int,r=.int .i64 j∧decide (0≤j)=l.any p∧st'=st):=by
 refine wF [] 2 func169 ntmps169 rfl rfl ?_
 simp only[dK,AV.fits,dT,aE]
 intro ⟨hl,_⟩
 simp -implicitDefEqProofs only[aE,aB,seval,aMQ]
 refine dL (σ:=Unit) [] [0,1,7] l (fun i _=>(l.drop i).any p=l.any p) (fun i _=>[(8,.int .i64 i)]) (fun _ _=>st) (by decide +kernel) ⟨(),rfl,aN.mk (by simp -implicitDefEqProofs only[aB,↓aY,seval])⟩ (fun i x _ hx hlt bB hdr hinv=>?_) (fun _ hge hinv=>?_)
 case refine_2=>
  simp -implicitDefEqProofs only[hge,aB,seval]
  rw[gT] at hinv
  exact⟨-1,rfl,by rw[←hinv];try rfl⟩
 rw[hdr,yA] at hinv
 have hw:=bG (n:=(i:Int)+1)
 simp -implicitDefEqProofs only[bB,bH (av:=aX) j7 hx (iO x),AB,iO,aB,seval,aMQ]
 refine(hc x (cG hx)).to ?_
 simp -implicitDefEqProofs only[aB,seval]
 refine aT (fun h=>?_) (fun h=>?_)
 · simp -implicitDefEqProofs only[aB,seval]
   exact⟨i,rfl,by rw[←hinv,h];simp⟩
 · rw[h,qL] at hinv
   simp -implicitDefEqProofs only[aB,seval]
   exact⟨(),hinv,aN.mk (by simp -implicitDefEqProofs only[hw,aB,seval])⟩
theorem aP4(l:List Ss)(g:FuncId)(cY:List AV)(p:Ss→Bool)(st:aA)(hc:∀x∈l,aD prog g ([aX x]++cY) st (fun r st'=>r=.bool (p x)∧st'=st)) :
 aD prog 87 [.slice (l.map aX),.func g cY] st (fun r st'=>r=.bool (l.any p)∧st'=st):=by
 refine wF [] 2 func87 ntmps87 rfl rfl ?_
 intro _
 simp -implicitDefEqProofs only[aB,seval]
 refine(aQD l g cY p st hc).mono ?_
 rintro _ _ ⟨j,rfl,hj,rfl⟩
 simp -implicitDefEqProofs only[hj,aB,seval]
abbrev a2W:=zi tI_4 (zi zI_4 (zi cL (zi tI_62 (zi zI_62 (zi kX (zi kY (zi kZ (zi k8 (zi k9 (zi lA kU))))))))))
theorem aSN(s:Ss)(st:aA):aD prog 88 [aX s] st (fun r st'=>r=.bool (!fK s)∧st'=st):=by
 have hv:=aRD s
 simp only[aX] at hv ⊢
 refine wF [1000000] 1 func88 ntmps88 rfl rfl ?_
 intro _
 simp -implicitDefEqProofs only[aB,seval,a2W]
 refine(hv _).to ?_
 simp -implicitDefEqProofs only[aB,seval]
theorem aPD{st:aA}{l:List Ss}{K:AV→aA→Prop}(hb:l.length≤1048576)(hK:∀b,(l.map aX≠[]→st b=none)→K (bS 6 b (l.map aX)) (bV st b (l.map aX))) :
 iZ prog 49 st (.fslice []) (.slice (l.map aX)) K:=by
 have hw:∀e∈l.map aX,e.width=6∧e.cells.all AV.storable=true:=by intro e h;simp only[bY] at h;obtain⟨t,_,rfl⟩:=h;exact⟨rfl,rfl⟩
 have:=f9 (P:=prog) (st:=st) (b:=0) (l:=[]) (xs:=l.map aX) (x:=.slice (l.map aX)) (K:=K) j7 rC rF rfl rfl hw (by simp) (by simp) (by simp only[bL,aE];omega) (by simp only[bL,aE];omega) (by simpa using hK)
 exact this
abbrev a2X:=zi tI_49 (zi zI_49 (zi j7 (zi rC (zi rF rV))))
theorem aZN(l:List Ss)(st:aA)(hb:l.length≤1048576):aD prog 90 [.slice (l.map aX)] st (fun r st'=>∃b,(l.map aX≠[]→st b=none)∧r=bS 6 b (l.map aX)∧st'=bV st b (l.map aX)):=by
 refine aO1 func90 ntmps90 rfl rfl (by kernel_rfl) (by show 1≤_;decide +kernel) ?_
 intro _
 refine NM (wQ [1000000] (by decide +kernel) ?_)
 simp -implicitDefEqProofs only[aB,seval]
 refine NM (NM (aPO rV (by decide +kernel) (by decide +kernel) rfl fun c hc=>?_))
 refine wQ [1000000] (by decide +kernel) ?_
 simp -implicitDefEqProofs only[aB,seval]
 refine aT (fun h=>?_) (fun h=>?_)
 · subst h
   have hn:l= []:=by
    rcases l with _ | ⟨x,l⟩
    · rfl
    · have:=hc (by simp);cases this
   subst hn
   simp -implicitDefEqProofs only[aB,seval]
   exact⟨0,rfl,rfl⟩
 · refine wQ [1000000] (by decide +kernel) ?_
   simp -implicitDefEqProofs only[aB,seval,a2X]
   refine aPD hb fun b hb'=>?_
   simp -implicitDefEqProofs only[aB,seval]
   exact⟨b,hb',rfl,rfl⟩
theorem aD.a18{P:Program}{g:FuncId}{args:List AV}{st:aA}{s:Ss}{L M:List (List Tm)}{k:Nat}(hd:L.drop k=M)(x:aD P g args st (fun r st'=>∃o,r=.tup [aX s,o]∧TL st (L.map bJ) k o st')) :
 aD P g args st (fun r st'=>∃os bs,r=.tup [aX s,.slice os]∧bs.Nodup∧(∀b∈bs,st b=none)∧aW st' (M.map bJ) os bs∧∀b,b∉bs→st' b=st b):=by
 refine x.kP fun r st' h=>?_
 obtain⟨o2,rfl,q,⟨b2,h1,h2,h6,h4⟩,hT⟩:=h
 have ha:=(aL2 hT).1
 have aI1:∀(bs':List Nat),(∀b∈bs',b∈b2)→aM st' (fun x=>if x∈bs' then st' x else st x):=fun bs' jR b=>by
  dsimp only
  by_cases hb:b∈bs'
  · rw[aH hb];exact⟨fun h=>h,fun o h=>h⟩
  · rw[aG hb]
    refine⟨fun e=>?_,fun o e=>?_⟩
    · by_cases hb2:b∈b2
      · exact h2 b hb2
      · rw[←h4 b hb2];exact e
    · by_cases hb2:b∈b2
      · rw[h2 b hb2] at e;cases e
      · rw[h4 b hb2];exact e
 have aIW:∀(bs':List Nat) (os':List AV),(∀b∈bs',b∈b2)→bs'.Nodup→aW st' (M.map bJ) os' bs'→(∀h v,cI h st'→VC h st' o2 v→VC h (fun x=>if x∈bs' then st' x else st x) (.slice os') v)→∃r2 s2,M0 st' s2∧MZ st' (.tup [aX s,o2]) s2 r2∧∃os bs,r2=.tup [aX s,.slice os]∧bs.Nodup∧(∀b∈bs,st b=none)∧aW s2 (M.map bJ) os bs∧∀b,b∉bs→s2 b=st b:=fun bs' os' jR hnd hO hv=>by
  have D:=aI1 bs' jR
  refine⟨.tup [aX s,.slice os'],_,D.rX,fun h v S y=>?_,os',bs',rfl,hnd,fun b hb=>h2 b (jR b hb),aW.aU _ _ _ (fun b hb=>aH hb) hO,fun b hb=>aG hb⟩
  obtain⟨y0,y1⟩:=y
  refine⟨y0,?_⟩
  unfold VC at y1 ⊢
  obtain⟨vs,e,y2⟩:=y1
  simp only[dJ] at y2 ⊢
  obtain⟨v1,r1,rfl,ya,v2,r2,rfl,yb,rfl⟩:=y2
  have z2:aQ h (fun x=>if x∈bs' then st' x else st x) (.slice os') v2:=by
   have y:=aQ.QJ yb
   have hy:VC h st' o2 v2.cells.toList∧o2.isAgg=iX v2:=by rcases hT with ⟨_,b,w,_,rfl⟩ | ⟨_,rfl⟩<;>exact⟨y.2,y.1⟩
   exact⟨by rw[←hy.2,ha];try rfl,hv h _ S hy.1⟩
  exact⟨_,e,v1,_,rfl,⟨ya.1,VC.mono (D.step h) _ _ ya.2⟩,v2,[],rfl,z2,rfl⟩
 rcases hT with ⟨hk',b,w,rfl,rfl⟩ | ⟨hk',rfl⟩
 · simp only[aV] at h6
   rcases h6 with ⟨_,hq,_⟩ | ⟨b',bs',os,w',e1,rfl,e2,h7,e3⟩
   · cases hq
   cases e1
   obtain⟨bd,h8,h9⟩:=aW.drop k h7
   rw[←yE,hd] at h8
   have jR:∀x∈bd,x∈b::bs':=fun x hx=>MR _ (h9.subset hx)
   have hbd:b∉bd:=fun hx=>(yF.1 h1).1 (h9.subset hx)
   refine aIW bd (os.drop k) jR (h9.nodup (yF.1 h1).2) h8 fun h v S y=>?_
   have hj:=aW.RB (h:=h) (s0:=st') h7
   have hw:=aW.S8 h7 e3
   obtain⟨f1,f2⟩:=frozen S e2 hj
   have hE:=cX.drop k hw f2
   rw[gU] at hE
   have hlen:(os.drop k).length=(L.map bJ).length - k:=by rw[nH,aW.length h7]
   have hb0:(fun x=>if x∈bd then st' x else st x) b=none:=by
    dsimp only
    rw[aG hbd]
    exact h2 b (by simp)
   have D2:aM (st'.erase b) (fun x=>if x∈bd then st' x else st x):=fun x=>by
    unfold aA.erase
    by_cases hx:x=b
    · subst hx;rw[aH rfl];exact⟨fun _=>hb0,fun o e=>by rw[hb0] at e;cases e⟩
    · rw[aG hx];exact aI1 bd jR x
   simp only[VC] at y
   obtain⟨cap,e,l1,l2,_⟩:=y
   unfold VC
   exact .inr ⟨b,k*w,cap,by rw[hlen];exact e,by rw[hlen];exact l1,l2,hb0,f1,⟨w,fun e he=>hw e (MT he)⟩,cX.mono (D2.step h) b rfl _ _ hE⟩
 · have hL:M= []:=by rw[←hd];rw[aE] at hk';subst hk';exact gT
   refine aIW [] [] (by simp) lS (by rw[hL];simp only[bQ,aW,and_self]) fun h v S y=>?_
   unfold VC at y ⊢
   rcases y with y | ⟨b,off,e,_⟩
   · exact .inl y
   · exact .inl ⟨⟨_,e⟩,rfl⟩
theorem aZR(s:Ss)(n:Int)(h:fK s=true)(hn:0≤n)(st:aA):aD prog 91 [aX s,.int .i64 n] st (fun r st'=>∃os bs,r=.tup [aX (m6 s n),.slice os]∧bs.Nodup∧(∀b∈bs,st b=none)∧aW st' ((oW s n).map bJ) os bs∧∀b,b∉bs→st' b=st b):=
 (aSQ s n h hn st).a18 rfl
theorem aUF{P:Program}{t:TypeId}{ag:Bool}{w:Nat}{l:List AV}{i:Nat}{x:AV}(hI:eI P t=some (ag,w))(hx:l[i]?=some x)(hw:x.width=w):dM P t (.slice l) (.int .i64 (i:Int))=some (.pptr x):=by
 have:=bH (av:=fun e:AV=>e) hI hx hw
 rwa [D1] at this
theorem aO3{st:aA}{b q:Nat}{l:List AV}{o:AO}(hb:l≠[]→st b=none)(h:st q=some o):bV st b l q=some o:=yO hb h
theorem aHR{α:Type}{av:α→AV}{w:Nat}(hw:∀a,(av a).width=w){L:List α}{i:Nat}{a:α}(h:L[i]?=some a):i*w+w≤((L.map av).flatMap AV.cells).length∧(((L.map av).flatMap AV.cells).drop (i*w)).take w=(av a).cells:=by
 obtain⟨hi,hei⟩:=eE.1 h
 have hwl:∀l:List α,((l.map av).flatMap AV.cells).length=l.length*w:=fun l=>by
  rw[lK (n:=w) (es:=l.map av) (fun e he=>by simp only[bY] at he;obtain⟨t,_,rfl⟩:=he;exact hw t),aE]
 have h1:(i+1)*w≤L.length*w:=yJ w hi
 rw[r9,Nat.one_mul] at h1
 refine⟨by rw[hwl];exact h1,?_⟩
 have h2:L=L.take i++a::L.drop (i+1):=by rw[←hei,←pE hi,n9]
 have hA:(((L.take i).map av).flatMap AV.cells).length=i*w:=by rw[hwl,dI,jX (by omega)]
 have hE:(av a).cells.length=w:=by rw[pN,hw]
 conv=>lhs;rw[h2]
 rw[mX,r7,bR,pF,List.drop_left' hA,D5 hE]
theorem aIO{T:aA}:∀ {L:List (List Tm)} {os:List AV} {bs:List Nat},aW T (L.map bJ) os bs→∀e∈os,∃q,e=.agg [q]∧q.cells= [q]∧q.storable=true∧q.isAgg=false∧q.width=1∧q.cD=false
 | [],os,bs,h=>by simp only[bQ,aW] at h;rw[h.1];intro e he;cases he
 | l::L,os,bs,h=>by
  simp only[bR,aW] at h
  obtain⟨o,os',b1,b2,rfl,rfl,h1,h2⟩:=h
  obtain⟨q,rfl,h3⟩:=KO.1 h1
  intro e he
  rcases cQ.1 he with rfl | he
  · exact⟨q,rfl,aV.oY h3⟩
  · exact aIO h2 e he
def HM(st:aA)(W:List Nat)(A:List (List Tm))(E:List Int)(r:AV)(st':aA):Prop:=qN st [.slice (W.map nv),.slice (A.map bJ),.slice (E.map iv)] r st'
abbrev AD:=zi tI_3 (zi zI_3 (zi a7 (zi tI_26 (zi zI_26 (zi gC (zi kM (zi kN (zi mA (zi tI_46 (zi zI_46 (zi cW (zi eJ (zi eF (zi eY (zi tI_49 (zi zI_49 (zi j7 (zi rC (zi rF (zi rV (zi tI_59 (zi zI_59 (zi tT (zi tK (zi tI_62 (zi zI_62 (zi kX (zi kY (zi kZ (zi k8 (zi k9 (zi lA kU))))))))))))))))))))))))))))))))
set_option maxHeartbeats 4000000 in
theorem aRC(L:List Ss)(n:Int)(hL:L.length≤1048576)(st:aA):aD prog 34 [.slice (L.map aX),.int .i64 n] st (HM st (iV L n).1 (iV L n).2.1 (iV L n).2.2):=by
 have nQ:o7 L n=false→∀T:aA,aM T st→∃s2,aM T s2∧HM st (iV L n).1 (iV L n).2.1 (iV L n).2.2 (.tup [.fslice [],.fslice [],.fslice []]) s2:=fun h T hD=>by
  unfold iV HM
  rw[h,aG (by decide)]
  refine⟨st,hD,_,[],rfl,lS,by simp,?_,fun _ _=>rfl⟩
  simp only[bQ,aW]
  exact⟨_,_,[],[],rfl,rfl,.inl ⟨rfl,rfl,rfl⟩,_,_,[],[],rfl,rfl,.inl ⟨rfl,rfl,rfl⟩,_,_,[],[],rfl,rfl,.inl ⟨rfl,rfl,rfl⟩,rfl,rfl⟩
 have aV5:=fun st=>aP4 L 88 [] (fun s=> !fK s) st fun s _=>aSN s st
 have aV1:=fun st=>aZN L st hL
 refine aD.oJ ?_
 refine wF [1000000] 2 func34 ntmps34 rfl rfl ?_
 intro _
 simp -implicitDefEqProofs only[aB,seval]
 refine cU (fun h1=>?_) (fun h1=>?_)
 case refine_2=>
  simp -implicitDefEqProofs only[h1,aB,seval]
  exact nQ (by simp at h1;unfold o7;rw[rB (by omega)];try rfl) _ (aM.refl _)
 have h1':1≤n:=by simp at h1;omega
 simp -implicitDefEqProofs only[h1,aE,aB,seval,AD]
 refine cU (fun h2=>?_) (fun h2=>?_)
 case refine_2=>
  simp -implicitDefEqProofs only[h2,aB,seval]
  exact nQ (by simp at h2;unfold o7;rw[rB (show ¬L.length≤8 by omega)];simp) _ (aM.refl _)
 have h2':L.length≤8:=by simp at h2;omega
 simp -implicitDefEqProofs only[h2,aB,seval]
 refine(aV5 _).to ?_
 simp -implicitDefEqProofs only[aB,seval]
 refine aT (fun h3=>?_) (fun h3=>?_)
 · simp -implicitDefEqProofs only[aB,seval]
   exact nQ (by
    obtain⟨s,hs,hb⟩:=yB.1 h3
    unfold o7
    have:L.all fK=false:=by
     cases hA:L.all fK with
     | false=>rfl
     | true=>have:=eD.1 hA s hs;rw[this] at hb;cases hb
    rw[this];simp) _ (aM.refl _)
 have h3':∀s∈L,fK s=true:=fun s hs=>by
  cases hk:fK s with
  | true=>rfl
  | false=>
   have:(L.any fun s=> !fK s)=true:=yB.2 ⟨s,hs,by rw[hk];try rfl⟩
   rw[h3] at this;cases this
 have hok:o7 L n=true:=KY.2 ⟨h1',h2',h3'⟩
 have hml:=KI h3'
 have hI0:=jK.start h3'
 simp -implicitDefEqProofs only[aB,seval]
 refine(aV1 _).mono ?_
 rintro _ _ ⟨ba,hba,rfl,rfl⟩
 have hB0:jY st (bV st ba (L.map aX)) (.fslice []) (.fslice []) ba [] [] [] [] [] (L.map aX):=by
  refine⟨.inl ⟨rfl,rfl⟩,.inl ⟨rfl,rfl⟩,⟨rfl,rfl⟩,fun h=>by rw[j4 h,aA.aJ],by simp [aS],by simp [aS],by simp,lS,by simp [aS],by simp [aS],by simp,hba,fun b o hb=>aO3 hba hb⟩
 generalize bV st ba (L.map aX)=T0 at *
 have hQ:∀x:gY,jK L x→x.l.map aX≠[]→bS 6 ba (L.map aX)=.mslice ba 0 L.length 6:=fun x hx hne=>by
  have hl:=hx.len
  rw[oF (by intro e;apply hne;have:=gI List.length e;simp at this;rw[this] at hl;rw[nG hl];try rfl),aE]
 have hQl:jZ prog 49 (bS 6 ba (L.map aX))=some (.int .i64 (L.length:Int)):=by
  have:=BN (P:=prog) (w:=6) (b:=ba) (l:=L.map aX) rV
  rw[aE] at this
  exact this
 have hQ1:(bS 6 ba (L.map aX)).isAgg=false∧(bS 6 ba (L.map aX)).cD=false:=⟨qR,sF⟩
 generalize hq7:bS 6 ba (L.map aX)=q7 at *
 obtain⟨hQa,hQj⟩:=hQ1
 simp -implicitDefEqProofs only[aB,seval]
 refine pC (σ:=aA×AV×AV×List Nat×List AV×gY×Bool) [1000000] [1,4,5,6,7]
  (fun x=>jY st x.1 x.2.1 x.2.2.1 ba x.2.2.2.1 x.2.2.2.2.2.1.w x.2.2.2.2.1 (x.2.2.2.2.2.1.a.map bJ) x.2.2.2.2.1 (x.2.2.2.2.2.1.l.map aX)∧jK L x.2.2.2.2.2.1∧rounds n (gR x.2.2.2.2.2.1.l) x.2.2.2.2.2.1=fY n L∧(x.2.2.2.2.2.2=false→runs x.2.2.2.2.2.1.l=false))
  (fun x=>[(8,x.2.1),(9,x.2.2.1),(10,.bool x.2.2.2.2.2.2)]) (fun x=>x.1) (fun x=>gR x.2.2.2.2.2.1.l+(if x.2.2.2.2.2.2=true then 1 else 0)) (by decide +kernel)
  ⟨(T0,.fslice [],.fslice [],[],[],⟨L,[],[]⟩,true),⟨hB0,hI0,rfl,fun h=>by cases h⟩,aN.mk (by simp -implicitDefEqProofs only[aB,seval])⟩ ?_
 clear hB0 hI0
 rintro⟨T,qw,qa,bs,os,x,more⟩ ⟨i1,i4,i5,i6⟩
 simp only at i1 i4 i5 i6
 obtain⟨w1,w2,w3,w4,w5⟩:=i1.w.shape
 obtain⟨a1,a2,a3,a4,a5⟩:=i1.a.shape
 simp only
 simp -implicitDefEqProofs only[aB,seval]
 cases more with
 | false=>
  simp -implicitDefEqProofs only[hQl,aB,seval]
  have hx:x=fY n L:=by rw[←i5,GP (i6 rfl)]
  have hV:iV L n=((fY n L).w,(fY n L).a,(fY n L).l.map Ss.fin):=by unfold iV;rw[aH hok]
  rw[hV]
  subst hx
  have hE0:BA T T (.fslice []) []:=⟨.inl ⟨rfl,rfl⟩,by simp [aS],fun _ _ h=>h⟩
  refine dL (σ:=aA×AV) [1000000] [4,5,6,8,9,70,71] L (fun k y=>BA T y.1 y.2 ((((fY n L).l.take k).map Ss.fin).map iv)) (fun k y=>[(17,y.2),(72,.int .i64 k)]) (fun k y=>y.1) (by decide +kernel) ⟨(T,.fslice []),hE0,aN.mk (by simp -implicitDefEqProofs only[aB,↓aY,seval])⟩ (fun k s0 y hx hlt bB hdr hinv=>?_) (fun y hge hinv=>?_)
  · obtain⟨T2,qe⟩:=y
    simp only at hinv
    obtain⟨s,hsk⟩:∃s,(fY n L).l[k]?=some s:=⟨_,dZ (by rw[i4.len];exact hlt)⟩
    have hne:(fY n L).l.map aX≠[]:=by intro e;have:=gI List.length e;simp at this;rw[this] at hsk;simp at hsk
    obtain rfl:=hQ _ i4 hne
    obtain⟨a1,a2,a3,a4,a5⟩:=hinv.a.shape
    have hw:=bG (n:=(k:Int)+1)
    have pW:=kE (P:=prog) (b:=ba) (w:=6) (i:=k) (len:=L.length) j7 hlt
    have hlb:=hinv.k _ _ (i1.l hne)
    obtain⟨hf1,hf2⟩:=aHR (av:=aX) iO hsk
    rw[show(aX s).cells= [.slice (s.p.map bK),.slice (s.q.map Tm.av),.int .i64 s.dO,.int .i64 s.used,.int .i64 s.sent,.int .i64 s.fin] from rfl] at hf2
    generalize hFL:((fY n L).l.map aX).flatMap AV.cells=FL at *
    simp -implicitDefEqProofs only[bB,pW,hlb,hf1,hf2,aB,↓aY,seval,AD]
    refine jE.append (x:=iv s.fin) cW eJ eF rfl (by decide) hinv.a rfl rfl (by simp only[aE,dI];omega) (fun q' T5 gK PI PR=>?_)
    have hP:=hinv.push gK PI PR
    obtain⟨y1,y2,y3,y4,y5⟩:=gK.shape
    simp -implicitDefEqProofs only[hw,aB,seval]
    refine⟨(T5,q'),?_,aN.mk (by simp -implicitDefEqProofs only[aB,seval])⟩
    rw[eH,hsk]
    simpa using hP
  · obtain⟨T2,qe⟩:=y
    simp only at hinv
    rw[show(fY n L).l.take L.length=(fY n L).l by rw[←i4.len,dQ]] at hinv
    obtain⟨_,_,g1,_,_⟩:=i1.w.shape
    obtain⟨_,_,g2,_,_⟩:=i1.a.shape
    obtain⟨_,_,g3,_,_⟩:=hinv.a.shape
    simp -implicitDefEqProofs only[hge,g1,g2,g3,aB,seval]
    exact i1.final hinv (NF _)
 | true=>
  simp -implicitDefEqProofs only[hQl,aB,seval]
  refine dL (σ:=aA×AV×AV×List Nat×List AV) [1000000] [1,4,5,6,7,33,34,35] L
   (fun k y=>jY st y.1 y.2.1 y.2.2.1 ba y.2.2.2.1 (iW n x k).w y.2.2.2.2 ((iW n x k).a.map bJ) y.2.2.2.2 ((iW n x k).l.map aX))
   (fun k y=>[(8,y.2.1),(9,y.2.2.1),(10,.bool (runs (x.l.take k))),(36,.int .i64 k)]) (fun k y=>y.1) (by decide +kernel) ⟨(T,qw,qa,bs,os),i1,aN.mk (by simp -implicitDefEqProofs only[jJ,runs,List.any_nil,aB,↓aY,seval])⟩ (fun k s0 y hx hlt bB hdr hinv=>?_) (fun y hge hinv=>?_)
  · obtain⟨T,qw,qa,bs,os⟩:=y
    simp only at hinv
    obtain⟨hIk,_,_⟩:=i4.turns h1' k
    have hlen:=L9 n x k
    rw[i4.len] at hlen
    obtain⟨s,hsk⟩:∃s,(iW n x k).l[k]?=some s:=⟨_,dZ (by rw[hlen];exact hlt)⟩
    have hxk:x.l[k]?=some s:=by rw[←L8 n x k (cO _)];exact hsk
    have gQ:runs (x.l.take (k+1))=(runs (x.l.take k)||l7 s):=by unfold runs;rw[eH,hxk,List.any_append];simp
    have CM:=hIk.ok s (cG hsk)
    have hsu:=DQ n x k
    have hbd:=hIk.bd
    have hwl:=hIk.wl
    have hne:(iW n x k).l.map aX≠[]:=by intro e;have:=gI List.length e;simp at this;rw[this] at hsk;simp at hsk
    obtain rfl:=hQ _ hIk hne
    generalize iW n x (k+1)=Y' at *
    generalize iW n x k=Y at *
    obtain⟨w1,w2,w3,w4,w5⟩:=hinv.w.shape
    obtain⟨a1,a2,a3,a4,a5⟩:=hinv.a.shape
    have aXA:=aW.length hinv.o
    rw[aE] at aXA
    have hw:=bG (n:=(k:Int)+1)
    have pW:=kE (P:=prog) (b:=ba) (w:=6) (i:=k) (len:=L.length) j7 hlt
    have hlb:=hinv.l hne
    obtain⟨hf1,hf2⟩:=aHR (av:=aX) iO hsk
    have mJ:=fun z=>Q9 (av:=aX) (w:=6) iO (L:=Y.l) (i:=k) z (by omega)
    rw[show(aX s).cells= [.slice (s.p.map bK),.slice (s.q.map Tm.av),.int .i64 s.dO,.int .i64 s.used,.int .i64 s.sent,.int .i64 s.fin] from rfl] at hf2
    generalize hFL:(Y.l.map aX).flatMap AV.cells=FL at *
    simp -implicitDefEqProofs only[bB,pW,hlb,hf1,hf2,aB,↓aY,seval,AD]
    refine aT (fun hf=>?_) (fun hf=>?_)
    · have hf':s.fin≠-1:=by simpa using hf
      have hr:l7 s=false:=by unfold l7;simpa using hf'
      rw[hr,AU] at gQ
      rw[DP hsk hf'] at hsu
      simp -implicitDefEqProofs only[hw,aB,seval]
      exact⟨(T,qw,qa,bs,os),by rw[hsu];exact hinv,aN.mk (by simp -implicitDefEqProofs only[gQ,aB,seval])⟩
    have hf':s.fin= -1:=by simpa using hf
    have hr:l7 s=true:=by unfold l7;simpa using hf'
    rw[hr,DX] at gQ
    rw[G9 hsk hf',DD (BT.2 ⟨CM,by omega,hf'⟩)] at hsu
    have rG:=fun st=>aZR s n CM (by omega) st
    have OY:(oW s n).length≤20:=by have:=(vZ CM (show 0≤n by omega)).l;unfold oW;rw[nH];omega
    simp only at hsu
    generalize oW s n=M at *
    have hsz:=mJ (m6 s n)
    generalize m6 s n=z at *
    simp only[aX] at rG
    simp -implicitDefEqProofs only[aB,seval,AD]
    refine(rG _).mono ?_
    rintro _ T2 ⟨os2,bs2,rfl,n1,n2,n3,n4⟩
    have hB2:=hinv.more n3 n1 n2 n4
    have hl2:=hB2.l hne
    rw[hFL] at hl2
    have aIY:(Y.l.set k z).map aX≠[]:=by intro e;apply hne;have:=gI List.length e;simp at this;rw[this];try rfl
    have hB3:=hB2.a1B hne aIY
    rw[←hsz] at hB3
    simp -implicitDefEqProofs only[pW,hl2,hf1,aP,aB,↓aY,seval,AD]
    have hB4:jY st (T2.aC ba (.cells (List.take (k*6) FL++ [.slice (z.p.map bK),.slice (z.q.map Tm.av),.int .i64 z.dO,.int .i64 z.used,.int .i64 z.sent,.int .i64 z.fin]++List.drop (k*6+6) FL))) qw qa ba (bs++bs2) Y.w os (Y.a.map bJ++M.map bJ) (os++os2) ((Y.l.set k z).map aX):=hB3
    clear hB3 hB2
    generalize T2.aC ba (.cells (List.take (k*6) FL++ [.slice (z.p.map bK),.slice (z.q.map Tm.av),.int .i64 z.dO,.int .i64 z.used,.int .i64 z.sent,.int .i64 z.fin]++List.drop (k*6+6) FL))=T3 at *
    have ho2:=aW.length n3
    rw[aE] at ho2
    have hhm:=aIO n3
    refine dL (σ:=aA×AV×AV) [1000000] [1,4,5,6,7,10,11,12,13,14,33,34,35,36,37,38,39,40,41,42,43,44,45,46,47,48,49,50,51,52,53,54,55] os2
     (fun j y=>jY st y.1 y.2.1 y.2.2 ba (bs++bs2) (Y.w++List.replicate j k) (os++os2.take j) (Y.a.map bJ++M.map bJ) (os++os2) ((Y.l.set k z).map aX))
     (fun j y=>[(8,y.2.1),(9,y.2.2),(56,.int .i64 j)]) (fun j y=>y.1) (by decide +kernel) ⟨(T3,qw,qa),by simpa using hB4,aN.mk (by simp -implicitDefEqProofs only[aB,↓aY,seval])⟩ (fun j e y hxj a6E aWX a59 vH=>?_) (fun y aWM vH=>?_)
    · obtain⟨T4,pw,pa⟩:=y
      simp only at vH
      obtain⟨q,rfl,e1,e2,e3,e4,e5⟩:=hhm e (cG hxj)
      obtain⟨w1,w2,w3,w4,w5⟩:=vH.w.shape
      obtain⟨a1,a2,a3,a4,a5⟩:=vH.a.shape
      have hwj:=bG (n:=(j:Int)+1)
      have O4:=aUF (P:=prog) gC hxj rfl
      simp -implicitDefEqProofs only[aWX,O4,e2,aB,↓aY,seval,AD]
      refine wX [(0,1),(1,1),(2,1),(4,1),(5,1),(6,1),(3,0),(7,0),(8,1),(9,1)] [0,1,2,4,5,6,8,9] dH mixed rfl fV ?_
      simp -implicitDefEqProofs only[aB,seval,AD]
      refine jE.append cW eJ eF rfl (by decide) vH.w rfl rfl (by simp only[aE,dP,List.length_replicate];omega) (fun q' T5 gK PI PR=>?_)
      have hP:=vH.QW (i:=k) gK PI PR
      obtain⟨y1,y2,y3,y4,y5⟩:=gK.shape
      simp -implicitDefEqProofs only[aB,seval]
      refine⟨fV,?_⟩
      refine jE.append (x:=.agg [q]) gC kM kN rfl (by decide) hP.a rfl (by simp only[AV.cells,jI,List.all_nil,e2,Bool.and_self]) (by simp only[dP,dI];omega) (fun q2 T6 FQ aWJ aW0=>?_)
      have hP2:=hP.KS FQ aWJ aW0
      obtain⟨x1,x2,x3,x4,x5⟩:=FQ.shape
      simp -implicitDefEqProofs only[aB,seval]
      refine⟨fV,⟨(T6,q',q2),?_,aN.mk (by simp -implicitDefEqProofs only[hwj,aB,seval])⟩⟩
      have g1:Y.w++List.replicate j k++ [k]=Y.w++List.replicate (j+1) k:=by rw[kK,List.replicate_succ']
      have g2:os++os2.take j++ [.agg [q]]=os++os2.take (j+1):=by rw[eH,hxj];simp
      rw[g1,g2] at hP2
      exact hP2
    · obtain⟨T4,pw,pa⟩:=y
      simp only at vH
      rw[dQ,ho2] at vH
      simp -implicitDefEqProofs only[aWM,hw,aB,seval]
      refine⟨(T4,pw,pa,bs++bs2,os++os2),?_,aN.mk (by simp -implicitDefEqProofs only[gQ,aB,seval])⟩
      rw[hsu]
      simp only[mX]
      exact vH
  · obtain⟨T4,pw,pa,bs,os⟩:=y
    simp only at hinv
    rw[show iW n x L.length=mT n x by unfold mT;rw[i4.len]] at hinv
    rw[show x.l.take L.length=x.l by rw[←i4.len,dQ]]
    obtain⟨r1,r2⟩:=i4.round h1'
    simp -implicitDefEqProofs only[hge,aB,seval]
    refine⟨(T4,pw,pa,bs,os,mT n x,runs x.l),?_,⟨hinv,r1,?_,fun h=>?_⟩,aN.mk (by simp -implicitDefEqProofs only[aB,seval])⟩
    · simp only
      cases hr:runs x.l with
      | true=>have:=r2 hr;simp only[dX];omega
      | false=>
       have:mT n x=x:=AI hr _
       rw[this]
       simp
    · cases hr:runs x.l with
      | true=>exact(aK7 h1' i4 hr).trans i5
      | false=>rw[show mT n x=x from AI hr _];exact i5
    · rw[show mT n x=x from AI h _];exact h

abbrev SH:=zi tI_3 (zi zI_3 (zi a7 (zi tI_44 (zi zI_44 (zi I4 (zi W1 (zi W2 (zi aNN (zi tI_105 (zi zI_105 (zi JE (zi JF (zi JG (zi JH (zi JI (zi JJ H8))))))))))))))))
theorem aS4(l:List Ss)(left:Int)(st:aA)(h0:0≤left)(h1:left≤1048576)(hc:∀x∈l,∀(left:Int) (st:aA),0≤left→left≤1048576→aD prog 82 [aX x,.int .i64 left] st (fun r st'=>r=.int .i64 (iE left (lE x))∧st'=st)) :
 aD prog 31 [.slice (l.map aX),.int .i64 left] st (fun r st'=>r=.int .i64 (iE left (l.length+aL lE l))∧st'=st):=by
 refine wF [] 2 func31 ntmps31 rfl rfl ?_
 simp only[dK,AV.fits,dT,aE]
 intro ⟨hl,_⟩
 have hw:=bG (n:=left - (l.length:Int))
 simp -implicitDefEqProofs only[aE,hw,aB,seval,SH]
 refine⟨fun h4=>?_,fun h4=>?_⟩
 · simp -implicitDefEqProofs only[aB,seval]
   simp only[bM] at h4
   simp only[iE]
   rw[aH (by omega)]
 simp only[cM] at h4
 simp -implicitDefEqProofs only[aB,seval]
 refine n6 (α:=Nat) [] (fun i=>i≤l.length∧((l.length+aL lE (l.take i):Nat):Int)≤left)
  (fun i=>[(0,.slice (l.map aX)),(1,.int .i64 (left - ((l.length+aL lE (l.take i):Nat):Int))),(5,.int .i64 i)]) (fun _=>st) (fun i=>l.length - i) (by decide +kernel)
  ⟨0,⟨by omega,by simp only[jJ,aL];omega⟩,aN.mk (by simp -implicitDefEqProofs only[aL,oA,aB,↓aY,seval])⟩ ?_
 intro i ⟨hi,hle⟩
 simp -implicitDefEqProofs only[aE,aB,seval,SH]
 refine⟨fun h5=>?_,fun h5=>?_⟩
 case refine_2=>
  simp -implicitDefEqProofs only[aB,seval]
  simp only[cM,gX] at h5
  rw[show i=l.length by omega,dQ] at hle ⊢
  rw[pA (by omega)]
 simp only[bM,gX] at h5
 obtain⟨x,hx⟩:∃x,l[i]?=some x:=⟨_,dZ h5⟩
 simp -implicitDefEqProofs only[bH (av:=aX) I4 hx (iO x),AB,iO,aB,seval,SH]
 refine(hc x (cG hx) _ st (by omega) (by omega)).to ?_
 have hs:=uD lE hx
 simp -implicitDefEqProofs only[aB,seval]
 refine⟨fun h6=>?_,fun h6=>?_⟩
 · simp -implicitDefEqProofs only[aB,seval]
   simp only[bM,mN] at h6
   simp only[iE]
   rw[aH (by omega)]
 simp only[cM,mN] at h6
 rw[pA h6]
 simp -implicitDefEqProofs only[aB,seval]
 refine⟨i+1,by omega,⟨by omega,by omega⟩,aN.mk ?_⟩
 · have:=bG (n:=(i:Int)+1)
   have e:(left - ((l.length+aL lE (l.take (i+1)):Nat):Int))=left - ((l.length+aL lE (l.take i):Nat):Int) - ((lE x:Nat):Int):=by omega
   simp -implicitDefEqProofs only[this,e,aB,seval]
abbrev LG:=zi tI_3 (zi zI_3 (zi a7 (zi tI_44 (zi zI_44 (zi I4 (zi W1 (zi W2 (zi aNN (zi tI_49 (zi zI_49 (zi j7 (zi rC (zi rF (zi rV (zi tI_62 (zi zI_62 (zi kX (zi kY (zi kZ (zi k8 (zi k9 (zi lA (zi kU (zi tI_105 (zi zI_105 (zi JE (zi JF (zi JG (zi JH (zi JI (zi JJ H8)))))))))))))))))))))))))))))))
theorem aZW(l:List Ss)(st:aA)(hb:l.length≤1048576)(hc:∀x∈l,∀(st:aA),aD prog 86 [aX x] st (Made st (aX x))) :
 aD prog 33 [.slice (l.map aX)] st (Made st (.slice (l.map aX))):=by
 refine wF [] 1 func33 ntmps33 rfl rfl ?_
 intro _
 simp -implicitDefEqProofs only[aE,sC,aB,↓aY,seval,LG]
 refine⟨by omega,by omega,by omega,?_⟩
 intro b hn
 rw[jV,F9 _ (by simp)]
 refine dL (σ:=List AV×List Nat×aA) [] [0,2,3] l (fun i p=>pI (l.map aX) [.fslice [],.fslice [],.int .i64 0,.int .i64 0,.int .i64 0,.int .i64 0] b st i p) (fun i _=>[(4,.int .i64 i)]) (fun _ p=>p.2.2) (by decide +kernel)
  ⟨([],[],_),?_,aN.mk (by simp -implicitDefEqProofs only[aB,↓aY,seval])⟩ (fun i x p hx hlt bB hdr hinv=>?_) (fun p hge hinv=>?_)
 · exact pI.start hn (by rw[aE])
 case refine_3=>
  obtain⟨os,bs,s⟩:=p
  simp -implicitDefEqProofs only[aE,hge,aB,seval,LG]
  exact hinv.done (aE _) (fun e he=>by simp only[bY] at he;obtain⟨t,_,rfl⟩:=he;exact iO t)
 obtain⟨os,bs,s⟩:=p
 simp -implicitDefEqProofs only[aE,bB,bH (av:=aX) I4 hx (iO x),AB,iO,aB,seval,LG]
 refine(hc x (cG hx) _).mono ?_
 rintro r s2 FY
 obtain⟨A,B,hs2,hA,hrw,hrs,F0⟩:=hinv.step FY (show(l.map aX)[i]?=some (aX x) by rw[kS,hx];try rfl) (iO x) (fun e he=>by simp only[bY] at he;obtain⟨t,_,rfl⟩:=he;exact iO t) rfl (K3 x) (.inl (AB x))
 have hat:=kE (b:=b) (len:=l.length) (w:=6) (i:=i) j7 hlt
 obtain⟨hp1,hp2⟩:=KP (B:=B) (C:=[.fslice [],.fslice [],.int .i64 0,.int .i64 0,.int .i64 0,.int .i64 0]) (x:=r.cells) hA rfl hrw
 have hw:=bG (n:=(i:Int)+1)
 simp -implicitDefEqProofs only[hat,hs2,hrw,hrs,hp1,hw,aB,seval,LG]
 refine⟨hp2,?_⟩
 exact⟨_,F0,aN.mk (by simp -implicitDefEqProofs only[aB,seval])⟩
def xP(l:List Ss):Nat:=l.length+aL lE l
theorem aS5(l:List Ss)(left:Int)(st:aA)(h0:0≤left)(h1:left≤1048576):aD prog 31 [.slice (l.map aX),.int .i64 left] st (fun r st'=>r=.int .i64 (iE left (xP l))∧st'=st):=
 aS4 l left st h0 h1 fun x _ left st h0 h1=>aS3 x left st h0 h1
theorem aL1{l:List Ss}{s:Ss}(h:s∈l):lE s≤xP l:=by
 have:=qF (f:=lE) h
 unfold xP;omega
theorem aKF(l:List Ss)(st:aA)(hb:xP l≤1048576):aD prog 33 [.slice (l.map aX)] st (Made st (.slice (l.map aX))):=
 aZW l st (by unfold xP at hb;omega) fun x hx st=>aZV x st (pH (aL1 hx) hb)
abbrev LH:=zi tI_3 (zi zI_3 (zi a7 (zi tI_4 (zi zI_4 (zi cL (zi tI_49 (zi zI_49 (zi j7 (zi rC (zi rF (zi rV (zi tI_62 (zi zI_62 (zi kX (zi kY (zi kZ (zi k8 (zi k9 (zi lA kU)))))))))))))))))))
theorem aQ0(l:List Ss)(st:aA):aD prog 36 [.slice (l.map aX),.slice (l.map aX)] st (fun r st'=>r=.bool true∧st'=st):=by
 refine wF [1000000] 2 func36 ntmps36 rfl rfl ?_
 simp only[dK,AV.fits,dT,aE]
 intro ⟨⟨hl,_⟩,_⟩
 simp -implicitDefEqProofs only[aE,f6,mC,aB,seval,LH]
 refine dL (σ:=Unit) [1000000] [0,1] l (fun i _=>True) (fun i _=>[(5,.int .i64 i)]) (fun _ _=>st) (by decide +kernel) ⟨(),trivial,aN.mk (by simp -implicitDefEqProofs only[aB,↓aY,seval])⟩ (fun i x _ hx hlt bB hdr hinv=>?_) (fun _ hge hinv=>?_)
 case refine_2=>
  simp -implicitDefEqProofs only[aE,hge,aB,seval,LH]
 simp -implicitDefEqProofs only[aE,bB,aB,seval,LH]
 have hw4:=bG (n:=(i:Int)+1)
 refine EN mixed (by decide +kernel) (by decide +kernel) ?_
 simp -implicitDefEqProofs only[bH (av:=aX) j7 hx (iO x),AB,iO,aB,seval,LH]
 refine(aQZ x _).to ?_
 simp -implicitDefEqProofs only[aB,seval]
 exact⟨(),aN.mk (by simp -implicitDefEqProofs only[hw4,aB,seval])⟩
def vX(s:Ss):Nat:=K4 s+4
abbrev SI:=zi tI_3 (zi zI_3 (zi a7 (zi tI_29 (zi zI_29 (zi eP (zi gO (zi gP (zi gV (zi tI_31 (zi zI_31 (zi aR (zi bO (zi bP (zi cF (zi tI_49 (zi zI_49 (zi j7 (zi rC (zi rF (zi rV (zi tI_62 (zi zI_62 (zi kX (zi kY (zi kZ (zi k8 (zi k9 (zi lA kU))))))))))))))))))))))))))))
theorem aSG(l:List Ss)(j:Int)(o:AV)(bs:List Nat)(st:aA)(hO:aV st (.slice (l.map aX)) o bs)(hnd:bs.Nodup)(hj0:0≤j)(hj1:j+aL vX l≤1099511627776) :
 aD prog 37 [o,.int .i64 j] st (fun r st'=>r=.int .i64 (j+aL vX l)∧∀q,q∉bs→st' q=st q):=by
 obtain⟨hlen,haL⟩:=hO.len
 rw[aE] at hlen
 have haL:=haL prog 49 _ rV
 rw[aE] at haL
 refine wF [1000000] 2 func37 ntmps37 rfl rfl ?_
 simp only[dK]
 intro ⟨hf,_⟩
 have hl:=hlen hf
 clear hf hlen
 simp -implicitDefEqProofs only[aB,seval]
 refine dL (σ:=List Ss×Int×aA) [1000000] [0,4] l
  (fun i p=>p.1.length=i∧0≤p.2.1∧p.2.1+aL vX (l.drop i)=j+aL vX l∧aV p.2.2 (.slice ((p.1++l.drop i).map aX)) o bs∧∀q,q∉bs→p.2.2 q=st q)
  (fun i p=>[(1,.int .i64 p.2.1),(5,.int .i64 i)]) (fun _ p=>p.2.2) (by decide +kernel)
  ⟨([],j,st),⟨rfl,hj0,rfl,hO,fun _ _=>rfl⟩,aN.mk (by simp -implicitDefEqProofs only[aB,↓aY,seval])⟩ (fun i x p hx hlt bB hdr hinv=>?_) (fun p hge hinv=>?_)
 case refine_2=>
  obtain⟨done,k,s⟩:=p
  obtain⟨i1,i3,i4,i5,i6⟩:=hinv
  simp only at i1 i3 i4 i5 i6
  simp -implicitDefEqProofs only[haL,hge,aB,seval]
  simp only[gT,aL] at i4
  exact⟨by rw[←i4];simp,i6⟩
 obtain⟨done,k,s⟩:=p
 obtain⟨i1,i3,i4,i5,i6⟩:=hinv
 simp only at i1 i3 i4 i5 i6
 rw[hdr] at i4 i5
 simp only[aL,vX,K4] at i4
 have lZ:=GB (av:=aX) (done:=done) (x:=x) (rest:=l.drop (i+1))
 obtain⟨b,bs',w,A,oe,bo,B,rfl,hbs,hsb,hA,hoe,hbo,hbn,jR,hw,hi,oO⟩:=i5.focus hnd lZ
 rw[iO] at hw
 subst hw
 rw[i1] at hA
 obtain⟨xp,xq,x0,x1,x2,x3⟩:=x
 obtain⟨q0,b1,q1,b2,rfl,rfl,hq,hq'⟩:=aKQ.1 hoe
 obtain⟨n1,n2,hd⟩:=jW.1 hbo
 simp only at hq hq' i4
 have vI:((done++(⟨xp,xq,x0,x1,x2,x3⟩:Ss)::l.drop (i+1)).map aX).length=l.length:=by
  rw[aE,dP,a8,nH,i1];omega
 rw[vI] at haL oO ⊢
 have hat:=kE (P:=prog) (b:=b) (len:=l.length) (w:=6) (i:=i) j7 hlt
 replace hsb:s b=some (.cells (A++ [q0,q1,.int .i64 x0,.int .i64 x1,.int .i64 x2,.int .i64 x3]++B)):=hsb
 obtain⟨e1,e2,e3,e4,e5,e6⟩:=xK (B:=B) hA
 obtain⟨hqc,hqs,hqa,hqw,hqj⟩:=aV.oY hq
 obtain⟨hrc,hrs,hra,hrw,hrj⟩:=aV.oY hq'
 have aIG:b∉b1:=fun h=>hbn (by simp [h])
 have aIH:b∉b2:=fun h=>hbn (by simp [h])
 generalize hf3:aL qY xp=n3 at *
 generalize hf4:aL Tm.dG xq=n4 at *
 simp -implicitDefEqProofs only[oA,haL,bB,hat,hsb,e6,hqa,aB,seval,SI]
 refine(aSF xp k q0 b1 _ hq n1 (by omega) (by omega)).mono ?_
 rintro _ s2 ⟨rfl,hq2,k2⟩
 have y2:=(k2 b aIG).trans hsb
 have hr2:=aV.beside hq' k2 (fun x h h'=>hd x h' x h rfl)
 rw[hf3]
 simp -implicitDefEqProofs only[hat,y2,e3,hra,aB,seval,SI]
 refine(EU xq _ q1 b2 _ hr2 n2 (by omega) (by omega)).mono ?_
 rintro _ s3 ⟨rfl,hr3,k3⟩
 have y3:=(k3 b aIH).trans y2
 have hq3:=aV.beside hq2 k3 (fun x h h'=>hd x h x h' rfl)
 rw[hf4]
 have hv1:=bG (n:=k+(n3:Int)+(n4:Int)+1)
 have hv2:=bG (n:=k+(n3:Int)+(n4:Int)+1+1)
 have hv3:=bG (n:=k+(n3:Int)+(n4:Int)+1+1+1)
 have hv4:=bG (n:=k+(n3:Int)+(n4:Int)+1+1+1+1)
 have hw4:=bG (n:=(i:Int)+1)
 simp -implicitDefEqProofs only[wG,A7,eA,hat,y3,e1,e2,hv1,hv2,hv3,hv4,hw4,aB,seval,SI]
 have K:∀x,x∉b1++b2→x≠b→s3 x=s x:=fun x h1 h2=>by
  simp only[dS,kH] at h1
  rw[k3 x h1.2,k2 x h1.1]
 have u1:=aV.aU _ _ _ (fun x hx=>aA.aF s3 (.cells (A++ [q0,q1,.int .i64 (k+(n3:Int)+(n4:Int)),.int .i64 (k+(n3:Int)+(n4:Int)+1),.int .i64 (k+(n3:Int)+(n4:Int)+1+1),.int .i64 (k+(n3:Int)+(n4:Int)+1+1+1)]++B)) (show x≠b by rintro rfl;exact aIG hx)) hq3
 have u2:=aV.aU _ _ _ (fun x hx=>aA.aF s3 (.cells (A++ [q0,q1,.int .i64 (k+(n3:Int)+(n4:Int)),.int .i64 (k+(n3:Int)+(n4:Int)+1),.int .i64 (k+(n3:Int)+(n4:Int)+1+1),.int .i64 (k+(n3:Int)+(n4:Int)+1+1+1)]++B)) (show x≠b by rintro rfl;exact aIH hx)) hr3
 have hH:=oO _ (aX ⟨_,_,k+(n3:Int)+(n4:Int),k+(n3:Int)+(n4:Int)+1,k+(n3:Int)+(n4:Int)+1+1,k+(n3:Int)+(n4:Int)+1+1+1⟩) (.agg [q0,q1,.int .i64 (k+(n3:Int)+(n4:Int)),.int .i64 (k+(n3:Int)+(n4:Int)+1),.int .i64 (k+(n3:Int)+(n4:Int)+1+1),.int .i64 (k+(n3:Int)+(n4:Int)+1+1+1)]) rfl (fun x _ h1 h2=>(aA.aF _ _ h1).trans (K x h2 h1)) (aA.aJ _ _ _) (aKQ.2 ⟨q0,b1,q1,b2,rfl,rfl,u1,u2⟩)
 rw[GC] at hH
 refine⟨(_,k+(n3:Int)+(n4:Int)+1+1+1+1,_),⟨?_,?_,?_,hH,?_⟩,aN.mk (by simp -implicitDefEqProofs only[aB,seval])⟩
 · simp [i1]
 · simp only;omega
 · simp only;omega
 · intro x hx
   have hxb:x≠b:=fun e=>hx (by rw[hbs];simp [e])
   show(s3.aC b _) x=st x
   rw[aA.aF _ _ hxb,K x (fun h=>hx (jR x h)) hxb,i6 x hx]

def qE:Nat→Int→List Int
 | 0,_=>[]
 | n+1,j=>j::qE n (j+1)
theorem DC:∀(n:Nat) (j:Int),(qE n j).length=n
 | 0,_=>rfl
 | n+1,j=>by simp [qE,DC n]
abbrev a2U:=zi tI_3 (zi zI_3 (zi a7 (zi tI_46 (zi zI_46 (zi cW (zi eJ (zi eF eY)))))))
theorem V9(l:List Int)(j:Int)(o:AV)(bs:List Nat)(st:aA)(hO:aV st (.slice (l.map iv)) o bs)(hnd:bs.Nodup)(hj0:0≤j)(hj1:j+l.length≤1099511627776) :
 aD prog 38 [o,.int .i64 j] st (HN st (.slice ((qE l.length j).map iv)) o bs (j+l.length)):=by
 obtain⟨hlen,haL⟩:=hO.len
 rw[aE] at hlen
 have haL:=haL prog 46 _ eY
 rw[aE] at haL
 refine wF [] 2 func38 ntmps38 rfl rfl ?_
 simp only[dK]
 intro ⟨hf,_⟩
 have hl:=hlen hf
 clear hf hlen
 simp -implicitDefEqProofs only[aB,seval]
 refine dL (σ:=List Int×Int×aA) [] [0,4] l
  (fun i p=>p.1.length=i∧p.1++qE (l.drop i).length p.2.1=qE l.length j∧p.2.1=j+i∧aV p.2.2 (.slice ((p.1++l.drop i).map iv)) o bs∧∀q,q∉bs→p.2.2 q=st q)
  (fun i p=>[(1,.int .i64 p.2.1),(5,.int .i64 i)]) (fun _ p=>p.2.2) (by decide +kernel)
  ⟨([],j,st),⟨rfl,rfl,by simp,hO,fun _ _=>rfl⟩,aN.mk (by simp -implicitDefEqProofs only[aB,↓aY,seval])⟩ (fun i x p hx hlt bB hdr hinv=>?_) (fun p hge hinv=>?_)
 case refine_2=>
  obtain⟨done,k,s⟩:=p
  obtain⟨i1,i2,i3,i5,i6⟩:=hinv
  simp only at i1 i2 i3 i5 i6
  subst i3
  simp -implicitDefEqProofs only[haL,hge,aB,seval]
  simp only[gT,bL,qE,fA] at i2 i5
  exact⟨rfl,by rw[←i2];exact i5,i6⟩
 obtain⟨done,k,s⟩:=p
 obtain⟨i1,i2,i3,i5,i6⟩:=hinv
 simp only at i1 i2 i3 i5 i6
 rw[hdr] at i2 i5
 have lZ:=GB (av:=iv) (done:=done) (x:=x) (rest:=l.drop (i+1))
 obtain⟨b,bs',w,A,oe,bo,B,rfl,hbs,hsb,hA,hoe,hbo,hbn,jR,hw,hi,oO⟩:=i5.focus hnd lZ
 rw[aYI] at hw
 subst hw
 rw[i1] at hA
 obtain⟨rfl,rfl⟩:=aKR.1 hoe
 have vI:((done++x::l.drop (i+1)).map iv).length=l.length:=by
  rw[aE,dP,a8,nH,i1];omega
 rw[vI] at haL oO ⊢
 have hat:=kE (b:=b) (len:=l.length) (w:=1) (i:=i) cW hlt
 have hw1:=bG (n:=k+1)
 have hw4:=bG (n:=(i:Int)+1)
 obtain⟨e1,e2,e3,e4,e5,e6⟩:=xK (B:=B) hA
 simp -implicitDefEqProofs only[haL,bB,hat,hsb,hw1,hw4,e4,e5,wG,aB,seval,a2U]
 refine⟨(done++ [k],k+1,_),⟨?_,?_,?_,?_,?_⟩,aN.mk (by simp -implicitDefEqProofs only[aB,seval])⟩
 · simp [i1]
 · simp only[a8,qE] at i2
   rw[←i2]
   simp
 · simp only;omega
 · have:=oO (s.aC b (.cells (A++ [.int .i64 k]++B))) (iv k) (iv k) rfl (fun x hx hxb hxo=>aA.aF _ _ hxb) (by rw[aA.aJ];try rfl) (aKR.2 ⟨rfl,rfl⟩)
   rw[GC] at this
   exact this
 · intro x hx
   have hxb:x≠b:=fun e=>hx (by rw[hbs];simp [e])
   show(s.aC b _) x=st x
   rw[aA.aF _ _ hxb,i6 x hx]
abbrev aML:=zi tI_3 (zi zI_3 (zi a7 (zi tI_46 (zi zI_46 (zi cW (zi eJ (zi eF eY)))))))
theorem IJ(n:Nat)(j:Int)(st:aA)(hj0:0≤j)(hj1:j+n≤1099511627776) :
 aD prog 39 [.slice ((qE n j).map iv),.int .i64 j] st (fun r st'=>r=.int .i64 (j+n)∧st'=st):=by
 refine wF [] 2 func39 ntmps39 rfl rfl ?_
 simp only[dK,AV.fits,dT,aE,DC]
 intro ⟨hl,_⟩
 simp -implicitDefEqProofs only[aB,seval]
 refine dL (σ:=Int) [] [0] (qE n j) (fun i k=>(qE n j).drop i=qE (n - i) k∧k=j+i) (fun i k=>[(1,.int .i64 k),(5,.int .i64 i)]) (fun _ _=>st) (by decide +kernel)
  ⟨j,⟨rfl,by simp⟩,aN.mk (by simp -implicitDefEqProofs only[aB,↓aY,seval])⟩ (fun i x k hx hlt bB hdr hinv=>?_) (fun k hge hinv=>?_)
 case refine_2=>
  rw[hinv.2]
  rw[DC] at hge ⊢
  simp -implicitDefEqProofs only[aE,DC,hge,aB,seval,aML]
 rw[DC] at hlt bB
 obtain⟨i1,i2⟩:=hinv
 rw[hdr,show n - i=(n - (i+1))+1 by omega,qE] at i1
 obtain⟨rfl,i1⟩:=uK i1
 have hw1:=bG (n:=x+1)
 have hw4:=bG (n:=(i:Int)+1)
 simp -implicitDefEqProofs only[aE,DC,bB,bH (av:=iv) cW hx rfl,aB,seval,aML]
 exact⟨x+1,⟨i1,by omega⟩,aN.mk (by simp -implicitDefEqProofs only[hw1,hw4,aB,seval])⟩
abbrev LC:=zi tI_3 (zi zI_3 (zi a7 (zi tI_4 (zi zI_4 (zi cL (zi tI_46 (zi zI_46 (zi cW (zi eJ (zi eF eY))))))))))
theorem U9(l l':List Int)(st:aA):aD prog 35 [.slice (l.map iv),.slice (l'.map iv)] st (fun r st'=>r=.bool (decide (l=l'))∧st'=st):=by
 refine wF [] 2 func35 ntmps35 rfl rfl ?_
 simp only[dK,AV.fits,dT,aE]
 intro ⟨⟨hl,_⟩,⟨hl',_⟩⟩
 simp -implicitDefEqProofs only[aE,aB,seval,LC]
 refine aT (fun h=>?_) (fun h=>?_)
 · simp -implicitDefEqProofs only[aB,seval]
   simp only[gW,cM] at h
   symm
   rw[AV.bool.injEq,cM]
   rintro rfl
   exact h rfl
 simp only[kJ,bM] at h
 simp -implicitDefEqProofs only[aB,seval]
 refine dL (σ:=Unit) [] [0,1] l (fun i _=>l=l'↔l.drop i=l'.drop i) (fun i _=>[(5,.int .i64 i)]) (fun _ _=>st) (by decide +kernel) ⟨(),by simp,aN.mk (by simp -implicitDefEqProofs only[aB,↓aY,seval])⟩ (fun i x _ hx hlt bB hdr hinv=>?_) (fun _ hge hinv=>?_)
 case refine_2=>
  simp -implicitDefEqProofs only[aE,hge,aB,seval,LC]
  symm
  rw[AV.bool.injEq,bM,hinv,gT,show l.length=l'.length by omega,gT]
 obtain⟨y,hy⟩:∃y,l'[i]?=some y:=⟨_,dZ (by omega)⟩
 simp -implicitDefEqProofs only[aE,bB,aB,seval,LC]
 refine yQ mixed (by decide +kernel) (by decide +kernel) ?_
 simp -implicitDefEqProofs only[bH (av:=iv) cW hx rfl,bH (av:=iv) cW hy rfl,aB,seval,LC]
 have xE:l'.drop i=y::l'.drop (i+1):=by
  obtain⟨h1,h2⟩:=eE.1 hy
  rw[pE h1,h2]
 rw[hdr,xE,List.cons.injEq] at hinv
 have hw4:=bG (n:=(i:Int)+1)
 refine aT (fun h2=>?_) (fun h2=>?_)
 · simp -implicitDefEqProofs only[aB,seval]
   simp only[gW,cM] at h2
   symm
   rw[AV.bool.injEq,cM,hinv]
   exact fun h=>h2 h.1
 · simp only[kJ,bM] at h2
   simp -implicitDefEqProofs only[aB,seval]
   exact⟨(),by rw[hinv];simp [h2],aN.mk (by simp -implicitDefEqProofs only[hw4,aB,seval])⟩

theorem aZL(W:List Nat):W.map nv=(W.map fun i:Nat=>(i:Int)).map iv:=by rw[r8];try rfl
theorem aJ4{i:Nat}{a:List Tm}:∀ {W:List Nat} {A:List (List Tm)} (j:Nat),W[j]?=some i→A[j]?=some a→a∈mL i W A
 | w::W,b::A,0,h1,h2=>by
  simp only[A5,Option.some.injEq] at h1 h2
  subst h1;subst h2
  simp [mL]
 | w::W,b::A,j+1,h1,h2=>by
  simp only[A4] at h1 h2
  have:=aJ4 j h1 h2
  simp only[mL]
  split
  · exact MR _ this
  · exact this
 | [],_,j,h1,_=>by simp at h1
 | _::_,[],j,_,h2=>by simp at h2
theorem a03(L:List Ss)(n:Int):(iV L n).1.length=(iV L n).2.1.length∧(iV L n).2.1.length≤48160∧(iV L n).2.2.length≤8∧∀a∈(iV L n).2.1,a.length≤26∧a.all Tm.valid=true:=by
 unfold iV
 split
 · rename_i h
   obtain⟨h1,h2,h3⟩:=KY.1 h
   obtain⟨hI,_,hE,hm⟩:=a04 h
   have hb:=hI.bd
   have hl:=KI h3
   refine⟨hI.wl,by simp only;omega,by simp only;rw[hE,aE];exact h2,fun a ha=>?_⟩
   simp only at ha
   obtain⟨j,hj⟩:=yC ha
   have hjl:=(eE.1 hj).1
   obtain⟨i,hi⟩:∃i,(fY n L).w[j]?=some i:=⟨_,dZ (by rw[hI.wl];exact hjl)⟩
   have hil:=hI.wr i (cG hi)
   obtain⟨s,hs⟩:∃s,L[i]?=some s:=⟨_,dZ hil⟩
   have eX:=aJ4 j hi hj
   rw[hm i s hs,OO] at eX
   exact(aLQ s.p (cnd:=fun _ l=>l) (fun _ l=>⟨fun _ h=>h,cO _⟩) s.q 20 s.dO).2 a (MT eX)
 · simp
theorem qN.to3{st st':aA}{x y z r:AV}(h:qN st [x,y,z] r st'):∃o1 o2 o3 b1 b2 b3,r=.tup [o1,o2,o3]∧b1.Nodup∧b2.Nodup∧b3.Nodup∧rZ b1 b2∧rZ b1 b3∧rZ b2 b3∧(∀b,b∈b1∨b∈b2∨b∈b3→st b=none)∧aV st' x o1 b1∧aV st' y o2 b2∧aV st' z o3 b3∧∀b,b∉b1→b∉b2→b∉b3→st' b=st b:=by
 obtain⟨os,bs,hr,hn,hf,hO,hk⟩:=h
 simp only[aW] at hO
 obtain⟨o1,os1,b1,b1',rfl,rfl,h1,o2,os2,b2,b2',rfl,rfl,h2,o3,os3,b3,b3',rfl,rfl,h3,rfl,rfl⟩:=hO
 simp only[fA] at hn hf hk
 obtain⟨n1,n2,d1⟩:=jW.1 hn
 obtain⟨n3,n4,d2⟩:=jW.1 n2
 refine⟨o1,o2,o3,b1,b2,b3,hr,n1,n3,n4,fun b h h'=>d1 b h b (by simp [h']) rfl,fun b h h'=>d1 b h b (by simp [h']) rfl,fun b h h'=>d2 b h b h' rfl,fun b hb=>hf b (by simpa using hb),h1,h2,h3,fun b m1 m2 m3=>hk b (by simp [m1,m2,m3])⟩
set_option maxHeartbeats 4000000 in
theorem aQB(L:List Ss)(n:Int)(st:aA):aD prog 5 [.slice (L.map aX),.int .i64 n] st (fun r _=>r=.bool true):=by
 refine wF [1000000] 2 func5 ntmps5 rfl rfl ?_
 intro _
 simp -implicitDefEqProofs only[aB,seval]
 refine(aS5 L _ st (by omega) (by omega)).to ?_
 simp -implicitDefEqProofs only[aB,seval]
 refine aT (fun h1=>?_) (fun h1=>?_)
 · simp -implicitDefEqProofs only[aB,seval]
 simp only[cM,mN] at h1
 have hb:xP L≤1048576:=by omega
 have hLl:L.length≤1048576:=by unfold xP at hb;omega
 have hsm:∀s∈L,RM s:=fun s hs=>a12 (pH (aL1 hs) hb)
 have hto:=fun st=>(aKF L st hb).made
 have hom:=fun st=>aKF L st hb
 have hsp:=aSW L n hLl hsm
 have him:=aRC L n hLl
 have hok:=a03 L n
 have aWG:=aQ0 L
 have hmk:aL vX L≤4194304:=by
  have:∀l:List Ss,aL vX l≤3*aL lE l+4*l.length:=fun l=>by
   induction l with
   | nil=>simp [aL]
   | cons s l ih=>
    have:=a11 s
    simp only[aL,a8,vX]
    omega
  have:=this L
  unfold xP at hb
  omega
 generalize iV L n=V at *
 obtain⟨W,A,E⟩:=V
 simp only at hsp him hok
 obtain⟨ok1,ok2,ok3,ok4⟩:=hok
 have hm3:aL iI A≤9360*A.length:=UL ok4
 unfold HM at him
 rw[aZL] at hsp him
 have hWl:(W.map fun i:Nat=>(i:Int)).length=W.length:=aE _
 generalize (W.map fun i:Nat=>(i:Int))=WI at *
 have hei:=fun st=>U9 WI WI st
 have hee:=fun st=>U9 E E st
 rw[tN rfl] at hei hee
 have hea:=fun st=>aQV A st
 simp -implicitDefEqProofs only[aB,seval]
 refine(hto _).to ?_
 simp -implicitDefEqProofs only[aB,seval]
 refine(hsp _).to ?_
 simp -implicitDefEqProofs only[aB,seval]
 refine(hom _).mono ?_
 rintro o0 s1 ⟨b0,n0,f0,O0,k0⟩
 obtain⟨hc0,hs0,ha0,hw0,hj0⟩:=aV.oY O0
 simp -implicitDefEqProofs only[aB,seval]
 refine(aD.a09 (fun s=>him s) (eR.own O0 (eR.same .nil))).mono ?_
 rintro g s3 hg
 obtain⟨g1,g2,g3,c1,c2,c3,rfl,n1,n2,n3,d12,d13,d23,fg,O1,O2,O3,kg⟩:=hg.to3
 have d01:rZ b0 c1:=O0.apart fun b hb=>fg b (.inl hb)
 have d02:rZ b0 c2:=O0.apart fun b hb=>fg b (.inr (.inl hb))
 have d03:rZ b0 c3:=O0.apart fun b hb=>fg b (.inr (.inr hb))
 have O0':aV s3 (.slice (L.map aX)) o0 b0:=aV.aU _ _ _ (fun b hb=>kg b (d01 b hb) (d02 b hb) (d03 b hb)) O0
 obtain⟨hc1,hs1,ha1,hw1,hj1⟩:=aV.oY O1
 obtain⟨hc2,hs2,ha2,hw2,hj2⟩:=aV.oY O2
 obtain⟨hc3,hs3,ha3,hw3,hj3⟩:=aV.oY O3
 simp -implicitDefEqProofs only[aB,seval]
 refine(aD.qD (fun s=>hei s) (eR.own O1 (eR.same .nil)) rfl).to ?_
 simp -implicitDefEqProofs only[gL,aB,seval]
 refine(aD.qD (fun s=>hea s) (eR.own O2 (eR.same .nil)) rfl).to ?_
 simp -implicitDefEqProofs only[gL,aB,seval]
 refine(aD.qD (fun s=>hee s) (eR.own O3 (eR.same .nil)) rfl).to ?_
 simp -implicitDefEqProofs only[gL,aB,seval]
 refine(hto _).to ?_
 simp -implicitDefEqProofs only[aB,seval]
 refine(aD.qD (fun s=>aWG s) (eR.own O0' (eR.same .nil)) rfl).to ?_
 simp -implicitDefEqProofs only[gL,aB,seval]
 refine(aSG L 1 o0 b0 s3 O0' n0 (by omega) (by omega)).mono ?_
 rintro _ s4 ⟨rfl,k4⟩
 have P1:aV s4 (.slice (WI.map iv)) g1 c1:=O1.beside k4 d01.symm
 have P2:aV s4 (.slice (A.map bJ)) g2 c2:=O2.beside k4 d02.symm
 have P3:aV s4 (.slice (E.map iv)) g3 c3:=O3.beside k4 d03.symm
 have aW6:¬(1+(aL vX L:Int)<0):=by omega
 simp -implicitDefEqProofs only[aW6,gB,aB,seval]
 refine(aD.qD (fun s=>hei s) (eR.own P1 (eR.same .nil)) rfl).to ?_
 simp -implicitDefEqProofs only[gL,aB,seval]
 refine(aD.qD (fun s=>hea s) (eR.own P2 (eR.same .nil)) rfl).to ?_
 simp -implicitDefEqProofs only[gL,aB,seval]
 refine(aD.qD (fun s=>hee s) (eR.own P3 (eR.same .nil)) rfl).to ?_
 simp -implicitDefEqProofs only[gL,aB,seval]
 refine(V9 WI 1 g1 c1 s4 P1 n1 (by omega) (by omega)).mono ?_
 rintro _ s5 ⟨rfl,Q1,k5⟩
 have Q2:aV s5 (.slice (A.map bJ)) g2 c2:=P2.beside k5 d12.symm
 have Q3:aV s5 (.slice (E.map iv)) g3 c3:=P3.beside k5 d13.symm
 simp -implicitDefEqProofs only[aB,seval]
 refine(aSE A (1+(WI.length:Int)) g2 c2 s5 Q2 n2 (by omega) (by omega)).mono ?_
 rintro _ s6 ⟨rfl,R2,k6⟩
 have R1:=Q1.beside k6 d12
 have R3:aV s6 (.slice (E.map iv)) g3 c3:=Q3.beside k6 d23.symm
 simp -implicitDefEqProofs only[aB,seval]
 refine(V9 E (1+(WI.length:Int)+(aL iI A:Int)) g3 c3 s6 R3 n3 (by omega) (by omega)).mono ?_
 rintro _ s7 ⟨rfl,T3,k7⟩
 have T1:=R1.beside k7 d13
 have T2:=R2.beside k7 d23
 have hg1:¬(1+(WI.length:Int)<0):=by omega
 have hg2:¬(1+(WI.length:Int)+(aL iI A:Int)<0):=by omega
 have hg3:¬(1+(WI.length:Int)+(aL iI A:Int)+(E.length:Int)<0):=by omega
 simp -implicitDefEqProofs only[aB,seval]
 refine(aD.qD (fun s=>IJ WI.length 1 s (by omega) (by omega)) (eR.own T1 (eR.same .nil)) rfl).to ?_
 simp -implicitDefEqProofs only[hg1,gB,aB,seval]
 refine(aD.qD (fun s=>VF A (1+(WI.length:Int)) s (by omega) (by omega)) (eR.own T2 (eR.same .nil)) rfl).to ?_
 simp -implicitDefEqProofs only[hg2,gB,aB,seval]
 refine(aD.qD (fun s=>IJ E.length (1+(WI.length:Int)+(aL iI A:Int)) s (by omega) (by omega)) (eR.own T3 (eR.same .nil)) rfl).to ?_
 simp -implicitDefEqProofs only[hg3,gB,f6,aB,seval]
 refine(hto _).to ?_
 simp -implicitDefEqProofs only[aB,seval]
 refine((him _).aJW).to ?_
 simp -implicitDefEqProofs only[aB,seval]
 refine(hei _).to ?_
 simp -implicitDefEqProofs only[gL,aB,seval]
 refine(hea _).to ?_
 simp -implicitDefEqProofs only[gL,aB,seval]
 refine(hee _).to ?_
 simp -implicitDefEqProofs only[gL,aB,seval]
 refine(aD.qD (fun s=>IJ WI.length 1 s (by omega) (by omega)) (eR.own T1 (eR.same .nil)) rfl).to ?_
 simp -implicitDefEqProofs only[hg1,gB,aB,seval]
 refine(aD.qD (fun s=>VF A (1+(WI.length:Int)) s (by omega) (by omega)) (eR.own T2 (eR.same .nil)) rfl).to ?_
 simp -implicitDefEqProofs only[hg2,gB,aB,seval]
 refine(aD.qD (fun s=>IJ E.length (1+(WI.length:Int)+(aL iI A:Int)) s (by omega) (by omega)) (eR.own T3 (eR.same .nil)) rfl).to ?_
 simp -implicitDefEqProofs only[hg3,gB,f6,aB,seval]
end Go.AW
namespace Go.AW
open Go.ChangeShapes Go.WideShapes Go.ChangeAt Go.RowKit
abbrev rK:aA:=fun _=>none
section
variable {H:Type} {enc:TypeId×Value→H} {P:Program} {w:World}
def Reads(enc:TypeId×Value→H)(P:Program)(w:World)(t n:Nat){α:Type}(av:α→AV):Prop:=
 ∀cs x,DataW.trod enc P w 0 (fun _=>true) true n t cs=some x→∃a:α,VC w.heap rK (av a) cs
theorem TS{h:bF}{st:aA}{b k:Nat}:∀ {es:List AV} {off:Nat},(∀e∈es,e.width=k)→(∀(i:Nat) e,es[i]?=some e→VE h st b (off+i*k) e)→cX h st b off es
 | [],_,_,_=>by simp [cX]
 | e::es,off,hw,h=>by
  simp only[cX]
  refine⟨by simpa [VE] using h 0 e rfl,TS (fun x hx=>hw x (by simp [hx])) fun i x hx=>?_⟩
  have:=h (i+1) x (by simpa using hx)
  rw[hw e (by simp),yH,←Nat.a14 k i] 
  exact this
where Nat.a14 (k i:Nat):(i+1)*k=k+i*k:=by rw[uN];omega
theorem WM{a:Addr}{v:Value}(h:w.cell? a=some v):a.spot=none∧a.block<w.heap.size∧cellAt w.heap a.block a.off=some v:=by
 unfold World.cell? at h
 split at h
 · rename_i c t fr hb
   split at h
   · cases h
   · rename_i hs
     refine⟨by simpa using hs,(DW.1 hb).1,by simp [cellAt,hb,h]⟩
 · cases h
theorem aTH{a:Addr}{n:Nat}{cs:List Value}(hs:a.spot=none)(h:w.cells? 0 a n=some cs):eO w.heap a.block a.off cs∧cs.length=n:=by
 obtain⟨_,hl,hc⟩:=World.cells?_some h
 refine⟨?_,hl⟩
 have:∀(l:List Value) (k:Nat),(∀i,i<l.length→w.cell? (a.add (k+i))=l[i]?)→eO w.heap a.block (a.off+k) l:=by
  intro l
  induction l with
  | nil=>intro _ _;trivial
  | cons v l ih=>
   intro k hk
   refine⟨?_,?_⟩
   · have:=(WM (hk 0 (by simp))).2.2
     obtain⟨b,off,sp⟩:=a
     simp only at hs
     subst hs
     simpa [Addr.oG] using this
   · have:=ih (k+1) (fun i hi=>by have:=hk (i+1) (by simp;omega);rw[show k+1+i=k+(i+1) by omega];simpa using this)
     simpa [yH] using this
 simpa using this cs 0 (fun i hi=>by simpa using hc i (by omega))
theorem KV{t e n k:Nat}{α:Type}{av:α→AV}(ht:P.underlying t=some (.slice e))(hk:P.cellsOf e=k)(J6:0<k)(hw:∀a,(av a).width=k)(hr:∀m,m<n→Reads enc P w e m av) :
 Reads enc P w t n (fun l:List α=>.slice (l.map av)):=by
 intro cs x h
 rcases DataW.trod_slice ht h with ⟨rfl,_⟩ | ⟨a,len,cap,elems,rest,m,hm,rfl,rfl,_,hl,CG,hlen,hel,hsp,_⟩
 · exact⟨[],by simp only[bQ];unfold VC;exact .inl ⟨⟨_,rfl⟩,rfl⟩⟩
 obtain⟨hrl,CN⟩:=hsp rfl
 rw[hk] at hel CN
 have get:∀i,i<cap→∃ds y,w.cells? 0 (a.add (i*k)) k=some ds∧DataW.trod enc P w 0 (fun _=>true) true m e ds=some y:=by
  intro i hi
  have hb:∃y,(w.cells? 0 (a.add (i*k)) k).bind (DataW.trod enc P w 0 (fun _=>true) true m e)=some y:=by
   by_cases hi':i<len
   · exact⟨elems[i]'(by omega),by rw[hel i hi'];simp [show i<elems.length by omega]⟩
   · have:=CN (i - len) (by omega)
     rw[show len+(i - len)=i by omega] at this
     exact⟨rest[i - len]'(by omega),by rw[this];simp [show i - len<rest.length by omega]⟩
  obtain⟨y,hy⟩:=hb
  obtain⟨ds,h1,h2⟩:=Option.bind_eq_some_iff.1 hy
  exact⟨ds,y,h1,h2⟩
 by_cases hc0:cap=0
 · subst hc0
   obtain rfl:len=0:=by omega
   exact⟨[],by simp only[bQ];unfold VC;exact .inl ⟨⟨_,rfl⟩,rfl⟩⟩
 obtain⟨ds0,_,hd0,_⟩:=get 0 (by omega)
 have aI9:a.spot=none∧a.block<w.heap.size:=by
  obtain⟨_,hl0,hc⟩:=World.cells?_some hd0
  have:=hc 0 J6
  have h0:ds0[0]?=some (ds0[0]'(by omega)):=by simp [hl0,J6]
  rw[h0] at this
  have:=WM this
  obtain⟨b,off,sp⟩:=a
  simp only[Nat.zero_mul] at this
  cases sp with
  | none=>exact⟨rfl,by simpa [Addr.oG] using this.2.1⟩
  | some s=>exact absurd this.1 (by simp [Addr.add])
 obtain⟨b,off,sp⟩:=a
 simp only at aI9
 obtain⟨rfl,hbl⟩:=aI9
 have val:∀i,i<len→∃v:α,VE w.heap rK b (off+i*k) (av v):=by
  intro i hi
  obtain⟨ds,y,h1,h2⟩:=get i (by omega)
  obtain⟨v,hv⟩:=hr m (by omega) ds y h2
  obtain⟨c1,c2⟩:=aTH (a:=(⟨b,off,none⟩:Addr).add (i*k)) (by simp [Addr.oG]) h1
  exact⟨v,ds,by simpa [Addr.oG] using c1,by rw[hw];exact c2,hv⟩
 have build:∀j,j≤len→∃l:List α,l.length=j∧∀(i:Nat) v,l[i]?=some v→VE w.heap rK b (off+i*k) (av v):=by
  intro j
  induction j with
  | zero=>intro _;exact⟨[],rfl,by simp⟩
  | succ j ih=>
   intro hj
   obtain⟨l,h1,h2⟩:=ih (by omega)
   obtain⟨v,hv⟩:=val j (by omega)
   refine⟨l++ [v],by simp [h1],fun i u hi=>?_⟩
   rw[List.getElem?_append] at hi
   split at hi
   · exact h2 i u hi
   · rename_i hge
     have:i=j:=by
      have:=(eE.1 hi).1
      simp at this
      omega
     subst this
     simp [h1] at hi
     subst hi
     exact hv
 obtain⟨l,h1,h2⟩:=build len (cO _)
 refine⟨l,?_⟩
 unfold VC
 refine .inr ⟨b,off,cap,by simp [h1],by simp [h1];exact hl,CG,rfl,hbl,aUS hw l,TS (k:=k) (by intro e he;simp only[bY] at he;obtain⟨v,_,rfl⟩:=he;exact hw v) fun i e he=>?_⟩
 rw[kS] at he
 obtain⟨v,hv,rfl⟩:=Option.map_eq_some_iff.1 he
 exact h2 i v hv
theorem rL{fs:Array Field}{n:Nat}{cs:List Value}{xs:List (DataW H×List MemPlace)}(hx:xs.length=fs.size)
 (hf:∀(i:Nat) (f:Field),fs[i]?=some f→DataW.trod enc P w 0 (fun _=>true) true n f.type ((cs.drop f.offset).take (P.cellsOf f.type))=xs[i]?) (i:Nat) {f:Field} (h:fs[i]?=some f) :
 ∃y,DataW.trod enc P w 0 (fun _=>true) true n f.type ((cs.drop f.offset).take (P.cellsOf f.type))=some y:=by
 have hi:i<xs.length:=by rw[hx];exact(DW.1 h).1
 exact⟨xs[i],by rw[hf i f h];simp [hi]⟩
theorem aK0{t:TypeId}{α:Type}{av:α→AV}{v:Value}{d:DataW H}{ps:List MemPlace}(hr:∀n,Reads enc P w t n av)(hag:∀a,(av a).isAgg=iX v)(h:DataW.Trod enc P w 0 (fun _=>true) true t v d ps) :
 ∃a:α,aQ w.heap rK (av a) v:=by
 obtain⟨n,hn⟩:=h
 obtain⟨a,ha⟩:=hr n _ _ hn
 refine⟨a,?_⟩
 have:=hag a
 cases hq:av a<;>rw[hq] at ha this<;>first | trivial | exact⟨this,ha⟩
theorem aNL(hl:laidOutB P=true){W W':World}{sp:Nat→Bool}:∀ {ts:List TypeId} {vs:List Value} {ds:List (DataW H)} {ps:List MemPlace},(ts.all fun t=>P.readableRec t&&decide (t<P.types.size))=true →
 DataW.TrodAll enc P W 0 (fun _=>true) true ts vs ds ps→(∀x∈ps,W.sameAt W' x)→(∀x∈ps,sp x.block=true)→DataW.TrodAll enc P W' 0 sp true ts vs ds ps
 | [],vs,ds,ps,_,h,_,_=>by
  cases vs<;>cases ds<;>simp [DataW.TrodAll] at h ⊢
  exact h
 | t::ts,vs,ds,ps,ht,h,h1,h2=>by
  obtain⟨v,vs',d,ds',p,q,rfl,rfl,rfl,hd,CN⟩:=trodAll_cons h
  simp only[jI,cT,bM] at ht
  refine⟨p,q,Go.WideElems.Trod_stays hl ht.1.1 ht.1.2 hd (fun x hx=>h1 x (by simp [hx])) (fun x hx=>h2 x (by simp [hx])),aNL hl ht.2 CN (fun x hx=>h1 x (by simp [hx])) (fun x hx=>h2 x (by simp [hx])),rfl⟩
theorem aPU{W W':World}{st':aA}(T:bU W.heap rK W'.heap st')(s:eW W W'):Below W.heap.size W W':=
 ⟨s.1,s.2.1,s.2.2,T.size,fun k hk=>(T.aU k hk rfl).1⟩
theorem aYL{f:Func}{g:FuncId}{s:ChangeSpec}{W:World}{args:Array Value}{ds:List (DataW H)}{before:List MemPlace}{avs:List AV}{tb:TypeId}
 (hl:laidOutB P=true) (hts:(f.params.toList.all fun t=>P.readableRec t&&decide (t<P.types.size))=true) (hrt:f.resultTypes= #[tb]) (htb:P.underlying tb=some .bool) (hsv:s.vars= [])
 (hW:DataW.Whole enc P f.params.toList [] false W args.toList ds [] before) (hfn:s.fn H ds= { results:=[.lit (.bool true)],args:=ds }) (aXH:cV W.heap rK avs args.toList)
 (hc:aD P g avs rK (fun r _=>r=.bool true)) :
 Calls P g args W fun e W'=>∃v,e=.returned v∧s.post enc P f false true false false W args v W':=by
 have hS:cI W.heap rK:=fun b o h=>by cases h
 have:=hc.2 W args.toList hS aXH
 simp only[tE] at this
 refine this.mono ?_
 rintro e W' ⟨v,r,st',rfl,hv,_,T,sm,rfl⟩
 refine⟨v,rfl,?_⟩
 have hB:=aPU T sm
 rw[hv.yR]
 have hW':DataW.Whole enc P f.params.toList s.vars false W args.toList ds [] before:=by rw[hsv];exact hW
 obtain⟨p,q,hA,hV,rfl,hz,_⟩:=hW
 obtain⟨_,rfl⟩:=trodVars_none hV
 have hlt:∀x∈p,x.block<W.heap.size:=fun x hx=>hW'.lt x (by simp [hx])
 have zE:∀(b:Nat) (sp:Nat→Bool) (hd:Bool),DataW.TrodAll enc P W' b sp hd f.resultTypes.toList ((Value.bool true).resultList f.resultTypes.size) (s.fn H (ds++ [])).results []:=fun _ _ _=>by
  rw[fA,hfn,hrt]
  exact trodAll_mk1 (shut_bool htb true)
 have xB:∀sp:Nat→Bool,(∀x∈p,sp x.block=true)→DataW.TrodAll enc P W' 0 sp true f.params.toList args.toList (s.fn H (ds++ [])).args p:=fun sp hsp=>by
  rw[fA,hfn]
  exact aNL hl hts hA (fun x hx=>hB.same (hlt x hx)) hsp
 have aJB:∀sp:Nat→Bool,DataW.TrodVars enc P W' sp s.vars (s.fn H (ds++ [])).vars []:=fun sp=>by
  rw[fA,hfn,hsv]
  exact rfl
 refine⟨ds,[],p++ [],[],p,[],hW',zE _ _ _,xB _ (fun x hx=>by simpa using hlt x hx),aJB _,World.keptBut_mono (fun x hx=>⟨hx,by simpa using hx⟩) (hB.frame (·∈p++ [])),fun _=>?_⟩
 refine⟨ok_one hrt rfl (okWide_bool_mk htb true),_,_,([]++p)++ [],⟨[]++p,[],trodAll_append (xB _ (fun _ _=>rfl)) (zE _ _ _),aJB _,rfl,?_,?_⟩,?_⟩
 · intro b off hp
   have hp':MemPlace.cell b off∈p:=by simpa using hp
   rw[hB.frozen (p:=⟨b,off,none⟩) (hlt _ hp')]
   exact hz b off (by simpa using hp')
 · intro ha;cases ha
 · intro x hx _
   simpa using hx
end
end Go.AW

namespace Go.AW
open Go.Proofs.Tryz
section
variable {H:Type} {enc:TypeId×Value→H} {w:World}
theorem aN9{h:bF}{st:aA}{k:IntKind}{n:Int}:VC h st (.int k n) [.int k n]:=by simp only[VC]
theorem WP:prog.cellsOf 3=1:=by kernel_rfl
theorem aTG:prog.cellsOf 9=1:=by kernel_rfl
theorem N8:prog.cellsOf 23=1:=by kernel_rfl
theorem IR:prog.cellsOf 90=4:=by kernel_rfl
theorem aKY:∀n,Reads enc prog w 90 n Tm.av:=by
 intro n
 induction n using Nat.strongRecOn with
 | _ n ih=>
  intro cs x h
  obtain⟨xs,m,rfl,_,hl,hx,hf⟩:=DataW.trod_struct a3L h
  rw[IR] at hl
  match cs,hl with
  | [c0,c1,c2,c3],_=>
   obtain⟨y0,h0⟩:=rL hx hf 0 rfl
   obtain⟨y1,h1⟩:=rL hx hf 1 rfl
   obtain⟨y2,h2⟩:=rL hx hf 2 rfl
   obtain⟨y3,h3⟩:=rL hx hf 3 rfl
   replace h0:DataW.trod enc prog w 0 (fun _=>true) true m 3 ([c0,c1,c2,c3].take (prog.cellsOf 3))=some y0:=h0
   replace h1:DataW.trod enc prog w 0 (fun _=>true) true m 3 ([c1,c2,c3].take (prog.cellsOf 3))=some y1:=h1
   replace h2:DataW.trod enc prog w 0 (fun _=>true) true m 9 ([c2,c3].take (prog.cellsOf 9))=some y2:=h2
   replace h3:DataW.trod enc prog w 0 (fun _=>true) true m 23 ([c3].take (prog.cellsOf 23))=some y3:=h3
   rw[WP] at h0 h1
   rw[aTG] at h2
   rw[N8] at h3
   obtain⟨k,e0,_⟩:=DataW.trod_int a7 h0
   obtain⟨j,e1,_⟩:=DataW.trod_int a7 h1
   obtain⟨s,e2,_,es⟩:=DataW.trod_string d9 h2
   obtain⟨l,e3⟩:=KV (n:=m) rU IR (by omega) aO (fun m' hm=>ih m' (by omega)) _ _ h3
   obtain rfl:=(uK e0).1
   obtain rfl:=(uK e1).1
   obtain rfl:=(uK e2).1
   refine⟨.mk k j s l,?_⟩
   rw[bA]
   unfold VC
   simp only[aZ]
   exact⟨_,_,rfl,by simp only[VC],_,_,rfl,by simp only[VC],_,_,rfl,by simp only[VC];exact⟨trivial,es⟩,_,_,rfl,e3,rfl⟩
theorem aKZ(n:Nat):Reads enc prog w 23 n (fun l:List Tm=>.slice (l.map Tm.av)):=
 KV rU IR (by omega) aO fun m _=>aKY m
theorem a36{r:Reach}{b0:Nat}{t e:TypeId}{v:Value}(ht:prog.underlying t=some (.slice e))(h:Value.okWide prog w r b0 t v):iX v=false:=by
 cases v<;>first | rfl | (simp [Value.okWide,ht,Cell.okWide,Cell.ok] at h)
end
section
variable {H:Type} {enc:TypeId×Value→H} {w:World}
theorem WO:prog.cellsOf 92=5:=by kernel_rfl
theorem GM(n:Nat):Reads enc prog w 3 n (fun k:Int=>.int .i64 k):=by
 intro cs x h
 obtain⟨k,rfl,_⟩:=DataW.trod_int a7 h
 exact⟨k,aN9⟩
theorem a0R(n:Nat):Reads enc prog w 92 n bK:=by
 intro cs x h
 obtain⟨xs,m,rfl,_,hl,hx,hf⟩:=DataW.trod_struct a3M h
 rw[WO] at hl
 match cs,hl with
 | [c0,c1,c2,c3,c4],_=>
  obtain⟨y0,h0⟩:=rL hx hf 0 rfl
  obtain⟨y1,h1⟩:=rL hx hf 1 rfl
  replace h0:DataW.trod enc prog w 0 (fun _=>true) true m 90 ([c0,c1,c2,c3,c4].take (prog.cellsOf 90))=some y0:=h0
  replace h1:DataW.trod enc prog w 0 (fun _=>true) true m 23 ([c4].take (prog.cellsOf 23))=some y1:=h1
  rw[IR] at h0
  rw[N8] at h1
  obtain⟨⟨k,j,s,l⟩,e0⟩:=aKY _ _ _ h0
  obtain⟨b,e1⟩:=aKZ _ _ _ h1
  refine⟨(.mk k j s l,b),?_⟩
  rw[m7]
  rw[bA] at e0
  unfold VC at e0
  unfold VC
  simp only[aZ,List.cons.injEq] at e0 ⊢
  obtain⟨_,_,⟨rfl,rfl⟩,f0,_,_,⟨rfl,rfl⟩,f1,_,_,⟨rfl,rfl⟩,f2,_,_,⟨rfl,rfl⟩,f3,_⟩:=e0
  exact⟨_,_,⟨rfl,rfl⟩,f0,_,_,rfl,f1,_,_,rfl,f2,_,_,rfl,f3,_,_,rfl,e1,rfl⟩
theorem a0S(n:Nat):Reads enc prog w 22 n (fun l:List Cl=>.slice (l.map bK)):=
 KV HC WO (by omega) gA fun m _=>a0R m
theorem a35{r:Reach}{b0:Nat}{v:Value}(h:Value.okWide prog w r b0 3 v):iX v=false:=by
 cases v<;>first | rfl | (simp [Value.okWide,a7,Cell.okWide,Cell.ok] at h)
end
section
variable {H:Type} {enc:TypeId×Value→H} {w:World}
end
section
variable {H:Type} {enc:TypeId×Value→H} {w:World}
theorem aTE:prog.cellsOf 22=1:=by kernel_rfl
theorem aTF:prog.cellsOf 105=6:=by kernel_rfl
theorem BC{h:bF}{st:aA}{a:AV}{es:List AV}{c:Value}{cs:List Value}(x:VC h st a [c])(y:aZ h st es cs):aZ h st (a::es) (c::cs):=by
 unfold aZ;exact⟨c,cs,rfl,x,y⟩
theorem aOA{h:bF}{st:aA}:aZ h st [] []:=by unfold aZ;rfl
theorem aN8{h:bF}{st:aA}{es:List AV}{cs:List Value}:VC h st (.agg es) cs↔aZ h st es cs:=by unfold VC;exact Iff.rfl
theorem a0T{n:Nat}{cs:List Value}{x:DataW H×List MemPlace}(h:DataW.trod enc prog w 0 (fun _=>true) true n 105 cs=some x):∃s,VC w.heap rK (aX s) cs:=by
 obtain⟨xs,m,rfl,_,hl,hx,hf⟩:=DataW.trod_struct a3G h
 rw[aTF] at hl
 match cs,hl with
 | [c0,c1,c2,c3,c4,c5],_=>
  obtain⟨y0,h0⟩:=rL hx hf 0 rfl
  obtain⟨y1,h1⟩:=rL hx hf 1 rfl
  obtain⟨y2,h2⟩:=rL hx hf 2 rfl
  obtain⟨y3,h3⟩:=rL hx hf 3 rfl
  obtain⟨y4,h4⟩:=rL hx hf 4 rfl
  obtain⟨y5,h5⟩:=rL hx hf 5 rfl
  replace h0:DataW.trod enc prog w 0 (fun _=>true) true m 22 ([c0,c1,c2,c3,c4,c5].take (prog.cellsOf 22))=some y0:=h0
  replace h1:DataW.trod enc prog w 0 (fun _=>true) true m 23 ([c1,c2,c3,c4,c5].take (prog.cellsOf 23))=some y1:=h1
  replace h2:DataW.trod enc prog w 0 (fun _=>true) true m 3 ([c2,c3,c4,c5].take (prog.cellsOf 3))=some y2:=h2
  replace h3:DataW.trod enc prog w 0 (fun _=>true) true m 3 ([c3,c4,c5].take (prog.cellsOf 3))=some y3:=h3
  replace h4:DataW.trod enc prog w 0 (fun _=>true) true m 3 ([c4,c5].take (prog.cellsOf 3))=some y4:=h4
  replace h5:DataW.trod enc prog w 0 (fun _=>true) true m 3 ([c5].take (prog.cellsOf 3))=some y5:=h5
  rw[aTE] at h0
  rw[N8] at h1
  rw[WP] at h2 h3 h4 h5
  obtain⟨p,e0⟩:=a0S _ _ _ h0
  obtain⟨q,e1⟩:=aKZ _ _ _ h1
  obtain⟨k2,e2⟩:=GM _ _ _ h2
  obtain⟨k3,e3⟩:=GM _ _ _ h3
  obtain⟨k4,e4⟩:=GM _ _ _ h4
  obtain⟨k5,e5⟩:=GM _ _ _ h5
  exact⟨⟨p,q,k2,k3,k4,k5⟩,aN8.2 (BC e0 (BC e1 (BC e2 (BC e3 (BC e4 (BC e5 aOA))))))⟩
end
end Go.AW
