import Derived.Shelf.Slices.Clone
import Derived.Test.YtlepdbmhjkmelaaGreatDoorWqp
import Derived.Test.YtlepdbmhjkmelaaGreatDoorWql
import Derived.Test.YtlepdbmhjkmelaaGreatDoorWqm
import Derived.Test.YtlepdbmhjkmelaaGreatDoorWqk
import Derived.Test.YtlepdbmhjkmelaaGreatDoorWqj
set_option linter.unusedSimpArgs false
set_option linter.unusedVariables false
set_option maxRecDepth 100000

namespace Go.AW
open Go.Proofs.Tryz
open Go.Shelf
set_option linter.unusedSimpArgs false
set_option linter.unusedVariables false
set_option maxRecDepth 100000
def aXF:Go.Shelf.Ren:=⟨fun | 15=>211 | n=>n,fun | 22=>148 | 3=>3 | 4=>4 | n=>n,fun | n=>n⟩
theorem aXE:Go.Proofs.Lays2.n15 prog aXF:={
 mixed:=by kernel_rfl
 f15:=func211.trans (iT some (by kernel_rfl))
 t3:=qI
 a3:=isAgg3
 z3:=sizeOf3
 v3:=zeroValue3
 t4:=uU4
 a4:=isAgg4
 z4:=sizeOf4
 v4:=zeroValue4
 t22:=I0
 a22:=isAgg148
 z22:=sizeOf148
 v22:=zeroValue148
 i3:=by kernel_rfl }
def BD(i:Nat):Value:=.int .i64 (i:Int)
theorem WH{h:bE}{st:aA}{b:Nat}:∀ {l:List Nat} {off:Nat},cW h st b off (l.map nv)→∀(j x:Nat),l[j]?=some x→cellAt h b (off+j)=some (BD x)
 | [],_,_,j,x,e=>by simp at e
 | a::l,off,v,0,x,e=>by
  simp only[JF,Option.some.injEq] at e
  subst e
  obtain⟨⟨cs,c1,c2,c3⟩,_⟩:=v
  have c3:cs= [BD a]:=c3
  subst c3
  exact c1.1
 | a::l,off,v,j+1,x,e=>by
  rw[JE] at e
  have:=WH v.2 j x e
  rwa [show(nv a).width=1 from rfl,zU,Nat.add_comm 1 j] at this
theorem WF{h:bE}{st:aA}:∀l:List Nat,aY h st (l.map nv) (l.map BD)
 | []=>rfl
 | a::l=>⟨BD a,l.map BD,rfl,rfl,WF l⟩
theorem a6C(l:List Nat)(hl:l≠[])(h9:l.length≤1048576)(st:aA):aD prog 211 [.slice (l.map nv)] st (fun r st'=>∃b,st b=none∧r=.mslice b 0 l.length 1∧st'=st.aC b (.cells (l.map nv))):=by
 refine⟨⟨_,func211,rfl,by kernel_rfl⟩,fun w vs S V=>?_⟩
 obtain⟨v,r,rfl,v1,v2⟩:=V
 obtain rfl:r= []:=v2
 have hne:l.map nv≠[]:=by simpa using hl
 obtain⟨hag,hv⟩:=v1
 unfold VC at hv
 rcases hv with ⟨_,h⟩ | ⟨b,off,cap,e1,e2,e3,e4,e5,e6,e7⟩
 · exact absurd h hne
 obtain rfl:v=.slice (some ⟨b,off,none⟩) (l.map nv).length cap:=by
  cases v<;>first | exact absurd hag Bool.false_ne_true | simp_all [Value.cells]
 rw[aE]
 have iN:∀j,j<(l.map fun i:Nat=>(i:Int)).length→w.cell? ⟨b,off+j,none⟩=some (.int .i64 ((l.map fun i:Nat=>(i:Int)).getD j 0)):=fun j hj=>by
  rw[aE] at hj
  have h1:=WH e7 j l[j] (eK hj)
  unfold cellAt at h1
  unfold World.cell?
  simp only[VX,kD,eK hj,qM,FU]
  split at h1
  · rename_i hb;rw[hb];exact h1
  · cases h1
 refine(Go.Proofs.Any.slices_Clone_int aXE b off l.length cap (l.map fun i:Nat=>(i:Int)) w (by rw[aE];omega) (by omega) iN).mono ?_
 rintro e w' ⟨v',rfl,⟨_,ho⟩,hnn,hB⟩
 rcases ho with ⟨h,_⟩ | ⟨g,aWY,cur,rfl,h1,h2,h3,h4,h5,h6⟩
 · exact absurd h hnn
 have X:Ext w.heap w'.heap:=⟨hB.size,hB.block⟩
 have hg:st g=none:=by
  cases hs:st g with
  | none=>rfl
  | some o=>exact absurd (S g o hs).1 (by omega)
 have hgl:g<w'.heap.size:=(FM.1 h2).1
 have T:bT w.heap st w'.heap (st.aC g (.cells (l.map nv))):=⟨hB.size,fun y hy hn=>⟨hB.block y hy,by rw[aA.aF _ _ (by omega)];exact hn⟩,(X.step st).shape⟩
 have h7:(l.map fun i:Nat=>(i:Int)).take l.length=l.map fun i:Nat=>(i:Int):=m9 (by rw[aE];omega)
 rw[uZ] at h5 h6
 rw[h7,uY] at h6
 have hvs:(l.map BD)=(cur.toList.drop 0).take l.length:=by rw[tH,h6];try rfl
 refine⟨_,.mslice g 0 l.length 1,st.aC g (.cells (l.map nv)),rfl,⟨rfl,aWY,rfl,h3,h4,cur,_,h2,by omega⟩,fun y o e=>?_,T,⟨hB.os,hB.tape,hB.output⟩,g,hg,rfl,rfl⟩
 by_cases hy:y=g
 · subst hy
   rw[aA.aJ] at e
   cases e
   exact⟨hgl,cur,_,h2,by rw[aE];omega,l.map BD,by rw[hvs];exact AG h2 _ 0 (by omega),WF l⟩
 · rw[aA.aF _ _ hy] at e
   obtain⟨p1,p2⟩:=S y o e
   exact⟨zW p1 hB.size,lB.mono T (hB.block y p1) p2⟩
end Go.AW

namespace Go.AW
open Go.Proofs.Tryz
theorem aXC{P:Program}{t:TypeId}{ag:Bool}{sz b off n:Nat}{zs cs:List AV}{st:aA}{K:AV→aA→Prop}(hI:eI P t=some (ag,sz))(hZ:eZ P t=some zs)(h0:sz≠0)(hz:zs.length=sz)(hst:zs.all AV.storable=true)(hb:st b=some (.cells cs))(eW:off+n*sz≤cs.length)
 (hK:K (.tup []) (st.aC b (.cells (aM cs off (jH zs n))))):wC P t st (.mslice b off n sz) K:=by
 unfold wC
 rw[hI,hZ]
 simp only[hb]
 exact⟨trivial,h0,hz,hst,eW,hK⟩
theorem a73{cs:List AV}{i:Nat}{x:List AV}(h:i≤cs.length):(aM cs i x).take i=cs.take i:=by
 unfold aM
 rw[kC,List.take_left' (by rw[dZ];omega)]
theorem a74{cs:List AV}{i:Nat}{x:AV}(h:i<cs.length):(aM cs i [x]).take (i+1)=cs.take i++ [x]:=by
 unfold aM
 rw[List.take_left' (by rw[dS,dZ,a8,bG];omega)]
theorem a72{cs:List AV}{i:Nat}{x:List AV}(h:i+x.length≤cs.length):(aM cs i x).length=cs.length:=by
 unfold aM
 simp only[dS,dZ,lP]
 omega
theorem set_drop{cs:List AV}{i j:Nat}{x:AV}(h:i<cs.length)(hj:i<j):(aM cs i [x]).drop j=cs.drop j:=by
 unfold aM
 rw[List.drop_append,JB (by rw[dS,dZ,a8,bG];omega),eE,FO]
 congr 1
 rw[dS,dZ,a8,bG]
 omega
structure VW (l:List Nat) (p:Nat→Bool) (i j:Nat) (W:List AV):Prop where
 lt:i<j
 le:j≤l.length
 len:W.length=l.length
 head:W.take i=((l.take j).filter fun x=> !p x).map nv
 hlen:i=((l.take j).filter fun x=> !p x).length
 tail:W.drop j=(l.drop j).map nv
abbrev aPC:=zi aX (zi cB (zi dD iP))
theorem a6D(l:List Nat)(g:FuncId)(cU:List AV)(p:Nat→Bool)(b:Nat)(h9:l.length≤1048576)(st:aA)(hb:st b=some (.cells (l.map nv)))(hc:∀x∈l,∀cs,aD prog g ([nv x]++cU) (st.aC b (.cells cs)) (fun r st'=>r=.bool (p x)∧st'=st.aC b (.cells cs))) :
 aD prog 210 [.mslice b 0 l.length 1,.func g cU] st (fun r st'=>∃W,r=.mslice b 0 (l.filter fun x=> !p x).length 1∧st'=st.aC b (.cells W)∧W.take (l.filter fun x=> !p x).length=(l.filter fun x=> !p x).map nv):=by
 have hst:st.aC b (.cells (l.map nv))=st:=by
  funext y
  simp only[aA.aC]
  split
  · rename_i h;rw[h,hb]
  · rfl
 have R5:=a6F l g cU p b (l.map nv) h9 st hb (fun i x h=>by simp [h]) (fun x hx=>by have:=hc x hx (l.map nv);rwa [hst] at this)
 refine wF [1000000] 2 func210 ntmps210 rfl rfl ?_
 intro _
 simp only[aB,seval]
 refine(R5).to ?_
 simp only[aB,seval]
 rcases SK p l 0 (by omega) with ⟨h1,h2⟩ | ⟨j0,x0,h1,h2,h3,h4,h5⟩
 · have dN:(l.filter fun x=> !p x)=l:=List.filter_eq_self.2 fun a ha=>by
    have:=List.any_eq_false.1 h2 a ha
    simpa using this
   rw[h1,dN]
   simp only[aB,seval]
   exact⟨l.map nv,hst.symm,by rw[m9 (by rw[aE];exact cZ _)]⟩
 have hj:j0<l.length:=(fC.1 h2).1
 have hf0:((l.take (j0+1)).filter fun x=> !p x)=l.take j0:=by
  rw[fN,h2,List.filter_append]
  simp only[JJ,List.filter_cons,h3,fG,iE,cM,List.filter_nil,eU]
  refine List.filter_eq_self.2 fun a ha=>?_
  obtain⟨k,hk⟩:=CA ha
  rw[OS] at hk
  split at hk
  · rename_i h;rw[h5 k a h hk];try rfl
  · cases hk
 have hI0:VW l p j0 (j0+1) (l.map nv):=⟨by omega,by omega,by rw[aE],by rw[hf0,FR],by rw[hf0,dZ];omega,by rw[List.map_drop]⟩
 rw[h1,Int.zero_add]
 have hn1:((j0:Int)= -1)=False:=gO (by omega)
 have hw0:=aZ (n:=(j0:Int)+1)
 simp only[hn1,hw0,dW,aB,seval]
 refine oI (σ:=Nat×Nat×List AV) [1000000] [0,1,4] (fun x=>VW l p x.1 x.2.1 x.2.2) (fun x=>[(5,.int .i64 (x.1:Int)),(6,.int .i64 (x.2.1:Int))]) (fun x=>st.aC b (.cells x.2.2)) (fun x=>l.length - x.2.1) (by decide +kernel) ⟨(j0,j0+1,l.map nv),hI0,(by simp only[hst];exact aP.mk (by simp only[aB,seval]))⟩ ?_
 rintro⟨i,j,W⟩ ⟨i1,i2,i3,i4,i5,i6⟩
 simp only at i1 i2 i3 i4 i5 i6
 simp only
 simp only[aB,seval,aPC]
 refine aQ (fun h=>?_) (fun h=>?_)
 · have hlt:j<l.length:=by simp at h;omega
   obtain⟨x,hx⟩:∃x,l[j]?=some x:=⟨_,eK hlt⟩
   have hWj:W[j]?=some (nv x):=by
    have e:(W.drop j)[0]?=((l.drop j).map nv)[0]?:=by rw[i6]
    simpa [hx] using e
   have hat:=kT (P:=prog) (t:=148) (b:=b) (w:=1) iL hlt
   have AS:=kT (P:=prog) (t:=148) (b:=b) (w:=1) (i:=i) (len:=l.length) iL (by omega)
   rw[uZ] at hat AS
   have hld:=aLW (st:=st.aC b (.cells W)) (aA.aJ _ _ _) hWj rfl
   have hca:=hc x (cH hx) W
   simp only[nv,gR,eE] at hld hca
   have hw:=aZ (n:=(j:Int)+1)
   have hw2:=aZ (n:=(i:Int)+1)
   simp only[hat,hld,aB,seval]
   refine(hca).to ?_
   simp only[aB,seval]
   have htl:(l.take (j+1)).filter (fun x=> !p x)=(l.take j).filter (fun x=> !p x)++(if p x=false then[x] else[]):=by
    rw[fN,hx,List.filter_append]
    congr 1
    cases hp:p x<;>simp [hp]
   have hdr:∀V:List AV,V.drop j=W.drop j∨V.drop (j+1)=W.drop (j+1)→V.drop (j+1)=(l.drop (j+1)).map nv:=fun V hV=>by
    have e:W.drop (j+1)=(l.drop (j+1)).map nv:=by rw[←FO,i6,←List.map_drop,FO]
    rcases hV with hV | hV
    · rw[←FO,hV,FO,e]
    · rw[hV,e]
   refine aQ (fun h7=>?_) (fun h7=>?_)
   · have hp:p x=false:=by simpa using h7
     rw[aN hp] at htl
     simp only[AS,hw,hw2,aA.aJ,dR,aB,seval,aPC]
     have hil:i<W.length:=by omega
     refine⟨by omega,(i+1,j+1,aM W i [nv x]),by simp only;omega,⟨by simp only;omega,by simp only;omega,by rw[a72 (by simp only[a8,bG];omega)];exact i3,by simp only;rw[a74 hil,htl,i4,oN];try rfl,by simp only;rw[htl,dS,a8,bG,←i5],hdr _ (.inr (set_drop hil (by omega)))⟩,aP.mk (by simp only[aB,seval])⟩
   · have hp:p x=true:=by simpa using h7
     rw[aK (by simp [hp]),eU] at htl
     simp only[hw,aB,seval]
     refine⟨(i,j+1,W),by simp only;omega,⟨by simp only;omega,by simp only;omega,i3,by simp only;rw[htl];exact i4,by simp only;rw[htl];exact i5,hdr W (.inl rfl)⟩,aP.mk (by simp only[aB,seval])⟩
 · have hge:j=l.length:=by simp at h;omega
   subst hge
   rw[eD] at i4 i5
   have hsl:∀(φ:AF) (y:Operand),φ.eval y=.int .i64 (i:Int)→iB prog φ 148 (.mslice b 0 l.length 1) (some y) none none=some (.mslice b i (l.length - i) 1):=fun φ y hy=>by
    unfold iB
    rw[aK (by simp [sR])]
    simp only[pP,iL,eA,hy]
    rw[aN (by constructor<;>omega)]
    simp only[kB]
    by_cases h0:i=0
    · simp [h0]
    · simp [h0,i1]
   have hsh:∀(φ:AF) (y:Operand),φ.eval y=.int .i64 (i:Int)→iB prog φ 148 (.mslice b 0 l.length 1) none (some y) none=some (.mslice b 0 i 1):=fun φ y hy=>by
    unfold iB
    rw[aK (by simp [sR])]
    simp only[pP,iL,eA,hy]
    rw[aN (by constructor<;>omega)]
    simp
   simp only[hsl,aB,seval]
   refine aXC iL AK (by decide) rfl rfl (aA.aJ _ _ _) (by omega) ?_
   rw[dR]
   simp only[hsh,aB,seval]
   refine⟨aM W i (jH [.int .i64 0] (l.length - i)),by rw[←i5],rfl,?_⟩
   rw[←i5,a73 (by omega)]
   exact i4
abbrev aPE:=zi aX (zi cB (zi d9 (zi gL (zi cC kX))))
theorem aUK{p:List Cl}(hp:∀c∈p,gF c∧c.2.length≤6)(key:ByteArray)(x:Nat)(hx:x<p.length)(st:aA)(hT:st uM=some xI):aD prog 212 [nv x,.pptr (.slice (p.map aG)),.pptr (.str key)] st (fun r st'=>r=.bool (!DK p key x)∧st'=st):=by
 obtain⟨c,hc⟩:∃c,p[x]?=some c:=⟨_,eK hx⟩
 have hat:=bH (av:=aG) (P:=prog) lD hc (fQ c)
 have hck:=XT (hp c (cH hc)).1.head st hT
 have hF:DK p key x=K7 (yV c.1) key:=by unfold DK;rw[hc]
 rw[hF]
 obtain⟨⟨k,n,s',ts⟩,bd⟩:=c
 rw[mQ] at hat
 simp only[bD] at hck
 simp only[nv]
 refine wF [1000000] 3 func212 ntmps212 rfl rfl ?_
 intro _
 simp only[aB,seval]
 refine yD mixed (by decide +kernel) (by decide +kernel) ?_
 simp only[hat,aB,seval,aPE]
 refine iD hck ?_
 simp only[aB,seval,aPE]
 refine iD (aUR _ key _) ?_
 simp only[aB,seval]
abbrev aPD:=zi d9 (zi gL (zi cC iP))
theorem aUJ{p:List Cl}(hp:∀c∈p,gF c∧c.2.length≤6){N:Int}{t:Tm}(ht:bF N t)(l:List Nat)(hl:l≠[])(hlt:∀i∈l,i<p.length)(h9:l.length≤1048576)(st:aA)(hT:st uM=some xI):aD prog 192 [.slice (p.map aG),.slice (l.map nv),t.av] st (fun r st'=>r=.slice ((tS p t l).map nv)∧st'=st):=by
 refine aD.freeze (aD.cut ?_)
 have hk:=XT ht st hT
 have hcl:=a6C l hl h9 st
 have yP:(l.filter fun x=> !(!DK p (yV t) x))=tS p t l:=by unfold tS;simp only[Bool.not_not]
 generalize hkt:yV t=key at *
 obtain⟨tk,tn,ts',tts⟩:=t
 simp only[bD] at hk ⊢
 refine wF [1000000] 3 func192 ntmps192 rfl rfl ?_
 intro _
 simp only[aB,seval,aPD]
 refine(hk).to ?_
 simp only[aB,↓aW,seval,aPD]
 refine(hcl).mono ?_
 rintro _ _ ⟨b,hb,rfl,rfl⟩
 simp only[aB,seval]
 have hb0:uM≠b:=by rintro rfl;rw[hT] at hb;cases hb
 have a2T:=a6D l _ [.pptr (.slice (p.map aG)),.pptr (.str key)] (fun i=> !DK p key i) b h9 (st.aC b (.cells (l.map nv))) (aA.aJ _ _ _) (fun x hx cs=>aUK hp key x (hlt x hx) _ (by rw[dR,aA.aF _ _ hb0];exact hT))
 refine(a2T).mono ?_
 rintro _ _ ⟨W,rfl,rfl,hW⟩
 rw[yP] at hW ⊢
 simp only[aB,seval]
 have hfl:∀L:List Nat,(L.map nv).flatMap AV.cells=L.map nv:=fun L=>by
  induction L with
  | nil=>rfl
  | cons a L ih=>simp only[bR,rU,ih];rfl
 refine⟨b,W,_,aA.aJ _ _ _,b,_,by rw[aA.aJ,hW,hfl],fun e he=>?_,⟨1,SS _⟩,by simp [AV.fz],by rw[dR,aA.AL _ _ _ hb]⟩
 simp only[cF] at he
 obtain⟨_,_,rfl⟩:=he
 rfl
def FW(st0 st':aA)(S c m:Nat)(p:List Cl)(q:List Tm)(idx:Bool)(fuel used:Int)(r:AV):xX→Prop
 | .go i'=>r=.int .i64 (-1)∧∃qt qc qn mx nd,dL st0 st' S c m qt qc qn p q idx fuel used mx nd i'
 | .fail i'=>VV st0 st' S c m p q idx fuel used r (gP p i'.chs.length i')
 | .stop e=>r=.int .i64 e∧∃qt qc qn mx nd i',dL st0 st' S c m qt qc qn p q idx fuel used mx nd i'
def ON(p:List Cl)(idx:Bool)(cnd:Tm→List Nat→List Nat):Prop:=cnd=if idx=true then tS p else fun _ l=>l
theorem a4U(yn:Int)(ys:ByteArray)(yts:List Tm)(st:aA):aD prog 150 [(Tm.mk 3 yn ys yts).av] st (fun r st'=>r=.bool (sI (.mk 3 yn ys yts))∧st'=st):=by
 have h:=YA 3 yn ys yts st
 have e:(decide ((3:Int)=3)&&decide ((yts.length:Int)=0)&&decide (ys=⟨#[33]⟩))=sI (.mk 3 yn ys yts):=by
  rw[zR]
  simp [sI,Tm.k,Tm.s,Tm.ts,and_comm]
  exact fun _=>⟨fun h=>vC h,fun h=>of_decide_eq_true h⟩
 rw[e] at h
 exact h
theorem a4T(yn:Int)(ys:ByteArray)(yts:List Tm)(st:aA):aD prog 128 [(Tm.mk 3 yn ys yts).av] st (fun r st'=>r=.bool (isBuiltin ys (yts.length:Int))∧st'=st):=by
 have h:=PX 3 yn ys yts st
 rw[show(decide ((3:Int)=3)&&isBuiltin ys (yts.length:Int))=isBuiltin ys (yts.length:Int) from rfl] at h
 exact h
abbrev l7:=zi aX (zi cB (zi gL (zi dD (zi cC (zi iP (zi FC (zi pH (zi FE (zi U3 (zi U5 (zi IW (zi U6 (zi aP0 U7)))))))))))))
set_option maxHeartbeats 2000000 in
theorem aWH{p:List Cl}(hp:∀c∈p,gF c∧c.2.length≤6)(hpl:p.length≤20){cnd:Tm→List Nat→List Nat}(hc:∀(ρ:Int→Int) (t:Tm) (l:List Nat),cnd (bZ ρ t) l=cnd t l)(hd:∀t l,(∀i∈cnd t l,i∈l)∧(cnd t l).length≤l.length){idx:Bool}(yP:ON p idx cnd)
 {B M k:Nat} (hB:B+26≤524288) (hM:M+520≤16777216) (hk:k+1≤524288) {st0 st:aA} {S c m:Nat} {qt qc qn:AV} {q:List Tm} {fuel used:Int} {mx:Int} {nd:List AV} {s:RS} {i:IS} {g:IG} {rest:List IG}
 (yQ:idx=true→st0 uM=some xI) (h:dL st0 st S c m qt qc qn p q idx fuel used mx nd i) (hR:RI p B M k s i) (hg:i.goals=g::rest) (hu0:0≤used) (hu:used≤1000000) :
 aD prog 176 [.ptr S 0] st (fun r st'=>if used=fuel then r=.int .i64 2∧dL st0 st' S c m qt qc qn p q idx fuel used mx nd i else FW st0 st' S c m p q idx fuel (used+1) r (mE p cnd i g rest)):=by
 have hp1:=fun c h=>(hp c h).1
 obtain⟨hgd,ho,hcl,_⟩:=hR.r.facts
 obtain⟨hgo,hg3,_⟩:=hR.r.goal hg
 have hct:=hR.cut hg
 have hst:=hR.step hp hpl hc hd hB hg
 have bCR:=hR.pT
 have hnn:=hR.n
 have hX:=hR.x
 obtain⟨rk,D,G⟩:=hgd.rs
 have hfo:=K8 hgd ho hgo
 have hyk:(g.t.aL (rs i.σ)).k=3:=by rw[Tm.rF _ (by omega)];exact hg3
 have BB:=YZ G (ho.imp fun t ht=>ht.1.2.1) (ho.imp fun t ht=>ht.1.small) c m qt g.t hgo.1.2.1 hgo.1.small
 generalize hT:mE p cnd i g rest=T at *
 unfold mE at hT
 obtain⟨⟨gk,gn,gs',gts⟩,cut,up⟩:=g
 simp only at hgo hg3 hct hfo hyk BB hT
 generalize (Tm.mk gk gn gs' gts).aL (rs i.σ)=y at *
 obtain⟨yk,yn,ys,yts⟩:=y
 obtain rfl:yk=3:=hyk
 simp only[Tm.s,Tm.ts] at hT
 have iN:=h.cell
 rw[hg,t8] at iN
 simp only[g9] at iN
 obtain⟨t1,t2,t3,t4,t5⟩:=h.sto.shape
 obtain⟨n1,n2,n3,n4,n5⟩:=h.acC.shape
 obtain⟨m1,m2,m3,m4,m5⟩:=h.acN.shape
 obtain⟨l1,l2,l3,l4,l5,l6⟩:=pW rest
 refine aD.oT ?_
 refine wF [1000000] 1 func176 ntmps176 rfl rfl ?_
 intro _
 simp only[aB,seval]
 refine wX [(0,1),(1,1),(2,1),(3,1),(4,1),(5,1),(6,1),(7,1),(8,1)] [0,1,2,3,4,5,6,7,8] _ mixed rfl (jM iN) ?_
 simp only[uK,aB,seval,l7]
 refine aQ (fun h1=>?_) (fun h1=>?_)
 · have h1':used=fuel:=by simpa using h1
   simp only[aB,seval]
   exact⟨st,aO.refl _,by rw[aN h1'];exact h⟩
 have h1':used≠fuel:=by simpa using h1
 have hw:=aZ (n:=used+1)
 simp only[aM,iN,hw,aA.aJ,aB,seval,l7]
 have h2:=h.put (gl:=i.goals) (F:=i.fresh) (fuel':=fuel) (used':=used+1) (mx':=mx) rfl
 rw[hg,t8] at h2
 simp only[g9] at h2
 generalize aA.aC st S _=V at h2 ⊢
 have sO:=h2.cell
 rw[t8] at sO
 simp only[g9] at sO
 have hSV:=h2.sto
 have hr:=fun(s2:aA) (hs2:eQ V s2)=>BB s2 ⟨hs2 _ _ hSV.sub.cells,hs2 _ _ hSV.sub.map⟩
 unfold ME at hr
 by_cases hf:fA (.mk 3 yn ys yts)=true
 case neg=>
  rw[aK (by unfold fA at hf;simpa using hf)] at hr
  rw[aN (by simpa using hf)] at hT
  subst hT
  simp only[bD,Tm.zero,bS] at hr
  refine wX [(0,1),(1,1),(2,1),(3,1),(4,1),(5,1),(6,1),(7,1),(8,1),(9,1),(10,1),(11,1),(12,0),(13,0),(14,1)] [0,1,2,3,4,5,6,7,8,9,10,11,14] V mixed rfl (eQ.refl V) ?_
  simp only[sO,aB,seval,l7]
  refine ZD hr ?_
  simp only[aM,aA.aJ,aB,seval,l7]
  exact fun b hb=>⟨KY hb,KY hb,V,(aO.refl _).aC hb,by rw[aK h1'];exact⟨rfl,_,_,_,_,_,_,h2⟩⟩
 rw[aN (by unfold fA at hf;simpa using hf)] at hr
 rw[aK (by rw[hf];simp)] at hT
 have hyo:=hfo hf
 simp only[bD] at hr
 have SF:prog.underlying 209=some (.slice 229):=by kernel_rfl
 refine wX [(0,1),(1,1),(2,1),(3,1),(4,1),(5,1),(6,1),(7,1),(8,1),(9,1),(10,1),(11,1),(12,0),(13,0),(14,1)] [0,1,2,3,4,5,6,7,8,9,10,11,14] V mixed rfl (eQ.refl V) ?_
 simp only[sO,aB,seval,l7]
 refine ZD hr ?_
 simp only[aM,aA.aJ,aB,seval,l7]
 intro b4 h4
 refine⟨KY h4,KY h4,?_⟩
 have h40:=h2.aKJ h4
 have aLH:idx=true→(st0.aC b4 (.cells [AV.int IntKind.i64 3,AV.int IntKind.i64 yn,AV.str ys,AV.slice (List.map Tm.av yts)])) uM=some xI:=fun hi=>by
  rw[aA.aF _ _ (by intro e;rw[←e,yQ hi] at h40;cases h40)]
  exact yQ hi
 have LD:S≠b4:=by rintro rfl;rw[sO] at h4;cases h4
 have h3:=h2.box (o:=.cells [AV.int IntKind.i64 3,AV.int IntKind.i64 yn,AV.str ys,AV.slice (List.map Tm.av yts)]) h4
 have HA:(st0.aC b4 (.cells [AV.int IntKind.i64 3,AV.int IntKind.i64 yn,AV.str ys,AV.slice (List.map Tm.av yts)])) b4=some (.cells [AV.int IntKind.i64 3,AV.int IntKind.i64 yn,AV.str ys,AV.slice (List.map Tm.av yts)]):=aA.aJ _ _ _
 have hun:=fun {st' qt qc qn q idx fuel used mx nd i}=>dL.unbox (st0:=st0) (st:=st') (S:=S) (c:=c) (m:=m) (qt:=qt) (qc:=qc) (qn:=qn) (p:=p) (q:=q) (idx:=idx) (fuel:=fuel) (used:=used) (mx:=mx) (nd:=nd) (i:=i) (b:=b4) (o:=.cells [AV.int IntKind.i64 3,AV.int IntKind.i64 yn,AV.str ys,AV.slice (List.map Tm.av yts)]) (hn:=h40)
 generalize V.aC b4 (.cells [AV.int IntKind.i64 3,AV.int IntKind.i64 yn,AV.str ys,AV.slice (List.map Tm.av yts)])=W at h3 ⊢
 generalize st0.aC b4 (.cells [AV.int IntKind.i64 3,AV.int IntKind.i64 yn,AV.str ys,AV.slice (List.map Tm.av yts)])=W0 at h3 HA hun aLH
 clear sO hSV hr h2
 have DS:=h3.cell
 rw[t8] at DS
 simp only[g9] at DS
 have hbW:=h3.aU b4 _ HA
 have hlN:=h3.acN.len SF
 rw[h3.ndl] at hlN
 simp only at hlN
 simp only[DS,hlN,m1,aB,seval]
 obtain⟨s0,z1,z2,z3⟩:=OA LD _ _
 refine wX [(0,1),(1,1),(2,1),(3,1),(4,1),(5,1),(6,1),(7,1),(8,1),(9,1),(10,1),(11,1),(12,0),(13,1),(14,1),(15,2)] [0,1,2,3,4,5,6,7,8,9,10,11,13,14] s0 mixed rfl (z3 _ DS hbW) ?_
 simp only[z1,z2,m1,aB,seval,l7]
 refine dY.append KR Z1 Z3 rfl (by decide) h3.acN rfl rfl (by rw[h3.ndl];simp only;omega) (fun qn5 s5 uA hf hn=>?_)
 have hbo:b4∉iW S c m qt qc qn:=fun hm=>by have:=h3.new b4 hm;rw[HA] at this;cases this
 have hold:∀y o,W y=some o→y∉bU qn→s5 y=some o:=fun y o hy hq=>by
  rw[hf y hq fun hq'=>by
   rcases hn y hq' with h' | h'
   · exact hq h'
   · rw[hy] at h';cases h']
  exact hy
 have uB:=hold S _ DS h3.parts.2.2.2.2.2.1
 have hb5:=hold b4 _ hbW fun hm=>hbo (eM.2 (.inr (.inr (.inr (.inr (.inr hm))))))
 obtain⟨m1,m2,m3,m4,m5⟩:=uA.shape
 simp only[aM,uB,m4,m5,aB,seval,l7]
 refine⟨z3 _ uB hb5,?_⟩
 have h5:=h3.a67 (n':=i.nn+1) uA (by rw[dS,h3.ndl];try rfl) (fun e he=>by
  rcases eL.1 he with he | he
  · exact h3.ndw e he
  · simp only[cG,cX,dG] at he;subst he;rfl) hf hn rfl
 rw[t8] at h5
 simp only[g9] at h5
 generalize aA.aC s5 S _=W5 at h5 ⊢
 clear uB hb5 hold hf hn DS hbW
 have kL:=h5.cell
 rw[t8] at kL
 simp only[g9] at kL
 have hb6:=h5.aU b4 _ HA
 have aK5:=a4U yn ys yts
 have aK0:=a4T yn ys yts
 simp only[bD] at aK5 aK0
 simp only[hb6,aB,seval]
 refine(aK5 _).to ?_
 simp only[aB,seval]
 refine aQ (fun hcu=>?_) (fun hcu=>?_)
 · simp only[hcu,dV] at hT
   subst hT
   simp only[kL,aB,seval,l7]
   have hsl:=fun(φ:AF) (dd:Nat) (h:φ dd=.int .i64 (cut:Int))=>aN3 G3 h5.acC h (by rw[aE];exact hct)
   have hQ:=(h5.acC.take (k:=cut) (by rw[aE];exact hct) (SH _)).shape
   obtain⟨c1,c2,c3,c4,c5⟩:=hQ
   obtain⟨s1,y1,y2,y3⟩:=OA LD _ _
   refine wX [(0,1),(1,1),(2,1),(3,1),(4,1),(5,1),(6,1),(7,1),(8,1),(9,1),(10,1),(11,1),(12,2)] [0,1,2,3,4,5,6,7,8,9,10,11] s1 mixed rfl (y3 _ kL hb6) ?_
   simp only[aM,y1,kL,hsl,c4,c5,n1,l1,l2,l4,l5,aA.aJ,aB,seval,l7]
   refine⟨_,aO.refl _,?_⟩
   rw[aK h1']
   have h6:=h5.ZX (k:=cut) (gl:=rest) hct rfl
   exact⟨rfl,_,_,_,_,_,hun h6⟩
 simp only[hcu,iE,cM] at hT
 simp only[hb6,aB,seval,l7]
 refine(aK0 _).to ?_
 simp only[aB,seval]
 refine aQ (fun hbl=>?_) (fun hbl=>?_)
 · simp only[hbl,dV] at hT
   have hks:∀x∈yts,bF i.fresh x:=rG _ (.mk 3 yn ys yts) (show(3:Int)≠1 by decide) hyo
   have AY:=aT1 hgd ho yn ys yts hbl hks c m qt i.tr W5 h5.sto (by have:=hX.VH;have:=hX.phi;omega)
   simp only[bD] at AY
   replace hT:(if(dC i.σ ys yts).1=0 then xX.go { goals:=rest,σ:=(dC i.σ ys yts).2.1,tr:=i.tr++(dC i.σ ys yts).2.2,chs:=i.chs,fresh:=i.fresh,nn:=i.nn+1 } else if(dC i.σ ys yts).1=1 then xX.fail { goals:=i.goals,σ:=(dC i.σ ys yts).2.1,tr:=i.tr++(dC i.σ ys yts).2.2,chs:=i.chs,fresh:=i.fresh,nn:=i.nn+1 } else xX.stop (sL (dC i.σ ys yts).1))=T:=hT
   generalize yR:dC i.σ ys yts=Z at AY hT
   obtain⟨code,σ',add⟩:=Z
   simp only at hT
   obtain⟨s1,y1,y2,y3⟩:=OA LD _ _
   refine wX [(0,1),(1,1),(2,1),(3,1),(4,1),(5,0),(6,1)] [0,1,2,3,4,6] s1 mixed rfl (y3 _ kL hb6) ?_
   simp only[y1,y2,aB,seval,l7]
   refine AY.mono ?_
   rintro _ s6 ⟨rfl,hP⟩
   obtain⟨qt6,h6⟩:=h5.post hP
   have nZ:=h6.cell
   rw[t8] at nZ
   simp only[g9] at nZ
   have hb7:=h6.aU b4 _ HA
   obtain⟨t1,t2,t3,t4,t5⟩:=h6.sto.shape
   simp only[aB,seval]
   refine⟨y3 _ nZ hb7,?_⟩
   refine aQ (fun hc0=>?_) (fun hc0=>?_)
   · have RM:code=0:=by simpa using hc0
     rw[aN RM] at hT
     subst hT
     simp only[aM,nZ,l1,l2,l4,l5,aB,seval,l7]
     refine⟨_,aO.refl _,?_⟩
     rw[aK h1']
     exact⟨rfl,_,_,_,_,_,hun (h6.put (gl:=rest) (F:=i.fresh) (fuel':=fuel) (used':=used+1) (mx':=mx) rfl)⟩
   have RM:code≠0:=by simpa using hc0
   rw[aK RM] at hT
   simp only[aB,seval]
   refine aQ (fun hc1=>?_) (fun hc1=>?_)
   · have RN:code=1:=by simpa using hc1
     rw[aN RN] at hT
     subst hT
     simp only at hst
     rw[←hg] at h6
     have hbk:=J7 hp (M:=M+520) (by omega) _ _ _ _ _ _ ({ goals:=i.goals,σ:=σ',tr:=i.tr++add,chs:=i.chs,fresh:=i.fresh,nn:=i.nn+1 }:IS) s.chs (T:=gP p (({ goals:=i.goals,σ:=σ',tr:=i.tr++add,chs:=i.chs,fresh:=i.fresh,nn:=i.nn+1 }:IS)).chs.length ({ goals:=i.goals,σ:=σ',tr:=i.tr++add,chs:=i.chs,fresh:=i.fresh,nn:=i.nn+1 }:IS)) ⟨h6,hst.1,hst.2.1,rfl,⟨by rw[hst.1.len];have:=hR.a.a.pT;omega,nN hst.2.2.1 (by omega)⟩⟩
     simp only[aB,seval]
     refine hbk.mono ?_
     rintro r s7 hr
     simp only[aB,seval]
     refine⟨s7,aO.refl _,?_⟩
     rw[aK h1']
     simp only[FW]
     cases hB2:gP p (({ goals:=i.goals,σ:=σ',tr:=i.tr++add,chs:=i.chs,fresh:=i.fresh,nn:=i.nn+1 }:IS)).chs.length ({ goals:=i.goals,σ:=σ',tr:=i.tr++add,chs:=i.chs,fresh:=i.fresh,nn:=i.nn+1 }:IS) with
     | none=>
      rw[hB2] at hr
      obtain⟨e1,qt7,qc7,qn7,mx7,nd7,i7,h7⟩:=hr
      exact⟨e1,_,_,_,_,_,_,hun h7⟩
     | some i7=>
      rw[hB2] at hr
      obtain⟨e1,qt7,qc7,qn7,mx7,nd7,h7⟩:=hr
      exact⟨e1,_,_,_,_,_,hun h7⟩
   have RN:code≠1:=by simpa using hc1
   rw[aK RN] at hT
   subst hT
   simp only[aB,seval]
   refine(aT7 code _).to ?_
   simp only[aB,seval]
   refine⟨_,aO.refl _,?_⟩
   rw[aK h1']
   exact⟨rfl,_,_,_,_,_,_,hun h6⟩
 simp only[hbl,iE,cM] at hT
 have hpr:=YY 3 yn ys yts
 have hcf:=aT3 p (.mk 3 yn ys yts) (by omega)
 simp only[bD,Tm.s,Tm.ts] at hpr hcf
 obtain⟨s1,y1,y2,y3⟩:=OA LD _ _
 simp only[aB,seval]
 refine wX [(0,1),(1,1),(2,1),(3,1),(4,1),(5,0),(6,0),(7,1)] [0,1,2,3,4,7] s1 mixed rfl (y3 _ kL hb6) ?_
 simp only[y1,y2,aB,seval,l7]
 refine(hpr _).to ?_
 simp only[aB,seval]
 refine⟨y3 _ kL hb6,?_⟩
 refine(hcf _).to ?_
 simp only[aE,aB,seval,l7]
 refine⟨y3 _ kL hb6,?_⟩
 refine aQ (fun hl0=>?_) (fun hl0=>?_)
 · have LN:eS p (.mk 3 yn ys yts)= []:=by simpa using hl0
   rw[aN LN] at hT
   subst hT
   simp only[aB,seval]
   refine⟨_,aO.refl _,?_⟩
   rw[aK h1']
   exact⟨rfl,_,_,_,_,_,_,hun h5⟩
 have LN:eS p (.mk 3 yn ys yts)≠[]:=by simpa using hl0
 rw[aK LN] at hT
 have hfl:=a1Q p (.mk 3 yn ys yts)
 have h5':=h5
 rw[←hg] at h5'
 have D0:=fun(l:List Nat) (hl:∀i∈l,i<p.length) (h20:l.length≤p.length)=>ZB hp (M:=M+520) (by omega) h5' (.mk 3 yn ys yts) i.nn rest l hgd ho hyo hl (by omega) (by simp only;omega) (hX.up (Nat.le_add_right M 520)).node (by have:=hX.phi;simp only;omega) (by simp only;omega) (by simp only;omega)
 have eW:=fun st hT=>aUJ hp hyo (eS p (.mk 3 yn ys yts)) LN (Q6 _ _) (by omega) st hT
 have hpW:=fun hi=>h5.aU uM _ (aLH hi)
 have hds:=hd (.mk 3 yn ys yts) (eS p (.mk 3 yn ys yts))
 simp only[bD] at D0 eW
 obtain rfl:cnd=if idx=true then tS p else fun _ l=>l:=yP
 cases idx with
 | false=>
  simp only[iE,cM] at hT
  simp only[kL,aB,seval,l7]
  have htr:=D0 (eS p (.mk 3 yn ys yts)) (Q6 _ _) (hfl)
  refine wX [(0,1),(1,1),(2,1),(3,1),(4,1),(5,1),(6,1),(7,1),(8,2)] [0,1,2,3,4,5,6,7] s1 mixed rfl (y3 _ kL hb6) ?_
  simp only[y2,l1,l2,aB,seval,l7]
  refine htr.mono ?_
  rintro _ s6 ⟨rfl,qt6,qc6,mx6,nd6,h6⟩
  simp only[aB,seval]
  refine aQ (fun ht0=>?_) (fun ht0=>?_)
  · simp only[ht0,dV] at hT
    subst hT
    simp only[aB,seval]
    refine⟨_,aO.refl _,?_⟩
    rw[aK h1']
    exact⟨rfl,_,_,_,_,_,hun h6⟩
  simp only[ht0,iE,cM] at hT
  subst hT
  simp only at hst
  have hbk:=J7 hp (M:=M+520) (by omega) _ _ _ _ _ _ (f7 p (.mk 3 yn ys yts) i.nn rest (eS p (.mk 3 yn ys yts)) { i with nn:=i.nn+1 }).2 s.chs (T:=gP p ((f7 p (.mk 3 yn ys yts) i.nn rest (eS p (.mk 3 yn ys yts)) { i with nn:=i.nn+1 }).2).chs.length (f7 p (.mk 3 yn ys yts) i.nn rest (eS p (.mk 3 yn ys yts)) { i with nn:=i.nn+1 }).2) ⟨h6,hst.1,hst.2.1,rfl,⟨by rw[hst.1.len];have:=hR.a.a.pT;omega,nN hst.2.2.1 (by omega)⟩⟩
  simp only[aB,seval]
  refine hbk.mono ?_
  rintro r s7 hr
  simp only[aB,seval]
  refine⟨s7,aO.refl _,?_⟩
  rw[aK h1']
  simp only[FW]
  cases hB2:gP p ((f7 p (.mk 3 yn ys yts) i.nn rest (eS p (.mk 3 yn ys yts)) { i with nn:=i.nn+1 }).2).chs.length (f7 p (.mk 3 yn ys yts) i.nn rest (eS p (.mk 3 yn ys yts)) { i with nn:=i.nn+1 }).2 with
  | none=>
   rw[hB2] at hr
   obtain⟨e1,qt7,qc7,qn7,mx7,nd7,i7,h7⟩:=hr
   exact⟨e1,_,_,_,_,_,_,hun h7⟩
  | some i7=>
   rw[hB2] at hr
   obtain⟨e1,qt7,qc7,qn7,mx7,nd7,h7⟩:=hr
   exact⟨e1,_,_,_,_,_,hun h7⟩
 | true=>
  simp only[eq_self,dV] at hT hds
  simp only[kL,aB,seval,l7]
  refine wX [(0,1),(1,1),(2,1),(3,1),(4,1),(5,1),(6,0),(7,1)] [0,1,2,3,4,5,7] s1 mixed rfl (y3 _ kL hb6) ?_
  simp only[y1,y2,aB,seval,l7]
  refine(eW _ (hpW rfl)).to ?_
  simp only[aB,seval]
  refine⟨y3 _ kL hb6,?_⟩
  have htr:=D0 (tS p (.mk 3 yn ys yts) (eS p (.mk 3 yn ys yts))) ((fun x hx=>Q6 _ _ x (hds.1 x hx))) ((nN hds.2 hfl))
  refine wX [(0,1),(1,1),(2,1),(3,1),(4,1),(5,1),(6,1),(7,1),(8,2)] [0,1,2,3,4,5,6,7] s1 mixed rfl (y3 _ kL hb6) ?_
  simp only[y2,l1,l2,aB,seval,l7]
  refine htr.mono ?_
  rintro _ s6 ⟨rfl,qt6,qc6,mx6,nd6,h6⟩
  simp only[aB,seval]
  refine aQ (fun ht0=>?_) (fun ht0=>?_)
  · simp only[ht0,dV] at hT
    subst hT
    simp only[aB,seval]
    refine⟨_,aO.refl _,?_⟩
    rw[aK h1']
    exact⟨rfl,_,_,_,_,_,hun h6⟩
  simp only[ht0,iE,cM] at hT
  subst hT
  simp only at hst
  have hbk:=J7 hp (M:=M+520) (by omega) _ _ _ _ _ _ (f7 p (.mk 3 yn ys yts) i.nn rest (tS p (.mk 3 yn ys yts) (eS p (.mk 3 yn ys yts))) { i with nn:=i.nn+1 }).2 s.chs (T:=gP p ((f7 p (.mk 3 yn ys yts) i.nn rest (tS p (.mk 3 yn ys yts) (eS p (.mk 3 yn ys yts))) { i with nn:=i.nn+1 }).2).chs.length (f7 p (.mk 3 yn ys yts) i.nn rest (tS p (.mk 3 yn ys yts) (eS p (.mk 3 yn ys yts))) { i with nn:=i.nn+1 }).2) ⟨h6,hst.1,hst.2.1,rfl,⟨by rw[hst.1.len];have:=hR.a.a.pT;omega,nN hst.2.2.1 (by omega)⟩⟩
  simp only[aB,seval]
  refine hbk.mono ?_
  rintro r s7 hr
  simp only[aB,seval]
  refine⟨s7,aO.refl _,?_⟩
  rw[aK h1']
  simp only[FW]
  cases hB2:gP p ((f7 p (.mk 3 yn ys yts) i.nn rest (tS p (.mk 3 yn ys yts) (eS p (.mk 3 yn ys yts))) { i with nn:=i.nn+1 }).2).chs.length (f7 p (.mk 3 yn ys yts) i.nn rest (tS p (.mk 3 yn ys yts) (eS p (.mk 3 yn ys yts))) { i with nn:=i.nn+1 }).2 with
  | none=>
   rw[hB2] at hr
   obtain⟨e1,qt7,qc7,qn7,mx7,nd7,i7,h7⟩:=hr
   exact⟨e1,_,_,_,_,_,_,hun h7⟩
  | some i7=>
   rw[hB2] at hr
   obtain⟨e1,qt7,qc7,qn7,mx7,nd7,h7⟩:=hr
   exact⟨e1,_,_,_,_,_,hun h7⟩


abbrev aPF:=zi aX (zi cC iP)
theorem aV7(vars:List Int)(n:Int)(st:aA):aD prog 216 [.int .i64 n,.pptr (.slice (vars.map iv))] st (fun r st'=>r=(vr (eN n vars 0)).av∧st'=st):=by
 refine aD.done ?_
 refine wF [1000000] 2 func216 ntmps216 rfl rfl ?_
 intro _
 simp only[aB,seval,aPF]
 intro b hb
 refine(XN vars n _).to ?_
 simp only[aB,seval]
 refine(P9 _ _).to ?_
 simp only[aM,Tm.e9,Tm.gB,rM (Tm.gB _),qS (cD _),aB,seval,aPF]
 exact⟨Tm.soft _,(aO.refl _).aC hb⟩
abbrev UR:=zi aX (zi cI (zi cC iP))
theorem aV6(l:List Tm)(hln:l.length≤1048576)(hsz:aH Tm.nodes l≤1099511627776)(hsm:∀t∈l,t.small=true)(st:aA):aD prog 195 [.slice (l.map Tm.av)] st (fun r st'=>r=.slice ((kV l).map Tm.av)∧st'=st):=by
 refine aD.done ?_
 refine wF [1000000] 1 func195 ntmps195 rfl rfl ?_
 simp only[cV,AV.fits,dE,aE]
 intro ⟨hl,_⟩
 simp only[aB,seval]
 refine(QA l _ hsz).to ?_
 simp only[aE,aB,↓aW,seval,UR]
 generalize hv:cA l []=vars
 have hR:kV l=l.map fun t=>t.aL fun v=>vr (eN v vars 0):=by rw[←hv];try rfl
 rw[hR]
 refine vY (σ:=Unit) [1000000] [2,3,9,10] (l) 4 4 (fun i _=>(((l).take i).map (fun t=>t.aL fun v=>vr (eN v vars 0))).map Tm.av) (fun _ _=>True) (fun i _=>[(11,.int .i64 i)]) (fun _ _=>st) (fun i _ _ e he=>by simp only[cF] at he;obtain⟨t,_,rfl⟩:=he;exact⟨Tm.fP t,aT t⟩) (by decide +kernel) ⟨(),0,trivial,fun h=>absurd rfl h,aP.mk (by simp only[lT,kE,bS,aB,↓aW,seval])⟩ (fun i x s b hx hlt a7 hdr hinv hb=>?_) (fun s b hge hinv=>?_)
 case refine_1=>
  have hw:=aZ (n:=(i:Int)+1)
  have dO:((((l).take i).map (fun t=>t.aL fun v=>vr (eN v vars 0))).map Tm.av).length=i:=by simp only[aE,dZ];omega
  have htk:((((l).take i).map (fun t=>t.aL fun v=>vr (eN v vars 0))).map Tm.av)++ [Tm.av ((fun t=>t.aL fun v=>vr (eN v vars 0)) x)]=(((l).take (i+1)).map (fun t=>t.aL fun v=>vr (eN v vars 0))).map Tm.av:=by rw[fN,hx];simp
  have hat:=bH (av:=Tm.av) bY hx (aT x)
  simp only[a7,hat,aB,↓aW,seval,UR]
  refine(P1 (fun v=>vr (eN v vars 0)) _ [.pptr (.slice (vars.map iv))] rfl x _ (hsm x (cH hx)) (fun n _ s=>aV7 vars n s)).to ?_
  simp only[aB,seval,UR]
  refine gA bY lC lE rfl rfl (g8 (aT _) (Tm.e9 _)) (by intro e he;simp only[cF] at he;obtain⟨t,_,rfl⟩:=he;exact aT t) hb (by simp only[dO,a8,bG];omega) (by simp only[dO,a8,bG];omega) (fun b' hb'=>?_)
  rw[htk] at hb' ⊢
  simp only[aB,seval]
  exact⟨(),b',hb',aP.mk (by simp only[hw,aB,seval])⟩
 simp only[hge,gW,iC,nE,DJ,lF,eD,aB,seval]
 exact⟨rfl,aO.refl _⟩
def VO:Option (List Tm)→AV
 | none=>.tup [.slice [],.bool false]
 | some l=>.tup [.slice (l.map Tm.av),.bool true]
theorem aM1:∀ {l:List Tm},(∀t∈l,t.nodes≤120)→aH Tm.nodes l≤120*l.length
 | [],_=>by simp [aH]
 | t::l,h=>by
  have h1:=h t (by simp)
  have h2:=aM1 (l:=l) fun x hx=>h x (by simp [hx])
  simp only[aH,a8];omega
abbrev IQ:=zi aX (zi cB (zi cI (zi cC (zi iP pH))))
theorem aWV{N:Nat}{σ:Sub}(hg:cO σ)(ho:cQ (bF N) σ)(vars:List Int)(hv:∀v∈vars,0≤v∧v<(N:Int))(hl:vars.length≤1000)(c m:Nat)(q:AV)(st:aA)(hS:iS st c m q σ) :
 aD prog 177 [.ptr c 0,.slice (vars.map iv)] st (fun r st'=>r=VO (jZ σ vars)∧st'=st):=by
 obtain⟨rk,B,G⟩:=hg.rs
 have BB:=fun(t:Tm) (ht:bF N t) st hS=>YZ G (ho.imp fun t ht=>ht.1.2.1) (ho.imp fun t ht=>ht.1.small) c m q t ht.1.2.1 ht.1.small st hS
 refine aD.done ?_
 refine wF [1000000] 2 func177 ntmps177 rfl rfl ?_
 intro _
 simp only[aE,aB,seval,IQ]
 refine vY (σ:=Unit) [1000000] [0,11,12] vars 4 6 (fun i _=>((vars.take i).map (rs σ)).map Tm.av) (fun i _=>((vars.take i).map (rs σ)).all fA=true) (fun i _=>[(4,.fslice []),(5,.bool false),(13,.int .i64 i)]) (fun _ _=>st) (fun i _ _ e he=>by simp only[cF] at he;obtain⟨t,_,rfl⟩:=he;exact⟨Tm.fP _,aT _⟩) (by decide +kernel) ⟨(),0,rfl,fun h=>absurd rfl h,aP.mk (by simp only[lT,kE,bS,aB,↓aW,seval])⟩ (fun i x s b hx hlt a7 hdr hinv hb=>?_) (fun s b hge hinv=>?_)
 · have hw:=aZ (n:=(i:Int)+1)
   have hxm:=cH hx
   obtain⟨hx0,hx1⟩:=hv x hxm
   have hvr:bF N (vr x):=⟨H0 hx0 hx1,by rw[vr,Tm.lJ];simp [aH]⟩
   have hat:dP prog 148 (.slice (vars.map iv)) (.int .i64 (i:Int))=some (.pptr (.int .i64 x)):=bH (av:=iv) iL hx rfl
   have dO:(((vars.take i).map (rs σ)).map Tm.av).length=i:=by simp only[aE,dZ];omega
   have dN:((vars.take (i+1)).map (rs σ)).all fA=fA (rs σ x):=by
    rw[fN,hx]
    simp only[JJ,oN,bR,bS,xZ,hinv,jK,B9,zQ,gM]
   have hr:=BB (vr x) hvr _ (hS.acc hb)
   rw[uJ] at hr
   unfold ME at hr
   simp only[a7,hat,aB,seval,IQ]
   refine(P9 x _).to ?_
   simp only[aB,seval]
   by_cases hf:fA (rs σ x)=true
   · rw[aN (by unfold fA at hf;simpa using hf)] at hr
     refine hr.to ?_
     simp only[cD,aT,Tm.e9,Tm.fP,aB,↓aW,seval,IQ]
     refine gA bY lC lE rfl rfl (g8 (aT _) (Tm.e9 _)) (iX _) hb (by simp only[dO,a8,bG];omega) (by simp only[dO,a8,bG];omega) (fun b' hb'=>?_)
     rw[show(((vars.take i).map (rs σ)).map Tm.av)++ [(rs σ x).av]=((vars.take (i+1)).map (rs σ)).map Tm.av by rw[fN,hx];simp] at hb' ⊢
     simp only[hw,aB,seval]
     exact⟨(),b',by rw[dN];exact hf,hb',aP.mk (by simp only[aB,seval])⟩
   · rw[aK (by unfold fA at hf;simpa using hf)] at hr
     refine hr.to ?_
     simp only[aT,Tm.e9,Tm.fP,aB,↓aW,seval,IQ]
     have qZ:jZ σ vars=none:=by
      unfold jZ
      rw[aK]
      rintro⟨h1,_⟩
      exact hf (fU.1 h1 _ (cF.2 ⟨x,hxm,rfl⟩))
     rw[qZ]
     exact⟨rfl,aO.bK (aO.refl _) hb⟩
 · rw[eD] at hinv
   have hok:∀t∈vars.map (rs σ),bF N t:=fun t ht=>by
    obtain⟨v,hvm,rfl⟩:=cF.1 ht
    have hf:=fU.1 hinv _ ht
    unfold fA at hf
    simp only[cY,bM] at hf
    exact⟨G.mI ho.mI v (hv v hvm).1 (hv v hvm).2,hf.2⟩
   have hsz:aH Tm.nodes (vars.map (rs σ))≤1099511627776:=by
    have:=aM1 (l:=vars.map (rs σ)) fun t ht=>(hok t ht).2
    rw[aE] at this
    omega
   simp only[hge,gW,lV,iC,nE,K4,lF,eD,aB,seval]
   refine(QA (vars.map (rs σ)) _ hsz).to ?_
   simp only[aE,aE,aB,seval,IQ]
   refine aQ (fun h=>?_) (fun h=>?_)
   · simp only[aB,seval]
     have h':¬(cA (vars.map (rs σ)) []).length≤26:=by simp at h;omega
     unfold jZ
     rw[aK (fun hh=>h' hh.2)]
     exact⟨rfl,aO.refl _⟩
   · simp only[aB,seval]
     have h':(cA (vars.map (rs σ)) []).length≤26:=by simp at h;omega
     refine(aV6 (vars.map (rs σ)) (by rw[aE];omega) hsz (fun t ht=>(hok t ht).1.small) _).to ?_
     simp only[aB,seval]
     unfold jZ
     rw[aN ⟨hinv,h'⟩]
     exact⟨rfl,aO.refl _⟩
abbrev aPQ:=zi aX (zi cB (zi gL (zi cI (zi dD (zi FC (zi FE IW))))))
theorem aV1(p:List Cl)(q:List Tm)(fuel:Int)(idx:Bool)(hq:q.length≤1048576)(st:aA) :
 aD prog 152 [.slice (p.map aG),.slice (q.map Tm.av),.int .i64 fuel,.bool idx] st (fun r st'=>∃S c m,r=.ptr S 0∧dL st st' S c m (.fslice []) (.fslice []) (.fslice []) p q idx fuel 0 0 [] (oY q)):=by
 have BA:=fun st=>P3 q 0 (-1) [] hq st
 simp only[eU] at BA
 rw[eT] at BA
 refine wF [1000000,16] 4 func152 ntmps152 rfl rfl ?_
 intro _
 simp only[aB,seval]
 refine(aV2 st).mono ?_
 rintro _ s1 ⟨c,m,rfl,hS,hQ,hc,hm⟩
 simp only[aB,seval,aPQ]
 intro S hS0
 have hSc:S≠c:=by rintro rfl;rw[hS.sub.cells] at hS0;cases hS0
 have hSm:S≠m:=by rintro rfl;rw[hS.sub.map] at hS0;cases hS0
 refine(BA _).to ?_
 obtain⟨l1,l2,l3,l4,l5,l6⟩:=pW (q.map (fun t=>(⟨t,0,-1⟩:IG)))
 simp only[aM,aA.aJ,l4,l5,aB,seval,aPQ]
 refine⟨S,c,m,rfl,?_⟩
 have hcm:c≠m:=by rintro rfl;have:=hS.sub.cells;rw[hS.sub.map] at this;cases this
 have aKP:st S=none:=by
  cases hh:st S with
  | none=>rfl
  | some o=>have:=hQ.frame S o hh hSc hSm (by simp [dQ]);rw[hS0] at this;cases this
 refine⟨aA.aJ _ _ _,hS.aC hSc hSm (by simp [dQ]),.inl ⟨rfl,rfl⟩,.inl ⟨rfl,rfl⟩,rfl,by simp,?_,?_,?_⟩
 · simp [iW,dQ,bU,hSc,hSm,hcm]
 · intro b hb
   rcases eM.1 hb with rfl | rfl | rfl | hb | hb | hb
   · exact aKP
   · exact hc
   · exact hm
   · simp [dQ] at hb
   · simp [bU] at hb
   · simp [bU] at hb
 · intro b o hb
   have e1:b≠S:=by rintro rfl;rw[aKP] at hb;cases hb
   rw[aA.aF _ _ e1]
   exact hQ.frame b o hb (by rintro rfl;rw[hc] at hb;cases hb) (by rintro rfl;rw[hm] at hb;cases hb) (by simp [dQ])
theorem aT2(p:List Cl)(q:List Tm)(most fuel:Int)(st:aA) :
 aD prog 151 [.slice (p.map aG),.slice (q.map Tm.av),.int .i64 most,.int .i64 fuel] st (fun r st'=>r=.bool (qG p&&(rI q&&(decide (0≤most)&&(decide (most≤20)&&(decide (0≤fuel)&&decide (fuel≤300))))))∧st'=st):=by
 have h1:=fun st=>PW p st
 have h2:=fun st=>X7 q st
 have h3:=fun n lo hi st=>sD n lo hi st
 refine wF [] 4 func151 ntmps151 rfl rfl ?_
 intro _
 simp only[aB,seval]
 refine(h1 _).to ?_
 simp only[aB,seval]
 refine cP (fun h=>?_) (fun h=>?_)
 · simp only[h,aB,seval]
   refine(h2 _).to ?_
   simp only[aB,seval]
   refine cP (fun h5=>?_) (fun h5=>?_)
   · simp only[h5,aB,seval]
     refine(h3 _ _ _ _).to ?_
     simp only[aB,seval]
     refine cP (fun h6=>?_) (fun h6=>?_)
     · simp only[h6,aB,seval]
       refine(h3 _ _ _ _).to ?_
       simp only[aB,seval]
       rw[←Bool.and_assoc (decide (0≤most)),h6,gM]
     · simp only[h6,aB,seval]
       rw[←Bool.and_assoc (decide (0≤most)),h6]
       try rfl
   · simp only[h5,aB,seval]
     rw[jT]
 · simp only[h,aB,seval]
   rw[jT]
theorem aWA(st:aA):aD prog 154 [] st (fun r st'=>r=.tup []∧st'=st):=by
 refine wF [1000000] 0 func154 ntmps154 rfl rfl ?_
 intro _
 simp only[aB,seval,]
structure OZ where
 st:aA
 qt:AV
 qc:AV
 qn:AV
 mx:Int
 nd:List AV
 s:RS
 i:IS
 out:List (List Tm)
 b:Nat
 u:Nat
 B:Nat
 M:Nat
 e:Int
structure aQ6 (st0:aA) (S c m:Nat) (p:List Cl) (q:List Tm) (idx:Bool) (cnd:Tm→List Nat→List Nat) (vars:List Int) (most fuel:Nat) (T:List (List Tm)×Int) (x:OZ):Prop where
 a:dL st0 x.st S c m x.qt x.qc x.qn p q idx fuel x.u x.mx x.nd x.i
 r:RI p x.B x.M x.u x.s x.i
 t:T=(x.out++(jF p cnd vars (most - x.out.length) (fuel - x.u) x.i).1,(jF p cnd vars (most - x.out.length) (fuel - x.u) x.i).2)
 u:x.u≤fuel
 B:x.B≤26+26*x.u
 M:x.M≤26+520*x.u
structure WB (st0:aA) (S c m:Nat) (p:List Cl) (q:List Tm) (idx:Bool) (cnd:Tm→List Nat→List Nat) (vars:List Int) (most fuel:Nat) (T:List (List Tm)×Int) (x:OZ):Prop where
 d:aO x.st st0
 b:x.out.map dM≠[]→x.st x.b=none
 l:x.out.length≤most
 g:x.e= -1→aQ6 st0 S c m p q idx cnd vars most fuel T x
 f:x.e≠-1→T=(x.out,x.e)
abbrev NC:=zi aX (zi cB (zi cI (zi dD (zi BY (zi iP (zi NL (zi FC (zi pH (zi FE IW)))))))))
set_option maxHeartbeats 2000000 in
theorem aV8{p:List Cl}(hp:∀c∈p,gF c∧c.2.length≤6)(hpl:p.length≤20){cnd:Tm→List Nat→List Nat}(hc:∀(ρ:Int→Int) (t:Tm) (l:List Nat),cnd (bZ ρ t) l=cnd t l)(hd:∀t l,(∀i∈cnd t l,i∈l)∧(cnd t l).length≤l.length){idx:Bool}(yP:ON p idx cnd)
 {q:List Tm} (hq:∀t∈q,bF 26 t∧t.k=3) (h6:q.length≤6) {most fuel:Nat} (hm:most≤20) (hf:fuel≤300) {st0 st:aA} {S c m:Nat} (yQ:idx=true→st0 uM=some xI) (h:dL st0 st S c m (.fslice []) (.fslice []) (.fslice []) p q idx fuel 0 0 [] (oY q)) :
 aD prog 153 [.ptr S 0,.int .i64 (most:Int),.func 154 []] st (fun r st'=>∃b s,r=.tup [bQ 1 b ((jF p cnd (cA q []) most fuel (oY q)).1.map dM),.int .i64 (jF p cnd (cA q []) most fuel (oY q)).2]∧st'=bK s b ((jF p cnd (cA q []) most fuel (oY q)).1.map dM)∧((jF p cnd (cA q []) most fuel (oY q)).1.map dM≠[]→s b=none)∧aO s st0):=by
 have hnd:aH Tm.nodes q≤1099511627776:=by
  have:=EA q fun t ht=>(hq t ht).1.2
  omega
 have hva:=fun st=>QA q st hnd
 have hv:∀v∈cA q [],0≤v∧v<26:=fun v hv=>by
  rcases (xR q [] fun t ht=>(hq t ht).1.1.2.1).1 hv with h | ⟨t,ht,h⟩
  · cases h
  · exact(hq t ht).1.1.2.2 v h
 have hvl:(cA q []).length≤1000:=by
  have h1:=zH q []
  have h2:=EA q fun t ht=>(hq t ht).1.2
  simp only[bG] at h1
  omega
 have LT:=RI.start (p:=p) hq h6
 generalize hT:jF p cnd (cA q []) most fuel (oY q)=T
 generalize cA q []=vars at *
 have hI0:WB st0 S c m p q idx cnd vars most fuel T ⟨st,.fslice [],.fslice [],.fslice [],0,[],nH q,oY q,[],0,0,26,26,-1⟩:=
  ⟨h.kH,by simp,nO _,fun _=>⟨h,LT,by rw[←hT];try rfl,nO _,cZ _,cZ _⟩,fun h=>absurd rfl h⟩
 have RQ:=h.cell
 simp only[g9] at RQ
 obtain⟨l1,l2,l3,l4,l5,l6⟩:=pW (oY q).goals
 refine wF [1000000] 3 func153 ntmps153 rfl rfl ?_
 intro _
 simp only[RQ,aB,seval,NC]
 refine(hva _).to ?_
 simp only[aB,seval]
 clear RQ l1 l2 l3 l4 l5 l6
 have hne:∀l:List IG,eG prog .neq 207 (eT l) .nilptr=some (.bool (!l.isEmpty)):=fun l=>by
  have h:prog.underlying 207=some (.pointer 225):=by kernel_rfl
  cases l with
  | nil=>rw[eT];simp only[eG,h];rfl
  | cons g l=>obtain⟨⟨k,n,s,ts⟩,cut,up⟩:=g;rw[t8];simp only[eG,h];rfl
 refine oI (σ:=OZ) [1000000] [0,1,2,8] (fun x=>WB st0 S c m p q idx cnd vars most fuel T x)
  (fun x=>[(6,.fslice []),(7,.int .i64 0),(9,bQ 1 x.b (x.out.map dM)),(10,.int .i64 x.e)])
  (fun x=>bK x.st x.b (x.out.map dM))
  (fun x=>(most - x.out.length)+(fuel - x.u)+(if x.e= -1 then 1 else 0)) (by decide +kernel) ⟨_,hI0,aP.mk (by simp only[lT,bS,aB,seval])⟩ ?_
 clear hI0 h hT LT
 rintro⟨st,qt,qc,qn,mx,nd,s,i,out,b,u,B,M,e⟩ ⟨hdr,hb,hlen,hgo,fM⟩
 simp only at hdr hb hlen hgo fM
 simp only
 simp only[aB,seval]
 refine aQ (fun h=>?_) (fun h=>?_)
 case refine_2=>
  have h':e≠-1:=by simpa using h
  have hTe:=fM h'
  subst hTe
  simp only[mC,aB,seval]
  exact⟨b,st,rfl,rfl,hb,hdr⟩
 obtain rfl:e= -1:=by simpa using h
 obtain⟨ha,hR,ht,hu,hBB,hMM⟩:=hgo rfl
 simp only at ha hR ht hu hBB hMM
 have hb0:out.map dM≠[]→st0 b=none:=fun h=>(hdr b).1 (hb h)
 have hA:=ha.acc hb
 have a3T:idx=true→bK st0 b (out.map dM) uM=some xI:=fun hi=>by
  by_cases hl:out.map dM= []
  · rw[hl];exact yQ hi
  · rw[nQ (by rintro rfl;have:=hb0 hl;rw[yQ hi] at this;cases this)];exact yQ hi
 have hlo:(out.map dM).length=out.length:=aE _
 have hun:prog.underlying 128=some (.slice 156):=by kernel_rfl
 have vJ:=GI (w:=1) (b:=b) (l:=out.map dM) hun
 rw[hlo] at vJ
 have LU:∀l:List (List Tm),∀e∈l.map dM,e.width=1:=fun l e he=>by simp only[cF] at he;obtain⟨t,_,rfl⟩:=he;rfl
 have iN:=hA.cell
 simp only[g9] at iN
 obtain⟨l1,l2,l3,l4,l5,l6⟩:=pW i.goals
 have n6:=hne i.goals
 simp only[aB,seval]
 refine(aWA _).to ?_
 simp only[iN,l1,n6,aB,seval,NC]
 cases hg:i.goals with
 | cons g rest=>
  rw[hg] at n6
  simp only[List.isEmpty_cons,kO] at n6
  refine aQ (fun h2=>?_) (fun h2=>absurd h2 (by first | rw[hg];simp | simp))
  simp only[aB,seval]
  rw[a4G hg] at ht
  have rD:=aWH hp hpl hc hd yP (B:=B) (M:=M) (k:=u) (by omega) (by omega) (by omega) a3T hA hR hg (by omega) (by omega)
  have hRs:=hR.step hp hpl hc hd (by omega) hg
  have hse:=a4K (p:=p) (cnd:=cnd) (i:=i) (g:=g) (rest:=rest)
  refine rD.mono ?_
  clear rD
  rintro r s2 hr
  split at hr
  · rename_i hfu
    obtain⟨rfl,hA2⟩:=hr
    obtain⟨s3,rfl,hb3,hA3⟩:=hA2.B1 hb0
    rw[aN (by omega)] at ht
    simp only[aB,seval]
    exact⟨⟨s3,qt,qc,qn,mx,nd,s,i,out,b,u,B,M,2⟩,by simp,⟨hA3.kH,hb3,hlen,fun h=>absurd h (by simp),fun _=>by rw[ht];simp⟩,aP.mk (by simp only[aB,seval])⟩
  · rename_i hfu
    have bCU:u<fuel:=by omega
    rw[aK (by omega)] at ht
    cases hS:mE p cnd i g rest with
    | stop e=>
     rw[hS] at hr ht hse
     simp only[WC] at hse
     simp only at ht
     obtain⟨rfl,qt2,qc2,qn2,mx2,nd2,i2,hA2⟩:=hr
     obtain⟨s3,rfl,hb3,hA3⟩:=hA2.B1 hb0
     simp only[aB,seval]
     exact⟨⟨s3,qt,qc,qn,mx,nd,s,i,out,b,u,B,M,e⟩,by simp [hse],⟨hA3.kH,hb3,hlen,fun h=>absurd h hse,fun _=>by rw[ht];simp⟩,aP.mk (by simp only[aB,seval])⟩
    | go i'=>
     rw[hS] at hr ht hRs
     simp only at ht hRs
     obtain⟨s',hR'⟩:=hRs
     obtain⟨rfl,qt2,qc2,qn2,mx2,nd2,hA2⟩:=hr
     obtain⟨s3,rfl,hb3,hA3⟩:=hA2.B1 hb0
     simp only[aB,seval]
     exact⟨⟨s3,qt2,qc2,qn2,mx2,nd2,s',i',out,b,u+1,B+26,M+520,-1⟩,by simp;omega,⟨hA3.kH,hb3,hlen,fun _=>⟨hA3,hR',by rw[ht,Nat.sub_sub],by simp only;omega,by simp only;omega,by simp only;omega⟩,fun h=>absurd rfl h⟩,aP.mk (by simp only[aB,seval])⟩
    | fail i'=>
     rw[hS] at hr ht hRs
     simp only[FW] at ht hRs hr
     obtain⟨_,_,_,hRb⟩:=hRs
     cases hbk:gP p i'.chs.length i' with
     | none=>
      rw[hbk] at hr ht
      simp only at ht
      obtain⟨rfl,qt2,qc2,qn2,mx2,nd2,i2,hA2⟩:=hr
      obtain⟨s3,rfl,hb3,hA3⟩:=hA2.B1 hb0
      simp only[aB,seval]
      exact⟨⟨s3,qt,qc,qn,mx,nd,s,i,out,b,u,B,M,0⟩,by simp,⟨hA3.kH,hb3,hlen,fun h=>absurd h (by simp),fun _=>by rw[ht];simp⟩,aP.mk (by simp only[aB,seval])⟩
     | some i2=>
      rw[hbk] at hr ht
      simp only at ht
      obtain⟨s',hR'⟩:=hRb i2 hbk
      obtain⟨rfl,qt2,qc2,qn2,mx2,nd2,hA2⟩:=hr
      obtain⟨s3,rfl,hb3,hA3⟩:=hA2.B1 hb0
      simp only[aB,seval]
      exact⟨⟨s3,qt2,qc2,qn2,mx2,nd2,s',i2,out,b,u+1,B+26,M+520,-1⟩,by simp;omega,⟨hA3.kH,hb3,hlen,fun _=>⟨hA3,hR',by rw[ht,Nat.sub_sub],by simp only;omega,by simp only;omega,by simp only;omega⟩,fun h=>absurd rfl h⟩,aP.mk (by simp only[aB,seval])⟩
 | nil=>
  rw[hg] at n6
  simp only[List.isEmpty_nil,fG] at n6
  refine aQ (fun h2=>absurd h2 (by first | rw[hg];simp | simp)) (fun h2=>?_)
  simp only[vJ,aB,seval]
  rw[a4H hg] at ht
  refine aQ (fun h2=>?_) (fun h2=>?_)
  · have h':out.length=most:=by simp at h2;omega
    rw[aN (by omega)] at ht
    simp only[mC,aB,seval]
    have hTe:T=(out,1):=by rw[ht];simp
    subst hTe
    exact⟨b,st,rfl,rfl,hb,hdr⟩
  have h':out.length<most:=by simp at h2;omega
  rw[aK (by omega)] at ht
  simp only[iN,hg,aB,seval,NC]
  obtain⟨hgd,ho,_,_⟩:=hR.r.facts
  have hfr:26≤i.fresh:=by
   obtain⟨ρ,S',_⟩:=hR.r
   have h1:=S'.rng 25 (by omega) (by have:=S'.h26;omega)
   rw[S'.idn 25 (by omega) (by omega)] at h1
   omega
  refine(aWV (N:=i.fresh) hgd ho vars (fun v h=>⟨(hv v h).1,by have:=(hv v h).2;omega⟩) hvl c m qt _ hA.sto.sub).to ?_
  cases qZ:jZ i.σ vars with
  | none=>
   rw[qZ] at ht
   simp only[VO]
   simp only at ht
   simp only[mC,aB,seval]
   have hTe:T=(out,3):=by rw[ht];simp
   subst hTe
   exact⟨b,st,rfl,rfl,hb,hdr⟩
  | some a=>
   rw[qZ] at ht
   simp only[VO]
   simp only at ht
   simp only[aB,seval,NC]
   refine gA (P:=prog) (b:=b) (l:=out.map dM) (xs:=[dM a]) KQ QO QY rfl rfl (g8 rfl rfl) (LU out) hb (by simp only[a8,bG,hlo];omega) (by simp only[a8,bG,hlo];omega) (fun b' hb'=>?_)
   rw[show(out.map dM)++ [dM a]=(out++ [a]).map dM by simp] at hb' ⊢
   have hA':=ha.acc hb'
   have aKW:(out++ [a]).map dM≠[]→st0 b'=none:=fun h=>(hdr b').1 (hb' h)
   have a2K:=hA'.cell
   simp only[g9] at a2K
   simp only[aB,seval]
   have hbk:=J7 hp (M:=M) (by omega) _ qt qc qn mx nd i s.chs (st0:=bK st0 b' ((out++ [a]).map dM)) (S:=S) (c:=c) (m:=m) (q:=q) (idx:=idx) (fuel:=fuel) (used:=u) (T:=gP p i.chs.length i) ⟨hA',hR.cr,hR.x,rfl,by have:=hR.pT;have:=hR.n;constructor<;>omega⟩
   refine hbk.mono ?_
   rintro r s2 hr
   have hln:(out++ [a]).length=out.length+1:=by simp
   cases hbk:gP p i.chs.length i with
   | none=>
    rw[hbk] at hr ht
    simp only at ht
    obtain⟨rfl,qt2,qc2,qn2,mx2,nd2,i2,hA2⟩:=hr
    obtain⟨s3,rfl,hb3,hA3⟩:=hA2.B1 aKW
    simp only[aB,seval]
    exact⟨⟨s3,qt,qc,qn,mx,nd,s,i,out++ [a],b',u,B,M,0⟩,by simp only[hln];simp;omega,⟨hA3.kH,hb3,by simp only[hln];omega,fun h=>absurd h (by simp),fun _=>by rw[ht]⟩,aP.mk (by simp only[aB,seval])⟩
   | some i2=>
    rw[hbk] at hr ht
    simp only at ht
    obtain⟨s',hR'⟩:=hR.back hp (by omega) hbk
    obtain⟨rfl,qt2,qc2,qn2,mx2,nd2,hA2⟩:=hr
    obtain⟨s3,rfl,hb3,hA3⟩:=hA2.B1 aKW
    simp only[aB,seval]
    exact⟨⟨s3,qt2,qc2,qn2,mx2,nd2,s',i2,out++ [a],b',u,B,M,-1⟩,by simp [hln];omega,⟨hA3.kH,hb3,by simp only[hln];omega,fun _=>⟨hA3,hR',by rw[ht];simp only[hln,kC,gR,eE,Nat.sub_sub],hu,hBB,hMM⟩,fun h=>absurd rfl h⟩,aP.mk (by simp only[aB,seval])⟩
theorem CD.a6R{st st':aA}{a o:AV}{k:IntKind}{n:Int}(h:Made st a o st'):CD st [a,.int k n] (.tup [o,.int k n]) st':=by
 obtain⟨bs,h1,h2,h3,h4⟩:=h
 exact⟨_,bs,rfl,h1,h2,a6Z.2 ⟨o,.int k n,bs,[],rfl,by simp,h3,⟨rfl,rfl⟩⟩,h4⟩
def OX(st:aA)(L:List AV)(e:Int)(r:AV)(st':aA):Prop:=∃o,r=.tup [o,.int .i64 e]∧Made st (.slice L) o st'∧(L= []→o=.fslice [])
structure uX (st:aA) (L:List AV) (b i:Nat) (os:List AV) (bs:List Nat) (s:aA):Prop where
 len:os.length=i
 own:aV s (L.take i) os bs
 nd:bs.Nodup
 new:∀q∈bs,st q=none
 bn:L≠[]→b∉bs
 cell:L≠[]→s b=some (.cells (os.flatMap AV.cells++(L.drop i).flatMap AV.cells))
 aU:∀q,q∉bs→(L≠[]→q≠b)→s q=st q
theorem uX.start{st:aA}{L:List AV}{b:Nat}:uX st L b 0 [] [] (bK st b L):=by
 refine⟨rfl,by simp [aV],mJ,by simp,by simp,fun h=>?_,fun q _ h=>?_⟩
 · rw[lS h,aA.aJ];try rfl
 · cases L with
   | nil=>rfl
   | cons x l=>exact nQ (h (by simp))
theorem uX.done{st s:aA}{L os:List AV}{b w:Nat}{bs:List Nat}(h:uX st L b L.length os bs s)(hb:L≠[]→st b=none)(hw:∀e∈L,e.width=w):Made st (.slice L) (bQ w b L) s:=by
 obtain⟨h1,h2,h3,h4,h5,h6,h7⟩:=h
 rw[eD] at h2
 by_cases hL:L= []
 · subst hL
   simp only[aV] at h2
   obtain⟨rfl,rfl⟩:=h2
   exact⟨[],mJ,by simp,.inl ⟨rfl,rfl,rfl⟩,fun q hq=>h7 q hq (fun h=>absurd rfl h)⟩
 · refine⟨b::bs,FS.2 ⟨h5 hL,h3⟩,fun q hq=>?_,?_,fun q hq=>?_⟩
   · rcases cG.1 hq with rfl | hq
     · exact hb hL
     · exact h4 q hq
   · rw[r7 hL]
     refine .inr ⟨b,bs,os,w,rfl,rfl,?_,h2,hw⟩
     have:=h6 hL
     rw[iA] at this
     simpa using this
   · simp only[cG,jI] at hq
     exact h7 q hq.2 fun _=>hq.1
theorem uX.step{st s s2:aA}{L os B:List AV}{b i:Nat}{bs bx:List Nat}{e r:AV}(h:uX st L b i os bs s)(he:L[i]?=some (.agg [e]))(hB:(L.drop (i+1)).flatMap AV.cells=B)(m1:bx.Nodup)(m2:∀q∈bx,s q=none)(m3:aS s2 e r bx)(m4:∀q,q∉bx→s2 q=s q) :
 uX st L b (i+1) (os++ [.agg [r]]) (bs++bx) (s2.aC b (.cells (os.flatMap AV.cells++ [r]++B))):=by
 obtain⟨h1,h2,h3,h4,h5,h6,h7⟩:=h
 have hi:i<L.length:=(fC.1 he).1
 have hL:L≠[]:=by rintro rfl;simp at hi
 have yR:=aV.gK _ _ _ h2
 have w8:∀q∈bs,s q≠none:=fun q hq=>by obtain⟨cs,e1,_⟩:=yR.2 q hq;rw[e1];simp
 have hsb:=h6 hL
 have hbx:b∉bx:=fun hq=>by have:=m2 b hq;rw[hsb] at this;cases this
 have kS:∀q∈bs,q∉bx:=fun q hq hq'=>w8 q hq (m2 q hq')
 have hbs:∀q∈bs,(s2.aC b (.cells (os.flatMap AV.cells++ [r]++B))) q=s q:=fun q hq=>by
  rw[aA.aF _ _ (by rintro rfl;exact h5 hL hq),m4 q (kS q hq)]
 refine⟨by simp [h1],?_,mA.2 ⟨h3,m1,fun a ha c hc e=>kS a ha (e▸hc)⟩,fun q hq=>?_,fun _ hq=>?_,fun _=>?_,fun q hq hne=>?_⟩
 · rw[fN,he,JJ]
   refine h2.snoc hbs ?_
   refine a63.2 ⟨r,rfl,aS.aU _ _ _ (fun x hx=>?_) m3⟩
   exact aA.aF _ _ (by rintro rfl;exact hbx hx)
 · rcases eL.1 hq with hq | hq
   · exact h4 q hq
   · have h8:q∉bs:=fun h=>kS q h hq
     have h9:q≠b:=by rintro rfl;exact hbx hq
     rw[←h7 q h8 fun _=>h9]
     exact m2 q hq
 · rcases eL.1 hq with hq | hq
   · exact h5 hL hq
   · exact hbx hq
 · rw[aA.aJ,hB]
   simp [AV.cells]
 · simp only[eL,jI] at hq
   rw[aA.aF _ _ (hne hL),m4 q hq.2,h7 q hq.1 hne]
abbrev aPR:=zi aX (zi cB (zi gL (zi cI (zi BY (zi NL FC)))))
set_option maxHeartbeats 2000000 in
theorem aUZ(p:List Cl){cnd:Tm→List Nat→List Nat}(hc:∀(ρ:Int→Int) (t:Tm) (l:List Nat),cnd (bZ ρ t) l=cnd t l)(hd:∀t l,(∀i∈cnd t l,i∈l)∧(cnd t l).length≤l.length){idx:Bool}(yP:ON p idx cnd)
 (q:List Tm) (most fuel:Int) (st:aA) (yQ:idx=true→st uM=some xI) :
 aD prog 132 [.slice (p.map aG),.slice (q.map Tm.av),.int .i64 most,.int .i64 fuel,.bool idx] st (OX st ((mX p cnd q most fuel).1.map dM) (mX p cnd q most fuel).2):=by
 have aK1:=aT2 p q most fuel
 have G9:=a8J p hd q most fuel
 refine wF [1000000] 5 func132 ntmps132 rfl rfl ?_
 intro _
 simp only[aB,seval]
 refine(aK1 _).to ?_
 simp only[aB,seval]
 refine aQ (fun h=>?_) (fun h=>?_)
 · have hS:mX p cnd q most fuel=([],9):=by
    unfold mX
    rw[aK (by rw[show uN p q most fuel=false from by unfold uN;simpa only[gZ] using h];simp)]
   rw[hS]
   simp only[aB,seval]
   exact⟨_,rfl,⟨[],mJ,by simp,.inl ⟨rfl,rfl,rfl⟩,fun _ _=>rfl⟩,fun _=>rfl⟩
 have hok:uN p q most fuel=true:=by unfold uN;simpa using h
 have hk:=hok
 simp only[uN,cY,bM] at hk
 obtain⟨kp,kq,k1,k2,k3,k4⟩:=hk
 obtain⟨p1,p2⟩:=TA kp
 obtain⟨q1,q2⟩:=TB kq
 have hTT:mX p cnd q most fuel=jF p cnd (cA q []) most.toNat fuel.toNat (oY q):=by
  unfold mX
  rw[aN hok,a8K (fun c h=>(p2 c h).1) hc q2]
 rw[hTT] at G9 ⊢
 clear hTT aK1 hok h
 obtain⟨mo,rfl⟩:=JA k1
 obtain⟨fu,rfl⟩:=JA k3
 rw[kB,kB] at G9 ⊢
 simp only[aB,seval]
 refine(aV1 p q (fu:Int) idx (by omega) st).mono ?_
 rintro _ s1 ⟨S,c,m,rfl,hA⟩
 simp only[aB,seval]
 refine(aV8 p2 p1 hc hd yP q2 q1 (most:=mo) (fuel:=fu) (by omega) (by omega) yQ hA).mono ?_
 generalize jF p cnd (cA q []) mo fu (oY q)=T at G9 ⊢
 rintro _ _ ⟨b,s2,rfl,rfl,hb,hD⟩
 obtain⟨L,e⟩:=T
 simp only at G9 hb ⊢
 have hb':L.map dM≠[]→st b=none:=fun h=>(hD b).1 (hb h)
 have hun:prog.underlying 128=some (.slice 156):=by kernel_rfl
 have vJ:=GI (w:=1) (b:=b) (l:=L.map dM) hun
 rw[aE] at vJ
 have hwd:∀e∈L.map dM,e.width=1:=fun e he=>by simp only[cF] at he;obtain⟨t,_,rfl⟩:=he;rfl
 simp only[vJ,aB,seval]
 refine dI (σ:=List AV×List Nat×aA) [1000000] [10,11,12,13,32,33] L (fun j x=>uX st (L.map dM) b j x.1 x.2.1 x.2.2) (fun j x=>[(34,.int .i64 j)]) (fun j x=>x.2.2) (by decide +kernel) ⟨([],[],bK st b (L.map dM)),uX.start,aP.drop (aXU hD) (by simp only[aB,↓aW,seval])⟩ (fun j a x hx hlt a7 hdr hinv=>?_) (fun x hge hinv=>?_)
 case refine_2=>
  simp only[hge,mC,aB,seval]
  have a28:uX st (L.map dM) b (L.map dM).length x.1 x.2.1 x.2.2:=by rw[aE];exact hinv
  exact⟨_,rfl,a28.done hb' hwd,fun h=>by rw[h];try rfl⟩
 obtain⟨os,bs,s⟩:=x
 simp only at hinv
 have hw:=aZ (n:=(j:Int)+1)
 have hne:L.map dM≠[]:=by intro h;have:=iT List.length h;simp at this;subst this;simp at hlt
 have mU:(L.map dM)[j]?=some (.agg [.slice (a.map Tm.av)]):=by rw[kD,hx];try rfl
 have hc2:=hinv.cell hne
 have a2V:((L.map dM).drop j).flatMap AV.cells= [.slice (a.map Tm.av)]++((L.map dM).drop (j+1)).flatMap AV.cells:=by
  rw[←List.map_drop,hdr,bR,rU,List.map_drop];try rfl
 rw[a2V,←kC] at hc2
 have hA2:(os.flatMap AV.cells).length=j*1:=by
  rw[hinv.own.K9 (fun q hq=>hwd q (l9 hq)),dZ,aE,kQ (by omega)]
 obtain⟨e1,e2,e3,e4,e5,e6⟩:=vN (B:=((L.map dM).drop (j+1)).flatMap AV.cells) hA2
 have hat:=kT (P:=prog) (b:=b) (w:=1) (i:=j) KQ (len:=(L.map dM).length) (by rw[aE];omega)
 have htk:List.take 1 (List.drop (j*1) (os.flatMap AV.cells++ [.slice (a.map Tm.av)]++((L.map dM).drop (j+1)).flatMap AV.cells))= [.slice (a.map Tm.av)]:=by
  rw[kC,List.drop_append,List.drop_of_length_le (by omega),hA2]
  simp
 obtain⟨hal,hav⟩:=G9.2 a (cH hx)
 rw[r7 hne] at vJ ⊢
 rw[aE] at hat vJ ⊢
 simp only[a7,hat,hc2,htk,e5,aB,↓aW,seval,aPR]
 refine(MA a _ (by omega) fun x hx s=>HZ x s (Tm.bAR (fU.1 hav x hx))).mono ?_
 rintro r s3 ⟨bx,m1,m2,m3,m4⟩
 have hbx:b∉bx:=fun h=>by have:=m2 b h;rw[hc2] at this;cases this
 have f1:=(m4 b hbx).trans hc2
 obtain⟨hqc,hqs,hqa,hqw,hqj⟩:=aS.sS m3
 simp only[hat,f1,hqc,hqs,e4,e5,lQ,qL,aB,seval,aPR]
 exact⟨(os++ [.agg [r]],bs++bx,s3.aC b (.cells (os.flatMap AV.cells++ [r]++((L.map dM).drop (j+1)).flatMap AV.cells))),hinv.step mU rfl m1 m2 m3 m4,aP.mk (by simp only[hw,aB,seval])⟩
theorem aUY(p:List Cl)(q:List Tm)(most fuel:Int)(st:aA) :
 aD prog 112 [.slice (p.map aG),.slice (q.map Tm.av),.int .i64 most,.int .i64 fuel] st (OX st ((mX p (fun _ l=>l) q most fuel).1.map dM) (mX p (fun _ l=>l) q most fuel).2):=by
 refine wF [1000000] 4 func112 ntmps112 rfl rfl ?_
 intro _
 simp only[aB,seval]
 refine(aUZ p (cnd:=fun _ l=>l) (fun _ _ _=>rfl) (fun _ l=>⟨fun _ h=>h,cZ _⟩) (idx:=false) rfl q most fuel st (fun h=>by cases h)).mono ?_
 intro r s1 h
 obtain⟨o,rfl,hM,hN⟩:=h
 obtain⟨hqc,hqs,hqa,hqw,hqj⟩:=aS.sS hM.choose_spec.2.2.1
 simp only[hqj,aB,seval]
 exact⟨_,rfl,hM,hN⟩
abbrev UN:=zi aX (zi cB (zi lM pI))
theorem aUE(l l':List Fr)(st:aA)(hc:∀x∈l,∀(y:Fr) (st:aA),aD prog 98 [bJ x,bJ y] st (fun r st'=>r=.bool (wV x y)∧st'=st)) :
 aD prog 75 [.slice (l.map bJ),.slice (l'.map bJ)] st (fun r st'=>r=.bool (jL wV l l')∧st'=st):=by
 refine wF [] 2 func75 ntmps75 rfl rfl ?_
 simp only[cV,AV.fits,dE,aE]
 intro ⟨⟨hl,_⟩,⟨hl',_⟩⟩
 simp only[aE,aB,seval,UN]
 refine⟨fun h4=>?_,fun h4=>?_⟩
 · simp only[aB,seval]
   simp only[gZ,cL] at h4
   rw[DI _ (show l.length≠l'.length by omega)]
 simp only[aB,seval]
 simp only[kZ,bM] at h4
 have h4':l.length=l'.length:=by omega
 refine oJ (α:=Nat) [] (fun i=>i≤l.length∧∀(j:Nat) (x y:Fr),j<i→l[j]?=some x→l'[j]?=some y→wV x y=true)
  (fun i=>[(0,.slice (l.map bJ)),(1,.slice (l'.map bJ)),(5,.int .i64 i)]) (fun _=>st) (fun i=>l.length - i) (by decide +kernel)
  ⟨0,⟨by omega,by intro j x y h;omega⟩,aP.mk (by simp only[aB,↓aW,seval])⟩ ?_
 intro i ⟨hi,dN⟩
 simp only[aE,aB,seval,UN]
 refine⟨fun h5=>?_,fun h5=>?_⟩
 case refine_2=>
  simp only[aB,seval]
  simp only[cL,g7] at h5
  rw[DG _ h4' (fun j x y h6 h7=>dN j x y (by have:=(fC.1 h6).1;omega) h6 h7)]
 simp only[bM,g7] at h5
 obtain⟨x,hx⟩:∃x,l[i]?=some x:=⟨_,eK h5⟩
 obtain⟨y,hy⟩:∃y,l'[i]?=some y:=⟨_,eK (h4'▸h5)⟩
 simp only[aB,seval]
 refine GO mixed (by decide +kernel) (by decide +kernel) ?_
 simp only[bH (av:=bJ) mS hx (nX x),bH (av:=bJ) mS hy (nX y),G7,nX,aB,seval,UN]
 refine(hc x (cH hx) y st).to ?_
 simp only[aB,seval]
 refine⟨fun h6=>?_,fun h6=>?_⟩
 · simp only[aB,seval]
   have h7:wV x y=false:=by simpa using h6
   rw[DH _ i x y hx hy h7]
 have h7:wV x y=true:=by simpa using h6
 simp only[aB,seval]
 refine⟨i+1,by omega,⟨by omega,fun j u v hj hu hv=>?_⟩,aP.mk ?_⟩
 · rcases mB j i with h8 | h8
   · exact dN j u v h8 hu hv
   · obtain rfl:j=i:=by omega
     rw[hx] at hu;rw[hy] at hv;cases hu;cases hv;exact h7
 · have:=aZ (n:=(i:Int)+1)
   simp only[this,aB,seval]
abbrev UL:=zi aX (zi NQ (zi dD NJ))
theorem aWR(l:List Fr)(left:Int)(st:aA)(h0:0≤left)(h1:left≤1048576)(hc:∀x∈l,∀(left:Int) (st:aA),0≤left→left≤1048576→aD prog 80 [bJ x,.int .i64 left] st (fun r st'=>r=.int .i64 (eY left (t7 x))∧st'=st)) :
 aD prog 53 [.slice (l.map bJ),.int .i64 left] st (fun r st'=>r=.int .i64 (eY left (l.length+aH t7 l))∧st'=st):=by
 refine wF [] 2 func53 ntmps53 rfl rfl ?_
 simp only[cV,AV.fits,dE,aE]
 intro ⟨hl,_⟩
 have hw:=aZ (n:=left - (l.length:Int))
 simp only[aE,hw,aB,seval,UL]
 refine⟨fun h4=>?_,fun h4=>?_⟩
 · simp only[aB,seval]
   simp only[bM] at h4
   simp only[eY]
   rw[aN (by omega)]
 simp only[cL] at h4
 simp only[aB,seval]
 refine oJ (α:=Nat) [] (fun i=>i≤l.length∧((l.length+aH t7 (l.take i):Nat):Int)≤left)
  (fun i=>[(0,.slice (l.map bJ)),(1,.int .i64 (left - ((l.length+aH t7 (l.take i):Nat):Int))),(5,.int .i64 i)]) (fun _=>st) (fun i=>l.length - i) (by decide +kernel)
  ⟨0,⟨by omega,by simp only[kE,aH];omega⟩,aP.mk (by simp only[aH,lQ,aB,↓aW,seval])⟩ ?_
 intro i ⟨hi,hle⟩
 simp only[aE,aB,seval,UL]
 refine⟨fun h5=>?_,fun h5=>?_⟩
 case refine_2=>
  simp only[aB,seval]
  simp only[cL,g7] at h5
  rw[show i=l.length by omega,eD] at hle ⊢
  rw[jJ (by omega)]
 simp only[bM,g7] at h5
 obtain⟨x,hx⟩:∃x,l[i]?=some x:=⟨_,eK h5⟩
 simp only[bH (av:=bJ) QV hx (nX x),G7,nX,aB,seval,UL]
 refine(hc x (cH hx) _ st (by omega) (by omega)).to ?_
 have hs:=rK t7 hx
 simp only[aB,seval]
 refine⟨fun h6=>?_,fun h6=>?_⟩
 · simp only[aB,seval]
   simp only[bM,gV] at h6
   simp only[eY]
   rw[aN (by omega)]
 simp only[cL,gV] at h6
 rw[jJ h6]
 simp only[aB,seval]
 refine⟨i+1,by omega,⟨by omega,by omega⟩,aP.mk ?_⟩
 · have:=aZ (n:=(i:Int)+1)
   have e:(left - ((l.length+aH t7 (l.take (i+1)):Nat):Int))=left - ((l.length+aH t7 (l.take i):Nat):Int) - ((t7 x:Nat):Int):=by omega
   simp only[this,e,aB,seval]
abbrev M0:=zi aX (zi lM (zi NQ (zi pI NJ)))
theorem a6N(l:List Fr)(st:aA)(hb:l.length≤1048576)(hc:∀x∈l,∀(st:aA),aD prog 88 [bJ x] st (Made st (bJ x))) :
 aD prog 63 [.slice (l.map bJ)] st (Made st (.slice (l.map bJ))):=by
 refine wF [] 1 func63 ntmps63 rfl rfl ?_
 intro _
 simp only[aE,qQ,aB,↓aW,seval,M0]
 refine⟨by omega,by omega,by omega,?_⟩
 intro b hn
 rw[kB,BF _ (by simp)]
 refine dI (σ:=List AV×List Nat×aA) [] [0,2,3] l (fun i p=>oP (l.map bJ) [.int .i64 0,.str ⟨#[]⟩] b st i p) (fun i _=>[(4,.int .i64 i)]) (fun _ p=>p.2.2) (by decide +kernel)
  ⟨([],[],_),?_,aP.mk (by simp only[aB,↓aW,seval])⟩ (fun i x p hx hlt a7 hdr hinv=>?_) (fun p hge hinv=>?_)
 · exact oP.start hn (by rw[aE])
 case refine_3=>
  obtain⟨os,bs,s⟩:=p
  simp only[aE,hge,aB,seval,M0]
  exact hinv.done (aE _) (fun e he=>by simp only[cF] at he;obtain⟨t,_,rfl⟩:=he;exact nX t)
 obtain⟨os,bs,s⟩:=p
 simp only[aE,a7,bH (av:=bJ) QV hx (nX x),G7,nX,aB,seval,M0]
 refine(hc x (cH hx) _).mono ?_
 rintro r s2 AZ
 obtain⟨A,B,hs2,hA,hrw,hrs,A0⟩:=hinv.step AZ (show(l.map bJ)[i]?=some (bJ x) by rw[kD,hx];try rfl) (nX x) (fun e he=>by simp only[cF] at he;obtain⟨t,_,rfl⟩:=he;exact nX t) rfl (a1S x) (.inl (G7 x))
 have hat:=kT (b:=b) (len:=l.length) (w:=2) (i:=i) mS hlt
 obtain⟨hp1,hp2⟩:=EK (B:=B) (C:=[.int .i64 0,.str ⟨#[]⟩]) (x:=r.cells) hA rfl hrw
 have hw:=aZ (n:=(i:Int)+1)
 simp only[hat,hs2,hrw,hrs,hp1,hw,aB,seval,M0]
 refine⟨hp2,?_⟩
 exact⟨_,A0,aP.mk (by simp only[aB,seval])⟩
abbrev aOR:=zi aX (zi cB (zi d9 pI))
theorem aUD(x y:Fr)(st:aA):aD prog 98 [bJ x,bJ y] st (fun r st'=>r=.bool (wV x y)∧st'=st):=by
 obtain⟨a,s⟩:=x
 obtain⟨b,t⟩:=y
 simp only[bJ,wV]
 refine wF [1000000] 2 func98 ntmps98 rfl rfl ?_
 intro _
 simp only[aB,seval,aOR]
 refine aQ (fun h1=>?_) (fun h1=>?_)
 · simp only[aB,seval]
   simp only[gZ,cL] at h1
   simp [h1]
 simp only[kZ,bM] at h1
 simp only[aB,seval,aOR]
 refine aQ (fun h2=>?_) (fun h2=>?_)
 · simp only[aB,seval]
   simp only[gZ,cL] at h2
   simp [h2]
 · simp only[aB,seval]
   simp only[kZ,bM] at h2
   simp [h1,h2]
theorem a1U(l:List Fr):jL wV l l=true:=by
 induction l with
 | nil=>rfl
 | cons x l ih=>simp [jL,wV,ih]
theorem XS(l:List Fr)(st:aA):aD prog 75 [bO l,bO l] st (fun r st'=>r=.bool true∧st'=st):=by
 refine(aUE l l st fun x _ y st=>aUD x y st).mono ?_
 rintro _ _ ⟨rfl,rfl⟩
 exact⟨by rw[a1U],rfl⟩
abbrev a84:=zi aX (zi d9 (zi dD NJ))
theorem aWQ(f:Fr)(left:Int)(st:aA)(h0:0≤left)(h1:left≤1048576):aD prog 80 [bJ f,.int .i64 left] st (fun r st'=>r=.int .i64 (eY left (t7 f))∧st'=st):=by
 obtain⟨a,s⟩:=f
 simp only[bJ,t7]
 refine wF [1000000] 2 func80 ntmps80 rfl rfl ?_
 simp only[cV,AV.fits,cV,dE]
 intro hf
 have hs:s.size≤maxLen:=by simpa [AV.fits,cV,maxLen] using hf
 have hm:maxLen=9223372036854775807:=by rfl
 have hw:=aZ (n:=left - (s.size:Int))
 simp only[hw,aB,seval,a84]
 refine aQ (fun h2=>?_) (fun h2=>?_)
 · simp only[aB,seval]
   simp only[bM] at h2
   simp only[eY]
   rw[aN (by omega)]
 · simp only[aB,seval]
   simp only[cL] at h2
   rw[jJ (by omega)]
theorem Y8(l:List Fr)(left:Int)(st:aA)(h0:0≤left)(h1:left≤1048576):aD prog 53 [bO l,.int .i64 left] st (fun r st'=>r=.int .i64 (eY left (sW l))∧st'=st):=
 aWR l left st h0 h1 fun x _ left st h0 h1=>aWQ x left st h0 h1
abbrev a85:=zi aX (zi d9 (zi pI NJ))
theorem a6M(f:Fr)(st:aA):aD prog 88 [bJ f] st (Made st (bJ f)):=by
 obtain⟨a,s⟩:=f
 simp only[bJ]
 refine aD.uH ?_
 refine wF [1000000] 1 func88 ntmps88 rfl rfl ?_
 intro _
 simp only[aM,aB,seval,a85]
 intro b hb b2 hb2
 obtain⟨hne,c⟩:=fT.two hb hb2
 simp only[eC,hne.symm,aB,seval]
 exact(c.aC (d:=b) (by simp) _).none (sT.2 ⟨[],rfl,rfl,rfl⟩)
theorem aMR(l:List Fr)(st:aA)(hb:sW l≤1048576):aD prog 63 [bO l] st (Made st (bO l)):=
 a6N l st (by unfold sW at hb;omega) fun x _ st=>a6M x st
abbrev aOQ:=zi aX (zi d9 (zi lM pI))
theorem YV(l:List Fr)(j:Int)(o:AV)(bs:List Nat)(st:aA)(hO:aS st (bO l) o bs)(hnd:bs.Nodup)(hj0:0≤j)(hj1:j+aH eV l≤1099511627776) :
 aD prog 45 [o,.int .i64 j] st (CE st (bO (dX nY eV l j)) o bs (j+aH eV l)):=by
 obtain⟨hlen,haL⟩:=hO.len
 rw[aE] at hlen
 have haL:=haL prog 44 _ VK
 rw[aE] at haL
 refine wF [1000000] 2 func45 ntmps45 rfl rfl ?_
 simp only[cV]
 intro ⟨hf,_⟩
 have hl:=hlen hf
 clear hf hlen
 simp only[aB,seval]
 refine dI (σ:=List Fr×Int×aA) [1000000] [0,4] l
  (fun i p=>p.1.length=i∧p.1++dX nY eV (l.drop i) p.2.1=dX nY eV l j∧0≤p.2.1∧p.2.1+aH eV (l.drop i)=j+aH eV l∧aS p.2.2 (bO (p.1++l.drop i)) o bs∧∀q,q∉bs→p.2.2 q=st q)
  (fun i p=>[(1,.int .i64 p.2.1),(5,.int .i64 i)]) (fun _ p=>p.2.2) (by decide +kernel)
  ⟨([],j,st),⟨rfl,rfl,hj0,rfl,hO,fun _ _=>rfl⟩,aP.mk (by simp only[aB,↓aW,seval])⟩ (fun i x p hx hlt a7 hdr hinv=>?_) (fun p hge hinv=>?_)
 case refine_2=>
  obtain⟨done,k,s⟩:=p
  obtain⟨i1,i2,i3,i4,i5,i6⟩:=hinv
  simp only at i1 i2 i3 i4 i5 i6
  simp only[haL,hge,aB,seval]
  simp only[iA,dX,eU,aH] at i2 i4 i5
  exact⟨by rw[←i4];simp,by rw[←i2];exact i5,i6⟩
 obtain⟨done,k,s⟩:=p
 obtain⟨i1,i2,i3,i4,i5,i6⟩:=hinv
 simp only at i1 i2 i3 i4 i5 i6
 rw[hdr] at i2 i4 i5
 simp only[aH,eV] at i4
 have mU:=HT (av:=bJ) (done:=done) (x:=x) (rest:=l.drop (i+1))
 obtain⟨b,bs',w,A,oe,bo,B,rfl,hbs,hsb,hA,hoe,hbo,hbn,n7,hw,hi,pY⟩:=i5.focus hnd mU
 rw[nX] at hw
 subst hw
 rw[i1] at hA
 obtain⟨xt,xs⟩:=x
 obtain⟨qs,rfl,hqs⟩:=sT.1 hoe
 obtain⟨rfl,rfl⟩:qs= []∧bo= []:=hqs
 have w6:((done++((xt,xs):Fr)::l.drop (i+1)).map bJ).length=l.length:=by
  rw[aE,dS,a8,lP,i1];omega
 rw[w6] at haL pY ⊢
 have hat:=kT (P:=prog) (b:=b) (len:=l.length) (w:=2) (i:=i) mS hlt
 have hw1:=aZ (n:=k+1)
 have hw2:=aZ (n:=k+1+1)
 have hw4:=aZ (n:=(i:Int)+1)
 replace hsb:s b=some (.cells (A++ [.int .i64 xt,.str xs]++B)):=hsb
 obtain⟨e1,e2,e3,e4,e5,e6⟩:=vN (B:=B) hA
 simp only[haL,a7,hat,hsb,hw1,e4,e5,lQ,qL,aB,seval,aOQ]
 refine(CZ (k+1) _ (by omega)).to ?_
 simp only[hat,e1,e2,qL,v7,dR,hw2,hw4,aB,seval,aOQ]
 refine⟨(done++ [nY (xt,xs) k],k+1+1,_),⟨?_,?_,?_,?_,?_,?_⟩,aP.mk (by simp only[aB,seval])⟩
 · simp [i1]
 · simp only[dX,eV] at i2
   rw[show k+((2:Nat):Int)=k+1+1 by omega] at i2
   rw[←i2]
   simp
 · simp only;omega
 · simp only;omega
 · have:=pY (s.aC b (.cells (A++ [.int .i64 k,.str (mt (k+1))]++B))) (bJ (nY (xt,xs) k)) (bJ (nY (xt,xs) k)) rfl (fun x hx hxb hxo=>aA.aF _ _ hxb) (by rw[aA.aJ];try rfl) (sT.2 ⟨[],rfl,rfl,rfl⟩)
   rw[HU] at this
   exact this
 · intro x hx
   have hxb:x≠b:=fun e=>hx (by rw[hbs];simp [e])
   show(s.aC b _) x=st x
   rw[aA.aF _ _ hxb,i6 x hx]
abbrev UK:=zi aX (zi d9 (zi lM (zi dD pI)))
theorem XW(l:List Fr)(j:Int)(st:aA)(h0:0≤j)(h1:j+aH eV l≤1099511627776) :
 aD prog 49 [bO (dX nY eV l j),.int .i64 j] st (fun r st'=>r=.int .i64 (j+aH eV l)∧st'=st):=by
 refine wF [1000000] 2 func49 ntmps49 rfl rfl ?_
 simp only[cV,AV.fits,dE,aE,xC]
 intro ⟨hl,_⟩
 have hML:(dX nY eV l j).length=l.length:=xC _ _ _ _
 simp only[aB,seval]
 refine dI (σ:=Unit) [1000000] [0] (dX nY eV l j) (fun i _=>True) (fun i _=>[(1,.int .i64 (j+aH eV (l.take i))),(4,.int .i64 0),(5,.int .i64 i)]) (fun _ _=>st) (by decide +kernel) ⟨(),trivial,aP.mk (by simp only[aH,kE,Int.add_zero,aB,↓aW,seval])⟩ (fun i x _ hx hlt a7 hdr _=>?_) (fun _ hge _=>?_)
 case refine_2=>
  rw[hML] at hge
  simp only[hge,eD,aE,hML,aB,seval,UK]
 rw[hML] at hlt a7
 obtain⟨y,hy⟩:∃y,l[i]?=some y:=⟨_,eK hlt⟩
 have hxy:x=nY y (j+aH eV (l.take i)):=by
  have:=HS nY eV l j i
  rw[hdr,oM hlt,dX,(fC.1 hy).2] at this
  exact(pK this).1
 have hs:=rK eV hy
 simp only[eV] at hs
 have hat:=bH (av:=bJ) mS hx (nX x)
 rw[hxy] at hat
 simp only[bJ,nY] at hat
 obtain⟨hs1,hs2⟩:=hs
 generalize hk:j+(aH eV (l.take i):Int)=m at *
 have hw1:=aZ (n:=m+1)
 have hw2:=aZ (n:=m+1+1)
 have hw:=aZ (n:=(i:Int)+1)
 simp only[a7,dU,fG,aE,hML,hat,hw1,aB,seval,UK]
 refine wP [(0,1),(1,1),(2,1),(3,1),(5,1),(4,2),(6,2),(7,1)] [0,1,2,3,5,4,6,7] mixed ?_
 simp only[hat,aB,seval,UK]
 refine iD (CZ (m+1) _ (by omega)) ?_
 simp only[dU,fG,hw2,hw,aB,seval]
 refine⟨(),aP.mk ?_⟩
 have e:j+((aH eV (l.take (i+1)):Nat):Int)=m+1+1:=by omega
 rw[e]
 simp only[aB,seval]
theorem XH{k:Int}(h0:0≤k):IntKind.u8.wrap k=((k.toNat % 256:Nat):Int):=by
 simp only[IntKind.wrap,IntKind.signed,IntKind.bits]
 simp
 omega
def seqB:Nat→Int→List Bt
 | 0,_=>[]
 | n+1,j=>⟨j.toNat % 256,by omega⟩::seqB n (j+1)
theorem TO:∀(n:Nat) (j:Int),(seqB n j).length=n
 | 0,_=>rfl
 | n+1,j=>by simp [seqB,TO n]
abbrev a82:=zi aX (zi tB iQ)
theorem YT(l:List Bt)(j:Int)(o:AV)(bs:List Nat)(st:aA)(hO:aS st (cE l) o bs)(hnd:bs.Nodup)(hj0:0≤j)(hj1:j+l.length≤1099511627776) :
 aD prog 12 [o,.int .i64 j] st (CE st (cE (seqB l.length j)) o bs (j+l.length)):=by
 obtain⟨hlen,haL⟩:=hO.len
 rw[aE] at hlen
 have haL:=haL prog 25 _ I1
 rw[aE] at haL
 refine wF [1000000] 2 func12 ntmps12 rfl rfl ?_
 simp only[cV]
 intro ⟨hf,_⟩
 have hl:=hlen hf
 clear hf hlen
 simp only[aB,seval]
 refine dI (σ:=List Bt×Int×aA) [1000000] [0,4] l
  (fun i p=>p.1.length=i∧p.1++seqB (l.drop i).length p.2.1=seqB l.length j∧p.2.1=j+i∧aS p.2.2 (cE (p.1++l.drop i)) o bs∧∀q,q∉bs→p.2.2 q=st q)
  (fun i p=>[(1,.int .i64 p.2.1),(5,.int .i64 i)]) (fun _ p=>p.2.2) (by decide +kernel)
  ⟨([],j,st),⟨rfl,rfl,by simp,hO,fun _ _=>rfl⟩,aP.mk (by simp only[aB,↓aW,seval])⟩ (fun i x p hx hlt a7 hdr hinv=>?_) (fun p hge hinv=>?_)
 case refine_2=>
  obtain⟨done,k,s⟩:=p
  obtain⟨i1,i2,i3,i5,i6⟩:=hinv
  simp only at i1 i2 i3 i5 i6
  subst i3
  simp only[haL,hge,aB,seval]
  simp only[iA,bG,seqB,eU] at i2 i5
  exact⟨rfl,by rw[←i2];exact i5,i6⟩
 obtain⟨done,k,s⟩:=p
 obtain⟨i1,i2,i3,i5,i6⟩:=hinv
 simp only at i1 i2 i3 i5 i6
 rw[hdr] at i2 i5
 have mU:=HT (av:=bX) (done:=done) (x:=x) (rest:=l.drop (i+1))
 obtain⟨b,bs',w,A,oe,bo,B,rfl,hbs,hsb,hA,hoe,hbo,hbn,n7,hw,hi,pY⟩:=i5.focus hnd mU
 rw[PR] at hw
 subst hw
 rw[i1] at hA
 obtain⟨rfl,rfl⟩:=aM3.1 hoe
 have w6:((done++x::l.drop (i+1)).map bX).length=l.length:=by
  rw[aE,dS,a8,lP,i1];omega
 rw[w6] at haL pY ⊢
 have hat:=kT (P:=prog) (b:=b) (len:=l.length) (w:=1) (i:=i) jC hlt
 have hw0:=XH (k:=k) (by omega)
 have hw1:=aZ (n:=k+1)
 have hw4:=aZ (n:=(i:Int)+1)
 obtain⟨e1,e2,e3,e4,e5,e6⟩:=vN (B:=B) hA
 simp only[haL,a7,hat,hsb,hw1,hw4,e4,e5,qL,pM,hw0,aB,seval,a82]
 refine⟨(done++ [⟨k.toNat % 256,by omega⟩],k+1,_),⟨?_,?_,?_,?_,?_⟩,aP.mk (by simp only[aB,seval])⟩
 · simp [i1]
 · simp only[a8,seqB] at i2
   rw[←i2]
   simp
 · simp only;omega
 · have:=pY (s.aC b (.cells (A++ [.int .u8 ((k.toNat % 256:Nat):Int)]++B))) (bX ⟨k.toNat % 256,by omega⟩) (bX ⟨k.toNat % 256,by omega⟩) rfl (fun x hx hxb hxo=>aA.aF _ _ hxb) (by rw[aA.aJ];try rfl) (aM3.2 ⟨rfl,rfl⟩)
   rw[HU] at this
   exact this
 · intro x hx
   have hxb:x≠b:=fun e=>hx (by rw[hbs];simp [e])
   show(s.aC b _) x=st x
   rw[aA.aF _ _ hxb,i6 x hx]
abbrev a83:=zi aX (zi iQ dD)
theorem aWK(l:List Bt)(left:Int)(st:aA)(h0:0≤left)(h1:left≤1048576):aD prog 79 [cE l,.int .i64 left] st (fun r st'=>r=.int .i64 (eY left l.length)∧st'=st):=by
 refine wF [1000000] 2 func79 ntmps79 rfl rfl ?_
 simp only[cV,AV.fits,dE,aE]
 intro ⟨hl,_⟩
 have hw:=aZ (n:=left - (l.length:Int))
 simp only[hw,aE,aB,seval,a83]
 refine aQ (fun h2=>?_) (fun h2=>?_)
 · simp only[aB,seval]
   simp only[bM] at h2
   simp only[eY]
   rw[aN (by omega)]
 · simp only[aB,seval]
   simp only[cL] at h2
   rw[jJ (by omega)]
abbrev MZ:=zi aX (zi cB (zi tB iQ))
theorem XQ(l:List Bt)(st:aA):aD prog 10 [cE l,cE l] st (fun r st'=>r=.bool true∧st'=st):=by
 refine wF [1000000] 2 func10 ntmps10 rfl rfl ?_
 simp only[cV,AV.fits,dE,aE]
 intro ⟨⟨hl,_⟩,_⟩
 simp only[aE,dU,fG,aB,seval,MZ]
 refine dI (σ:=Unit) [1000000] [0,1] l (fun i _=>True) (fun i _=>[(5,.int .i64 i)]) (fun _ _=>st) (by decide +kernel) ⟨(),trivial,aP.mk (by simp only[aB,↓aW,seval])⟩ (fun i x _ hx hlt a7 hdr hinv=>?_) (fun _ hge hinv=>?_)
 case refine_2=>
  simp only[aE,hge,aB,seval,MZ]
 simp only[aE,a7,aB,seval,MZ]
 have hw4:=aZ (n:=(i:Int)+1)
 refine yD mixed (by decide +kernel) (by decide +kernel) ?_
 simp only[bH (av:=bX) jC hx rfl,bX,dU,fG,aB,seval,MZ]
 exact⟨(),aP.mk (by simp only[hw4,aB,seval])⟩
abbrev UM:=zi aX (zi tB iQ)
theorem aMP(l:List Bt)(st:aA)(hb:l.length≤1048576):aD prog 7 [cE l] st (Made st (cE l)):=by
 refine wF [1000000] 1 func7 ntmps7 rfl rfl ?_
 intro _
 simp only[aE,qQ,aB,↓aW,seval,UM]
 refine⟨by omega,by omega,by omega,?_⟩
 intro b hn
 rw[kB,BF _ (by simp)]
 have hfl:(List.replicate l.length [AV.int IntKind.u8 0]).flatten=List.replicate l.length (AV.int IntKind.u8 0):=by
  induction l.length with
  | zero=>rfl
  | succ n ih=>rw[FT,JD,ih,FT];try rfl
 rw[hfl]
 refine dI (σ:=Unit) [1000000] [0,2,3] l (fun i _=>True) (fun i _=>[(4,.int .i64 i)]) (fun i _=>st.aC b (.cells ((l.take i).map bX++List.replicate (l.length - i) (.int .u8 0)))) (by decide +kernel) ⟨(),trivial,aP.mk (by simp only[aB,↓aW,seval])⟩ (fun i x _ hx hlt a7 hdr hinv=>?_) (fun _ hge hinv=>?_)
 case refine_2=>
  simp only[aE,hge,eD,Nat.sub_self,List.replicate_zero,eU,aB,seval,UM]
  refine⟨[b],by simp,by simpa using hn,?_,fun x hx=>aA.aF _ _ (by simpa using hx)⟩
  simp only[aS]
  refine .inr ⟨b,[],l.map bX,1,by rw[aE],rfl,?_,aV.flat (by simp [bX,AV.flat]),fun e he=>by simp only[cF] at he;obtain⟨t,_,rfl⟩:=he;rfl⟩
  rw[aA.aJ]
  have:∀l:List Bt,(l.map bX).flatMap AV.cells=l.map bX:=fun l=>by
   induction l with
   | nil=>rfl
   | cons x l ih=>simp only[bR,rU,ih];rfl
  rw[this]
 have hw4:=aZ (n:=(i:Int)+1)
 have hat:=kT (P:=prog) (b:=b) (len:=l.length) (w:=1) (i:=i) jC hlt
 have hlen:((l.take i).map bX).length=i:=by simp only[aE,dZ];omega
 have hsb:(l.take i).map bX++List.replicate (l.length - i) (AV.int .u8 0)=(l.take i).map bX++ [.int .u8 0]++List.replicate (l.length - (i+1)) (AV.int .u8 0):=by
  rw[show l.length - i=(l.length - (i+1))+1 by omega,FT];simp
 have htk:(l.take i).map bX++ [bX x]++List.replicate (l.length - (i+1)) (AV.int .u8 0)=(l.take (i+1)).map bX++List.replicate (l.length - (i+1)) (AV.int .u8 0):=by
  rw[fN,hx];simp
 rw[hsb]
 obtain⟨e1,e2,e3,e4,e5,e6⟩:=vN (B:=List.replicate (l.length - (i+1)) (AV.int .u8 0)) hlen
 have hxa:=bH (av:=bX) (P:=prog) jC hx (PR x)
 have hba:(bX x).isAgg=false:=rfl
 have hbw:(bX x).width=1:=rfl
 have hbc:(bX x).cells= [bX x]:=rfl
 have hbs:(bX x).storable=true:=rfl
 simp only[e4,e5,qL,hw4,aE,a7,hat,hxa,hba,hbw,hbc,hbs,uZ,eC,aB,seval,UM]
 rw[htk]
 exact⟨(),aP.mk (by simp only[aB,seval])⟩
abbrev a87:=zi aX (zi iQ (zi NP dD))
theorem aWP(r:List Bt)(b:Bool)(left:Int)(st:aA)(h0:0≤left)(h1:left≤1048576):aD prog 52 [gS r b,.int .i64 left] st (fun r' st'=>r'=.int .i64 (eY left r.length)∧st'=st):=by
 unfold gS
 refine wF [1000000] 2 func52 ntmps52 rfl rfl ?_
 intro _
 simp only[aB,seval,a87]
 refine(aWK r left _ h0 h1).to ?_
 simp only[aB,seval]
 refine aQ (fun h2=>?_) (fun h2=>?_)
 · simp only[aB,seval]
   simp only[bM,gV] at h2
   simp only[eY]
   rw[aN (by skip;omega)]
 simp only[cL,gV] at h2
 rw[jJ h2]
 simp only[aB,seval]
abbrev aOS:=zi aX (zi FG (zi dD NR))
theorem aWT(s:Ss)(left:Int)(st:aA)(h0:0≤left)(h1:left≤1048576):aD prog 55 [gU s,.int .i64 left] st (fun r' st'=>r'=.int .i64 (eY left (zA s))∧st'=st):=by
 obtain⟨p,q,i0,i1,i2,i3⟩:=s
 simp only[gU,zA]
 generalize hp:sV p=np
 generalize hq:rL q=nq
 refine wF [1000000] 2 func55 ntmps55 rfl rfl ?_
 intro _
 simp only[aB,seval,aOS]
 have hcp:=fun st=>Y7 p left st h0 h1
 rw[hp] at hcp
 refine(hcp _).to ?_
 simp only[aB,seval]
 refine aQ (fun h2=>?_) (fun h2=>?_)
 · simp only[aB,seval]
   simp only[bM,gV] at h2
   simp only[eY]
   rw[aN (by skip;omega)]
 simp only[cL,gV] at h2
 rw[jJ h2]
 simp only[aB,seval,aOS]
 have hcq:=fun st=>ZA q (left - (np:Int)) st (by omega) (by omega)
 rw[hq] at hcq
 refine(hcq _).to ?_
 simp only[aB,seval]
 refine aQ (fun h3=>?_) (fun h3=>?_)
 · simp only[aB,seval]
   simp only[bM,gV] at h3
   simp only[eY]
   rw[aN (by skip;omega)]
 simp only[cL,gV] at h3
 rw[jJ h3]
 simp only[aB,seval]
 rw[jJ (by omega)]
 congr 1
 omega
abbrev IJ:=zi aX (zi NP (zi NQ (zi FG (zi dD (zi NR NS)))))
theorem aWN(c:eF)(left:Int)(st:aA)(h0:0≤left)(h1:left≤1048576):aD prog 27 [bP c,.int .i64 left] st (fun r' st'=>r'=.int .i64 (eY left (fH c))∧st'=st):=by
 obtain⟨r,b,wt,pr,ac,ss,td,ou⟩:=c
 have hd:=fun st=>aWP r b left st h0 h1
 have hw:=Y8 wt
 have hp:=Y7 pr
 have hs:=aWT ss
 have ho:=Y8 ou
 simp only[bP,wM,fH,gS,gU] at hd hs ⊢
 generalize sW wt=n1 at *
 generalize sV pr=n2 at *
 generalize zA ss=n3 at *
 generalize sW ou=n4 at *
 refine wF [1000000] 2 func27 ntmps27 rfl rfl ?_
 intro _
 simp only[aB,seval,IJ]
 refine(hd _).to ?_
 simp only[aB,seval]
 refine aQ (fun h2=>?_) (fun h2=>?_)
 · simp only[aB,seval]
   simp only[bM,gV] at h2
   simp only[eY]
   rw[aN (by skip;omega)]
 simp only[cL,gV] at h2
 rw[jJ h2]
 simp only[aB,seval,IJ]
 refine(hw _ _ (by omega) (by omega)).to ?_
 simp only[aB,seval]
 refine aQ (fun h3=>?_) (fun h3=>?_)
 · simp only[aB,seval]
   simp only[bM,gV] at h3
   simp only[eY]
   rw[aN (by skip;omega)]
 simp only[cL,gV] at h3
 rw[jJ h3]
 simp only[aB,seval,IJ]
 refine(hp _ _ (by omega) (by omega)).to ?_
 simp only[aB,seval]
 refine aQ (fun h4=>?_) (fun h4=>?_)
 · simp only[aB,seval]
   simp only[bM,gV] at h4
   simp only[eY]
   rw[aN (by skip;omega)]
 simp only[cL,gV] at h4
 rw[jJ h4]
 simp only[aB,seval,IJ]
 refine(hs _ _ (by omega) (by omega)).to ?_
 simp only[aB,seval]
 refine aQ (fun h5=>?_) (fun h5=>?_)
 · simp only[aB,seval]
   simp only[bM,gV] at h5
   simp only[eY]
   rw[aN (by skip;omega)]
 simp only[cL,gV] at h5
 rw[jJ h5]
 simp only[aB,seval,IJ]
 refine(ho _ _ (by omega) (by omega)).to ?_
 simp only[aB,seval]
 refine aQ (fun h6=>?_) (fun h6=>?_)
 · simp only[aB,seval]
   simp only[bM,gV] at h6
   simp only[eY]
   rw[aN (by skip;omega)]
 simp only[cL,gV] at h6
 rw[jJ h6]
 simp only[aB,seval]
 rw[jJ (by omega)]
 congr 1
 omega
abbrev UO:=zi aX (zi NN (zi dD NS))
theorem aWO(l:List eF)(left:Int)(st:aA)(h0:0≤left)(h1:left≤1048576)(hc:∀x∈l,∀(left:Int) (st:aA),0≤left→left≤1048576→aD prog 27 [bP x,.int .i64 left] st (fun r st'=>r=.int .i64 (eY left (fH x))∧st'=st)) :
 aD prog 14 [.slice (l.map bP),.int .i64 left] st (fun r st'=>r=.int .i64 (eY left (l.length+aH fH l))∧st'=st):=by
 refine wF [] 2 func14 ntmps14 rfl rfl ?_
 simp only[cV,AV.fits,dE,aE]
 intro ⟨hl,_⟩
 have hw:=aZ (n:=left - (l.length:Int))
 simp only[aE,hw,aB,seval,UO]
 refine⟨fun h4=>?_,fun h4=>?_⟩
 · simp only[aB,seval]
   simp only[bM] at h4
   simp only[eY]
   rw[aN (by omega)]
 simp only[cL] at h4
 simp only[aB,seval]
 refine oJ (α:=Nat) [] (fun i=>i≤l.length∧((l.length+aH fH (l.take i):Nat):Int)≤left)
  (fun i=>[(0,.slice (l.map bP)),(1,.int .i64 (left - ((l.length+aH fH (l.take i):Nat):Int))),(5,.int .i64 i)]) (fun _=>st) (fun i=>l.length - i) (by decide +kernel)
  ⟨0,⟨by omega,by simp only[kE,aH];omega⟩,aP.mk (by simp only[aH,lQ,aB,↓aW,seval])⟩ ?_
 intro i ⟨hi,hle⟩
 simp only[aE,aB,seval,UO]
 refine⟨fun h5=>?_,fun h5=>?_⟩
 case refine_2=>
  simp only[aB,seval]
  simp only[cL,g7] at h5
  rw[show i=l.length by omega,eD] at hle ⊢
  rw[jJ (by omega)]
 simp only[bM,g7] at h5
 obtain⟨x,hx⟩:∃x,l[i]?=some x:=⟨_,eK h5⟩
 simp only[bH (av:=bP) QU hx (kR x),wL,kR,aB,seval,UO]
 refine(hc x (cH hx) _ st (by omega) (by omega)).to ?_
 have hs:=rK fH hx
 simp only[aB,seval]
 refine⟨fun h6=>?_,fun h6=>?_⟩
 · simp only[aB,seval]
   simp only[bM,gV] at h6
   simp only[eY]
   rw[aN (by omega)]
 simp only[cL,gV] at h6
 rw[jJ h6]
 simp only[aB,seval]
 refine⟨i+1,by omega,⟨by omega,by omega⟩,aP.mk ?_⟩
 · have:=aZ (n:=(i:Int)+1)
   have e:(left - ((l.length+aH fH (l.take (i+1)):Nat):Int))=left - ((l.length+aH fH (l.take i):Nat):Int) - ((fH x:Nat):Int):=by omega
   simp only[this,e,aB,seval]
abbrev pD (l:List eF):Nat:=l.length+aH fH l
abbrev a86:=zi aX (zi NN (zi U8 dD))
theorem aWS(s:Sv)(left:Int)(st:aA)(h0:0≤left)(h1:left≤1048576):aD prog 4 [fJ s,.int .i64 left] st (fun r' st'=>r'=.int .i64 (eY left (pD s.cs))∧st'=st):=by
 obtain⟨cs,q⟩:=s
 simp only[fJ]
 have hc:=fun st=>aWO cs left st h0 h1 fun x _ left st h0 h1=>aWN x left st h0 h1
 generalize hn:pD cs=n at *
 unfold pD at hn
 rw[hn] at hc
 refine wF [1000000] 2 func4 ntmps4 rfl rfl ?_
 intro _
 simp only[aB,seval,a86]
 refine(hc _).to ?_
 simp only[aB,seval]
 refine aQ (fun h2=>?_) (fun h2=>?_)
 · simp only[aB,seval]
   simp only[bM,gV] at h2
   simp only[eY]
   rw[aN (by skip;omega)]
 simp only[cL,gV] at h2
 rw[jJ h2]
 simp only[aB,seval]
abbrev aOT:=zi cB (zi iQ oE)
theorem aUC(r:List Bt)(b:Bool)(st:aA):aD prog 74 [gS r b,gS r b] st (fun r' st'=>r'=.bool true∧st'=st):=by
 unfold gS
 refine wF [1000000] 2 func74 ntmps74 rfl rfl ?_
 intro _
 simp only[aB,seval,aOT]
 refine(XQ r _).to ?_
 simp only[fX,aB,seval,aOT]
abbrev IK:=zi cB (zi oE (zi lM (zi gL (zi oF oG))))
theorem aUA(c:eF)(st:aA):aD prog 44 [bP c,bP c] st (fun r' st'=>r'=.bool true∧st'=st):=by
 obtain⟨r,b,wt,pr,ac,ss,td,ou⟩:=c
 have hd:=fun st=>aUC r b st
 have hs:=fun st=>aUF ss st
 simp only[bP,wM,gS,gU] at hd hs ⊢
 refine wF [1000000] 2 func44 ntmps44 rfl rfl ?_
 intro _
 simp only[aB,seval,IK]
 refine(hd _).to ?_
 simp only[fX,aB,seval,IK]
 refine(XS wt _).to ?_
 simp only[fX,aB,seval,IK]
 refine(XR pr _).to ?_
 simp only[fX,aB,seval,IK]
 refine(hs _).to ?_
 simp only[fX,aB,seval,IK]
 refine(XS ou _).to ?_
 simp only[fX,aB,seval]
abbrev M1:=zi aX (zi cB (zi oD oG))
theorem aUB(l:List eF)(st:aA):aD prog 24 [.slice (l.map bP),.slice (l.map bP)] st (fun r st'=>r=.bool true∧st'=st):=by
 refine wF [1000000] 2 func24 ntmps24 rfl rfl ?_
 simp only[cV,AV.fits,dE,aE]
 intro ⟨⟨hl,_⟩,_⟩
 simp only[aE,dU,fG,aB,seval,M1]
 refine dI (σ:=Unit) [1000000] [0,1] l (fun i _=>True) (fun i _=>[(5,.int .i64 i)]) (fun _ _=>st) (by decide +kernel) ⟨(),trivial,aP.mk (by simp only[aB,↓aW,seval])⟩ (fun i x _ hx hlt a7 hdr hinv=>?_) (fun _ hge hinv=>?_)
 case refine_2=>
  simp only[aE,hge,aB,seval,M1]
 simp only[aE,a7,aB,seval,M1]
 have hw4:=aZ (n:=(i:Int)+1)
 refine GO mixed (by decide +kernel) (by decide +kernel) ?_
 simp only[bH (av:=bP) qU hx (kR x),wL,kR,aB,seval,M1]
 refine(aUA x _).to ?_
 simp only[aB,seval]
 exact⟨(),aP.mk (by simp only[hw4,aB,seval])⟩
abbrev aOU:=zi aX (zi cB (zi oD tA))
theorem J8(s:Sv)(st:aA):aD prog 9 [fJ s,fJ s] st (fun r' st'=>r'=.bool true∧st'=st):=by
 obtain⟨cs,q⟩:=s
 simp only[fJ]
 refine wF [1000000] 2 func9 ntmps9 rfl rfl ?_
 intro _
 simp only[aB,seval,aOU]
 refine(aUB cs _).to ?_
 simp only[fX,aB,seval,aOU]
abbrev aOW:=zi cB (zi iQ (zi oE NP))
theorem a6L(r:List Bt)(k:Bool)(st:aA)(hb:r.length≤1048576):aD prog 62 [gS r k] st (Made st (gS r k)):=by
 unfold gS
 refine aD.uH ?_
 refine wF [1000000] 1 func62 ntmps62 rfl rfl ?_
 intro _
 simp only[aB,seval,aOW]
 intro b hb1 b2 hb2
 obtain⟨hne,C0⟩:=fT.two hb1 hb2
 refine(aMP r _ hb).mono ?_
 rintro q0 s1 m1
 obtain⟨k1,bs1,C1⟩:=C0.made m1
 have e1:=k1 b (by simp)
 have e2:=k1 b2 (by simp)
 simp only[eC,hne,hne.symm,dV,cM] at e1 e2
 obtain⟨hqc,hqs,hqa,hqw,hqj⟩:=C1.own.jO rfl q0 (by simp)
 simp only[dR,aM,eC,hne.symm,e1,e2,hqc,hqs,aB,seval,aOW]
 refine((C1.aC (d:=b2) (by simp) _).aC (d:=b) (by simp) _).done fun h=>?_
 exact sT.2 ⟨_,rfl,h⟩
abbrev UP:=zi aX (zi gL (zi cI (zi oF (zi FG (zi dD NR)))))
theorem a6P(s:Ss)(st:aA)(hb:zA s≤1048576):aD prog 65 [gU s] st (Made st (gU s)):=by
 obtain⟨p,q,i0,i1,i2,i3⟩:=s
 unfold zA at hb
 simp only at hb
 simp only[gU]
 refine aD.uH ?_
 refine wF [1000000] 1 func65 ntmps65 rfl rfl ?_
 intro _
 simp only[aB,seval,UP]
 intro b hb1 b2 hb2
 obtain⟨hne,C0⟩:=fT.two hb1 hb2
 refine(aMQ p _ (by omega)).mono ?_
 rintro q0 s1 m1
 obtain⟨k1,bs1,C1⟩:=C0.made m1
 have e1:=k1 b (by simp)
 have e2:=k1 b2 (by simp)
 simp only[eC,hne,hne.symm,dV,cM] at e1 e2
 obtain⟨hqc,hqs,hqa,hqw,hqj⟩:=C1.own.jO rfl q0 (by simp)
 simp only[aM,e2,hqc,hqs,aB,seval,UP]
 refine(aMT q _ (by omega)).mono ?_
 rintro q1 s2 m2
 obtain⟨k2,bs2,C2⟩:=(C1.aC (d:=b2) (by simp) _).made m2
 have f1:=k2 b (by simp)
 have f2:=k2 b2 (by simp)
 simp only[eC,hne.symm,dV,cM,e1,e2] at f1 f2
 obtain⟨hrc,hrs,hra,hrw,hrj⟩:=C2.own.jO rfl q1 (by simp)
 simp only[dR,aM,eC,hne.symm,f1,f2,hqs,hrc,hrs,aB,seval,UP]
 refine((C2.aC (d:=b2) (by simp) _).aC (d:=b) (by simp) _).done fun h=>?_
 exact sT.2 ⟨_,rfl,h⟩
theorem a47{qs:List AV}(h:qs.length=1):∃q,qs= [q]:=by
 match qs,h with
 | [q],_=>exact⟨q,rfl⟩
theorem aL4{qs:List AV}(h:qs.length=2):∃q q',qs= [q,q']:=by
 match qs,h with
 | [q,q'],_=>exact⟨q,q',rfl⟩
abbrev E0:=zi cB (zi oE (zi lM (zi gL (zi oF (zi oG (zi NP (zi NQ (zi FG (zi NR NS)))))))))
theorem a6J(c:eF)(st:aA)(hb:fH c≤1048576):aD prog 32 [bP c] st (Made st (bP c)):=by
 obtain⟨r,bk,wt,pr,ac,ss,td,ou⟩:=c
 have hd:=fun st=>a6L r bk st (by unfold fH at hb;simp only at hb;omega)
 have hw:=fun st=>aMR wt st (by unfold fH at hb;simp only at hb;omega)
 have hp:=fun st=>aMQ pr st (by unfold fH at hb;simp only at hb;omega)
 have hs:=fun st=>a6P ss st (by unfold fH at hb;simp only at hb;omega)
 have ho:=fun st=>aMR ou st (by unfold fH at hb;simp only at hb;omega)
 clear hb
 simp only[bP,wM,gS,gU] at hd hs ⊢
 refine aD.uH ?_
 refine wF [1000000] 1 func32 ntmps32 rfl rfl ?_
 intro _
 simp only[aB,seval,E0]
 intro b hb1 b2 hb2
 obtain⟨hne,C0⟩:=fT.two hb1 hb2
 refine(hd _).mono ?_
 rintro r0 s1 m1
 obtain⟨k1,qs,bs1,rfl,C1⟩:=C0.SO m1
 obtain⟨q0,rfl⟩:=a47 (C1.own.length)
 replace C1:fT st [b,b2] [cE r] [q0] bs1 s1:=C1
 have e1:=k1 b (by simp)
 have e2:=k1 b2 (by simp)
 simp only[eC,hne,hne.symm,dV,cM] at e1 e2
 obtain⟨c0,t0,g0,w0,j0⟩:=C1.own.jO rfl q0 (by simp)
 simp only[uW,rE,dV,iE,cM]
 simp only[aM,e2,t0,aB,seval,E0]
 refine(hw _).mono ?_
 rintro q1 s2 m2
 obtain⟨k2,bs2,C2⟩:=(C1.aC (d:=b2) (by simp) _).made m2
 replace C2:fT st [b,b2] [cE r,bO wt] [q0,q1] bs2 s2:=C2
 have f1:=k2 b (by simp)
 have f2:=k2 b2 (by simp)
 simp only[eC,hne.symm,dV,cM,e1,e2] at f1 f2
 obtain⟨c1,t1,g1,w1,j1⟩:=C2.own.jO rfl q1 (by simp)
 simp only[aM,f2,c1,t1,aB,seval,E0]
 refine(hp _).mono ?_
 rintro q2 s3 m3
 obtain⟨k3,bs3,C3⟩:=(C2.aC (d:=b2) (by simp) _).made m3
 replace C3:fT st [b,b2] [cE r,bO wt,.slice (pr.map aG)] [q0,q1,q2] bs3 s3:=C3
 have g1':=k3 b (by simp)
 have g2':=k3 b2 (by simp)
 simp only[eC,hne.symm,dV,cM,f1,f2] at g1' g2'
 obtain⟨c2,t2,g2,w2,j2⟩:=C3.own.jO rfl q2 (by simp)
 simp only[dR,aM,eC,g2',c2,t2,aB,seval,E0]
 refine(hs _).mono ?_
 rintro r3 s4 m4
 obtain⟨k4,qs,bs4,rfl,C4⟩:=(C3.aC (d:=b2) (by simp) _).SO m4
 obtain⟨q3,q4,rfl⟩:=aL4 (qs:=qs) (by have:=C4.own.length;simpa [rE] using this)
 replace C4:fT st [b,b2] [cE r,bO wt,.slice (pr.map aG),.slice (ss.p.map aG),.slice (ss.q.map Tm.av)] [q0,q1,q2,q3,q4] bs4 s4:=C4
 have h1':=k4 b (by simp)
 have h2':=k4 b2 (by simp)
 simp only[eC,hne.symm,dV,cM,g1',g2'] at h1' h2'
 obtain⟨c3,t3,g3,w3,j3⟩:=C4.own.jO rfl q3 (by simp)
 obtain⟨c4,t4,g4,w4,j4⟩:=C4.own.jO rfl q4 (by simp)
 simp only[uW,rE,dV,iE,cM]
 simp only[dR,aM,eC,h2',t3,t4,aB,seval,E0]
 refine(ho _).mono ?_
 rintro q5 s5 m5
 obtain⟨k5,bs5,C5⟩:=(C4.aC (d:=b2) (by simp) _).made m5
 replace C5:fT st [b,b2] [cE r,bO wt,.slice (pr.map aG),.slice (ss.p.map aG),.slice (ss.q.map Tm.av),bO ou] [q0,q1,q2,q3,q4,q5] bs5 s5:=C5
 have i1:=k5 b (by simp)
 have i2:=k5 b2 (by simp)
 simp only[eC,hne.symm,dV,cM,h1',h2'] at i1 i2
 obtain⟨c5,t5,g5,w5,j5⟩:=C5.own.jO rfl q5 (by simp)
 simp only[aM,eC,hne.symm,i1,i2,t0,t1,t2,t3,t4,c5,t5,aB,seval,E0]
 refine((C5.aC (d:=b2) (by simp) _).aC (d:=b) (by simp) _).done fun h=>?_
 exact(H1 (c:=⟨r,bk,wt,pr,ac,ss,td,ou⟩)).2 ⟨q0,q1,q2,q3,q4,q5,rfl,h⟩
abbrev M3:=zi aX (zi NN (zi oD (zi oG NS)))
theorem a6K(l:List eF)(st:aA)(hb:l.length≤1048576)(hc:∀x∈l,∀(st:aA),aD prog 32 [bP x] st (Made st (bP x))) :
 aD prog 19 [.slice (l.map bP)] st (Made st (.slice (l.map bP))):=by
 refine wF [] 1 func19 ntmps19 rfl rfl ?_
 intro _
 simp only[aE,qQ,aB,↓aW,seval,M3]
 refine⟨by omega,by omega,by omega,?_⟩
 intro b hn
 rw[kB,BF _ (by simp)]
 refine dI (σ:=List AV×List Nat×aA) [] [0,2,3] l (fun i p=>oP (l.map bP) [.fslice [],.bool false,.fslice [],.fslice [],.bool false,.fslice [],.fslice [],.int .i64 0,.int .i64 0,.int .i64 0,.int .i64 0,.bool false,.fslice []] b st i p) (fun i _=>[(4,.int .i64 i)]) (fun _ p=>p.2.2) (by decide +kernel)
  ⟨([],[],_),?_,aP.mk (by simp only[aB,↓aW,seval])⟩ (fun i x p hx hlt a7 hdr hinv=>?_) (fun p hge hinv=>?_)
 · exact oP.start hn (by rw[aE])
 case refine_3=>
  obtain⟨os,bs,s⟩:=p
  simp only[aE,hge,aB,seval,M3]
  exact hinv.done (aE _) (fun e he=>by simp only[cF] at he;obtain⟨t,_,rfl⟩:=he;exact kR t)
 obtain⟨os,bs,s⟩:=p
 simp only[aE,a7,bH (av:=bP) QU hx (kR x),wL,kR,aB,seval,M3]
 refine(hc x (cH hx) _).mono ?_
 rintro r s2 AZ
 obtain⟨A,B,hs2,hA,hrw,hrs,A0⟩:=hinv.step AZ (show(l.map bP)[i]?=some (bP x) by rw[kD,hx];try rfl) (kR x) (fun e he=>by simp only[cF] at he;obtain⟨t,_,rfl⟩:=he;exact kR t) rfl (ZS x) (.inl (wL x))
 have hat:=kT (b:=b) (len:=l.length) (w:=13) (i:=i) qU hlt
 obtain⟨hp1,hp2⟩:=EK (B:=B) (C:=[.fslice [],.bool false,.fslice [],.fslice [],.bool false,.fslice [],.fslice [],.int .i64 0,.int .i64 0,.int .i64 0,.int .i64 0,.bool false,.fslice []]) (x:=r.cells) hA rfl hrw
 have hw:=aZ (n:=(i:Int)+1)
 simp only[hat,hs2,hrw,hrs,hp1,hw,aB,seval,M3]
 refine⟨hp2,?_⟩
 exact⟨_,A0,aP.mk (by simp only[aB,seval])⟩
theorem AI{l:List eF}{x:eF}(hx:x∈l):fH x≤pD l:=by have:=pC (f:=fH) hx;unfold pD;omega
abbrev aOV:=zi aX (zi NN (zi U8 (zi oD tA)))
theorem a6O(s:Sv)(st:aA)(hb:pD s.cs≤1048576):aD prog 6 [fJ s] st (Made st (fJ s)):=by
 obtain⟨cs,q⟩:=s
 simp only[fJ] at hb ⊢
 have hc:=fun st=>a6K cs st (by unfold pD at hb;omega) fun x hx st=>a6J x st (by have:=AI hx;omega)
 refine aD.uH ?_
 refine wF [1000000] 1 func6 ntmps6 rfl rfl ?_
 intro _
 simp only[aB,seval,aOV]
 intro b hb1 b2 hb2
 obtain⟨hne,C0⟩:=fT.two hb1 hb2
 refine(hc _).mono ?_
 rintro q0 s1 m1
 obtain⟨k1,bs1,C1⟩:=C0.made m1
 have e1:=k1 b (by simp)
 have e2:=k1 b2 (by simp)
 simp only[eC,hne,hne.symm,dV,cM] at e1 e2
 obtain⟨c0,t0,g0,w0,j0⟩:=C1.own.jO rfl q0 (by simp)
 simp only[dR,aM,eC,hne.symm,e1,e2,c0,t0,aB,seval,aOV]
 refine((C1.aC (d:=b2) (by simp) _).aC (d:=b) (by simp) _).done fun h=>?_
 exact sT.2 ⟨_,rfl,h⟩
end Go.AW
