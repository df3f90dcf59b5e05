import Derived.Shelf.Slices.Clone
import Derived.Test.YtieofkhcboolkaaGreatDoorVap
import Derived.Test.YtieofkhcboolkaaGreatDoorVai
import Derived.Test.YtieofkhcboolkaaGreatDoorVam
import Derived.Test.YtieofkhcboolkaaGreatDoorVal
import Derived.Test.YtieofkhcboolkaaGreatDoorVak
import Derived.Test.YtieofkhcboolkaaGreatDoorVaf
import Derived.Test.YtieofkhcboolkaaGreatDoorVah
import Derived.Test.YtieofkhcboolkaaGreatDoorVan
import Derived.Test.YtieofkhcboolkaaGreatDoorVao
import Derived.Test.YtieofkhcboolkaaGreatDoorVaj
set_option linter.unusedSimpArgs false
set_option linter.unusedVariables false
set_option maxRecDepth 100000

namespace Go.AW
open Go.Proofs.Tryz
open Go.Shelf
set_option linter.unusedSimpArgs false
set_option linter.unusedVariables false
set_option maxRecDepth 100000
def aZM:Go.Shelf.Ren:=⟨fun | 15=>161 | n=>n,fun | 22=>26 | 3=>3 | 4=>4 | n=>n,fun | n=>n⟩
theorem aZL:Go.Proofs.Lays2.n15 prog aZM:={
 mixed:=by kernel_rfl
 f15:=func161.trans (eA some (by kernel_rfl))
 t3:=GI
 a3:=isAgg3
 z3:=sizeOf3
 v3:=zeroValue3
 t4:=uU4
 a4:=isAgg4
 z4:=sizeOf4
 v4:=zeroValue4
 t22:=KF
 a22:=isAgg26
 z22:=sizeOf26
 v22:=zeroValue26
 i3:=by kernel_rfl }
def B7(i:Nat):Value:=.int .i64 (i:Int)
theorem XZ{h:bJ}{st:aB}{b:Nat}:∀ {l:List Nat} {off:Nat},dA h st b off (l.map nv)→∀(j x:Nat),l[j]?=some x→cellAt h b (off+j)=some (B7 x)
 | [],_,_,j,x,e=>by simp at e
 | a::l,off,v,0,x,e=>by
  simp only[A8,Option.some.injEq] at e
  subst e
  obtain⟨⟨cs,c1,c2,c3⟩,_⟩:=v
  have c3:cs= [B7 a]:=c3
  subst c3
  exact c1.1
 | a::l,off,v,j+1,x,e=>by
  rw[A7] at e
  have:=XZ v.2 j x e
  rwa [show(nv a).width=1 from rfl,yR,GX 1 j] at this
theorem XX{h:bJ}{st:aB}:∀l:List Nat,a8 h st (l.map nv) (l.map B7)
 | []=>rfl
 | a::l=>⟨B7 a,l.map B7,rfl,rfl,XX l⟩
theorem a7X(l:List Nat)(hl:l≠[])(h9:l.length≤1048576)(st:aB):aD prog 161 [.slice (l.map nv)] st (fun r st'=>∃b,st b=none∧r=.mslice b 0 l.length 1∧st'=st.aC b (.cells (l.map nv))):=by
 refine⟨⟨_,func161,rfl,by kernel_rfl⟩,fun w vs S V=>?_⟩
 obtain⟨v,r,rfl,v1,v2⟩:=V
 obtain rfl:r= []:=v2
 have hne:l.map nv≠[]:=by simpa using hl
 obtain⟨hag,hv⟩:=v1
 unfold VC at hv
 rcases hv with ⟨_,h⟩ | ⟨b,off,cap,e1,e2,e3,e4,e5,e6,e7⟩
 · exact absurd h hne
 obtain rfl:v=.slice (some ⟨b,off,none⟩) (l.map nv).length cap:=by
  cases v<;>first | exact absurd hag Bool.false_ne_true | simp_all [Value.cells]
 rw[aF]
 have gQ:∀j,j<(l.map fun i:Nat=>(i:Int)).length→w.cell? ⟨b,off+j,none⟩=some (.int .i64 ((l.map fun i:Nat=>(i:Int)).getD j 0)):=fun j hj=>by
  rw[aF] at hj
  have h1:=XZ e7 j l[j] (d4 hj)
  unfold cellAt at h1
  unfold World.cell?
  simp only[XJ,mA,d4 hj,oG,GY]
  split at h1
  · rename_i hb;rw[hb];exact h1
  · cases h1
 refine(Go.Proofs.Any.slices_Clone_int aZL b off l.length cap (l.map fun i:Nat=>(i:Int)) w (by rw[aF];omega) (by omega) gQ).mono ?_
 rintro e w' ⟨v',rfl,⟨_,ho⟩,hnn,hB⟩
 rcases ho with ⟨h,_⟩ | ⟨g,aY2,cur,rfl,h1,h2,h3,h4,h5,h6⟩
 · exact absurd h hnn
 have X:Ext w.heap w'.heap:=⟨hB.size,hB.block⟩
 have hg:st g=none:=by
  cases hs:st g with
  | none=>rfl
  | some o=>exact absurd (S g o hs).1 (by omega)
 have hgl:g<w'.heap.size:=(GN.1 h2).1
 have T:bX w.heap st w'.heap (st.aC g (.cells (l.map nv))):=⟨hB.size,fun y hy hn=>⟨hB.block y hy,by rw[aB.aH _ _ (by omega)];exact hn⟩,(X.step st).shape⟩
 have h7:(l.map fun i:Nat=>(i:Int)).take l.length=l.map fun i:Nat=>(i:Int):=lM (by rw[aF];omega)
 rw[wR] at h5 h6
 rw[h7,pR] at h6
 have hvs:(l.map B7)=(cur.toList.drop 0).take l.length:=by rw[r8,h6];try rfl
 refine⟨_,.mslice g 0 l.length 1,st.aC g (.cells (l.map nv)),rfl,⟨rfl,aY2,rfl,h3,h4,cur,_,h2,by omega⟩,fun y o e=>?_,T,⟨hB.os,hB.tape,hB.output⟩,g,hg,rfl,rfl⟩
 by_cases hy:y=g
 · subst hy
   rw[aB.aJ] at e
   cases e
   exact⟨hgl,cur,_,h2,by rw[aF];omega,l.map B7,by rw[hvs];exact BQ h2 _ 0 (by omega),XX l⟩
 · rw[aB.aH _ _ hy] at e
   obtain⟨p1,p2⟩:=S y o e
   exact⟨vE p1 hB.size,lD.mono T (hB.block y p1) p2⟩
end Go.AW

namespace Go.AW
open Go.Proofs.Tryz
theorem aZJ{P:Program}{t:TypeId}{ag:Bool}{sz b off n:Nat}{zs cs:List AV}{st:aB}{K:AV→aB→Prop}(hI:eI P t=some (ag,sz))(hZ:eZ P t=some zs)(h0:sz≠0)(hz:zs.length=sz)(hst:zs.all AV.storable=true)(hb:st b=some (.cells cs))(eR:off+n*sz≤cs.length)
 (hK:K (.tup []) (st.aC b (.cells (aK cs off (j5 zs n))))):wV P t st (.mslice b off n sz) K:=by
 unfold wV
 rw[hI,hZ]
 simp only[hb]
 exact⟨trivial,h0,hz,hst,eR,hK⟩
theorem a90{cs:List AV}{i:Nat}{x:List AV}(h:i≤cs.length):(aK cs i x).take i=cs.take i:=by
 unfold aK
 rw[lL,GW (by rw[c7];omega)]
theorem a91{cs:List AV}{i:Nat}{x:AV}(h:i<cs.length):(aK cs i [x]).take (i+1)=cs.take i++ [x]:=by
 unfold aK
 rw[GW (by rw[dN,c7,aU,aZ];omega)]
theorem a9Z{cs:List AV}{i:Nat}{x:List AV}(h:i+x.length≤cs.length):(aK cs i x).length=cs.length:=by
 unfold aK
 simp only[dN,c7,mB]
 omega
theorem set_drop{cs:List AV}{i j:Nat}{x:AV}(h:i<cs.length)(hj:i<j):(aK cs i [x]).drop j=cs.drop j:=by
 unfold aK
 rw[List.drop_append,A6 (by rw[dN,c7,aU,aZ];omega),fB,GQ]
 congr 1
 rw[dN,c7,aU,aZ]
 omega
structure XF (l:List Nat) (p:Nat→Bool) (i j:Nat) (W:List AV):Prop where
 lt:i<j
 le:j≤l.length
 len:W.length=l.length
 head:W.take i=((l.take j).filter fun x=> !p x).map nv
 hlen:i=((l.take j).filter fun x=> !p x).length
 tail:W.drop j=(l.drop j).map nv
abbrev aQN:=zi aW (zi cF fJ)
theorem a7Y(l:List Nat)(g:FuncId)(dD:List AV)(p:Nat→Bool)(b:Nat)(h9:l.length≤1048576)(st:aB)(hb:st b=some (.cells (l.map nv)))(hc:∀x∈l,∀cs,aD prog g ([nv x]++dD) (st.aC b (.cells cs)) (fun r st'=>r=.bool (p x)∧st'=st.aC b (.cells cs))) :
 aD prog 160 [.mslice b 0 l.length 1,.func g dD] st (fun r st'=>∃W,r=.mslice b 0 (l.filter fun x=> !p x).length 1∧st'=st.aC b (.cells W)∧W.take (l.filter fun x=> !p x).length=(l.filter fun x=> !p x).map nv):=by
 have hst:st.aC b (.cells (l.map nv))=st:=by
  funext y
  simp only[aB.aC]
  split
  · rename_i h;rw[h,hb]
  · rfl
 have S9:=a7Z l g dD p b (l.map nv) h9 st hb (fun i x h=>by simp [h]) (fun x hx=>by have:=hc x hx (l.map nv);rwa [hst] at this)
 refine wF [1000000] 2 func160 ntmps160 rfl rfl ?_
 intro _
 simp only[aA,seval]
 refine(S9).to ?_
 simp only[aA,seval]
 rcases TQ p l 0 (by omega) with ⟨h1,h2⟩ | ⟨j0,x0,h1,h2,h3,h4,h5⟩
 · have dV:(l.filter fun x=> !p x)=l:=List.filter_eq_self.2 fun a ha=>by
    have:=List.any_eq_false.1 h2 a ha
    simpa using this
   rw[h1,dV]
   simp only[aA,seval]
   exact⟨l.map nv,hst.symm,by rw[lM (by rw[aF];exact cU _)]⟩
 have hj:j0<l.length:=(fA.1 h2).1
 have hf0:((l.take (j0+1)).filter fun x=> !p x)=l.take j0:=by
  rw[dY,h2,List.filter_append]
  simp only[DL,List.filter_cons,h3,jZ,fX,dT,List.filter_nil,gM]
  refine List.filter_eq_self.2 fun a ha=>?_
  obtain⟨k,hk⟩:=A9 ha
  rw[List.getElem?_take] at hk
  split at hk
  · rename_i h;rw[h5 k a h hk];try rfl
  · cases hk
 have hI0:XF l p j0 (j0+1) (l.map nv):=⟨by omega,by omega,by rw[aF],by rw[hf0,GS],by rw[hf0,c7];omega,by rw[BA]⟩
 rw[h1,Int.zero_add]
 have hn1:((j0:Int)= -1)=False:=bZ (by omega)
 have hw0:=bF (n:=(j0:Int)+1)
 simp only[hn1,hw0,bP,aA,seval]
 refine iJ (σ:=Nat×Nat×List AV) [1000000] [0,1,4] (fun x=>XF l p x.1 x.2.1 x.2.2) (fun x=>[(5,.int .i64 (x.1:Int)),(6,.int .i64 (x.2.1:Int))]) (fun x=>st.aC b (.cells x.2.2)) (fun x=>l.length - x.2.1) (by decide +kernel) ⟨(j0,j0+1,l.map nv),hI0,(by simp only[hst];exact aO.mk (by simp only[aA,seval]))⟩ ?_
 rintro⟨i,j,W⟩ ⟨i1,i2,i3,i4,i5,i6⟩
 simp only at i1 i2 i3 i4 i5 i6
 simp only
 simp only[aA,seval,aQN]
 refine aP (fun h=>?_) (fun h=>?_)
 · have hlt:j<l.length:=by simp at h;omega
   obtain⟨x,hx⟩:∃x,l[j]?=some x:=⟨_,d4 hlt⟩
   have hWj:W[j]?=some (nv x):=by
    have e:(W.drop j)[0]?=((l.drop j).map nv)[0]?:=by rw[i6]
    simpa [hx] using e
   have hat:=p8 (P:=prog) (t:=26) (b:=b) (w:=1) fO hlt
   have xM:=p8 (P:=prog) (t:=26) (b:=b) (w:=1) (i:=i) (len:=l.length) fO (by omega)
   rw[wR] at hat xM
   have hld:=aNH (st:=st.aC b (.cells W)) (aB.aJ _ _ _) hWj rfl
   have hca:=hc x (cH hx) W
   simp only[nv,gV,fB] at hld hca
   have hw:=bF (n:=(j:Int)+1)
   have hw2:=bF (n:=(i:Int)+1)
   simp only[hat,hld,aA,seval]
   refine(hca).to ?_
   simp only[aA,seval]
   have htl:(l.take (j+1)).filter (fun x=> !p x)=(l.take j).filter (fun x=> !p x)++(if p x=false then[x] else[]):=by
    rw[dY,hx,List.filter_append]
    congr 1
    cases hp:p x<;>simp [hp]
   have hdr:∀V:List AV,V.drop j=W.drop j∨V.drop (j+1)=W.drop (j+1)→V.drop (j+1)=(l.drop (j+1)).map nv:=fun V hV=>by
    have e:W.drop (j+1)=(l.drop (j+1)).map nv:=by rw[←GQ,i6,←BA,GQ]
    rcases hV with hV | hV
    · rw[←GQ,hV,GQ,e]
    · rw[hV,e]
   refine aP (fun h7=>?_) (fun h7=>?_)
   · have hp:p x=false:=by simpa using h7
     rw[aG hp] at htl
     simp only[xM,hw,hw2,aB.aJ,dO,aA,seval,aQN]
     have hil:i<W.length:=by omega
     refine⟨by omega,(i+1,j+1,aK W i [nv x]),by simp only;omega,⟨by simp only;omega,by simp only;omega,by rw[a9Z (by simp only[aU,aZ];omega)];exact i3,by simp only;rw[a91 hil,htl,i4,o7];try rfl,by simp only;rw[htl,dN,aU,aZ,←i5],hdr _ (.inr (set_drop hil (by omega)))⟩,aO.mk (by simp only[aA,seval])⟩
   · have hp:p x=true:=by simpa using h7
     rw[aE (by simp [hp]),gM] at htl
     simp only[hw,aA,seval]
     refine⟨(i,j+1,W),by simp only;omega,⟨by simp only;omega,by simp only;omega,i3,by simp only;rw[htl];exact i4,by simp only;rw[htl];exact i5,hdr W (.inl rfl)⟩,aO.mk (by simp only[aA,seval])⟩
 · have hge:j=l.length:=by simp at h;omega
   subst hge
   rw[dS] at i4 i5
   have hsl:∀(φ:AF) (y:Operand),φ.eval y=.int .i64 (i:Int)→eV prog φ 26 (.mslice b 0 l.length 1) (some y) none none=some (.mslice b i (l.length - i) 1):=fun φ y hy=>by
    unfold eV
    rw[aE (by simp [nV])]
    simp only[mG,fO,dC,hy]
    rw[aG (by constructor<;>omega)]
    simp only[jO]
    by_cases h0:i=0
    · simp [h0]
    · simp [h0,i1]
   have hsh:∀(φ:AF) (y:Operand),φ.eval y=.int .i64 (i:Int)→eV prog φ 26 (.mslice b 0 l.length 1) none (some y) none=some (.mslice b 0 i 1):=fun φ y hy=>by
    unfold eV
    rw[aE (by simp [nV])]
    simp only[mG,fO,dC,hy]
    rw[aG (by constructor<;>omega)]
    simp
   simp only[hsl,aA,seval]
   refine aZJ fO sQ (by decide) rfl rfl (aB.aJ _ _ _) (by omega) ?_
   rw[dO]
   simp only[hsh,aA,seval]
   refine⟨aK W i (j5 [.int .i64 0] (l.length - i)),by rw[←i5],rfl,?_⟩
   rw[←i5,a90 (by omega)]
   exact i4
abbrev aQO:=zi aW (zi cF (zi cW (zi jM (zi bR mT))))
theorem aV7{p:List Cl}(hp:∀c∈p,gD c∧c.2.length≤6)(key:ByteArray)(x:Nat)(hx:x<p.length)(st:aB)(hT:st iE=some jG):aD prog 162 [nv x,.pptr (.slice (p.map bY)),.pptr (.str key)] st (fun r st'=>r=.bool (!EE p key x)∧st'=st):=by
 obtain⟨c,hc⟩:∃c,p[x]?=some c:=⟨_,d4 hx⟩
 have hat:=bH (av:=bY) (P:=prog) rA hc (k8 c)
 have hck:=ZJ (hp c (cH hc)).1.head st hT
 have hF:EE p key x=MG (zW c.1) key:=by unfold EE;rw[hc]
 rw[hF]
 obtain⟨⟨k,n,s',ts⟩,bd⟩:=c
 rw[iW] at hat
 simp only[aX] at hck
 simp only[nv]
 refine wF [1000000] 3 func162 ntmps162 rfl rfl ?_
 intro _
 simp only[aA,seval]
 refine D1 mixed (by decide +kernel) (by decide +kernel) ?_
 simp only[hat,aA,seval,aQO]
 refine gP hck ?_
 simp only[aA,seval,aQO]
 refine gP (aWB _ key _) ?_
 simp only[aA,seval]
abbrev aQP:=zi cW (zi fJ (zi jM bR))
theorem aV6{p:List Cl}(hp:∀c∈p,gD c∧c.2.length≤6){N:Int}{t:Tm}(ht:bG N t)(l:List Nat)(hl:l≠[])(hlt:∀i∈l,i<p.length)(h9:l.length≤1048576)(st:aB)(hT:st iE=some jG):aD prog 85 [.slice (p.map bY),.slice (l.map nv),t.av] st (fun r st'=>r=.slice ((tY p t l).map nv)∧st'=st):=by
 refine aD.freeze (aD.cut ?_)
 have hk:=ZJ ht st hT
 have hcl:=a7X l hl h9 st
 have zO:(l.filter fun x=> !(!EE p (zW t) x))=tY p t l:=by unfold tY;simp only[Bool.not_not]
 generalize hkt:zW t=key at *
 obtain⟨tk,tn,ts',tts⟩:=t
 simp only[aX] at hk ⊢
 refine wF [1000000] 3 func85 ntmps85 rfl rfl ?_
 intro _
 simp only[aA,seval,aQP]
 refine(hk).to ?_
 simp only[aA,↓aS,seval,aQP]
 refine(hcl).mono ?_
 rintro _ _ ⟨b,hb,rfl,rfl⟩
 simp only[aA,seval]
 have hb0:iE≠b:=by rintro rfl;rw[hT] at hb;cases hb
 have a4E:=a7Y l _ [.pptr (.slice (p.map bY)),.pptr (.str key)] (fun i=> !EE p key i) b h9 (st.aC b (.cells (l.map nv))) (aB.aJ _ _ _) (fun x hx cs=>aV7 hp key x (hlt x hx) _ (by rw[dO,aB.aH _ _ hb0];exact hT))
 refine(a4E).mono ?_
 rintro _ _ ⟨W,rfl,rfl,hW⟩
 rw[zO] at hW ⊢
 simp only[aA,seval]
 have hfl:∀L:List Nat,(L.map nv).flatMap AV.cells=L.map nv:=fun L=>by
  induction L with
  | nil=>rfl
  | cons a L ih=>simp only[bA,qT,ih];rfl
 refine⟨b,W,_,aB.aJ _ _ _,b,_,by rw[aB.aJ,hW,hfl],fun e he=>?_,⟨1,T9 _⟩,by simp [AV.fz],by rw[dO,aB.BU _ _ _ hb]⟩
 simp only[cB] at he
 obtain⟨_,_,rfl⟩:=he
 rfl
def G3(st0 st':aB)(S c m:Nat)(p:List Cl)(q:List Tm)(idx:Bool)(fuel used:Int)(r:AV):yM→Prop
 | .go i'=>r=.int .i64 (-1)∧∃qt qc qn mx nd,dI st0 st' S c m qt qc qn p q idx fuel used mx nd i'
 | .fail i'=>XE st0 st' S c m p q idx fuel used r (gS p i'.chs.length i')
 | .stop e=>r=.int .i64 e∧∃qt qc qn mx nd i',dI st0 st' S c m qt qc qn p q idx fuel used mx nd i'
def PE(p:List Cl)(idx:Bool)(cnd:Tm→List Nat→List Nat):Prop:=cnd=if idx=true then tY p else fun _ l=>l
theorem a6M(yn:Int)(ys:ByteArray)(yts:List Tm)(st:aB):aD prog 101 [(Tm.mk 3 yn ys yts).av] st (fun r st'=>r=.bool (sM (.mk 3 yn ys yts))∧st'=st):=by
 have h:=ZN 3 yn ys yts st
 have e:(decide ((3:Int)=3)&&decide ((yts.length:Int)=0)&&decide (ys=⟨#[33]⟩))=sM (.mk 3 yn ys yts):=by
  rw[wK]
  simp [sM,Tm.k,Tm.s,Tm.ts,and_comm]
  exact fun _=>⟨fun h=>eE h,fun h=>of_decide_eq_true h⟩
 rw[e] at h
 exact h
theorem a6L(yn:Int)(ys:ByteArray)(yts:List Tm)(st:aB):aD prog 100 [(Tm.mk 3 yn ys yts).av] st (fun r st'=>r=.bool (isBuiltin ys (yts.length:Int))∧st'=st):=by
 have h:=QS 3 yn ys yts st
 rw[show(decide ((3:Int)=3)&&isBuiltin ys (yts.length:Int))=isBuiltin ys (yts.length:Int) from rfl] at h
 exact h
abbrev lY:=zi aW (zi cF (zi fJ (zi jM (zi bR (zi GB (zi WN (zi pQ (zi GC (zi WP (zi WQ (zi J5 (zi aRF aRG))))))))))))
set_option maxHeartbeats 2000000 in
theorem aYR{p:List Cl}(hp:∀c∈p,gD c∧c.2.length≤6)(hpl:p.length≤20){cnd:Tm→List Nat→List Nat}(hc:∀(ρ:Int→Int) (t:Tm) (l:List Nat),cnd (b9 ρ t) l=cnd t l)(hd:∀t l,(∀i∈cnd t l,i∈l)∧(cnd t l).length≤l.length){idx:Bool}(zO:PE p idx cnd)
 {B M k:Nat} (hB:B+26≤524288) (hM:M+520≤16777216) (hk:k+1≤524288) {st0 st:aB} {S c m:Nat} {qt qc qn:AV} {q:List Tm} {fuel used:Int} {mx:Int} {nd:List AV} {s:RS} {i:IS} {g:IG} {rest:List IG}
 (zS:idx=true→st0 iE=some jG) (h:dI st0 st S c m qt qc qn p q idx fuel used mx nd i) (hR:RI p B M k s i) (hg:i.goals=g::rest) (hu0:0≤used) (hu:used≤1000000) :
 aD prog 245 [.ptr S 0] st (fun r st'=>if used=fuel then r=.int .i64 2∧dI st0 st' S c m qt qc qn p q idx fuel used mx nd i else G3 st0 st' S c m p q idx fuel (used+1) r (mJ p cnd i g rest)):=by
 have hp1:=fun c h=>(hp c h).1
 obtain⟨hgd,ho,hcl,_⟩:=hR.r.facts
 obtain⟨hgo,hg3,_⟩:=hR.r.goal hg
 have hct:=hR.cut hg
 have hst:=hR.step hp hpl hc hd hB hg
 have bER:=hR.p5
 have hnn:=hR.n
 have hX:=hR.x
 obtain⟨rk,D,G⟩:=hgd.rs
 have hfo:=MH hgd ho hgo
 have hyk:(g.t.aM (rs i.σ)).k=3:=by rw[Tm.rO _ (by omega)];exact hg3
 have B6:=aAJ G (ho.imp fun t ht=>ht.1.2.1) (ho.imp fun t ht=>ht.1.small) c m qt g.t hgo.1.2.1 hgo.1.small
 generalize hT:mJ p cnd i g rest=T at *
 unfold mJ at hT
 obtain⟨⟨gk,gn,gs',gts⟩,cut,up⟩:=g
 simp only at hgo hg3 hct hfo hyk B6 hT
 generalize (Tm.mk gk gn gs' gts).aM (rs i.σ)=y at *
 obtain⟨yk,yn,ys,yts⟩:=y
 obtain rfl:yk=3:=hyk
 simp only[Tm.s,Tm.ts] at hT
 have gQ:=h.cell
 rw[hg,uB] at gQ
 simp only[iC] at gQ
 obtain⟨t1,t2,t3,t4,t5⟩:=h.sto.shape
 obtain⟨n1,n2,n3,n4,n5⟩:=h.acC.shape
 obtain⟨m1,m2,m3,m4,m5⟩:=h.acN.shape
 obtain⟨l1,l2,l3,l4,l5,l6⟩:=p7 rest
 refine aD.nR ?_
 refine wF [1000000] 1 func245 ntmps245 rfl rfl ?_
 intro _
 simp only[aA,seval]
 refine wX [(0,1),(1,1),(2,1),(3,1),(4,1),(5,1),(6,1),(7,1),(8,1)] [0,1,2,3,4,5,6,7,8] _ mixed rfl (fP gQ) ?_
 simp only[uM,aA,seval,lY]
 refine aP (fun h1=>?_) (fun h1=>?_)
 · have h1':used=fuel:=by simpa using h1
   simp only[aA,seval]
   exact⟨st,aL.refl _,by rw[aG h1'];exact h⟩
 have h1':used≠fuel:=by simpa using h1
 have hw:=bF (n:=used+1)
 simp only[aK,gQ,hw,aB.aJ,aA,seval,lY]
 have h2:=h.put (gl:=i.goals) (F:=i.fresh) (fuel':=fuel) (used':=used+1) (mx':=mx) rfl
 rw[hg,uB] at h2
 simp only[iC] at h2
 generalize aB.aC st S _=V at h2 ⊢
 have sS:=h2.cell
 rw[uB] at sS
 simp only[iC] at sS
 have hSV:=h2.sto
 have hr:=fun(s2:aB) (hs2:eD V s2)=>B6 s2 ⟨hs2 _ _ hSV.sub.cells,hs2 _ _ hSV.sub.map⟩
 unfold NK at hr
 by_cases hf:eQ (.mk 3 yn ys yts)=true
 case neg=>
  rw[aE (by unfold eQ at hf;simpa using hf)] at hr
  rw[aG (by simpa using hf)] at hT
  subst hT
  simp only[aX,Tm.zero,aY] at hr
  refine wX [(0,1),(1,1),(2,1),(3,1),(4,1),(5,1),(6,1),(7,1),(8,1),(9,1),(10,1),(11,1),(12,0),(13,0),(14,1)] [0,1,2,3,4,5,6,7,8,9,10,11,14] V mixed rfl (eD.refl V) ?_
  simp only[sS,aA,seval,lY]
  refine D5 hr ?_
  simp only[aK,aB.aJ,aA,seval,lY]
  exact fun b hb=>⟨ME hb,ME hb,V,(aL.refl _).aC hb,by rw[aE h1'];exact⟨rfl,_,_,_,_,_,_,h2⟩⟩
 rw[aG (by unfold eQ at hf;simpa using hf)] at hr
 rw[aE (by rw[hf];simp)] at hT
 have hyo:=hfo hf
 simp only[aX] at hr
 have TJ:prog.underlying 264=some (.slice 314):=by kernel_rfl
 refine wX [(0,1),(1,1),(2,1),(3,1),(4,1),(5,1),(6,1),(7,1),(8,1),(9,1),(10,1),(11,1),(12,0),(13,0),(14,1)] [0,1,2,3,4,5,6,7,8,9,10,11,14] V mixed rfl (eD.refl V) ?_
 simp only[sS,aA,seval,lY]
 refine D5 hr ?_
 simp only[aK,aB.aJ,aA,seval,lY]
 intro b4 h4
 refine⟨ME h4,ME h4,?_⟩
 have h40:=h2.aLU h4
 have aMZ:idx=true→(st0.aC b4 (.cells [AV.int IntKind.i64 3,AV.int IntKind.i64 yn,AV.str ys,AV.slice (List.map Tm.av yts)])) iE=some jG:=fun hi=>by
  rw[aB.aH _ _ (by intro e;rw[←e,zS hi] at h40;cases h40)]
  exact zS hi
 have MN:S≠b4:=by rintro rfl;rw[sS] at h4;cases h4
 have h3:=h2.box (o:=.cells [AV.int IntKind.i64 3,AV.int IntKind.i64 yn,AV.str ys,AV.slice (List.map Tm.av yts)]) h4
 have IB:(st0.aC b4 (.cells [AV.int IntKind.i64 3,AV.int IntKind.i64 yn,AV.str ys,AV.slice (List.map Tm.av yts)])) b4=some (.cells [AV.int IntKind.i64 3,AV.int IntKind.i64 yn,AV.str ys,AV.slice (List.map Tm.av yts)]):=aB.aJ _ _ _
 have hun:=fun {st' qt qc qn q idx fuel used mx nd i}=>dI.unbox (st0:=st0) (st:=st') (S:=S) (c:=c) (m:=m) (qt:=qt) (qc:=qc) (qn:=qn) (p:=p) (q:=q) (idx:=idx) (fuel:=fuel) (used:=used) (mx:=mx) (nd:=nd) (i:=i) (b:=b4) (o:=.cells [AV.int IntKind.i64 3,AV.int IntKind.i64 yn,AV.str ys,AV.slice (List.map Tm.av yts)]) (hn:=h40)
 generalize V.aC b4 (.cells [AV.int IntKind.i64 3,AV.int IntKind.i64 yn,AV.str ys,AV.slice (List.map Tm.av yts)])=W at h3 ⊢
 generalize st0.aC b4 (.cells [AV.int IntKind.i64 3,AV.int IntKind.i64 yn,AV.str ys,AV.slice (List.map Tm.av yts)])=W0 at h3 IB hun aMZ
 clear sS hSV hr h2
 have EO:=h3.cell
 rw[uB] at EO
 simp only[iC] at EO
 have hbW:=h3.aV b4 _ IB
 have hlN:=h3.acN.len TJ
 rw[h3.ndl] at hlN
 simp only at hlN
 simp only[EO,hlN,m1,aA,seval]
 obtain⟨s0,z1,z2,z3⟩:=O1 MN _ _
 refine wX [(0,1),(1,1),(2,1),(3,1),(4,1),(5,1),(6,1),(7,1),(8,1),(9,1),(10,1),(11,1),(12,0),(13,1),(14,1),(15,2)] [0,1,2,3,4,5,6,7,8,9,10,11,13,14] s0 mixed rfl (z3 _ EO hbW) ?_
 simp only[z1,z2,m1,aA,seval,lY]
 refine fW.append L6 aBE aBH rfl (by decide) h3.acN rfl rfl (by rw[h3.ndl];simp only;omega) (fun qn5 s5 f9 hf hn=>?_)
 have hbo:b4∉jL S c m qt qc qn:=fun hm=>by have:=h3.new b4 hm;rw[IB] at this;cases this
 have hold:∀y o,W y=some o→y∉aR qn→s5 y=some o:=fun y o hy hq=>by
  rw[hf y hq fun hq'=>by
   rcases hn y hq' with h' | h'
   · exact hq h'
   · rw[hy] at h';cases h']
  exact hy
 have uE:=hold S _ EO h3.parts.2.2.2.2.2.1
 have hb5:=hold b4 _ hbW fun hm=>hbo (d8.2 (.inr (.inr (.inr (.inr (.inr hm))))))
 obtain⟨m1,m2,m3,m4,m5⟩:=f9.shape
 simp only[aK,uE,m4,m5,aA,seval,lY]
 refine⟨z3 _ uE hb5,?_⟩
 have h5:=h3.a8Y (n':=i.nn+1) f9 (by rw[dN,h3.ndl];try rfl) (fun e he=>by
  rcases eH.1 he with he | he
  · exact h3.ndw e he
  · simp only[cY,dK,dQ] at he;subst he;rfl) hf hn rfl
 rw[uB] at h5
 simp only[iC] at h5
 generalize aB.aC s5 S _=W5 at h5 ⊢
 clear uE hb5 hold hf hn EO hbW
 have kV:=h5.cell
 rw[uB] at kV
 simp only[iC] at kV
 have hb6:=h5.aV b4 _ IB
 have aMI:=a6M yn ys yts
 have aME:=a6L yn ys yts
 simp only[aX] at aMI aME
 simp only[hb6,aA,seval]
 refine(aMI _).to ?_
 simp only[aA,seval]
 refine aP (fun hcu=>?_) (fun hcu=>?_)
 · simp only[hcu,eX] at hT
   subst hT
   simp only[kV,aA,seval,lY]
   have hsl:=fun(φ:AF) (dd:Nat) (h:φ dd=.int .i64 (cut:Int))=>aPM HZ h5.acC h (by rw[aF];exact hct)
   have hQ:=(h5.acC.take (k:=cut) (by rw[aF];exact hct) (TN _)).shape
   obtain⟨c1,c2,c3,c4,c5⟩:=hQ
   obtain⟨s1,y1,y2,y3⟩:=O1 MN _ _
   refine wX [(0,1),(1,1),(2,1),(3,1),(4,1),(5,1),(6,1),(7,1),(8,1),(9,1),(10,1),(11,1),(12,2)] [0,1,2,3,4,5,6,7,8,9,10,11] s1 mixed rfl (y3 _ kV hb6) ?_
   simp only[aK,y1,kV,hsl,c4,c5,n1,l1,l2,l4,l5,aB.aJ,aA,seval,lY]
   refine⟨_,aL.refl _,?_⟩
   rw[aE h1']
   have h6:=h5.aA5 (k:=cut) (gl:=rest) hct rfl
   exact⟨rfl,_,_,_,_,_,hun h6⟩
 simp only[hcu,fX,dT] at hT
 simp only[hb6,aA,seval,lY]
 refine(aME _).to ?_
 simp only[aA,seval]
 refine aP (fun hbl=>?_) (fun hbl=>?_)
 · simp only[hbl,eX] at hT
   have hks:∀x∈yts,bG i.fresh x:=rP _ (.mk 3 yn ys yts) (show(3:Int)≠1 by decide) hyo
   have sR:=aVW hgd ho yn ys yts hbl hks c m qt i.tr W5 h5.sto (by have:=hX.WX;have:=hX.phi;omega)
   simp only[aX] at sR
   replace hT:(if(dE i.σ ys yts).1=0 then yM.go { goals:=rest,σ:=(dE i.σ ys yts).2.1,tr:=i.tr++(dE i.σ ys yts).2.2,chs:=i.chs,fresh:=i.fresh,nn:=i.nn+1 } else if(dE i.σ ys yts).1=1 then yM.fail { goals:=i.goals,σ:=(dE i.σ ys yts).2.1,tr:=i.tr++(dE i.σ ys yts).2.2,chs:=i.chs,fresh:=i.fresh,nn:=i.nn+1 } else yM.stop (p6 (dE i.σ ys yts).1))=T:=hT
   generalize EY:dE i.σ ys yts=Z at sR hT
   obtain⟨code,σ',add⟩:=Z
   simp only at hT
   obtain⟨s1,y1,y2,y3⟩:=O1 MN _ _
   refine wX [(0,1),(1,1),(2,1),(3,1),(4,1),(5,0),(6,1)] [0,1,2,3,4,6] s1 mixed rfl (y3 _ kV hb6) ?_
   simp only[y1,y2,aA,seval,lY]
   refine sR.mono ?_
   rintro _ s6 ⟨rfl,hP⟩
   obtain⟨qt6,h6⟩:=h5.post hP
   have oO:=h6.cell
   rw[uB] at oO
   simp only[iC] at oO
   have hb7:=h6.aV b4 _ IB
   obtain⟨t1,t2,t3,t4,t5⟩:=h6.sto.shape
   simp only[aA,seval]
   refine⟨y3 _ oO hb7,?_⟩
   refine aP (fun hc0=>?_) (fun hc0=>?_)
   · have SS:code=0:=by simpa using hc0
     rw[aG SS] at hT
     subst hT
     simp only[aK,oO,l1,l2,l4,l5,aA,seval,lY]
     refine⟨_,aL.refl _,?_⟩
     rw[aE h1']
     exact⟨rfl,_,_,_,_,_,hun (h6.put (gl:=rest) (F:=i.fresh) (fuel':=fuel) (used':=used+1) (mx':=mx) rfl)⟩
   have SS:code≠0:=by simpa using hc0
   rw[aE SS] at hT
   simp only[aA,seval]
   refine aP (fun hc1=>?_) (fun hc1=>?_)
   · have ST:code=1:=by simpa using hc1
     rw[aG ST] at hT
     subst hT
     simp only at hst
     rw[←hg] at h6
     have hbk:=LJ hp (M:=M+520) (by omega) _ _ _ _ _ _ ({ goals:=i.goals,σ:=σ',tr:=i.tr++add,chs:=i.chs,fresh:=i.fresh,nn:=i.nn+1 }:IS) s.chs (T:=gS p (({ goals:=i.goals,σ:=σ',tr:=i.tr++add,chs:=i.chs,fresh:=i.fresh,nn:=i.nn+1 }:IS)).chs.length ({ goals:=i.goals,σ:=σ',tr:=i.tr++add,chs:=i.chs,fresh:=i.fresh,nn:=i.nn+1 }:IS)) ⟨h6,hst.1,hst.2.1,rfl,⟨by rw[hst.1.len];have:=hR.a.a.p5;omega,kQ hst.2.2.1 (by omega)⟩⟩
     simp only[aA,seval]
     refine hbk.mono ?_
     rintro r s7 hr
     simp only[aA,seval]
     refine⟨s7,aL.refl _,?_⟩
     rw[aE h1']
     simp only[G3]
     cases hB2:gS p (({ goals:=i.goals,σ:=σ',tr:=i.tr++add,chs:=i.chs,fresh:=i.fresh,nn:=i.nn+1 }:IS)).chs.length ({ goals:=i.goals,σ:=σ',tr:=i.tr++add,chs:=i.chs,fresh:=i.fresh,nn:=i.nn+1 }:IS) with
     | none=>
      rw[hB2] at hr
      obtain⟨e1,qt7,qc7,qn7,mx7,nd7,i7,h7⟩:=hr
      exact⟨e1,_,_,_,_,_,_,hun h7⟩
     | some i7=>
      rw[hB2] at hr
      obtain⟨e1,qt7,qc7,qn7,mx7,nd7,h7⟩:=hr
      exact⟨e1,_,_,_,_,_,hun h7⟩
   have ST:code≠1:=by simpa using hc1
   rw[aE ST] at hT
   subst hT
   simp only[aA,seval]
   refine(aV4 code _).to ?_
   simp only[aA,seval]
   refine⟨_,aL.refl _,?_⟩
   rw[aE h1']
   exact⟨rfl,_,_,_,_,_,_,hun h6⟩
 simp only[hbl,fX,dT] at hT
 have hpr:=aAH 3 yn ys yts
 have hcf:=aVY p (.mk 3 yn ys yts) (by omega)
 simp only[aX,Tm.s,Tm.ts] at hpr hcf
 obtain⟨s1,y1,y2,y3⟩:=O1 MN _ _
 simp only[aA,seval]
 refine wX [(0,1),(1,1),(2,1),(3,1),(4,1),(5,0),(6,0),(7,1)] [0,1,2,3,4,7] s1 mixed rfl (y3 _ kV hb6) ?_
 simp only[y1,y2,aA,seval,lY]
 refine(hpr _).to ?_
 simp only[aA,seval]
 refine⟨y3 _ kV hb6,?_⟩
 refine(hcf _).to ?_
 simp only[aF,aA,seval,lY]
 refine⟨y3 _ kV hb6,?_⟩
 refine aP (fun hl0=>?_) (fun hl0=>?_)
 · have qA:eJ p (.mk 3 yn ys yts)= []:=by simpa using hl0
   rw[aG qA] at hT
   subst hT
   simp only[aA,seval]
   refine⟨_,aL.refl _,?_⟩
   rw[aE h1']
   exact⟨rfl,_,_,_,_,_,_,hun h5⟩
 have qA:eJ p (.mk 3 yn ys yts)≠[]:=by simpa using hl0
 rw[aE qA] at hT
 have hfl:=a26 p (.mk 3 yn ys yts)
 have h5':=h5
 rw[←hg] at h5'
 have E2:=fun(l:List Nat) (hl:∀i∈l,i<p.length) (h20:l.length≤p.length)=>aAR hp (M:=M+520) (by omega) h5' (.mk 3 yn ys yts) i.nn rest l hgd ho hyo hl (by omega) (by simp only;omega) (hX.up (Nat.le_add_right M 520)).node (by have:=hX.phi;simp only;omega) (by simp only;omega) (by simp only;omega)
 have eR:=fun st hT=>aV6 hp hyo (eJ p (.mk 3 yn ys yts)) qA (R8 _ _) (by omega) st hT
 have hpW:=fun hi=>h5.aV iE _ (aMZ hi)
 have hds:=hd (.mk 3 yn ys yts) (eJ p (.mk 3 yn ys yts))
 simp only[aX] at E2 eR
 obtain rfl:cnd=if idx=true then tY p else fun _ l=>l:=zO
 cases idx with
 | false=>
  simp only[fX,dT] at hT
  simp only[kV,aA,seval,lY]
  have htr:=E2 (eJ p (.mk 3 yn ys yts)) (R8 _ _) (hfl)
  refine wX [(0,1),(1,1),(2,1),(3,1),(4,1),(5,1),(6,1),(7,1),(8,2)] [0,1,2,3,4,5,6,7] s1 mixed rfl (y3 _ kV hb6) ?_
  simp only[y2,l1,l2,aA,seval,lY]
  refine htr.mono ?_
  rintro _ s6 ⟨rfl,qt6,qc6,mx6,nd6,h6⟩
  simp only[aA,seval]
  refine aP (fun ht0=>?_) (fun ht0=>?_)
  · simp only[ht0,eX] at hT
    subst hT
    simp only[aA,seval]
    refine⟨_,aL.refl _,?_⟩
    rw[aE h1']
    exact⟨rfl,_,_,_,_,_,hun h6⟩
  simp only[ht0,fX,dT] at hT
  subst hT
  simp only at hst
  have hbk:=LJ hp (M:=M+520) (by omega) _ _ _ _ _ _ (fR p (.mk 3 yn ys yts) i.nn rest (eJ p (.mk 3 yn ys yts)) { i with nn:=i.nn+1 }).2 s.chs (T:=gS p ((fR p (.mk 3 yn ys yts) i.nn rest (eJ p (.mk 3 yn ys yts)) { i with nn:=i.nn+1 }).2).chs.length (fR p (.mk 3 yn ys yts) i.nn rest (eJ p (.mk 3 yn ys yts)) { i with nn:=i.nn+1 }).2) ⟨h6,hst.1,hst.2.1,rfl,⟨by rw[hst.1.len];have:=hR.a.a.p5;omega,kQ hst.2.2.1 (by omega)⟩⟩
  simp only[aA,seval]
  refine hbk.mono ?_
  rintro r s7 hr
  simp only[aA,seval]
  refine⟨s7,aL.refl _,?_⟩
  rw[aE h1']
  simp only[G3]
  cases hB2:gS p ((fR p (.mk 3 yn ys yts) i.nn rest (eJ p (.mk 3 yn ys yts)) { i with nn:=i.nn+1 }).2).chs.length (fR p (.mk 3 yn ys yts) i.nn rest (eJ p (.mk 3 yn ys yts)) { i with nn:=i.nn+1 }).2 with
  | none=>
   rw[hB2] at hr
   obtain⟨e1,qt7,qc7,qn7,mx7,nd7,i7,h7⟩:=hr
   exact⟨e1,_,_,_,_,_,_,hun h7⟩
  | some i7=>
   rw[hB2] at hr
   obtain⟨e1,qt7,qc7,qn7,mx7,nd7,h7⟩:=hr
   exact⟨e1,_,_,_,_,_,hun h7⟩
 | true=>
  simp only[eq_self,eX] at hT hds
  simp only[kV,aA,seval,lY]
  refine wX [(0,1),(1,1),(2,1),(3,1),(4,1),(5,1),(6,0),(7,1)] [0,1,2,3,4,5,7] s1 mixed rfl (y3 _ kV hb6) ?_
  simp only[y1,y2,aA,seval,lY]
  refine(eR _ (hpW rfl)).to ?_
  simp only[aA,seval]
  refine⟨y3 _ kV hb6,?_⟩
  have htr:=E2 (tY p (.mk 3 yn ys yts) (eJ p (.mk 3 yn ys yts))) ((fun x hx=>R8 _ _ x (hds.1 x hx))) ((kQ hds.2 hfl))
  refine wX [(0,1),(1,1),(2,1),(3,1),(4,1),(5,1),(6,1),(7,1),(8,2)] [0,1,2,3,4,5,6,7] s1 mixed rfl (y3 _ kV hb6) ?_
  simp only[y2,l1,l2,aA,seval,lY]
  refine htr.mono ?_
  rintro _ s6 ⟨rfl,qt6,qc6,mx6,nd6,h6⟩
  simp only[aA,seval]
  refine aP (fun ht0=>?_) (fun ht0=>?_)
  · simp only[ht0,eX] at hT
    subst hT
    simp only[aA,seval]
    refine⟨_,aL.refl _,?_⟩
    rw[aE h1']
    exact⟨rfl,_,_,_,_,_,hun h6⟩
  simp only[ht0,fX,dT] at hT
  subst hT
  simp only at hst
  have hbk:=LJ hp (M:=M+520) (by omega) _ _ _ _ _ _ (fR p (.mk 3 yn ys yts) i.nn rest (tY p (.mk 3 yn ys yts) (eJ p (.mk 3 yn ys yts))) { i with nn:=i.nn+1 }).2 s.chs (T:=gS p ((fR p (.mk 3 yn ys yts) i.nn rest (tY p (.mk 3 yn ys yts) (eJ p (.mk 3 yn ys yts))) { i with nn:=i.nn+1 }).2).chs.length (fR p (.mk 3 yn ys yts) i.nn rest (tY p (.mk 3 yn ys yts) (eJ p (.mk 3 yn ys yts))) { i with nn:=i.nn+1 }).2) ⟨h6,hst.1,hst.2.1,rfl,⟨by rw[hst.1.len];have:=hR.a.a.p5;omega,kQ hst.2.2.1 (by omega)⟩⟩
  simp only[aA,seval]
  refine hbk.mono ?_
  rintro r s7 hr
  simp only[aA,seval]
  refine⟨s7,aL.refl _,?_⟩
  rw[aE h1']
  simp only[G3]
  cases hB2:gS p ((fR p (.mk 3 yn ys yts) i.nn rest (tY p (.mk 3 yn ys yts) (eJ p (.mk 3 yn ys yts))) { i with nn:=i.nn+1 }).2).chs.length (fR p (.mk 3 yn ys yts) i.nn rest (tY p (.mk 3 yn ys yts) (eJ p (.mk 3 yn ys yts))) { i with nn:=i.nn+1 }).2 with
  | none=>
   rw[hB2] at hr
   obtain⟨e1,qt7,qc7,qn7,mx7,nd7,i7,h7⟩:=hr
   exact⟨e1,_,_,_,_,_,_,hun h7⟩
  | some i7=>
   rw[hB2] at hr
   obtain⟨e1,qt7,qc7,qn7,mx7,nd7,h7⟩:=hr
   exact⟨e1,_,_,_,_,_,hun h7⟩


abbrev aQQ:=zi aW (zi fJ bR)
theorem aYH(vars:List Int)(n:Int)(st:aB):aD prog 157 [.int .i64 n,.pptr (.slice (vars.map iv))] st (fun r st'=>r=(vr (eC n vars 0)).av∧st'=st):=by
 refine aD.done ?_
 refine wF [1000000] 2 func157 ntmps157 rfl rfl ?_
 intro _
 simp only[aA,seval,aQQ]
 intro b hb
 refine(ZF vars n _).to ?_
 simp only[aA,seval]
 refine(Q7 _ _).to ?_
 simp only[aK,cI,cE,fN (cE _),fG (a7 _),aA,seval,aQQ]
 exact⟨Tm.soft _,(aL.refl _).aC hb⟩
abbrev VX:=zi aW (zi fJ (zi cA bR))
theorem aYG(l:List Tm)(hln:l.length≤1048576)(hsz:bB Tm.nodes l≤1099511627776)(hsm:∀t∈l,t.small=true)(st:aB):aD prog 82 [.slice (l.map Tm.av)] st (fun r st'=>r=.slice ((lB l).map Tm.av)∧st'=st):=by
 refine aD.done ?_
 refine wF [1000000] 1 func82 ntmps82 rfl rfl ?_
 simp only[eM,AV.fits,eS,aF]
 intro ⟨hl,_⟩
 simp only[aA,seval]
 refine(HP l _ hsz).to ?_
 simp only[aF,aA,↓aS,seval,VX]
 generalize hv:bT l []=vars
 have hR:lB l=l.map fun t=>t.aM fun v=>vr (eC v vars 0):=by rw[←hv];try rfl
 rw[hR]
 refine oW (σ:=Unit) [1000000] [2,3,9,10] (l) 4 4 (fun i _=>(((l).take i).map (fun t=>t.aM fun v=>vr (eC v vars 0))).map Tm.av) (fun _ _=>True) (fun i _=>[(11,.int .i64 i)]) (fun _ _=>st) (fun i _ _ e he=>by simp only[cB] at he;obtain⟨t,_,rfl⟩:=he;exact⟨cP t,aN t⟩) (by decide +kernel) ⟨(),0,trivial,fun h=>absurd rfl h,aO.mk (by simp only[iV,jA,aY,aA,↓aS,seval])⟩ (fun i x s b hx hlt bL hdr hinv hb=>?_) (fun s b hge hinv=>?_)
 case refine_1=>
  have hw:=bF (n:=(i:Int)+1)
  have cM:((((l).take i).map (fun t=>t.aM fun v=>vr (eC v vars 0))).map Tm.av).length=i:=by simp only[aF,c7];omega
  have htk:((((l).take i).map (fun t=>t.aM fun v=>vr (eC v vars 0))).map Tm.av)++ [Tm.av ((fun t=>t.aM fun v=>vr (eC v vars 0)) x)]=(((l).take (i+1)).map (fun t=>t.aM fun v=>vr (eC v vars 0))).map Tm.av:=by rw[dY,hx];simp
  have hat:=bH (av:=Tm.av) bQ hx (aN x)
  simp only[bL,hat,aA,↓aS,seval,VX]
  refine(QZ (fun v=>vr (eC v vars 0)) _ [.pptr (.slice (vars.map iv))] rfl x _ (hsm x (cH hx)) (fun n _ s=>aYH vars n s)).to ?_
  simp only[aA,seval,VX]
  refine eO bQ jE jF rfl rfl (fQ (aN _) (cI _)) (by intro e he;simp only[cB] at he;obtain⟨t,_,rfl⟩:=he;exact aN t) hb (by simp only[cM,aU,aZ];omega) (by simp only[cM,aU,aZ];omega) (fun b' hb'=>?_)
  rw[htk] at hb' ⊢
  simp only[aA,seval]
  exact⟨(),b',hb',aO.mk (by simp only[hw,aA,seval])⟩
 simp only[hge,eW,iO,nS,zJ,kJ,dS,aA,seval]
 exact⟨rfl,aL.refl _⟩
def W6:Option (List Tm)→AV
 | none=>.tup [.slice [],.bool false]
 | some l=>.tup [.slice (l.map Tm.av),.bool true]
theorem aOK:∀ {l:List Tm},(∀t∈l,t.nodes≤120)→bB Tm.nodes l≤120*l.length
 | [],_=>by simp [bB]
 | t::l,h=>by
  have h1:=h t (by simp)
  have h2:=aOK (l:=l) fun x hx=>h x (by simp [hx])
  simp only[bB,aU];omega
abbrev JV:=zi aW (zi cF (zi fJ (zi cA (zi bR pQ))))
theorem aYX{N:Nat}{σ:Sub}(hg:cQ σ)(ho:cX (bG N) σ)(vars:List Int)(hv:∀v∈vars,0≤v∧v<(N:Int))(hl:vars.length≤1000)(c m:Nat)(q:AV)(st:aB)(hS:jB st c m q σ) :
 aD prog 246 [.ptr c 0,.slice (vars.map iv)] st (fun r st'=>r=W6 (jD σ vars)∧st'=st):=by
 obtain⟨rk,B,G⟩:=hg.rs
 have B6:=fun(t:Tm) (ht:bG N t) st hS=>aAJ G (ho.imp fun t ht=>ht.1.2.1) (ho.imp fun t ht=>ht.1.small) c m q t ht.1.2.1 ht.1.small st hS
 refine aD.done ?_
 refine wF [1000000] 2 func246 ntmps246 rfl rfl ?_
 intro _
 simp only[aF,aA,seval,JV]
 refine oW (σ:=Unit) [1000000] [0,11,12] vars 4 6 (fun i _=>((vars.take i).map (rs σ)).map Tm.av) (fun i _=>((vars.take i).map (rs σ)).all eQ=true) (fun i _=>[(4,.fslice []),(5,.bool false),(13,.int .i64 i)]) (fun _ _=>st) (fun i _ _ e he=>by simp only[cB] at he;obtain⟨t,_,rfl⟩:=he;exact⟨cP _,aN _⟩) (by decide +kernel) ⟨(),0,rfl,fun h=>absurd rfl h,aO.mk (by simp only[iV,jA,aY,aA,↓aS,seval])⟩ (fun i x s b hx hlt bL hdr hinv hb=>?_) (fun s b hge hinv=>?_)
 · have hw:=bF (n:=(i:Int)+1)
   have hxm:=cH hx
   obtain⟨hx0,hx1⟩:=hv x hxm
   have hvr:bG N (vr x):=⟨I4 hx0 hx1,by rw[vr,Tm.gJ];simp [bB]⟩
   have hat:c8 prog 26 (.slice (vars.map iv)) (.int .i64 (i:Int))=some (.pptr (.int .i64 x)):=bH (av:=iv) fO hx rfl
   have cM:(((vars.take i).map (rs σ)).map Tm.av).length=i:=by simp only[aF,c7];omega
   have dV:((vars.take (i+1)).map (rs σ)).all eQ=eQ (rs σ x):=by
    rw[dY,hx]
    simp only[DL,o7,bA,aY,DF,hinv,kY,List.all_nil,wJ,dU]
   have hr:=B6 (vr x) hvr _ (hS.acc hb)
   rw[uL] at hr
   unfold NK at hr
   simp only[bL,hat,aA,seval,JV]
   refine(Q7 x _).to ?_
   simp only[aA,seval]
   by_cases hf:eQ (rs σ x)=true
   · rw[aG (by unfold eQ at hf;simpa using hf)] at hr
     refine hr.to ?_
     simp only[a7,aN,cI,cP,aA,↓aS,seval,JV]
     refine eO bQ jE jF rfl rfl (fQ (aN _) (cI _)) (gO _) hb (by simp only[cM,aU,aZ];omega) (by simp only[cM,aU,aZ];omega) (fun b' hb'=>?_)
     rw[show(((vars.take i).map (rs σ)).map Tm.av)++ [(rs σ x).av]=((vars.take (i+1)).map (rs σ)).map Tm.av by rw[dY,hx];simp] at hb' ⊢
     simp only[hw,aA,seval]
     exact⟨(),b',by rw[dV];exact hf,hb',aO.mk (by simp only[aA,seval])⟩
   · rw[aE (by unfold eQ at hf;simpa using hf)] at hr
     refine hr.to ?_
     simp only[aN,cI,cP,aA,↓aS,seval,JV]
     have rF:jD σ vars=none:=by
      unfold jD
      rw[aE]
      rintro⟨h1,_⟩
      exact hf (dW.1 h1 _ (cB.2 ⟨x,hxm,rfl⟩))
     rw[rF]
     exact⟨rfl,aL.bE (aL.refl _) hb⟩
 · rw[dS] at hinv
   have hok:∀t∈vars.map (rs σ),bG N t:=fun t ht=>by
    obtain⟨v,hvm,rfl⟩:=cB.1 ht
    have hf:=dW.1 hinv _ ht
    unfold eQ at hf
    simp only[bV,bK] at hf
    exact⟨G.mN ho.mN v (hv v hvm).1 (hv v hvm).2,hf.2⟩
   have hsz:bB Tm.nodes (vars.map (rs σ))≤1099511627776:=by
    have:=aOK (l:=vars.map (rs σ)) fun t ht=>(hok t ht).2
    rw[aF] at this
    omega
   simp only[hge,eW,rB,iO,nS,H1,kJ,dS,aA,seval]
   refine(HP (vars.map (rs σ)) _ hsz).to ?_
   simp only[aF,aF,aA,seval,JV]
   refine aP (fun h=>?_) (fun h=>?_)
   · simp only[aA,seval]
     have h':¬(bT (vars.map (rs σ)) []).length≤26:=by simp at h;omega
     unfold jD
     rw[aE (fun hh=>h' hh.2)]
     exact⟨rfl,aL.refl _⟩
   · simp only[aA,seval]
     have h':(bT (vars.map (rs σ)) []).length≤26:=by simp at h;omega
     refine(aYG (vars.map (rs σ)) (by rw[aF];omega) hsz (fun t ht=>(hok t ht).1.small) _).to ?_
     simp only[aA,seval]
     unfold jD
     rw[aG ⟨hinv,h'⟩]
     exact⟨rfl,aL.refl _⟩
abbrev aQ1:=zi aW (zi cF (zi fJ (zi jM (zi cA (zi GB (zi GC J5))))))
theorem aX9(p:List Cl)(q:List Tm)(fuel:Int)(idx:Bool)(hq:q.length≤1048576)(st:aB) :
 aD prog 152 [.slice (p.map bY),.slice (q.map Tm.av),.int .i64 fuel,.bool idx] st (fun r st'=>∃S c m,r=.ptr S 0∧dI st st' S c m (.fslice []) (.fslice []) (.fslice []) p q idx fuel 0 0 [] (pF q)):=by
 have B5:=fun st=>Q1 q 0 (-1) [] hq st
 simp only[gM] at B5
 rw[eK] at B5
 refine wF [1000000,16] 4 func152 ntmps152 rfl rfl ?_
 intro _
 simp only[aA,seval]
 refine(aYA st).mono ?_
 rintro _ s1 ⟨c,m,rfl,hS,hQ,hc,hm⟩
 simp only[aA,seval,aQ1]
 intro S hS0
 have hSc:S≠c:=by rintro rfl;rw[hS.sub.cells] at hS0;cases hS0
 have hSm:S≠m:=by rintro rfl;rw[hS.sub.map] at hS0;cases hS0
 refine(B5 _).to ?_
 obtain⟨l1,l2,l3,l4,l5,l6⟩:=p7 (q.map (fun t=>(⟨t,0,-1⟩:IG)))
 simp only[aK,aB.aJ,l4,l5,aA,seval,aQ1]
 refine⟨S,c,m,rfl,?_⟩
 have hcm:c≠m:=by rintro rfl;have:=hS.sub.cells;rw[hS.sub.map] at this;cases this
 have aL2:st S=none:=by
  cases hh:st S with
  | none=>rfl
  | some o=>have:=hQ.frame S o hh hSc hSm (by simp [dM]);rw[hS0] at this;cases this
 refine⟨aB.aJ _ _ _,hS.aC hSc hSm (by simp [dM]),.inl ⟨rfl,rfl⟩,.inl ⟨rfl,rfl⟩,rfl,by simp,?_,?_,?_⟩
 · simp [jL,dM,aR,hSc,hSm,hcm]
 · intro b hb
   rcases d8.1 hb with rfl | rfl | rfl | hb | hb | hb
   · exact aL2
   · exact hc
   · exact hm
   · simp [dM] at hb
   · simp [aR] at hb
   · simp [aR] at hb
 · intro b o hb
   have e1:b≠S:=by rintro rfl;rw[aL2] at hb;cases hb
   rw[aB.aH _ _ e1]
   exact hQ.frame b o hb (by rintro rfl;rw[hc] at hb;cases hb) (by rintro rfl;rw[hm] at hb;cases hb) (by simp [dM])
theorem aVX(p:List Cl)(q:List Tm)(most fuel:Int)(st:aB) :
 aD prog 151 [.slice (p.map bY),.slice (q.map Tm.av),.int .i64 most,.int .i64 fuel] st (fun r st'=>r=.bool (nB p&&(g8 q&&(decide (0≤most)&&(decide (most≤20)&&(decide (0≤fuel)&&decide (fuel≤300))))))∧st'=st):=by
 have h1:=fun st=>ZM p st
 have h2:=fun st=>QP q st
 have h3:=fun n lo hi st=>BP n lo hi st
 refine wF [] 4 func151 ntmps151 rfl rfl ?_
 intro _
 simp only[aA,seval]
 refine(h1 _).to ?_
 simp only[aA,seval]
 refine cT (fun h=>?_) (fun h=>?_)
 · simp only[h,aA,seval]
   refine(h2 _).to ?_
   simp only[aA,seval]
   refine cT (fun h5=>?_) (fun h5=>?_)
   · simp only[h5,aA,seval]
     refine(h3 _ _ _ _).to ?_
     simp only[aA,seval]
     refine cT (fun h6=>?_) (fun h6=>?_)
     · simp only[h6,aA,seval]
       refine(h3 _ _ _ _).to ?_
       simp only[aA,seval]
       rw[←Bool.and_assoc (decide (0≤most)),h6,dU]
     · simp only[h6,aA,seval]
       rw[←Bool.and_assoc (decide (0≤most)),h6]
       try rfl
   · simp only[h5,aA,seval]
     rw[fF]
 · simp only[h,aA,seval]
   rw[fF]
theorem aYM(st:aB):aD prog 154 [] st (fun r st'=>r=.tup []∧st'=st):=by
 refine wF [1000000] 0 func154 ntmps154 rfl rfl ?_
 intro _
 simp only[aA,seval,]
structure PU where
 st:aB
 qt:AV
 qc:AV
 qn:AV
 mx:Int
 nd:List AV
 s:RS
 i:IS
 out:List (List Tm)
 b:Nat
 u:Nat
 B:Nat
 M:Nat
 e:Int
structure aSS (st0:aB) (S c m:Nat) (p:List Cl) (q:List Tm) (idx:Bool) (cnd:Tm→List Nat→List Nat) (vars:List Int) (most fuel:Nat) (T:List (List Tm)×Int) (x:PU):Prop where
 a:dI st0 x.st S c m x.qt x.qc x.qn p q idx fuel x.u x.mx x.nd x.i
 r:RI p x.B x.M x.u x.s x.i
 t:T=(x.out++(jU p cnd vars (most - x.out.length) (fuel - x.u) x.i).1,(jU p cnd vars (most - x.out.length) (fuel - x.u) x.i).2)
 u:x.u≤fuel
 B:x.B≤26+26*x.u
 M:x.M≤26+520*x.u
structure XU (st0:aB) (S c m:Nat) (p:List Cl) (q:List Tm) (idx:Bool) (cnd:Tm→List Nat→List Nat) (vars:List Int) (most fuel:Nat) (T:List (List Tm)×Int) (x:PU):Prop where
 d:aL x.st st0
 b:x.out.map bU≠[]→x.st x.b=none
 l:x.out.length≤most
 g:x.e= -1→aSS st0 S c m p q idx cnd vars most fuel T x
 f:x.e≠-1→T=(x.out,x.e)
abbrev OB:=zi aW (zi cF (zi fJ (zi nH (zi cA (zi tD (zi GB (zi pQ (zi GC J5))))))))
set_option maxHeartbeats 2000000 in
theorem aYJ{p:List Cl}(hp:∀c∈p,gD c∧c.2.length≤6)(hpl:p.length≤20){cnd:Tm→List Nat→List Nat}(hc:∀(ρ:Int→Int) (t:Tm) (l:List Nat),cnd (b9 ρ t) l=cnd t l)(hd:∀t l,(∀i∈cnd t l,i∈l)∧(cnd t l).length≤l.length){idx:Bool}(zO:PE p idx cnd)
 {q:List Tm} (hq:∀t∈q,bG 26 t∧t.k=3) (h6:q.length≤6) {most fuel:Nat} (hm:most≤20) (hf:fuel≤300) {st0 st:aB} {S c m:Nat} (zS:idx=true→st0 iE=some jG) (h:dI st0 st S c m (.fslice []) (.fslice []) (.fslice []) p q idx fuel 0 0 [] (pF q)) :
 aD prog 153 [.ptr S 0,.int .i64 (most:Int),.func 154 []] st (fun r st'=>∃b s,r=.tup [bS 1 b ((jU p cnd (bT q []) most fuel (pF q)).1.map bU),.int .i64 (jU p cnd (bT q []) most fuel (pF q)).2]∧st'=bE s b ((jU p cnd (bT q []) most fuel (pF q)).1.map bU)∧((jU p cnd (bT q []) most fuel (pF q)).1.map bU≠[]→s b=none)∧aL s st0):=by
 have hnd:bB Tm.nodes q≤1099511627776:=by
  have:=E9 q fun t ht=>(hq t ht).1.2
  omega
 have hva:=fun st=>HP q st hnd
 have hv:∀v∈bT q [],0≤v∧v<26:=fun v hv=>by
  rcases (yF q [] fun t ht=>(hq t ht).1.1.2.1).1 hv with h | ⟨t,ht,h⟩
  · cases h
  · exact(hq t ht).1.1.2.2 v h
 have hvl:(bT q []).length≤1000:=by
  have h1:=AT q []
  have h2:=E9 q fun t ht=>(hq t ht).1.2
  simp only[aZ] at h1
  omega
 have M4:=RI.start (p:=p) hq h6
 generalize hT:jU p cnd (bT q []) most fuel (pF q)=T
 generalize bT q []=vars at *
 have hI0:XU st0 S c m p q idx cnd vars most fuel T ⟨st,.fslice [],.fslice [],.fslice [],0,[],lU q,pF q,[],0,0,26,26,-1⟩:=
  ⟨h.t6,by simp,iU _,fun _=>⟨h,M4,by rw[←hT];try rfl,iU _,cU _,cU _⟩,fun h=>absurd rfl h⟩
 have SV:=h.cell
 simp only[iC] at SV
 obtain⟨l1,l2,l3,l4,l5,l6⟩:=p7 (pF q).goals
 refine wF [1000000] 3 func153 ntmps153 rfl rfl ?_
 intro _
 simp only[SV,aA,seval,OB]
 refine(hva _).to ?_
 simp only[aA,seval]
 clear SV l1 l2 l3 l4 l5 l6
 have hne:∀l:List IG,d6 prog .neq 262 (eK l) .nilptr=some (.bool (!l.isEmpty)):=fun l=>by
  have h:prog.underlying 262=some (.pointer 311):=by kernel_rfl
  cases l with
  | nil=>rw[eK];simp only[d6,h];rfl
  | cons g l=>obtain⟨⟨k,n,s,ts⟩,cut,up⟩:=g;rw[uB];simp only[d6,h];rfl
 refine iJ (σ:=PU) [1000000] [0,1,2,8] (fun x=>XU st0 S c m p q idx cnd vars most fuel T x)
  (fun x=>[(6,.fslice []),(7,.int .i64 0),(9,bS 1 x.b (x.out.map bU)),(10,.int .i64 x.e)])
  (fun x=>bE x.st x.b (x.out.map bU))
  (fun x=>(most - x.out.length)+(fuel - x.u)+(if x.e= -1 then 1 else 0)) (by decide +kernel) ⟨_,hI0,aO.mk (by simp only[iV,aY,aA,seval])⟩ ?_
 clear hI0 h hT M4
 rintro⟨st,qt,qc,qn,mx,nd,s,i,out,b,u,B,M,e⟩ ⟨hdr,hb,hlen,hgo,gR⟩
 simp only at hdr hb hlen hgo gR
 simp only
 simp only[aA,seval]
 refine aP (fun h=>?_) (fun h=>?_)
 case refine_2=>
  have h':e≠-1:=by simpa using h
  have hTe:=gR h'
  subst hTe
  simp only[mZ,aA,seval]
  exact⟨b,st,rfl,rfl,hb,hdr⟩
 obtain rfl:e= -1:=by simpa using h
 obtain⟨ha,hR,ht,hu,hBB,hMM⟩:=hgo rfl
 simp only at ha hR ht hu hBB hMM
 have hb0:out.map bU≠[]→st0 b=none:=fun h=>(hdr b).1 (hb h)
 have hA:=ha.acc hb
 have a5O:idx=true→bE st0 b (out.map bU) iE=some jG:=fun hi=>by
  by_cases hl:out.map bU= []
  · rw[hl];exact zS hi
  · rw[nN (by rintro rfl;have:=hb0 hl;rw[zS hi] at this;cases this)];exact zS hi
 have hlo:(out.map bU).length=out.length:=aF _
 have hun:prog.underlying 27=some (.slice 38):=by kernel_rfl
 have vV:=BJ (w:=1) (b:=b) (l:=out.map bU) hun
 rw[hlo] at vV
 have M5:∀l:List (List Tm),∀e∈l.map bU,e.width=1:=fun l e he=>by simp only[cB] at he;obtain⟨t,_,rfl⟩:=he;rfl
 have gQ:=hA.cell
 simp only[iC] at gQ
 obtain⟨l1,l2,l3,l4,l5,l6⟩:=p7 i.goals
 have xP:=hne i.goals
 simp only[aA,seval]
 refine(aYM _).to ?_
 simp only[gQ,l1,xP,aA,seval,OB]
 cases hg:i.goals with
 | cons g rest=>
  rw[hg] at xP
  simp only[List.isEmpty_cons,l9] at xP
  refine aP (fun h2=>?_) (fun h2=>absurd h2 (by first | rw[hg];simp | simp))
  simp only[aA,seval]
  rw[a58 hg] at ht
  have g7:=aYR hp hpl hc hd zO (B:=B) (M:=M) (k:=u) (by omega) (by omega) (by omega) a5O hA hR hg (by omega) (by omega)
  have hRs:=hR.step hp hpl hc hd (by omega) hg
  have hse:=a6C (p:=p) (cnd:=cnd) (i:=i) (g:=g) (rest:=rest)
  refine g7.mono ?_
  clear g7
  rintro r s2 hr
  split at hr
  · rename_i hfu
    obtain⟨rfl,hA2⟩:=hr
    obtain⟨s3,rfl,hb3,hA3⟩:=hA2.C7 hb0
    rw[aG (by omega)] at ht
    simp only[aA,seval]
    exact⟨⟨s3,qt,qc,qn,mx,nd,s,i,out,b,u,B,M,2⟩,by simp,⟨hA3.t6,hb3,hlen,fun h=>absurd h (by simp),fun _=>by rw[ht];simp⟩,aO.mk (by simp only[aA,seval])⟩
  · rename_i hfu
    have bEV:u<fuel:=by omega
    rw[aE (by omega)] at ht
    cases hS:mJ p cnd i g rest with
    | stop e=>
     rw[hS] at hr ht hse
     simp only[XV] at hse
     simp only at ht
     obtain⟨rfl,qt2,qc2,qn2,mx2,nd2,i2,hA2⟩:=hr
     obtain⟨s3,rfl,hb3,hA3⟩:=hA2.C7 hb0
     simp only[aA,seval]
     exact⟨⟨s3,qt,qc,qn,mx,nd,s,i,out,b,u,B,M,e⟩,by simp [hse],⟨hA3.t6,hb3,hlen,fun h=>absurd h hse,fun _=>by rw[ht];simp⟩,aO.mk (by simp only[aA,seval])⟩
    | go i'=>
     rw[hS] at hr ht hRs
     simp only at ht hRs
     obtain⟨s',hR'⟩:=hRs
     obtain⟨rfl,qt2,qc2,qn2,mx2,nd2,hA2⟩:=hr
     obtain⟨s3,rfl,hb3,hA3⟩:=hA2.C7 hb0
     simp only[aA,seval]
     exact⟨⟨s3,qt2,qc2,qn2,mx2,nd2,s',i',out,b,u+1,B+26,M+520,-1⟩,by simp;omega,⟨hA3.t6,hb3,hlen,fun _=>⟨hA3,hR',by rw[ht,Nat.sub_sub],by simp only;omega,by simp only;omega,by simp only;omega⟩,fun h=>absurd rfl h⟩,aO.mk (by simp only[aA,seval])⟩
    | fail i'=>
     rw[hS] at hr ht hRs
     simp only[G3] at ht hRs hr
     obtain⟨_,_,_,hRb⟩:=hRs
     cases hbk:gS p i'.chs.length i' with
     | none=>
      rw[hbk] at hr ht
      simp only at ht
      obtain⟨rfl,qt2,qc2,qn2,mx2,nd2,i2,hA2⟩:=hr
      obtain⟨s3,rfl,hb3,hA3⟩:=hA2.C7 hb0
      simp only[aA,seval]
      exact⟨⟨s3,qt,qc,qn,mx,nd,s,i,out,b,u,B,M,0⟩,by simp,⟨hA3.t6,hb3,hlen,fun h=>absurd h (by simp),fun _=>by rw[ht];simp⟩,aO.mk (by simp only[aA,seval])⟩
     | some i2=>
      rw[hbk] at hr ht
      simp only at ht
      obtain⟨s',hR'⟩:=hRb i2 hbk
      obtain⟨rfl,qt2,qc2,qn2,mx2,nd2,hA2⟩:=hr
      obtain⟨s3,rfl,hb3,hA3⟩:=hA2.C7 hb0
      simp only[aA,seval]
      exact⟨⟨s3,qt2,qc2,qn2,mx2,nd2,s',i2,out,b,u+1,B+26,M+520,-1⟩,by simp;omega,⟨hA3.t6,hb3,hlen,fun _=>⟨hA3,hR',by rw[ht,Nat.sub_sub],by simp only;omega,by simp only;omega,by simp only;omega⟩,fun h=>absurd rfl h⟩,aO.mk (by simp only[aA,seval])⟩
 | nil=>
  rw[hg] at xP
  simp only[List.isEmpty_nil,jZ] at xP
  refine aP (fun h2=>absurd h2 (by first | rw[hg];simp | simp)) (fun h2=>?_)
  simp only[vV,aA,seval]
  rw[a59 hg] at ht
  refine aP (fun h2=>?_) (fun h2=>?_)
  · have h':out.length=most:=by simp at h2;omega
    rw[aG (by omega)] at ht
    simp only[mZ,aA,seval]
    have hTe:T=(out,1):=by rw[ht];simp
    subst hTe
    exact⟨b,st,rfl,rfl,hb,hdr⟩
  have h':out.length<most:=by simp at h2;omega
  rw[aE (by omega)] at ht
  simp only[gQ,hg,aA,seval,OB]
  obtain⟨hgd,ho,_,_⟩:=hR.r.facts
  have hfr:26≤i.fresh:=by
   obtain⟨ρ,S',_⟩:=hR.r
   have h1:=S'.rng 25 (by omega) (by have:=S'.h26;omega)
   rw[S'.idn 25 (by omega) (by omega)] at h1
   omega
  refine(aYX (N:=i.fresh) hgd ho vars (fun v h=>⟨(hv v h).1,by have:=(hv v h).2;omega⟩) hvl c m qt _ hA.sto.sub).to ?_
  cases rF:jD i.σ vars with
  | none=>
   rw[rF] at ht
   simp only[W6]
   simp only at ht
   simp only[mZ,aA,seval]
   have hTe:T=(out,3):=by rw[ht];simp
   subst hTe
   exact⟨b,st,rfl,rfl,hb,hdr⟩
  | some a=>
   rw[rF] at ht
   simp only[W6]
   simp only at ht
   simp only[aA,seval,OB]
   refine eO (P:=prog) (b:=b) (l:=out.map bU) (xs:=[bU a]) oN HW H0 rfl rfl (fQ rfl rfl) (M5 out) hb (by simp only[aU,aZ,hlo];omega) (by simp only[aU,aZ,hlo];omega) (fun b' hb'=>?_)
   rw[show(out.map bU)++ [bU a]=(out++ [a]).map bU by simp] at hb' ⊢
   have hA':=ha.acc hb'
   have aMA:(out++ [a]).map bU≠[]→st0 b'=none:=fun h=>(hdr b').1 (hb' h)
   have a32:=hA'.cell
   simp only[iC] at a32
   simp only[aA,seval]
   have hbk:=LJ hp (M:=M) (by omega) _ qt qc qn mx nd i s.chs (st0:=bE st0 b' ((out++ [a]).map bU)) (S:=S) (c:=c) (m:=m) (q:=q) (idx:=idx) (fuel:=fuel) (used:=u) (T:=gS p i.chs.length i) ⟨hA',hR.cr,hR.x,rfl,by have:=hR.p5;have:=hR.n;constructor<;>omega⟩
   refine hbk.mono ?_
   rintro r s2 hr
   have hln:(out++ [a]).length=out.length+1:=by simp
   cases hbk:gS p i.chs.length i with
   | none=>
    rw[hbk] at hr ht
    simp only at ht
    obtain⟨rfl,qt2,qc2,qn2,mx2,nd2,i2,hA2⟩:=hr
    obtain⟨s3,rfl,hb3,hA3⟩:=hA2.C7 aMA
    simp only[aA,seval]
    exact⟨⟨s3,qt,qc,qn,mx,nd,s,i,out++ [a],b',u,B,M,0⟩,by simp only[hln];simp;omega,⟨hA3.t6,hb3,by simp only[hln];omega,fun h=>absurd h (by simp),fun _=>by rw[ht]⟩,aO.mk (by simp only[aA,seval])⟩
   | some i2=>
    rw[hbk] at hr ht
    simp only at ht
    obtain⟨s',hR'⟩:=hR.back hp (by omega) hbk
    obtain⟨rfl,qt2,qc2,qn2,mx2,nd2,hA2⟩:=hr
    obtain⟨s3,rfl,hb3,hA3⟩:=hA2.C7 aMA
    simp only[aA,seval]
    exact⟨⟨s3,qt2,qc2,qn2,mx2,nd2,s',i2,out++ [a],b',u,B,M,-1⟩,by simp [hln];omega,⟨hA3.t6,hb3,by simp only[hln];omega,fun _=>⟨hA3,hR',by rw[ht];simp only[hln,lL,gV,fB,Nat.sub_sub],hu,hBB,hMM⟩,fun h=>absurd rfl h⟩,aO.mk (by simp only[aA,seval])⟩
theorem yQ.a73{st st':aB}{a o:AV}{k:IntKind}{n:Int}(h:Made st a o st'):yQ st [a,.int k n] (.tup [o,.int k n]) st':=by
 obtain⟨bs,h1,h2,h3,h4⟩:=h
 exact⟨_,bs,rfl,h1,h2,a8F.2 ⟨o,.int k n,bs,[],rfl,by simp,h3,⟨rfl,rfl⟩⟩,h4⟩
def PP(st:aB)(L:List AV)(e:Int)(r:AV)(st':aB):Prop:=∃o,r=.tup [o,.int .i64 e]∧Made st (.slice L) o st'∧(L= []→o=.fslice [])
structure vC (st:aB) (L:List AV) (b i:Nat) (os:List AV) (bs:List Nat) (s:aB):Prop where
 len:os.length=i
 own:bO s (L.take i) os bs
 nd:bs.Nodup
 new:∀q∈bs,st q=none
 bn:L≠[]→b∉bs
 cell:L≠[]→s b=some (.cells (os.flatMap AV.cells++(L.drop i).flatMap AV.cells))
 aV:∀q,q∉bs→(L≠[]→q≠b)→s q=st q
theorem vC.start{st:aB}{L:List AV}{b:Nat}:vC st L b 0 [] [] (bE st b L):=by
 refine⟨rfl,by simp [bO],oF,by simp,by simp,fun h=>?_,fun q _ h=>?_⟩
 · rw[kS h,aB.aJ];try rfl
 · cases L with
   | nil=>rfl
   | cons x l=>exact nN (h (by simp))
theorem vC.done{st s:aB}{L os:List AV}{b w:Nat}{bs:List Nat}(h:vC st L b L.length os bs s)(hb:L≠[]→st b=none)(hw:∀e∈L,e.width=w):Made st (.slice L) (bS w b L) s:=by
 obtain⟨h1,h2,h3,h4,h5,h6,h7⟩:=h
 rw[dS] at h2
 by_cases hL:L= []
 · subst hL
   simp only[bO] at h2
   obtain⟨rfl,rfl⟩:=h2
   exact⟨[],oF,by simp,.inl ⟨rfl,rfl,rfl⟩,fun q hq=>h7 q hq (fun h=>absurd rfl h)⟩
 · refine⟨b::bs,GT.2 ⟨h5 hL,h3⟩,fun q hq=>?_,?_,fun q hq=>?_⟩
   · rcases cY.1 hq with rfl | hq
     · exact hb hL
     · exact h4 q hq
   · rw[pW hL]
     refine .inr ⟨b,bs,os,w,rfl,rfl,?_,h2,hw⟩
     have:=h6 hL
     rw[kB] at this
     simpa using this
   · simp only[cY,not_or] at hq
     exact h7 q hq.2 fun _=>hq.1
theorem vC.step{st s s2:aB}{L os B:List AV}{b i:Nat}{bs bx:List Nat}{e r:AV}(h:vC st L b i os bs s)(he:L[i]?=some (.agg [e]))(hB:(L.drop (i+1)).flatMap AV.cells=B)(m1:bx.Nodup)(m2:∀q∈bx,s q=none)(m3:cG s2 e r bx)(m4:∀q,q∉bx→s2 q=s q) :
 vC st L b (i+1) (os++ [.agg [r]]) (bs++bx) (s2.aC b (.cells (os.flatMap AV.cells++ [r]++B))):=by
 obtain⟨h1,h2,h3,h4,h5,h6,h7⟩:=h
 have hi:i<L.length:=(fA.1 he).1
 have hL:L≠[]:=by rintro rfl;simp at hi
 have EY:=bO.iR _ _ _ h2
 have zT:∀q∈bs,s q≠none:=fun q hq=>by obtain⟨cs,e1,_⟩:=EY.2 q hq;rw[e1];simp
 have hsb:=h6 hL
 have hbx:b∉bx:=fun hq=>by have:=m2 b hq;rw[hsb] at this;cases this
 have EQ:∀q∈bs,q∉bx:=fun q hq hq'=>zT q hq (m2 q hq')
 have hbs:∀q∈bs,(s2.aC b (.cells (os.flatMap AV.cells++ [r]++B))) q=s q:=fun q hq=>by
  rw[aB.aH _ _ (by rintro rfl;exact h5 hL hq),m4 q (EQ q hq)]
 refine⟨by simp [h1],?_,pS.2 ⟨h3,m1,fun a ha c hc e=>EQ a ha (e▸hc)⟩,fun q hq=>?_,fun _ hq=>?_,fun _=>?_,fun q hq hne=>?_⟩
 · rw[dY,he,DL]
   refine h2.snoc hbs ?_
   refine aON.2 ⟨r,rfl,cG.aV _ _ _ (fun x hx=>?_) m3⟩
   exact aB.aH _ _ (by rintro rfl;exact hbx hx)
 · rcases eH.1 hq with hq | hq
   · exact h4 q hq
   · have h8:q∉bs:=fun h=>EQ q h hq
     have h9:q≠b:=by rintro rfl;exact hbx hq
     rw[←h7 q h8 fun _=>h9]
     exact m2 q hq
 · rcases eH.1 hq with hq | hq
   · exact h5 hL hq
   · exact hbx hq
 · rw[aB.aJ,hB]
   simp [AV.cells]
 · simp only[eH,not_or] at hq
   rw[aB.aH _ _ (hne hL),m4 q hq.2,h7 q hq.1 hne]
abbrev aQ2:=zi aW (zi cF (zi nH (zi jM (zi cA (zi tD GB)))))
set_option maxHeartbeats 2000000 in
theorem aWK(p:List Cl){cnd:Tm→List Nat→List Nat}(hc:∀(ρ:Int→Int) (t:Tm) (l:List Nat),cnd (b9 ρ t) l=cnd t l)(hd:∀t l,(∀i∈cnd t l,i∈l)∧(cnd t l).length≤l.length){idx:Bool}(zO:PE p idx cnd)
 (q:List Tm) (most fuel:Int) (st:aB) (zS:idx=true→st iE=some jG) :
 aD prog 79 [.slice (p.map bY),.slice (q.map Tm.av),.int .i64 most,.int .i64 fuel,.bool idx] st (PP st ((fV p cnd q most fuel).1.map bU) (fV p cnd q most fuel).2):=by
 have MV:=aVX p q most fuel
 have H7:=aPS p hd q most fuel
 refine wF [1000000] 5 func79 ntmps79 rfl rfl ?_
 intro _
 simp only[aA,seval]
 refine(MV _).to ?_
 simp only[aA,seval]
 refine aP (fun h=>?_) (fun h=>?_)
 · have hS:fV p cnd q most fuel=([],9):=by
    unfold fV
    rw[aE (by rw[show jK p q most fuel=false from by unfold jK;simpa only[lJ] using h];simp)]
   rw[hS]
   simp only[aA,seval]
   exact⟨_,rfl,⟨[],oF,by simp,.inl ⟨rfl,rfl,rfl⟩,fun _ _=>rfl⟩,fun _=>rfl⟩
 have hok:jK p q most fuel=true:=by unfold jK;simpa using h
 have hk:=hok
 simp only[jK,bV,bK] at hk
 obtain⟨kp,kq,k1,k2,k3,k4⟩:=hk
 obtain⟨p1,p2⟩:=NO kp
 obtain⟨q1,q2⟩:=FN kq
 have hTT:fV p cnd q most fuel=jU p cnd (bT q []) most.toNat fuel.toNat (pF q):=by
  unfold fV
  rw[aG hok,bAN (fun c h=>(p2 c h).1) hc q2]
 rw[hTT] at H7 ⊢
 clear hTT MV hok h
 obtain⟨mo,rfl⟩:=qR k1
 obtain⟨fu,rfl⟩:=qR k3
 rw[jO,jO] at H7 ⊢
 simp only[aA,seval]
 refine(aX9 p q (fu:Int) idx (by omega) st).mono ?_
 rintro _ s1 ⟨S,c,m,rfl,hA⟩
 simp only[aA,seval]
 refine(aYJ p2 p1 hc hd zO q2 q1 (most:=mo) (fuel:=fu) (by omega) (by omega) zS hA).mono ?_
 generalize jU p cnd (bT q []) mo fu (pF q)=T at H7 ⊢
 rintro _ _ ⟨b,s2,rfl,rfl,hb,hD⟩
 obtain⟨L,e⟩:=T
 simp only at H7 hb ⊢
 have hb':L.map bU≠[]→st b=none:=fun h=>(hD b).1 (hb h)
 have hun:prog.underlying 27=some (.slice 38):=by kernel_rfl
 have vV:=BJ (w:=1) (b:=b) (l:=L.map bU) hun
 rw[aF] at vV
 have hwd:∀e∈L.map bU,e.width=1:=fun e he=>by simp only[cB] at he;obtain⟨t,_,rfl⟩:=he;rfl
 simp only[vV,aA,seval]
 refine dX (σ:=List AV×List Nat×aB) [1000000] [10,11,12,13,32,33] L (fun j x=>vC st (L.map bU) b j x.1 x.2.1 x.2.2) (fun j x=>[(34,.int .i64 j)]) (fun j x=>x.2.2) (by decide +kernel) ⟨([],[],bE st b (L.map bU)),vC.start,aO.drop (aZX hD) (by simp only[aA,↓aS,seval])⟩ (fun j a x hx hlt bL hdr hinv=>?_) (fun x hge hinv=>?_)
 case refine_2=>
  simp only[hge,mZ,aA,seval]
  have a4W:vC st (L.map bU) b (L.map bU).length x.1 x.2.1 x.2.2:=by rw[aF];exact hinv
  exact⟨_,rfl,a4W.done hb' hwd,fun h=>by rw[h];try rfl⟩
 obtain⟨os,bs,s⟩:=x
 simp only at hinv
 have hw:=bF (n:=(j:Int)+1)
 have hne:L.map bU≠[]:=by intro h;have:=eA List.length h;simp at this;subst this;simp at hlt
 have zQ:(L.map bU)[j]?=some (.agg [.slice (a.map Tm.av)]):=by rw[mA,hx];try rfl
 have hc2:=hinv.cell hne
 have a4G:((L.map bU).drop j).flatMap AV.cells= [.slice (a.map Tm.av)]++((L.map bU).drop (j+1)).flatMap AV.cells:=by
  rw[←BA,hdr,bA,qT,BA];try rfl
 rw[a4G,←lL] at hc2
 have hA2:(os.flatMap AV.cells).length=j*1:=by
  rw[hinv.own.aLN (fun q hq=>hwd q (mC hq)),c7,aF,kZ (by omega)]
 obtain⟨e1,e2,e3,e4,e5,e6⟩:=TV (B:=((L.map bU).drop (j+1)).flatMap AV.cells) hA2
 have hat:=p8 (P:=prog) (b:=b) (w:=1) (i:=j) oN (len:=(L.map bU).length) (by rw[aF];omega)
 have htk:List.take 1 (List.drop (j*1) (os.flatMap AV.cells++ [.slice (a.map Tm.av)]++((L.map bU).drop (j+1)).flatMap AV.cells))= [.slice (a.map Tm.av)]:=by
  rw[lL,List.drop_append,List.drop_of_length_le (by omega),hA2]
  simp
 obtain⟨hal,hav⟩:=H7.2 a (cH hx)
 rw[pW hne] at vV ⊢
 rw[aF] at hat vV ⊢
 simp only[bL,hat,hc2,htk,e5,aA,↓aS,seval,aQ2]
 refine(aOD a _ (by omega) fun x hx s=>aOC x s (Tm.O7 (dW.1 hav x hx))).mono ?_
 rintro r s3 ⟨bx,m1,m2,m3,m4⟩
 have hbx:b∉bx:=fun h=>by have:=m2 b h;rw[hc2] at this;cases this
 have f1:=(m4 b hbx).trans hc2
 obtain⟨hqc,hqs,hqa,hqw,hqj⟩:=cG.I5 m3
 simp only[hat,f1,hqc,hqs,e4,e5,DK,List.set_cons_zero,aA,seval,aQ2]
 exact⟨(os++ [.agg [r]],bs++bx,s3.aC b (.cells (os.flatMap AV.cells++ [r]++((L.map bU).drop (j+1)).flatMap AV.cells))),hinv.step zQ rfl m1 m2 m3 m4,aO.mk (by simp only[hw,aA,seval])⟩
theorem aWJ(p:List Cl)(q:List Tm)(most fuel:Int)(st:aB) :
 aD prog 21 [.slice (p.map bY),.slice (q.map Tm.av),.int .i64 most,.int .i64 fuel] st (PP st ((fV p (fun _ l=>l) q most fuel).1.map bU) (fV p (fun _ l=>l) q most fuel).2):=by
 refine wF [1000000] 4 func21 ntmps21 rfl rfl ?_
 intro _
 simp only[aA,seval]
 refine(aWK p (cnd:=fun _ l=>l) (fun _ _ _=>rfl) (fun _ l=>⟨fun _ h=>h,cU _⟩) (idx:=false) rfl q most fuel st (fun h=>by cases h)).mono ?_
 intro r s1 h
 obtain⟨o,rfl,hM,hN⟩:=h
 obtain⟨hqc,hqs,hqa,hqw,hqj⟩:=cG.I5 hM.choose_spec.2.2.1
 simp only[hqj,aA,seval]
 exact⟨_,rfl,hM,hN⟩







theorem n0(s:Ss):(aT s).width=6:=rfl
theorem NZ(s:Ss):(aT s).cells.all AV.storable=true:=rfl
theorem VJ(s:Ss):(aT s).cD=false:=rfl
theorem VI(s:Ss):(aT s).isAgg=true:=rfl
end Go.AW
namespace Go.AW
structure bC5 (st:aB) (ds:List Nat) (es os:List AV) (bs:List Nat) (s:aB):Prop where
 nd:bs.Nodup
 fresh:∀b∈bs,st b=none
 apart:∀d∈ds,st d=none∧d∉bs∧s d≠none
 own:bO s es os bs
 aV:∀x,x∉bs→x∉ds→s x=st x
abbrev Fr:=Int×ByteArray
structure Clt where
 rest:List Bt
 brk:Bool
 wait:List Fr
 prog:List Cl
 act:Bool
 ses:Ss
 told:Bool
 out:List Fr
structure Sv where
 cs:List Clt
 dJ:Int
end Go.AW
namespace Go.AW
open Go.Proofs.Tryz



noncomputable def d7(s:Ss)(u:Int):List (List Tm)×Int:=
 ((fV s.p (fun _ l=>l) s.q 20 u).1,if(fV s.p (fun _ l=>l) s.q 20 u).2=2∧u<s.dJ then -1 else(fV s.p (fun _ l=>l) s.q 20 u).2)
noncomputable def vQ(s:Ss):List (List Tm)×Int:=d7 s s.used
def uQ(s:Ss):Bool:=nB s.p&&(g8 s.q&&(decide (0≤s.dJ)&&(decide (s.dJ≤300)&&(decide (0≤s.used)&&decide (s.used≤s.dJ)))))
def JJ(s:Ss):Bool:=decide (s.used=0)&&(decide (s.sent=0)&&decide (s.fin= -1))
noncomputable def fE(s:Ss):Bool:=uQ s&&(JJ s||(decide (s.sent=((vQ s).1.length:Int))&&decide (s.fin=(vQ s).2)))
theorem N1{s:Ss}(h:uQ s=true):jK s.p s.q 20 s.used=true:=by
 simp only[uQ,bV,bK] at h
 obtain⟨h1,h2,h3,h4,h5,h6⟩:=h
 simp only[jK,h1,h2,dU]
 rw[eE h5,eE (show s.used≤300 by omega)]
 decide
abbrev aQW:=zi aW (zi nH (zi jM (zi cA lG)))
theorem ZP(s:Ss)(u:Int)(h:jK s.p s.q 20 u=true)(st:aB):aD prog 123 [aT s,.int .i64 u] st (fun r st'=>r=.tup [.slice ((d7 s u).1.map bU),.int .i64 (d7 s u).2]∧st'=st):=by
 have hok:=h
 simp only[jK,bV,bK] at h
 obtain⟨kp,kq,_,_,k3,k4⟩:=h
 obtain⟨p1,p2⟩:=NO kp
 obtain⟨q1,q2⟩:=FN kq
 have hr:=aX5 p2 p1 q2 q1 (most:=20) (fuel:=u.toNat) (by omega) (by omega)
 rw[show((20:Nat):Int)=20 from rfl,show((u.toNat:Nat):Int)=u by omega] at hr
 have hs:fV s.p (fun _ l=>l) s.q 20 u=wA s.p (fun _ l=>l) s.q 20 u.toNat:=by
  unfold fV
  rw[aG hok]
  try rfl
 rw[←hs] at hr
 unfold d7
 generalize fV s.p (fun _ l=>l) s.q 20 u=T at *
 obtain⟨L,e⟩:=T
 simp only at hr ⊢
 obtain⟨p,q,i0,i1,i2,i3⟩:=s
 simp only[aT] at *
 refine wF [1000000] 2 func123 ntmps123 rfl rfl ?_
 intro _
 simp only[aA,seval,aQW]
 refine(hr _).to ?_
 repeat' (first
  | (simp only[*,aA,seval,aQW])
  | (refine cT (fun h=>?_) (fun h=>?_))
  | (refine aP (fun h=>?_) (fun h=>?_)))
 all_goals simp_all
theorem aWN(s:Ss)(h:uQ s=true)(st:aB):aD prog 123 [aT s,.int .i64 s.used] st (fun r st'=>r=.tup [.slice ((vQ s).1.map bU),.int .i64 (vQ s).2]∧st'=st):=ZP s s.used (N1 h) st
abbrev aQY:=zi aW (zi cF (zi nH (zi jM (zi cA lG))))
theorem aAP(s:Ss)(st:aB):aD prog 53 [aT s] st (fun r st'=>r=.bool (fE s)∧st'=st):=by
 have ha:=aWN s
 unfold fE
 generalize vQ s=T at *
 obtain⟨L,e⟩:=T
 obtain⟨p,q,i0,i1,i2,i3⟩:=s
 simp only[aT,uQ,JJ] at *
 refine aD.done ?_
 refine wF [1000000] 1 func53 ntmps53 rfl rfl ?_
 intro _
 simp only[aA,seval,aQY]
 repeat' (first
  | (simp only[*,aF,aA,seval,aQY])
  | (refine cT (fun h=>?_) (fun h=>?_))
  | (refine(aAO p _).to ?_) | (refine(Q4 q _).to ?_) | (refine(ha (by simp_all) _).to ?_)
  | (refine aP (fun h=>?_) (fun h=>?_)))
 all_goals (refine⟨?_,aL.refl _⟩;simp only[AV.soft];first | (simp_all;done) | (simp_all;intros;omega))
abbrev aQV:=zi aW (zi nH (zi jM (zi cA lG)))
theorem ZK(s:Ss)(u:Int)(st:aB):aD prog 120 [aT s,.int .i64 u] st (PP st ((d7 s u).1.map bU) (d7 s u).2):=by
 have hr:=aWJ s.p s.q 20 u
 unfold d7
 generalize fV s.p (fun _ l=>l) s.q 20 u=T at *
 obtain⟨L,e⟩:=T
 simp only at hr ⊢
 obtain⟨p,q,i0,i1,i2,i3⟩:=s
 simp only[aT] at *
 refine wF [1000000] 2 func120 ntmps120 rfl rfl ?_
 intro _
 simp only[aA,seval,aQV]
 refine(hr _).mono ?_
 intro r s1 h
 obtain⟨o,rfl,hM,hN⟩:=h
 obtain⟨hqc,hqs,hqa,hqw,hqj⟩:=cG.I5 hM.choose_spec.2.2.1
 repeat' (first
  | (simp only[*,aA,seval,aQV])
  | (refine cT (fun h=>?_) (fun h=>?_))
  | (refine aP (fun h=>?_) (fun h=>?_)))
 all_goals exact⟨o,by simp_all,hM,hN⟩
theorem aV9(s:Ss)(u:Int)(st:aB):aD prog 120 [aT s,.int .i64 u] st (yQ st [.slice ((d7 s u).1.map bU),.int .i64 (d7 s u).2]):=
 (ZK s u st).mono fun _ _ ⟨o,h1,h2,_⟩=>by subst h1;exact yQ.a73 h2
theorem aV8(s:Ss)(k:Int)(st:aB):aD prog 120 [aT s,.int .i64 s.used] st (yQ st [.slice ((vQ s).1.map bU),.int .i64 (vQ s).2]):=aV9 s s.used st
abbrev aQX:=zi aW (zi cF (zi nH (zi jM (zi cA lG))))
theorem aWI(s:Ss)(st:aB):aD prog 49 [aT s] st (fun r st'=>r=.bool (fE s)∧st'=st):=by
 have ha:=fun st=>(aV8 s 0 st).aNU
 unfold fE
 generalize vQ s=T at *
 obtain⟨L,e⟩:=T
 obtain⟨p,q,i0,i1,i2,i3⟩:=s
 simp only[aT,uQ,JJ] at *
 refine aD.done ?_
 refine wF [1000000] 1 func49 ntmps49 rfl rfl ?_
 intro _
 simp only[aA,seval,aQX]
 repeat' (first
  | (simp only[*,aF,aA,seval,aQX])
  | (refine cT (fun h=>?_) (fun h=>?_))
  | (refine(ZM p _).to ?_) | (refine(QP q _).to ?_) | (refine(BP _ _ _ _).to ?_) | (refine(ha _).to ?_)
  | (refine aP (fun h=>?_) (fun h=>?_)))
 all_goals (refine⟨?_,aL.refl _⟩;simp only[AV.soft];first | (simp_all;done) | (simp_all;intros;omega))
def gI(s:Ss)(n:Int):Int:=if n<s.dJ - s.used then s.used+n else s.dJ
noncomputable def m6(s:Ss)(n:Int):Ss:={ s with used:=gI s n,sent:=((d7 s (gI s n)).1.length:Int),fin:=(d7 s (gI s n)).2 }
noncomputable def oS(s:Ss)(n:Int):List (List Tm):=(d7 s (gI s n)).1.drop s.sent.toNat
noncomputable def pZ(s:Ss)(n:Int):Bool:=fE s&&(decide (0≤n)&&decide (s.fin= -1))
noncomputable def fU(s:Ss)(n:Int):Ss×List (List Tm):=if pZ s n=true then(m6 s n,oS s n) else(s,[])
structure SlF (s:Ss) (n:Int):Prop where
 rng:uQ s=true
 ok:jK s.p s.q 20 (gI s n)=true
 u0:0≤s.used
 u1:s.used≤gI s n
 u2:gI s n≤s.dJ
 q1:s.dJ≤300
 s0:0≤s.sent
 s1:s.sent≤((d7 s (gI s n)).1.length:Int)
 l:(d7 s (gI s n)).1.length≤20
 nxt:fE (m6 s n)=true
theorem N0{s:Ss}:uQ s=true↔nB s.p=true∧g8 s.q=true∧0≤s.dJ∧s.dJ≤300∧0≤s.used∧s.used≤s.dJ:=by
 simp only[uQ,bV,bK]
theorem x9{s:Ss}{n:Int}(h:fE s=true)(hn:0≤n):SlF s n:=by
 have h':=h
 simp only[fE,bV] at h'
 obtain⟨hr,hs⟩:=h'
 obtain⟨kp,kq,k1,k2,k3,k4⟩:=N0.1 hr
 have hu1:s.used≤gI s n:=by unfold gI;split<;>omega
 have hu2:gI s n≤s.dJ:=by unfold gI;split<;>omega
 have a5I:jK s.p s.q 20 s.used=true:=N1 hr
 have hok:jK s.p s.q 20 (gI s n)=true:=FV.2 ⟨kp,kq,by omega,by omega,by omega,by omega⟩
 have hl:=bAL (cnd:=fun _ l=>l) hok
 have EW:=(R9 (cnd:=fun _ l=>l) a5I hu1 (by omega)).2.length_le
 have aM3:0≤s.sent∧s.sent≤((d7 s (gI s n)).1.length:Int):=by
  simp only[oZ,JJ,bV,bK] at hs
  rcases hs with ⟨_,h2,_⟩ | ⟨h1,_⟩
  · omega
  · simp only[vQ,d7] at h1 ⊢
    omega
 refine⟨hr,hok,k3,hu1,hu2,k2,aM3.1,aM3.2,by simp only[d7];omega,?_⟩
 simp only[fE,bV]
 refine⟨N0.2 ⟨kp,kq,k1,k2,?_,hu2⟩,?_⟩
 · show 0≤gI s n
   omega
 · rw[oZ]
   exact .inr (by rw[bV];exact⟨eE rfl,eE rfl⟩)
theorem aS7{P:Program}{t:TypeId}{ag:Bool}{w:Nat}{φ:AF}{y:Operand}{L:List AV}{n:Nat}(hI:eI P t=some (ag,w))(hn:n≤L.length)(hw:∀e∈L,e.width=w)(h:φ.eval y=.int .i64 (n:Int)):eV P φ t (.slice L) (some y) none none=some (.slice (L.drop n)):=by
 have h1:dC φ none L.length L.length=some L.length:=rfl
 have h3:dC φ (some y) 0 L.length=some n:=by
  simp only[dC,h]
  rw[aG ⟨by omega,by omega⟩]
  rw[jO]
 have hwd:wI L n w=true:=by
  unfold wI
  split
  · rename_i e he
    simp [hw e (cH he)]
  · rfl
 unfold eV mG
 rw[aE (by simp [nV])]
 simp only[hI,h1,h3,hwd]
 simp
theorem QE(l:List (List Tm)):∀e∈l.map bU,e.width=1:=by intro e h;simp only[cB] at h;obtain⟨t,_,rfl⟩:=h;rfl
theorem aTU(l:List (List Tm)):∀e∈l.map bU,e.cD=false:=by intro e h;simp only[cB] at h;obtain⟨t,_,rfl⟩:=h;rfl
abbrev AM:=zi aW (zi nH lG)
set_option maxHeartbeats 2000000 in
theorem ZQ(s:Ss)(n:Int)(h:fE s=true)(hn:0≤n)(st:aB):aD prog 124 [aT s,.int .i64 n] st (fun r st'=>r=.tup [aT (m6 s n),.slice ((oS s n).map bU)]∧st'=st):=by
 have hF:=x9 h hn
 obtain⟨kp,kq,k1,k2,k3,k4⟩:=N0.1 hF.rng
 obtain⟨p1,p2⟩:=aOS kp
 obtain⟨q1,q2⟩:=aOU kq
 have hcp:=LM s (by omega) p2 (by omega) q2
 have ha:=ZP s (gI s n) hF.ok
 have hs0:=hF.s0
 have hs1:=hF.s1
 have hfl:=hF.l
 have hu0:=hF.u0
 have hu1:=hF.u1
 have hu2:=hF.u2
 have hq1:=hF.q1
 unfold m6 oS
 generalize d7 s (gI s n)=T at *
 obtain⟨L,e⟩:=T
 simp only at ha hs1 hfl ⊢
 have hnu:gI s n=if n<s.dJ - s.used then s.used+n else s.dJ:=rfl
 generalize gI s n=u at *
 obtain⟨p,q,i0,i1,i2,i3⟩:=s
 simp only[aT] at *
 obtain⟨k,rfl⟩:=qR hs0
 refine aD.done ?_
 refine wF [1000000,6] 2 func124 ntmps124 rfl rfl ?_
 intro _
 simp only[aA,seval,AM]
 intro b4 h4
 refine(hcp _).to ?_
 simp only[aK,aA,↓aS,seval,AM]
 intro b6 h6
 have h64:b6≠b4:=by rintro rfl;rw[aB.aJ] at h6;cases h6
 have h6':st b6=none:=by rwa [aB.aH _ _ h64] at h6
 have hw0:=bF (n:=i0 - i1)
 have hsl:=fun(φ:AF) (y:Operand) (h:φ.eval y=.int .i64 (k:Int))=>aS7 (P:=prog) (t:=27) (L:=L.map bU) oN (by rw[aF];omega) (QE L) h
 simp only[hw0,seval]
 refine aP (fun h1=>?_) (fun h1=>?_)
 · have h1':n<i0 - i1:=by simpa using h1
   rw[aG h1'] at hnu
   have hw1:=bF (n:=i1+n)
   rw[←hnu] at hw1
   simp only[aK,hw1,←hnu,dO,aA,seval,AM]
   refine(ha _).to ?_
   simp only[aF,aK,dO,aA,seval,AM]
   have gQ:∀(o:AO),((st.aC b4 (.cells [.fslice [],.fslice [],.int .i64 0,.int .i64 0,.int .i64 0,.int .i64 0])).aC b6 o) b6=some o:=fun o=>aB.aJ _ _ _
   refine yI [(0,1),(1,1),(2,1),(3,1),(4,1),(5,0),(6,1)] [0,1,2,3,4,6] (d9.aC b6 (.cells [.slice (p.map bY),.slice (q.map Tm.av),.int .i64 i0,.int .i64 (u),.int .i64 (L.length:Int),.int .i64 e])) mixed (by decide +kernel) (by decide +kernel) (by decide +kernel) rfl (fP (gQ _)) ?_
   simp only[aK,h64.symm,hsl,aA,seval,AM]
   exact⟨fP (by rw[aB.aH _ _ h64,aB.aJ]),by simp only[iF,jJ,iG,nE,bA,aY,jO,BA],(((aL.refl _).aC h4).aC h6').aC h4⟩
 · have h1':¬n<i0 - i1:=by simpa using h1
   rw[aE h1'] at hnu
   obtain rfl:i0=u:=hnu.symm
   simp only[aA,seval,AM]
   refine(ha _).to ?_
   simp only[aF,aK,dO,aA,seval,AM]
   have gQ:∀(o:AO),((st.aC b4 (.cells [.fslice [],.fslice [],.int .i64 0,.int .i64 0,.int .i64 0,.int .i64 0])).aC b6 o) b6=some o:=fun o=>aB.aJ _ _ _
   refine yI [(0,1),(1,1),(2,1),(3,1),(4,1),(5,0),(6,1)] [0,1,2,3,4,6] (d9.aC b6 (.cells [.slice (p.map bY),.slice (q.map Tm.av),.int .i64 i0,.int .i64 (i0),.int .i64 (L.length:Int),.int .i64 e])) mixed (by decide +kernel) (by decide +kernel) (by decide +kernel) rfl (fP (gQ _)) ?_
   simp only[aK,h64.symm,hsl,aA,seval,AM]
   exact⟨fP (by rw[aB.aH _ _ h64,aB.aJ]),by simp only[iF,jJ,iG,nE,bA,aY,jO,BA],(((aL.refl _).aC h4).aC h6').aC h4⟩
theorem zB{s:Ss}{n:Int}:pZ s n=true↔fE s=true∧0≤n∧s.fin= -1:=by
 simp only[pZ,bV,bK]
abbrev wD:=zi aW (zi cF (zi nH lG))
set_option maxHeartbeats 1000000 in
theorem aYQ(s:Ss)(n:Int)(hp:s.p.length≤1048576)(hps:∀c∈s.p,HT c)(hq:s.q.length≤1048576)(hqs:∀t∈s.q,t.small=true)(st:aB):aD prog 116 [aT s,.int .i64 n] st (fun r st'=>r=.tup [aT (fU s n).1,.slice ((fU s n).2.map bU)]∧st'=st):=by
 have hv:=aAP s
 have hcp:=LM s hp hps hq hqs
 have hsl:=fun h hn=>ZQ s n h hn
 have kL:pZ s n=false→fU s n=(s,[]):=fun h=>by unfold fU;rw[h];try rfl
 have a4T:pZ s n=true→fU s n=(m6 s n,oS s n):=fun h=>by unfold fU;rw[h];try rfl
 have MV:fE s=true→0≤n→s.fin= -1→pZ s n=true:=fun a b c=>zB.2 ⟨a,b,c⟩
 have SU:pZ s n=true→fE s=true∧0≤n∧s.fin= -1:=zB.1
 generalize m6 s n=A at *
 generalize oS s n=M at *
 generalize fU s n=R at *
 generalize pZ s n=cs at *
 generalize fE s=ok at *
 have hE:∀(o:AO) (b4:Nat),st b4=none→aL (st.aC b4 o) st:=fun o b4 h=>(aL.refl _).aC h
 obtain⟨p,q,i0,i1,i2,i3⟩:=s
 obtain⟨ap,aq,a0,a1,a2,a3⟩:=A
 simp only[aT] at *
 refine aD.done ?_
 refine wF [1000000] 2 func116 ntmps116 rfl rfl ?_
 intro _
 simp only[aA,seval,wD]
 intro b4 h4
 refine(hv _).to ?_
 simp only[aA,seval]
 cases ok with
 | false=>
  have:R=(⟨p,q,i0,i1,i2,i3⟩,[]):=kL (by cases cs with | false=>rfl | true=>exact absurd (SU rfl).1 (by decide))
  subst this
  simp only[aA,seval,wD]
  refine(hcp _).to ?_
  simp only[aK,aA,seval,wD]
  exact⟨by simp only[iF,jJ,iG,nE,lV,bA,aY],(aL.refl _).aC h4⟩
 | true=>
  simp only[aA,seval]
  by_cases hn:0≤n
  case neg=>
   have:R=(⟨p,q,i0,i1,i2,i3⟩,[]):=kL (by cases cs with | false=>rfl | true=>exact absurd (SU rfl).2.1 hn)
   subst this
   have hn':(n<0)=True:=cL (by omega)
   simp only[hn',bM,aA,seval,wD]
   refine(hcp _).to ?_
   simp only[aK,aA,seval,wD]
   exact⟨by simp only[iF,jJ,iG,nE,lV,bA,aY],(aL.refl _).aC h4⟩
  have hn':(n<0)=False:=bZ (by omega)
  simp only[hn',bP,aA,seval,wD]
  by_cases h3:i3= -1
  case neg=>
   have:R=(⟨p,q,i0,i1,i2,i3⟩,[]):=kL (by cases cs with | false=>rfl | true=>exact absurd (SU rfl).2.2 h3)
   subst this
   have h3':=bZ h3
   simp only[h3',bP,aA,seval,wD]
   refine(hcp _).to ?_
   simp only[aK,aA,seval,wD]
   exact⟨by simp only[iF,jJ,iG,nE,lV,bA,aY],(aL.refl _).aC h4⟩
  have:R=(⟨ap,aq,a0,a1,a2,a3⟩,M):=a4T (MV rfl hn h3)
  subst this
  have h3':=cL h3
  simp only[h3',bM,aA,seval,wD]
  refine(hsl rfl hn _).to ?_
  simp only[aK,aA,seval,wD]
  exact⟨by simp only[iF,jJ,iG,nE,bA,aY],(aL.refl _).aC h4⟩
theorem Made.a74{st S:aB}{a r:AV}{bs:List Nat}(hnd:bs.Nodup)(jT:∀b∈bs,st b=none)(hO:cG S a r bs)(hk:∀x o,st x=some o→S x=some o):∃s2,aL S s2∧Made st a r s2:=by
 refine⟨fun x=>if x∈bs then S x else st x,fun x=>?_,bs,hnd,jT,cG.aV _ _ _ (fun b hb=>aG hb) hO,fun b hb=>aE hb⟩
 dsimp only
 by_cases hx:x∈bs
 · rw[aG hx]
   exact⟨fun h=>h,fun o h=>h⟩
 · rw[aE hx]
   refine⟨fun h=>?_,fun o h=>hk x o h⟩
   cases hs:st x with
   | none=>rfl
   | some o=>rw[hk x o hs] at h;cases h
def XO(st:aB)(L:List AV)(k:Nat)(o:AV)(st':aB):Prop:=∃q,Made st (.slice L) q st'∧PX L.length k q o
def J6(b n k:Nat):AV:=if k<n then .mslice b (k*1) (n - k) 1 else .eslice
theorem aTF{P:Program}{t:TypeId}{ag:Bool}{φ:AF}{y:Operand}{b n k:Nat}(hI:eI P t=some (ag,1))(hk:k≤n)(hn:0<n)(h:φ.eval y=.int .i64 (k:Int)):eV P φ t (.mslice b 0 n 1) (some y) none none=some (J6 b n k):=by
 have h1:dC φ none n n=some n:=rfl
 have h3:dC φ (some y) 0 n=some k:=by
  simp only[dC,h]
  rw[aG ⟨by omega,by omega⟩]
  rw[jO]
 unfold eV mG
 rw[aE (by simp [nV])]
 simp only[hI,h1,h3]
 rw[aG trivial]
 unfold J6
 by_cases h0:k=0
 · subst h0
   rw[aG rfl,aG hn]
   simp
 · rw[aE h0]
   by_cases hlt:k<n
   · rw[aG hlt,aG hlt,gZ]
   · rw[aE hlt,aE hlt]
theorem aTE{P:Program}{t:TypeId}{ag:Bool}{w:Nat}{φ:AF}{y:Operand}(hI:eI P t=some (ag,w))(h:φ.eval y=.int .i64 0):eV P φ t (.fslice []) (some y) none none=some (.fslice []):=by
 have h1:dC φ none 0 0=some 0:=rfl
 have h3:dC φ (some y) 0 0=some 0:=by
  simp only[dC,h]
  rw[aG ⟨by omega,by omega⟩]
  try rfl
 unfold eV
 rw[aG ⟨rfl,rfl⟩]
 simp only[hI,h1,h3]
theorem a0D{P:Program}{t:TypeId}:lP P t .eslice=match P.underlying t with | some (.slice _)=>some (.int .i64 ((0:Nat):Int)) | _=>none:=rfl
theorem aTB{P:Program}{t:TypeId}{ag:Bool}{φ:AF}{y z:Operand}{b n off:Nat}(hI:eI P t=some (ag,1))(h:φ.eval y=.int .i64 (n:Int))(h':φ.eval z=.int .i64 (n:Int)):eV P φ t (.mslice b off n 1) none (some y) (some z)=some (.mslice b off n 1):=by
 have h3:∀y,φ.eval y=.int .i64 (n:Int)→dC φ (some y) n n=some n:=fun y h=>by
  simp only[dC,h]
  rw[aG ⟨by omega,by omega⟩]
  rw[jO]
 unfold eV mG
 rw[aE (by simp [nV])]
 simp only[hI,h3 y h,h3 z h']
 rw[aG trivial]
theorem aTC{P:Program}{t:TypeId}{ag:Bool}{w:Nat}{φ:AF}{y z:Operand}(hI:eI P t=some (ag,w))(h:φ.eval y=.int .i64 0)(h':φ.eval z=.int .i64 0):eV P φ t .eslice none (some y) (some z)=some (.fslice []):=by
 have h3:∀y,φ.eval y=.int .i64 0→dC φ (some y) 0 0=some 0:=fun y h=>by
  simp only[dC,h]
  rw[aG ⟨by omega,by omega⟩]
  try rfl
 unfold eV mG
 rw[aE (by simp [nV])]
 simp only[hI,h3 y h,h3 z h']
theorem aTD{P:Program}{t:TypeId}{ag:Bool}{w:Nat}{φ:AF}{y z:Operand}(hI:eI P t=some (ag,w))(h:φ.eval y=.int .i64 0)(h':φ.eval z=.int .i64 0):eV P φ t (.fslice []) none (some y) (some z)=some (.fslice []):=by
 have h3:∀y,φ.eval y=.int .i64 0→dC φ (some y) 0 0=some 0:=fun y h=>by
  simp only[dC,h]
  rw[aG ⟨by omega,by omega⟩]
  try rfl
 have h4:dC φ none 0 0=some 0:=rfl
 unfold eV mG
 rw[aE (by simp [nV])]
 simp only[hI,aZ,h3 y h,h3 z h',h4]
 simp [wI]
theorem aV1(b off n:Nat)(st:aB):aD prog 121 [.mslice b off n 1] st (fun r st'=>r=.mslice b off n 1∧st'=st):=by
 refine wF [1000000] 1 func121 ntmps121 rfl rfl ?_
 intro _
 have hcl:=fun(φ:AF) (y z:Operand) (h:φ.eval y=.int .i64 (n:Int)) (h':φ.eval z=.int .i64 (n:Int))=>aTB (P:=prog) (t:=27) (b:=b) (off:=off) oN h h'
 simp only[hcl,aA,seval,nH]
theorem aVZ(st:aB):aD prog 121 [.eslice] st (fun r st'=>r=.fslice []∧st'=st):=by
 refine wF [1000000] 1 func121 ntmps121 rfl rfl ?_
 intro _
 have hcl:=fun(φ:AF) (y z:Operand) (h:φ.eval y=.int .i64 0) (h':φ.eval z=.int .i64 0)=>aTC (P:=prog) (t:=27) oN h h'
 simp only[hcl,a0D,aA,↓aS,seval,nH]
theorem aV0(st:aB):aD prog 121 [.fslice []] st (fun r st'=>r=.fslice []∧st'=st):=by
 refine wF [1000000] 1 func121 ntmps121 rfl rfl ?_
 intro _
 have hcl:=fun(φ:AF) (y z:Operand) (h:φ.eval y=.int .i64 0) (h':φ.eval z=.int .i64 0)=>aTD (P:=prog) (t:=27) oN h h'
 simp only[hcl,aZ,aA,seval,nH]
abbrev bFA:=zi jM (zi cA lG)
theorem bAW{st:aB}{L:List (List Tm)}{o:AV}{bs:List Nat}{k:Nat}(hO:cG st (.slice (L.map bU)) o bs)(hN:L.map bU= []→o=.fslice [])(hk:k≤L.length) :
 ∃o1 o2,(∀(φ:AF) (y:Operand),φ.eval y=.int .i64 (k:Int)→eV prog φ 27 o (some y) none none=some o1)∧lP prog 27 o=some (.int .i64 (L.length:Int)) ∧
  (∀s,aD prog 121 [o1] s (fun r s'=>r=o2∧s'=s))∧PX (L.map bU).length k o o2∧(o1.isAgg=false∧o1.cD=false∧o1.width=1∧o1.cells= [o1]):=by
 have hun:prog.underlying 27=some (.slice 38):=by kernel_rfl
 by_cases hL:L= []
 · subst hL
   obtain rfl:=hN rfl
   obtain rfl:k=0:=by simpa using hk
   exact⟨.fslice [],.fslice [],fun φ y h=>aTE oN h,by simp only[lP,hun];rfl,fun s=>aV0 s,.inr ⟨rfl,rfl⟩,rfl,rfl,rfl,rfl⟩
 have hl:0<L.length:=PK.2 hL
 simp only[cG] at hO
 rcases hO with ⟨h,_,_⟩ | ⟨b,bs',os,w,rfl,_,_,_,hw⟩
 · exact absurd (by simpa using h) hL
 · obtain⟨x,l,rfl⟩:∃x l,L=x::l:=by cases L with | nil=>exact absurd rfl hL | cons x l=>exact⟨x,l,rfl⟩
   obtain rfl:w=1:=(hw (bU x) (by simp)).symm
   generalize hLL:x::l=L at *
   rw[aF]
   refine⟨J6 b L.length k,if k<L.length then .mslice b (k*1) (L.length - k) 1 else .fslice [],fun φ y h=>aTF oN hk hl h,by simp only[lP,hun],fun s=>?_,?_,?_⟩
   · unfold J6
     by_cases h:k<L.length
     · rw[aG h,aG h];exact aV1 _ _ _ s
     · rw[aE h,aE h];exact aVZ s
   · by_cases h:k<L.length
     · rw[aG h];exact .inl ⟨hk,b,1,rfl,rfl⟩
     · rw[aE h];exact .inr ⟨by omega,rfl⟩
   · unfold J6
     split<;>exact⟨rfl,rfl,rfl,rfl⟩
abbrev JW:=zi aW (zi nH lG)
set_option maxHeartbeats 2000000 in
theorem aYL(s:Ss)(n:Int)(h:fE s=true)(hn:0≤n)(st:aB):aD prog 51 [aT s,.int .i64 n] st (fun r st'=>∃o,r=.tup [aT (m6 s n),o]∧XO st ((d7 s (gI s n)).1.map bU) s.sent.toNat o st'):=by
 have hF:=x9 h hn
 have hs0:=hF.s0
 have hs1:=hF.s1
 have hfl:=hF.l
 have hu0:=hF.u0
 have hu1:=hF.u1
 have hu2:=hF.u2
 have hq1:=hF.q1
 have hf:=ZK ⟨s.p,s.q,s.dJ,gI s n,s.sent,s.fin⟩ (gI s n)
 rw[show d7 ⟨s.p,s.q,s.dJ,gI s n,s.sent,s.fin⟩ (gI s n)=d7 s (gI s n) from rfl] at hf
 unfold m6
 generalize d7 s (gI s n)=T at *
 obtain⟨L,e⟩:=T
 simp only at hf hs1 hfl ⊢
 have hnu:gI s n=if n<s.dJ - s.used then s.used+n else s.dJ:=rfl
 generalize gI s n=u at *
 obtain⟨p,q,i0,i1,i2,i3⟩:=s
 simp only[aT] at *
 obtain⟨k,rfl⟩:=qR hs0
 obtain⟨m,hm,hmu⟩:∃m,(if i0 - i1<n then i0 - i1 else n)=m∧i1+m=u:=by
  refine⟨_,rfl,?_⟩
  rw[hnu]
  split<;>split<;>omega
 have hw0:=bF (n:=i0 - i1)
 have hw1:=bF (n:=i1+m)
 rw[hmu] at hw1
 refine aD.nR ?_
 refine wF [1000000,2] 2 func51 ntmps51 rfl rfl ?_
 intro _
 simp only[aA,seval,JW]
 intro b2 h2 b4 h4
 have h42:b4≠b2:=by rintro rfl;rw[aB.aJ] at h4;cases h4
 have h4':st b4=none:=by rwa [aB.aH _ _ h42] at h4
 simp only[aK,h42.symm,hw0,hm,hmu,hw1,aA,seval,JW]
 refine(hf _).mono ?_
 rintro r s1 ⟨o,rfl,⟨bs,m1,m2,m3,m4⟩,hN⟩
 have hb2:b2∉bs:=fun hq=>by have:=m2 b2 hq;simp [mS] at this
 have hb4:b4∉bs:=fun hq=>by have:=m2 b4 hq;simp [mS,h42] at this
 have e2:=m4 b2 hb2
 have e4:=m4 b4 hb4
 simp only[mS,h42,h42.symm,eX,dT] at e2 e4
 obtain⟨hqc,hqs,hqa,hqw,hqj⟩:=cG.I5 m3
 obtain⟨o1,o2,hsl,hlen,hcl,hT,ho1,ho2,ho3,ho4⟩:=bAW (k:=k) m3 hN (by omega)
 obtain⟨ht1,ht2,ht3,ht4,ht5⟩:=aP6 hT
 simp only[aK,e2,mS,hsl,hlen,dO,aA,seval,JW]
 refine yI [(0,1),(1,1),(2,0),(3,0),(4,1)] [0,1,4] (d9.aC b2 (.cells [.slice (p.map bY),.slice (q.map Tm.av),.int .i64 i0,.int .i64 u,.int .i64 (L.length:Int),.int .i64 e])) mixed (by decide +kernel) (by decide +kernel) (by decide +kernel) rfl (fP (by simp only[mS,eX])) ?_
 simp only[mS,aA,seval,JW]
 refine(hcl _).to ?_
 simp only[aK,h42,e4,mS,ht2,aA,seval,JW]
 refine⟨fP (by simp only[mS,eX]),fP (by simp only[mS,h42.symm,eX,dT]),?_⟩
 generalize hS:aB.aC (aB.aC s1 b2 _) b4 _=S
 have hSx:∀x,x≠b2→x≠b4→S x=s1 x:=fun x h2 h4=>by rw[←hS,aB.aH _ _ h4,aB.aH _ _ h2]
 have hne:∀x,st x≠none→x≠b2∧x≠b4:=fun x h=>⟨fun e=>h (e▸h2),fun e=>h (e▸h4')⟩
 have hin:∀x∈bs,x≠b2∧x≠b4:=fun x hx=>⟨fun e=>hb2 (e▸hx),fun e=>hb4 (e▸hx)⟩
 have jT:∀x∈bs,st x=none:=fun x hx=>by
  have:=m2 x hx
  rwa [aB.aH _ _ (hin x hx).1,aB.aH _ _ (hin x hx).2,aB.aH _ _ (hin x hx).1] at this
 obtain⟨s2,hd,hm2⟩:=Made.a74 (st:=st) (S:=S) m1 jT (cG.aV _ _ _ (fun x hx=>hSx x (hin x hx).1 (hin x hx).2) m3) (fun x o hx=>by
  have hx0:st x≠none:=by rw[hx];exact fun e=>nomatch e
  have hxb:x∉bs:=fun hq=>hx0 (jT x hq)
  rw[hSx x (hne x hx0).1 (hne x hx0).2,m4 x hxb,aB.aH _ _ (hne x hx0).1,aB.aH _ _ (hne x hx0).2,aB.aH _ _ (hne x hx0).1,hx])
 exact⟨s2,hd,_,rfl,o,hm2,by rw[jO];exact hT⟩

end Go.AW
namespace Go.AW

end Go.AW
namespace Go.AW
open Go.Proofs.Tryz



end Go.AW
namespace Go.AW
def AH(s:Ss):List AV:=[.slice (s.p.map bY),.slice (s.q.map Tm.av),.int .i64 s.dJ,.int .i64 s.used,.int .i64 s.sent,.int .i64 s.fin]
theorem a84{p:List Cl}{cnd:Tm→List Nat→List Nat}{s:RS}{g:RG}{rest:List RG}{e:Int}(h:iY p cnd s g rest=.stop e):0≤e:=by
 unfold iY at h
 repeat' split at h
 all_goals first | (cases h;done) | (injection h with h;subst h;unfold p6;repeat' split;all_goals omega) | (injection h with h;omega)
theorem a81(p:List Cl)(cnd:Tm→List Nat→List Nat)(vars:List Int):∀(n most f:Nat) (s:RS),most+f≤n→0≤(iP p cnd vars most f s).2:=by
 intro n
 induction n with
 | zero=>
  intro most f s hn
  obtain rfl:most=0:=by omega
  obtain rfl:f=0:=by omega
  cases hg:s.goals with
  | nil=>rw[uO hg];simp
  | cons g rest=>rw[rS (fuel:=0) hg];simp
 | succ n ih=>
  intro most f s hn
  cases hg:s.goals with
  | nil=>
   rw[uO hg]
   by_cases hm:most=0
   · rw[aG hm];simp
   rw[aE hm]
   cases ha:jD s.σ vars with
   | none=>simp
   | some a=>
    simp only
    cases hb:fS p s.chs.length s.chs with
    | none=>simp
    | some s'=>exact ih (most - 1) f s' (by omega)
  | cons g rest=>
   by_cases hf:f=0
   · subst hf
     rw[rS (fuel:=0) hg];simp
   rw[rS hg,aE hf]
   cases hst:iY p cnd s g rest with
   | stop e=>exact a84 hst
   | go s'=>exact ih most (f - 1) s' (by omega)
   | fail=>
    simp only
    cases hb:fS p s.chs.length s.chs with
    | none=>simp
    | some s'=>exact ih most (f - 1) s' (by omega)
theorem aPR{p:List Cl}{cnd:Tm→List Nat→List Nat}{q:List Tm}{most fuel:Int}:0≤(fV p cnd q most fuel).2:=by
 unfold fV
 split
 · exact a81 p cnd _ _ _ _ _ (cU _)
 · simp
theorem a3A{s:Ss}{u v:Int}(hok:jK s.p s.q 20 u=true)(huv:u≤v)(hv:v≤s.dJ)(hq:s.dJ≤300)(h:(d7 s u).2≠-1):d7 s v=d7 s u:=by
 have hf:=(R9 (cnd:=fun _ l=>l) hok huv (by omega)).1
 by_cases h2:(fV s.p (fun _ l=>l) s.q 20 u).2=2
 · have hu:¬u<s.dJ:=fun hu=>by
    unfold d7 at h
    rw[aG ⟨h2,hu⟩] at h
    exact h rfl
   obtain rfl:v=u:=by omega
   rfl
 · have he:=hf h2
   unfold d7
   rw[he,aE (fun h=>h2 h.1),aE (fun h=>h2 h.1)]
theorem a3B{s:Ss}{u v:Int}(hok:jK s.p s.q 20 u=true)(huv:u≤v)(hv:v≤300):(d7 s u).1 <+: (d7 s v).1:=(R9 (cnd:=fun _ l=>l) hok huv hv).2
theorem bCQ{s:Ss}(h:fE s=true)(hf:s.fin≠-1):(fV s.p (fun _ l=>l) s.q 20 s.dJ).2=s.fin∧s.sent=((fV s.p (fun _ l=>l) s.q 20 s.dJ).1.length:Int):=by
 simp only[fE,bV] at h
 obtain⟨hr,hs⟩:=h
 obtain⟨kp,kq,k1,k2,k3,k4⟩:=N0.1 hr
 simp only[oZ,JJ,bV,bK] at hs
 rcases hs with ⟨_,_,h3⟩ | ⟨h1,h2⟩
 · exact absurd h3 hf
 have he:(d7 s s.used).2≠-1:=by rw[show d7 s s.used=vQ s from rfl,←h2];exact hf
 have:=a3A (N1 hr) k4 (Int.le_refl _) k2 he
 have hq:d7 s s.dJ=((fV s.p (fun _ l=>l) s.q 20 s.dJ).1,(fV s.p (fun _ l=>l) s.q 20 s.dJ).2):=by
  unfold d7
  rw[aE (by omega)]
 rw[hq] at this
 have e1:=eA Prod.fst this
 have e2:=eA Prod.snd this
 simp only at e1 e2
 rw[e1,e2]
 exact⟨h2.symm,h1⟩
theorem VB{s:Ss}{n:Int}(h:pZ s n=false):fU s n=(s,[]):=by unfold fU;rw[h];try rfl
theorem FT{s:Ss}{n:Int}(h:pZ s n=true):fU s n=(m6 s n,oS s n):=by unfold fU;rw[h];try rfl
theorem VA(s:Ss)(n:Int):(fU s n).1.p=s.p∧(fU s n).1.q=s.q∧(fU s n).1.dJ=s.dJ:=by
 unfold fU
 split<;>exact⟨rfl,rfl,rfl⟩
theorem a97{s:Ss}{n:Int}(h:fE s=true):fE (fU s n).1=true:=by
 by_cases hc:pZ s n=true
 · rw[FT hc]
   exact(x9 h (zB.1 hc).2.1).nxt
 · rw[VB (by simpa using hc)]
   exact h
theorem H4(s:Ss):d7 s s.dJ=fV s.p (fun _ l=>l) s.q 20 s.dJ:=by
 unfold d7
 rw[aE (by omega)]
theorem a95{s:Ss}{n:Int}(h:fE s=true):(fU s n).2++(d7 s s.dJ).1.drop (fU s n).1.sent.toNat=(d7 s s.dJ).1.drop s.sent.toNat:=by
 by_cases hc:pZ s n=true
 · rw[FT hc]
   have hF:=x9 h (zB.1 hc).2.1
   have h0:=hF.s0
   have h1:=hF.s1
   obtain⟨M,hM⟩:=a3B hF.ok hF.u2 hF.q1
   show(d7 s (gI s n)).1.drop s.sent.toNat++(d7 s s.dJ).1.drop ((d7 s (gI s n)).1.length:Int).toNat=_
   rw[←hM,jO,DG,XI (by omega)]
 · rw[VB (by simpa using hc)]
   try rfl
theorem aBJ{s:Ss}(h:fE s=true)(hf:s.fin≠-1):(d7 s s.dJ).1.drop s.sent.toNat= []∧(d7 s s.dJ).2=s.fin:=by
 obtain⟨h1,h2⟩:=bCQ h hf
 rw[H4]
 exact⟨A6 (by omega),h1⟩
theorem a96{s:Ss}{n:Int}(h:fE s=true):(fU s n).2.length≤20:=by
 by_cases hc:pZ s n=true
 · rw[FT hc]
   have:=(x9 h (zB.1 hc).2.1).l
   simp only[oS,mB]
   omega
 · rw[VB (by simpa using hc)]
   exact iU _
end Go.AW
