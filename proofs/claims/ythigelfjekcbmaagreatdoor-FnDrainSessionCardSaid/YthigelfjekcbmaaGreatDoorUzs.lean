/- Regions that draw, with two operations that write and may come in either order. -/
import Derived.Test.YthigelfjekcbmaaGreatDoorUzf
import Derived.Test.YthigelfjekcbmaaGreatDoorUzr
import Derived.ProofKit
set_option linter.unusedSimpArgs false
set_option linter.unusedVariables false
set_option maxRecDepth 100000
namespace Go.AW
theorem t8{U:aB}{bo x:Nat}{os:List AV}(h:os≠[]→x≠bo):aV U bo os x=U x:=by
 by_cases hl:os= []
 · rw[hl,oA]
 · rw[nL (h hl)]
section
variable {P:Program}
def AJ(ops:Array Oper)(S:List Nat):List (Nat×Nat)→Array Bool→Option (Array Bool)
 | [],listed=>some listed
 | (i,0)::r,listed=>if decide (Region.ready .any ops listed= [i])&& !S.contains i then AJ ops S r (listed.setIfInBounds i true) else none
 | (i,1)::r,listed=>if(Region.ready .any ops listed).contains i&&Region.free .any ops listed i&&S.contains i then AJ ops S r (listed.setIfInBounds i true) else none
 | _::_,_=>none
theorem Q9{ops:Array Oper}{S:List Nat}{s0:aB}{K K':AF→aB→Prop}{n:Nat}:∀(p:List (Nat×Nat)) (listed l':Array Bool) (φ:AF) (st:aB),tQ ops listed→AJ ops S p listed=some l'→eT s0 st →
 (∀φ st,tQ ops l'→eT s0 st→K' φ st→wV P ops S s0 K n l' φ st)→BW P ops s0 K' p φ st→wV P ops S s0 K (p.length+n) listed φ st
 | [],listed,l',φ,st,hcl,hB,hx,hK,h=>by
  simp only[AJ,Option.some.injEq] at hB
  subst hB
  rw[aX,iA]
  exact hK φ st hcl hx h
 | (i,0)::r,listed,l',φ,st,hcl,hB,hx,hK,h=>by
  simp only[AJ] at hB
  split at hB
  case isFalse=>cases hB
  rename_i hc
  simp only[cE,bK,lT] at hc
  obtain⟨o,ho,h'⟩:=h
  have hr:i∈Region.ready .any ops listed:=by rw[hc.1];simp
  rw[aT,show r.length+1+n=(r.length+n)+1 by omega]
  refine⟨fun h0=>(by rw[hc.1] at h0;cases h0),fun j hj=>?_⟩
  rw[hc.1] at hj
  obtain rfl:j=i:=by simpa using hj
  exact⟨o,ho,.inr ⟨hc.2,tZ (fun v st' q=>⟨.inr q.1,Q9 r _ _ _ _ (hcl.set hr) hB q.1 hK q.2⟩) h'⟩⟩
 | (i,1)::r,listed,l',φ,st,hcl,hB,hx,hK,h=>by
  simp only[AJ] at hB
  split at hB
  case isFalse=>cases hB
  rename_i hc
  simp only[cE] at hc
  obtain⟨⟨hr,hf⟩,hS⟩:=hc
  obtain⟨o,ho,v,hv,h'⟩:=h
  have hr':i∈Region.ready .any ops listed:=by simpa using hr
  rw[aT,show r.length+1+n=(r.length+n)+1 by omega]
  exact YR ho hS _ listed φ st hcl (Region.free_spec ho hf) hr' hv hx (Q9 r _ _ _ _ (hcl.set hr') hB hx hK h')
 | (i,k+2)::r,listed,l',φ,st,hcl,hB,hx,hK,h=>by simp [AJ] at hB
inductive PT where
 | fin (p:List (Nat×Nat))
 | br (p:List (Nat×Nat)) (i j:Nat) (a b:PT)
def PT.size:PT→Nat
 | .fin p=>p.length
 | .br p _ _ a _=>p.length+(a.size+1)
def GE(ops:Array Oper)(S:List Nat):PT→Array Bool→Bool
 | .fin p,l=>tA ops S p l&&DA p
 | .br p i j a b,l=>match AJ ops S p l with
  | none=>false
  | some l'=>decide (Region.ready .any ops l'= [i,j])&& !S.contains i&& !S.contains j&&decide (b.size=a.size)&&GE ops S a (l'.setIfInBounds i true)&&GE ops S b (l'.setIfInBounds j true)
def sN(P:Program)(ops:Array Oper)(s0:aB)(K:AF→aB→Prop):PT→AF→aB→Prop
 | .fin p,φ,st=>jM P ops s0 K p φ st
 | .br p i j a b,φ,st=>jM P ops s0 (fun φ st=>
  (match ops[i]? with | none=>False | some o=>bJ P [] ops [o] (fun φ' st'=>eT s0 st'∧sN P ops s0 K a φ' st') φ st) ∧
  (match ops[j]? with | none=>False | some o=>bJ P [] ops [o] (fun φ' st'=>eT s0 st'∧sN P ops s0 K b φ' st') φ st)) p φ st
def N7(P:Program)(ops:Array Oper)(s0:aB)(K:AF→aB→Prop)(t:PT)(φ:AF)(st:aB):Prop:=eT s0 st∧sN P ops s0 K t φ st
def wG(P:Program)(ops:Array Oper)(s0:aB)(K:AF→aB→Prop)(t:PT)(φ:AF)(st:aB):Option Oper→Prop
 | none=>False
 | some o=>bJ P [] ops [o] (N7 P ops s0 K t) φ st
def MB(P:Program)(ops:Array Oper)(s0:aB)(K:AF→aB→Prop)(i j:Nat)(a b:PT)(φ:AF)(st:aB):Prop:=wG P ops s0 K a φ st ops[i]?∧wG P ops s0 K b φ st ops[j]?
theorem BH{ops:Array Oper}{s0:aB}{K:AF→aB→Prop}{p:List (Nat×Nat)}{φ:AF}{st:aB}:sN P ops s0 K (.fin p) φ st=jM P ops s0 K p φ st:=by rw[sN]
theorem YC{ops:Array Oper}{s0:aB}{K:AF→aB→Prop}{p:List (Nat×Nat)}{i j:Nat}{a b:PT}{φ:AF}{st:aB}:sN P ops s0 K (.br p i j a b) φ st=jM P ops s0 (MB P ops s0 K i j a b) p φ st:=by
 rw[sN]
 congr 1
theorem aTI{l:List Oper}{s0:aB}{K:AF→aB→Prop}{i j:Nat}{a b:PT}{φ:AF}{st:aB}:MB P l.toArray s0 K i j a b φ st=(wG P l.toArray s0 K a φ st l[i]?∧wG P l.toArray s0 K b φ st l[j]?):=by
 simp only[MB,yV]
theorem aTJ{ops:Array Oper}{s0:aB}{K:AF→aB→Prop}{t:PT}{φ:AF}{st:aB}{o:Oper}:wG P ops s0 K t φ st (some o)=bJ P [] ops [o] (N7 P ops s0 K t) φ st:=by rw[wG]
theorem YD{ops:Array Oper}{s0:aB}{K:AF→aB→Prop}{t:PT}{φ:AF}{st:aB}:N7 P ops s0 K t φ st=(eT s0 st∧sN P ops s0 K t φ st):=by rw[N7]
theorem aQ5{ops:Array Oper}{s0:aB}{K:AF→aB→Prop}{t:PT}{φ:AF}{st:aB}{i:Nat}(h:wG P ops s0 K t φ st ops[i]?) :
 ∃o,ops[i]?=some o∧kH P ops o φ st (fun v st'=>eT s0 st'∧sN P ops s0 K t (φ.put o.dst v) st'):=by
 cases ho:ops[i]? with
 | none=>rw[ho] at h;exact h.elim
 | some o=>
  rw[ho] at h
  refine⟨o,rfl,?_⟩
  simp only[wG,bJ] at h
  unfold kH
  split at h
  · rename_i hg
    rw[hg]
    exact BX (fun v s q=>q) h
  · rename_i hg
    rw[hg]
    exact⟨h.1,h.2⟩
  · exact h.elim
theorem Q8{ops:Array Oper}{S:List Nat}{s0:aB}{K:AF→aB→Prop}:∀(t:PT) (listed:Array Bool) (φ:AF) (st:aB),tQ ops listed→GE ops S t listed=true→eT s0 st→sN P ops s0 K t φ st→wV P ops S s0 K t.size listed φ st
 | .fin p,listed,φ,st,hcl,hB,hx,h=>by
  simp only[GE,cE] at hB
  rw[BH] at h
  exact HQ p _ _ _ hcl hB.1 (.inl ⟨hB.2,hx⟩) (vN _ _ _ h)
 | .br p i j a b,listed,φ,st,hcl,hB,hx,h=>by
  simp only[GE] at hB
  split at hB
  · cases hB
  rename_i l' hl'
  simp only[cE,bK,lT] at hB
  obtain⟨⟨⟨⟨⟨hr,hSi⟩,hSj⟩,hsz⟩,hBa⟩,hBb⟩:=hB
  rw[YC] at h
  refine Q9 (K':=MB P ops s0 K i j a b) p _ _ _ _ hcl hl' hx (fun φ st hcl hx hK=>?_) (vN _ _ _ h)
  refine⟨fun h0=>(by rw[hr] at h0;cases h0),fun k hk=>?_⟩
  have hk':=hk
  rw[hr] at hk'
  rcases dB.1 hk' with rfl | hk'
  · obtain⟨o,ho,h2⟩:=aQ5 hK.1
    exact⟨o,ho,.inr ⟨hSi,tZ (fun v st' q=>⟨.inr q.1,Q8 a _ _ _ (hcl.set hk) hBa q.1 q.2⟩) h2⟩⟩
  · obtain rfl:k=j:=by simpa using hk'
    obtain⟨o,ho,h2⟩:=aQ5 hK.2
    have:=fun(v:AV) (st':aB) (q:eT s0 st'∧sN P ops s0 K b (φ.put o.dst v) st')=>Q8 (S:=S) b _ _ _ (hcl.set hk) hBb q.1 q.2
    rw[hsz] at this
    exact⟨o,ho,.inr ⟨hSj,tZ (fun v st' q=>⟨.inr q.1,this v st' q⟩) h2⟩⟩
theorem HY{N:Nat}{id:Nat}{l:List Oper}{Q:Exit→AF→aB→Prop}{φ:AF}{st:aB}(t:PT)(S:List Nat)(s0:aB)(hm:P.follows .mixedOrders=true)(hok:q9 N l.toArray=true)(hl:t.size=l.length)(hB:GE l.toArray S t (Array.replicate l.toArray.size false)=true)(hs:eT s0 st)
 (h:sN P l.toArray s0 (Q .normal) t φ st):g8 P N (.region id l.toArray true) Q φ st:=by
 intro a w R
 refine wp_region_any hm ?_
 have R0:Rel N a { w with drawn:=w.drawn+1 } φ st:=⟨R.size,R.defers,R.frame,R.store⟩
 have key:=Q8 (P:=P) (ops:=l.toArray) (S:=S) (s0:=s0) (K:=Q .normal) t (Array.replicate l.toArray.size false) φ st (fun j o _ hl=>(by rw[TU] at hl;cases hl)) hB hs h
 rw[hl,←List.size_toArray] at key
 exact LU (AI hok) (x7 hok) (w0:=w) (st0:=st) (fun φ' st' a' w' k R' T s=>⟨φ',st',R',T,s,k⟩) _ _ _ _ _ _ (LV _ _ _ _ key) R0 (cL.refl _ _) ⟨rfl,rfl,rfl⟩
end
@[congr] theorem bAA {P:Program} {ops:Array Oper} {s0:aB} {K:AF→aB→Prop} {t:PT} {φ φ':AF} {st st':aB} {o o':Option Oper} (h1:φ=φ') (h2:st=st') (h3:o=o'):wG P ops s0 K t φ st o=wG P ops s0 K t φ' st' o':=by rw[h1,h2,h3]
end Go.AW
namespace Go.AW
open Go.Proofs.Tryz
theorem aB1(s:ByteArray):∀q:List Tm,lU (q.map Tm.av++ [AV.agg [.int .i64 3,.int .i64 0,.str s,.fslice []]])=(q++ [Tm.mk 3 0 s []]).map Tm.av
 | []=>by simp only[aW,eD,lU,AV.deep,bB,a8]
 | t::q=>by
  have:=aB1 s q
  simp only[bB,fE,lU,Tm.ZL]
  rw[this]
theorem aU1{st:aB}{b:Nat}{s:ByteArray}{q:List Tm}(hb:st b=none)(s0:aB)(D0:aL st s0)(a x y:AV) :
 mN (aV st b (q.map Tm.av++ [AV.agg [.int .i64 3,.int .i64 0,.str s,.fslice []]])) s0 [a,aZ 4 b (q.map Tm.av++ [AV.agg [.int .i64 3,.int .i64 0,.str s,.fslice []]]),x,y] [a,.slice ((q++ [Tm.mk 3 0 s []]).map Tm.av),x,y]:=by
 have hne:q.map Tm.av++ [AV.agg [.int .i64 3,.int .i64 0,.str s,.fslice []]]≠[]:=by simp
 have hw:∀e∈q.map Tm.av++ [AV.agg [.int .i64 3,.int .i64 0,.str s,.fslice []]],e.width=4:=fun e he=>by
  rcases eK.1 he with he | he
  · exact d9 _ e he
  · rw[ED] at he;subst he;rfl
 have hj:∀e∈q.map Tm.av++ [AV.agg [.int .i64 3,.int .i64 0,.str s,.fslice []]],e.cJ=false:=fun e he=>by
  rcases eK.1 he with he | he
  · exact jJ _ e he
  · rw[ED] at he;subst he;rfl
 rw[jD hne,pQ hne]
 have D2:aL (st.aC b (.cells ((q.map Tm.av++ [AV.agg [.int .i64 3,.int .i64 0,.str s,.fslice []]]).flatMap AV.cells))) s0:=((aL.refl _).aC hb).trans D0
 refine mN.cons (fun hp v S y=>y.mono (D2.step hp)) (mN.cons (fun h v S y=>?_) (mN.mono D2 [x,y]))
 have:=a6C D2 (aB.aJ _ _ _) ((D0 b).1 hb) hj hw h v S y
 rw[aB1] at this
 exact this
abbrev AY:=zi tI_3 (zi zI_3 (zi aU (zi tI_4 (zi zI_4 (zi cI (zi tI_27 (zi zI_27 (zi eH (zi gK (zi gN (zi iJ (zi tI_28 (zi zI_28 (zi aO (zi bF (zi bG (zi bZ (zi tI_31 (zi zI_31 (zi gM (zi jX (zi jY (zi lX (zi tI_47 (zi zI_47 (zi mU (zi pT (zi pU (zi pJ (zi tI_52 (zi zI_52 (zi bU (zi bV (zi bX (zi bY (zi bT (zi tI_55 (zi zI_55 (zi CL (zi B1 (zi tI_300 (zi zI_300 (zi TE (zi TF (zi TH (zi TI (zi TJ (zi TK (zi TL (zi TM (zi TN (zi TO (zi TG RP)))))))))))))))))))))))))))))))))))))))))))))))))))))
set_option maxHeartbeats 2000000 in
theorem aVU(code:List Bt)(st:aB):aD prog 5 [.slice (code.map gE)] st (fun r _=>r=.bool true):=by
 refine wF [1000000] 1 func5 ntmps5 rfl rfl ?_
 intro _
 simp -implicitDefEqProofs only[aF,aA,seval,AY]
 refine aQ (fun h1=>?_) (fun h1=>?_)
 · simp -implicitDefEqProofs only[aA,seval]
 simp -implicitDefEqProofs only[aA,seval]
 refine(Z7 code _).mono ?_
 rintro _ s1 ⟨⟨p,q,most,fuel,⟨hql,hf1,hf2⟩,rfl⟩,rfl⟩
 have hS1:=fun st=>(H3 p q most fuel st).AC
 have hS2:=aYM p q most fuel
 have hP:=fun h h' a L hl=>@aY6 p (fun _ l=>l) q most fuel h h' a L hl
 have h9:=aQ0 (p:=p) (cnd:=fun _ l=>l) (q:=q) (most:=most) (fuel:=fuel)
 have h9':=aQ0 (p:=p) (cnd:=fun _ l=>l) (q:=q++ [cG]) (most:=20) (fuel:=300)
 have hS3:=H3 p (q++ [cG]) 20 300
 have hB:(d8 p (fun _ l=>l) q most fuel).2=9→(d8 p (fun _ l=>l) q most fuel).1= []:=fun h=>by rw[aQY (h9.1 h)]
 generalize d8 p (fun _ l=>l) q most fuel=T at *
 generalize d8 p (fun _ l=>l) (q++ [cG]) 20 300=T2 at *
 obtain⟨L,e⟩:=T
 obtain⟨L2,e2⟩:=T2
 simp only at hS1 hS2 hP h9 h9' hS3 hB
 simp -implicitDefEqProofs only[aA,seval]
 refine(hS1 _).to ?_
 simp -implicitDefEqProofs only[aA,seval]
 refine(hS2 _).to ?_
 simp -implicitDefEqProofs only[aA,seval,AY]
 change kP prog 28 (aV s1 0 []) (aZ 4 0 []) (.slice (q.map Tm.av)) _
 refine eE aO bF bG rfl rfl (by intro e he;simp only[cY] at he;obtain⟨t,_,rfl⟩:=he;exact⟨aM _,cH _⟩) (by simp) (fun h=>absurd rfl h) (by simp only[aX,aF];omega) (by simp only[aX,aF];omega) (fun b hb=>?_)
 rw[eD] at hb ⊢
 simp -implicitDefEqProofs only[aA,seval,AY]
 refine eE (xs:=[AV.agg [.int .i64 3,.int .i64 0,.str ⟨#[33]⟩,.fslice []]]) aO bF bG rfl rfl (fL rfl rfl) (d9 _) hb (by simp only[aF,aT,aX];omega) (by simp only[aF,aT,aX];omega) (fun b2 hb2=>?_)
 have hb3:=hb2 (by simp)
 simp -implicitDefEqProofs only[aA,seval]
 refine((aD.a59 hS3 (aU1 hb3 dQ (aL.dQ _) _ _ _)).AC).to ?_
 simp -implicitDefEqProofs only[bE,dX,aA,seval]
 refine(o0 L _).to ?_
 have hL0:((L.length:Int)=0)=(L= []):=by
  rw[eq_iff_iff]
  constructor
  · intro h;exact sI (by omega)
  · intro h;rw[h];try rfl
 by_cases hl:L= []
 · have hl':=cM hl
   simp -implicitDefEqProofs only[hl',bE,dX,aF,hL0,aA,seval,AY]
   refine(o0 L _).to ?_
   simp -implicitDefEqProofs only[aA,seval]
 have hl':=cB hl
 by_cases he9:e2=9
 · have NT:=cM he9
   simp -implicitDefEqProofs only[hl',NT,bE,bM,dX,aF,hL0,aA,seval,AY]
   refine(o0 L _).to ?_
   simp -implicitDefEqProofs only[aA,seval]
 have NT:=cB he9
 by_cases he2:e2=2
 · have UI:=cM he2
   simp -implicitDefEqProofs only[hl',NT,UI,bE,bM,dX,aF,hL0,aA,seval,AY]
   refine(o0 L _).to ?_
   simp -implicitDefEqProofs only[aA,seval]
 have UI:=cB he2
 obtain⟨x,L',hLx⟩:∃x L',L=x::L':=by cases L with | nil=>exact absurd rfl hl | cons x L'=>exact⟨x,L',rfl⟩
 have a2L:gH p (q++ [cG]) 20 300=true:=by
  cases hk:gH p (q++ [cG]) 20 300 with
  | true=>rfl
  | false=>exact absurd (h9'.2 hk) he9
 have hok:gH p q most fuel=true:=by
  cases hk:gH p q most fuel with
  | true=>rfl
  | false=>exact absurd (hB (h9.2 hk)) hl
 have hR:=hP hok a2L x L' hLx
 rcases hR with hR | hR
 · exact absurd hR he2
 simp only[Prod.mk.injEq] at hR
 obtain⟨hL2,rfl⟩:=hR
 have hxa:(cD x).isAgg=true:=rfl
 have hxw:(cD x).width=1:=rfl
 have a16:((L2.length:Int)=1)=True:=cM (by rw[hL2];try rfl)
 have fR:dN prog 31 (.slice (L2.map cD)) (.int .i64 0)=some (.pptr (cD x)):=bQ (av:=cD) (l:=L2) (i:=0) gM (by rw[hL2];try rfl) rfl
 have qR:dN prog 31 (.slice (L.map cD)) (.int .i64 0)=some (.pptr (cD x)):=bQ (av:=cD) (l:=L) (i:=0) gM (by rw[hLx];try rfl) rfl
 simp -implicitDefEqProofs only[hl',NT,UI,bM,dX,aF,hL0,aA,seval,AY]
 refine HY (.fin [(0,1),(1,1),(2,1),(3,1),(4,1),(5,1),(6,1),(7,1),(8,1),(9,1),(10,0),(11,1),(12,1),(13,1),(14,1),(15,1),(16,1)]) [0,1,2,3,4,5,6,7,8,9,11,12,13,14,15,16] dQ mixed (by decide +kernel) rfl (by decide +kernel) dY ?_
 simp -implicitDefEqProofs only[bE,dX,aF,BH,fR,qR,a16,hxa,hxw,aA,seval,AY]
 refine(Z6 x x _).to ?_
 rw[aCD]
 simp -implicitDefEqProofs only[bE,dX,aA,seval]
 exact dY
end Go.AW
namespace Go.AW
open Go.ChangeShapes Go.WideShapes Go.ChangeAt Go.RowKit
abbrev oF:aB:=fun _=>none
section
variable {H:Type} {enc:TypeId×Value→H} {P:Program} {w:World}
def Reads(enc:TypeId×Value→H)(P:Program)(w:World)(t n:Nat){α:Type}(av:α→AV):Prop:=
 ∀cs x,DataW.trod enc P w 0 (fun _=>true) true n t cs=some x→∃a:α,VC w.heap oF (av a) cs
theorem YK{h:bS}{st:aB}{b k:Nat}:∀ {es:List AV} {off:Nat},(∀e∈es,e.width=k)→(∀(i:Nat) e,es[i]?=some e→VE h st b (off+i*k) e)→dF h st b off es
 | [],_,_,_=>by simp [dF]
 | e::es,off,hw,h=>by
  simp only[dF]
  refine⟨by simpa [VE] using h 0 e rfl,YK (fun x hx=>hw x (by simp [hx])) fun i x hx=>?_⟩
  have:=h (i+1) x (by simpa using hx)
  rw[hw e (by simp),EG,←Nat.a64 k i] 
  exact this
where Nat.a64 (k i:Nat):(i+1)*k=k+i*k:=by rw[sK];omega
theorem aBN{a:Addr}{v:Value}(h:w.cell? a=some v):a.spot=none∧a.block<w.heap.size∧cellAt w.heap a.block a.off=some v:=by
 unfold World.cell? at h
 split at h
 · rename_i c t fr hb
   split at h
   · cases h
   · rename_i hs
     refine⟨by simpa using hs,(QD.1 hb).1,by simp [cellAt,hb,h]⟩
 · cases h
theorem aYW{a:Addr}{n:Nat}{cs:List Value}(hs:a.spot=none)(h:w.cells? 0 a n=some cs):gF w.heap a.block a.off cs∧cs.length=n:=by
 obtain⟨_,hl,hc⟩:=World.cells?_some h
 refine⟨?_,hl⟩
 have:∀(l:List Value) (k:Nat),(∀i,i<l.length→w.cell? (a.add (k+i))=l[i]?)→gF w.heap a.block (a.off+k) l:=by
  intro l
  induction l with
  | nil=>intro _ _;trivial
  | cons v l ih=>
   intro k hk
   refine⟨?_,?_⟩
   · have:=(aBN (hk 0 (by simp))).2.2
     obtain⟨b,off,sp⟩:=a
     simp only at hs
     subst hs
     simpa [Addr.qI] using this
   · have:=ih (k+1) (fun i hi=>by have:=hk (i+1) (by simp;omega);rw[show k+1+i=k+(i+1) by omega];simpa using this)
     simpa [EG] using this
 simpa using this cs 0 (fun i hi=>by simpa using hc i (by omega))
theorem a5T{t e n k:Nat}{α:Type}{av:α→AV}(ht:P.underlying t=some (.slice e))(hk:P.cellsOf e=k)(FO:0<k)(hw:∀a,(av a).width=k)(hr:∀m,m<n→Reads enc P w e m av) :
 Reads enc P w t n (fun l:List α=>.slice (l.map av)):=by
 intro cs x h
 rcases DataW.trod_slice ht h with ⟨rfl,_⟩ | ⟨a,len,cap,elems,rest,m,hm,rfl,rfl,_,hl,FK,hlen,hel,hsp,_⟩
 · exact⟨[],by simp only[aW];unfold VC;exact .inl ⟨⟨_,rfl⟩,rfl⟩⟩
 obtain⟨hrl,FP⟩:=hsp rfl
 rw[hk] at hel FP
 have get:∀i,i<cap→∃ds y,w.cells? 0 (a.add (i*k)) k=some ds∧DataW.trod enc P w 0 (fun _=>true) true m e ds=some y:=by
  intro i hi
  have hb:∃y,(w.cells? 0 (a.add (i*k)) k).bind (DataW.trod enc P w 0 (fun _=>true) true m e)=some y:=by
   by_cases hi':i<len
   · exact⟨elems[i]'(by omega),by rw[hel i hi'];simp [show i<elems.length by omega]⟩
   · have:=FP (i - len) (by omega)
     rw[show len+(i - len)=i by omega] at this
     exact⟨rest[i - len]'(by omega),by rw[this];simp [show i - len<rest.length by omega]⟩
  obtain⟨y,hy⟩:=hb
  obtain⟨ds,h1,h2⟩:=Option.bind_eq_some_iff.1 hy
  exact⟨ds,y,h1,h2⟩
 by_cases hc0:cap=0
 · subst hc0
   obtain rfl:len=0:=by omega
   exact⟨[],by simp only[aW];unfold VC;exact .inl ⟨⟨_,rfl⟩,rfl⟩⟩
 obtain⟨ds0,_,hd0,_⟩:=get 0 (by omega)
 have aOP:a.spot=none∧a.block<w.heap.size:=by
  obtain⟨_,hl0,hc⟩:=World.cells?_some hd0
  have:=hc 0 FO
  have h0:ds0[0]?=some (ds0[0]'(by omega)):=by simp [hl0,FO]
  rw[h0] at this
  have:=aBN this
  obtain⟨b,off,sp⟩:=a
  simp only[Nat.zero_mul] at this
  cases sp with
  | none=>exact⟨rfl,by simpa [Addr.qI] using this.2.1⟩
  | some s=>exact absurd this.1 (by simp [Addr.add])
 obtain⟨b,off,sp⟩:=a
 simp only at aOP
 obtain⟨rfl,hbl⟩:=aOP
 have val:∀i,i<len→∃v:α,VE w.heap oF b (off+i*k) (av v):=by
  intro i hi
  obtain⟨ds,y,h1,h2⟩:=get i (by omega)
  obtain⟨v,hv⟩:=hr m (by omega) ds y h2
  obtain⟨c1,c2⟩:=aYW (a:=(⟨b,off,none⟩:Addr).add (i*k)) (by simp [Addr.qI]) h1
  exact⟨v,ds,by simpa [Addr.qI] using c1,by rw[hw];exact c2,hv⟩
 have build:∀j,j≤len→∃l:List α,l.length=j∧∀(i:Nat) v,l[i]?=some v→VE w.heap oF b (off+i*k) (av v):=by
  intro j
  induction j with
  | zero=>intro _;exact⟨[],rfl,by simp⟩
  | succ j ih=>
   intro hj
   obtain⟨l,h1,h2⟩:=ih (by omega)
   obtain⟨v,hv⟩:=val j (by omega)
   refine⟨l++ [v],by simp [h1],fun i u hi=>?_⟩
   rw[List.getElem?_append] at hi
   split at hi
   · exact h2 i u hi
   · rename_i hge
     have:i=j:=by
      have:=(gW.1 hi).1
      simp at this
      omega
     subst this
     simp [h1] at hi
     subst hi
     exact hv
 obtain⟨l,h1,h2⟩:=build len (dC _)
 refine⟨l,?_⟩
 unfold VC
 refine .inr ⟨b,off,cap,by simp [h1],by simp [h1];exact hl,FK,rfl,hbl,aZ2 hw l,YK (k:=k) (by intro e he;simp only[cY] at he;obtain⟨v,_,rfl⟩:=he;exact hw v) fun i e he=>?_⟩
 rw[oX] at he
 obtain⟨v,hv,rfl⟩:=Option.map_eq_some_iff.1 he
 exact h2 i v hv
theorem yC{t:TypeId}{α:Type}{av:α→AV}{v:Value}{d:DataW H}{ps:List MemPlace}(hr:∀n,Reads enc P w t n av)(hag:∀a,(av a).isAgg=lY v)(h:DataW.Trod enc P w 0 (fun _=>true) true t v d ps) :
 ∃a:α,aR w.heap oF (av a) v:=by
 obtain⟨n,hn⟩:=h
 obtain⟨a,ha⟩:=hr n _ _ hn
 refine⟨a,?_⟩
 have:=hag a
 cases hq:av a<;>rw[hq] at ha this<;>first | trivial | exact⟨this,ha⟩
theorem aSU(hl:laidOutB P=true){W W':World}{sp:Nat→Bool}:∀ {ts:List TypeId} {vs:List Value} {ds:List (DataW H)} {ps:List MemPlace},(ts.all fun t=>P.readableRec t&&decide (t<P.types.size))=true →
 DataW.TrodAll enc P W 0 (fun _=>true) true ts vs ds ps→(∀x∈ps,W.sameAt W' x)→(∀x∈ps,sp x.block=true)→DataW.TrodAll enc P W' 0 sp true ts vs ds ps
 | [],vs,ds,ps,_,h,_,_=>by
  cases vs<;>cases ds<;>simp [DataW.TrodAll] at h ⊢
  exact h
 | t::ts,vs,ds,ps,ht,h,h1,h2=>by
  obtain⟨v,vs',d,ds',p,q,rfl,rfl,rfl,hd,FP⟩:=trodAll_cons h
  simp only[k0,cE,bK] at ht
  refine⟨p,q,Go.WideElems.Trod_stays hl ht.1.1 ht.1.2 hd (fun x hx=>h1 x (by simp [hx])) (fun x hx=>h2 x (by simp [hx])),aSU hl ht.2 FP (fun x hx=>h1 x (by simp [hx])) (fun x hx=>h2 x (by simp [hx])),rfl⟩
theorem aU2{W W':World}{st':aB}(T:cL W.heap oF W'.heap st')(s:gQ W W'):Below W.heap.size W W':=
 ⟨s.1,s.2.1,s.2.2,T.size,fun k hk=>(T.a7 k hk rfl).1⟩
theorem C7{f:Func}{g:FuncId}{s:ChangeSpec}{W:World}{args:Array Value}{ds:List (DataW H)}{before:List MemPlace}{avs:List AV}{tb:TypeId}
 (hl:laidOutB P=true) (hts:(f.params.toList.all fun t=>P.readableRec t&&decide (t<P.types.size))=true) (hrt:f.resultTypes= #[tb]) (htb:P.underlying tb=some .bool) (hsv:s.vars= [])
 (hW:DataW.Whole enc P f.params.toList [] false W args.toList ds [] before) (hfn:s.fn H ds= { results:=[.lit (.bool true)],args:=ds }) (a2R:cZ W.heap oF avs args.toList)
 (hc:aD P g avs oF (fun r _=>r=.bool true)) :
 Calls P g args W fun e W'=>∃v,e=.returned v∧s.post enc P f false true false false W args v W':=by
 have hS:dD W.heap oF:=fun b o h=>by cases h
 have:=hc.2 W args.toList hS a2R
 simp only[yQ] at this
 refine this.mono ?_
 rintro e W' ⟨v,r,st',rfl,hv,_,T,sm,rfl⟩
 refine⟨v,rfl,?_⟩
 have hB:=aU2 T sm
 rw[hv.B2]
 have hW':DataW.Whole enc P f.params.toList s.vars false W args.toList ds [] before:=by rw[hsv];exact hW
 obtain⟨p,q,hA,hV,rfl,hz,_⟩:=hW
 obtain⟨_,rfl⟩:=trodVars_none hV
 have hlt:∀x∈p,x.block<W.heap.size:=fun x hx=>hW'.lt x (by simp [hx])
 have C4:∀(b:Nat) (sp:Nat→Bool) (hd:Bool),DataW.TrodAll enc P W' b sp hd f.resultTypes.toList ((Value.bool true).resultList f.resultTypes.size) (s.fn H (ds++ [])).results []:=fun _ _ _=>by
  rw[iV,hfn,hrt]
  exact trodAll_mk1 (shut_bool htb true)
 have sS:∀sp:Nat→Bool,(∀x∈p,sp x.block=true)→DataW.TrodAll enc P W' 0 sp true f.params.toList args.toList (s.fn H (ds++ [])).args p:=fun sp hsp=>by
  rw[iV,hfn]
  exact aSU hl hts hA (fun x hx=>hB.same (hlt x hx)) hsp
 have aOR:∀sp:Nat→Bool,DataW.TrodVars enc P W' sp s.vars (s.fn H (ds++ [])).vars []:=fun sp=>by
  rw[iV,hfn,hsv]
  exact rfl
 refine⟨ds,[],p++ [],[],p,[],hW',C4 _ _ _,sS _ (fun x hx=>by simpa using hlt x hx),aOR _,World.keptBut_mono (fun x hx=>⟨hx,by simpa using hx⟩) (hB.frame (·∈p++ [])),fun _=>?_⟩
 refine⟨ok_one hrt rfl (okWide_bool_mk htb true),_,_,([]++p)++ [],⟨[]++p,[],trodAll_append (sS _ (fun _ _=>rfl)) (C4 _ _ _),aOR _,rfl,?_,?_⟩,?_⟩
 · intro b off hp
   have hp':MemPlace.cell b off∈p:=by simpa using hp
   rw[hB.frozen (p:=⟨b,off,none⟩) (hlt _ hp')]
   exact hz b off (by simpa using hp')
 · intro ha;cases ha
 · intro x hx _
   simpa using hx
end
end Go.AW

