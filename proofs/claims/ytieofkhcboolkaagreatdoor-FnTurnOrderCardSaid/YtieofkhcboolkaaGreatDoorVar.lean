/- Regions that draw, with two operations that write and may come in either order. -/
import Derived.Test.YtieofkhcboolkaaGreatDoorVaf
import Derived.Test.YtieofkhcboolkaaGreatDoorVao
import Derived.Test.YtieofkhcboolkaaGreatDoorVaq
import Derived.Test.YtieofkhcboolkaaGreatDoorVap
import Derived.Test.YtieofkhcboolkaaGreatDoorVak
import Derived.Test.YtieofkhcboolkaaGreatDoorVan
set_option linter.unusedSimpArgs false
set_option linter.unusedVariables false
set_option maxRecDepth 100000
namespace Go.AW
theorem QA{U:aB}{bo x:Nat}{os:List AV}(h:os≠[]→x≠bo):bE U bo os x=U x:=by
 by_cases hl:os= []
 · rw[hl,y6]
 · rw[nN (h hl)]
section
variable {P:Program}
def AA(ops:Array Oper)(S:List Nat):List (Nat×Nat)→Array Bool→Option (Array Bool)
 | [],listed=>some listed
 | (i,0)::r,listed=>if decide (Region.ready .any ops listed= [i])&& !S.contains i then AA ops S r (listed.setIfInBounds i true) else none
 | (i,1)::r,listed=>if(Region.ready .any ops listed).contains i&&Region.free .any ops listed i&&S.contains i then AA ops S r (listed.setIfInBounds i true) else none
 | _::_,_=>none
theorem P8{ops:Array Oper}{S:List Nat}{s0:aB}{K K':AF→aB→Prop}{n:Nat}:∀(p:List (Nat×Nat)) (listed l':Array Bool) (φ:AF) (st:aB),tJ ops listed→AA ops S p listed=some l'→eD s0 st →
 (∀φ st,tJ ops l'→eD s0 st→K' φ st→wU P ops S s0 K n l' φ st)→BG P ops s0 K' p φ st→wU P ops S s0 K (p.length+n) listed φ st
 | [],listed,l',φ,st,hcl,hB,hx,hK,h=>by
  simp only[AA,Option.some.injEq] at hB
  subst hB
  rw[aZ,gZ]
  exact hK φ st hcl hx h
 | (i,0)::r,listed,l',φ,st,hcl,hB,hx,hK,h=>by
  simp only[AA] at hB
  split at hB
  case isFalse=>cases hB
  rename_i hc
  simp only[bV,bK,lJ] at hc
  obtain⟨o,ho,h'⟩:=h
  have hr:i∈Region.ready .any ops listed:=by rw[hc.1];simp
  rw[aU,show r.length+1+n=(r.length+n)+1 by omega]
  refine⟨fun h0=>(by rw[hc.1] at h0;cases h0),fun j hj=>?_⟩
  rw[hc.1] at hj
  obtain rfl:j=i:=by simpa using hj
  exact⟨o,ho,.inr ⟨hc.2,tS (fun v st' q=>⟨.inr q.1,P8 r _ _ _ _ (hcl.set hr) hB q.1 hK q.2⟩) h'⟩⟩
 | (i,1)::r,listed,l',φ,st,hcl,hB,hx,hK,h=>by
  simp only[AA] at hB
  split at hB
  case isFalse=>cases hB
  rename_i hc
  simp only[bV] at hc
  obtain⟨⟨hr,hf⟩,hS⟩:=hc
  obtain⟨o,ho,v,hv,h'⟩:=h
  have hr':i∈Region.ready .any ops listed:=by simpa using hr
  rw[aU,show r.length+1+n=(r.length+n)+1 by omega]
  exact X9 ho hS _ listed φ st hcl (Region.free_spec ho hf) hr' hv hx (P8 r _ _ _ _ (hcl.set hr') hB hx hK h')
 | (i,k+2)::r,listed,l',φ,st,hcl,hB,hx,hK,h=>by simp [AA] at hB
inductive PT where
 | fin (p:List (Nat×Nat))
 | br (p:List (Nat×Nat)) (i j:Nat) (a b:PT)
def PT.size:PT→Nat
 | .fin p=>p.length
 | .br p _ _ a _=>p.length+(a.size+1)
def FM(ops:Array Oper)(S:List Nat):PT→Array Bool→Bool
 | .fin p,l=>sX ops S p l&&CA p
 | .br p i j a b,l=>match AA ops S p l with
  | none=>false
  | some l'=>decide (Region.ready .any ops l'= [i,j])&& !S.contains i&& !S.contains j&&decide (b.size=a.size)&&FM ops S a (l'.setIfInBounds i true)&&FM ops S b (l'.setIfInBounds j true)
def sC(P:Program)(ops:Array Oper)(s0:aB)(K:AF→aB→Prop):PT→AF→aB→Prop
 | .fin p,φ,st=>iL P ops s0 K p φ st
 | .br p i j a b,φ,st=>iL P ops s0 (fun φ st=>
  (match ops[i]? with | none=>False | some o=>bD P [] ops [o] (fun φ' st'=>eD s0 st'∧sC P ops s0 K a φ' st') φ st) ∧
  (match ops[j]? with | none=>False | some o=>bD P [] ops [o] (fun φ' st'=>eD s0 st'∧sC P ops s0 K b φ' st') φ st)) p φ st
def M9(P:Program)(ops:Array Oper)(s0:aB)(K:AF→aB→Prop)(t:PT)(φ:AF)(st:aB):Prop:=eD s0 st∧sC P ops s0 K t φ st
def wB(P:Program)(ops:Array Oper)(s0:aB)(K:AF→aB→Prop)(t:PT)(φ:AF)(st:aB):Option Oper→Prop
 | none=>False
 | some o=>bD P [] ops [o] (M9 P ops s0 K t) φ st
def LD(P:Program)(ops:Array Oper)(s0:aB)(K:AF→aB→Prop)(i j:Nat)(a b:PT)(φ:AF)(st:aB):Prop:=wB P ops s0 K a φ st ops[i]?∧wB P ops s0 K b φ st ops[j]?
theorem PR{ops:Array Oper}{s0:aB}{K:AF→aB→Prop}{p:List (Nat×Nat)}{φ:AF}{st:aB}:sC P ops s0 K (.fin p) φ st=iL P ops s0 K p φ st:=by rw[sC]
theorem XQ{ops:Array Oper}{s0:aB}{K:AF→aB→Prop}{p:List (Nat×Nat)}{i j:Nat}{a b:PT}{φ:AF}{st:aB}:sC P ops s0 K (.br p i j a b) φ st=iL P ops s0 (LD P ops s0 K i j a b) p φ st:=by
 rw[sC]
 congr 1
theorem aSQ{l:List Oper}{s0:aB}{K:AF→aB→Prop}{i j:Nat}{a b:PT}{φ:AF}{st:aB}:LD P l.toArray s0 K i j a b φ st=(wB P l.toArray s0 K a φ st l[i]?∧wB P l.toArray s0 K b φ st l[j]?):=by
 simp only[LD,yO]
theorem aSR{ops:Array Oper}{s0:aB}{K:AF→aB→Prop}{t:PT}{φ:AF}{st:aB}{o:Oper}:wB P ops s0 K t φ st (some o)=bD P [] ops [o] (M9 P ops s0 K t) φ st:=by rw[wB]
theorem XR{ops:Array Oper}{s0:aB}{K:AF→aB→Prop}{t:PT}{φ:AF}{st:aB}:M9 P ops s0 K t φ st=(eD s0 st∧sC P ops s0 K t φ st):=by rw[M9]
theorem aPX{ops:Array Oper}{s0:aB}{K:AF→aB→Prop}{t:PT}{φ:AF}{st:aB}{i:Nat}(h:wB P ops s0 K t φ st ops[i]?) :
 ∃o,ops[i]?=some o∧jR P ops o φ st (fun v st'=>eD s0 st'∧sC P ops s0 K t (φ.put o.dst v) st'):=by
 cases ho:ops[i]? with
 | none=>rw[ho] at h;exact h.elim
 | some o=>
  rw[ho] at h
  refine⟨o,rfl,?_⟩
  simp only[wB,bD] at h
  unfold jR
  split at h
  · rename_i hg
    rw[hg]
    exact BH (fun v s q=>q) h
  · rename_i hg
    rw[hg]
    exact⟨h.1,h.2⟩
  · exact h.elim
theorem P7{ops:Array Oper}{S:List Nat}{s0:aB}{K:AF→aB→Prop}:∀(t:PT) (listed:Array Bool) (φ:AF) (st:aB),tJ ops listed→FM ops S t listed=true→eD s0 st→sC P ops s0 K t φ st→wU P ops S s0 K t.size listed φ st
 | .fin p,listed,φ,st,hcl,hB,hx,h=>by
  simp only[FM,bV] at hB
  rw[PR] at h
  exact G9 p _ _ _ hcl hB.1 (.inl ⟨hB.2,hx⟩) (vH _ _ _ h)
 | .br p i j a b,listed,φ,st,hcl,hB,hx,h=>by
  simp only[FM] at hB
  split at hB
  · cases hB
  rename_i l' hl'
  simp only[bV,bK,lJ] at hB
  obtain⟨⟨⟨⟨⟨hr,hSi⟩,hSj⟩,hsz⟩,hBa⟩,hBb⟩:=hB
  rw[XQ] at h
  refine P8 (K':=LD P ops s0 K i j a b) p _ _ _ _ hcl hl' hx (fun φ st hcl hx hK=>?_) (vH _ _ _ h)
  refine⟨fun h0=>(by rw[hr] at h0;cases h0),fun k hk=>?_⟩
  have hk':=hk
  rw[hr] at hk'
  rcases cY.1 hk' with rfl | hk'
  · obtain⟨o,ho,h2⟩:=aPX hK.1
    exact⟨o,ho,.inr ⟨hSi,tS (fun v st' q=>⟨.inr q.1,P7 a _ _ _ (hcl.set hk) hBa q.1 q.2⟩) h2⟩⟩
  · obtain rfl:k=j:=by simpa using hk'
    obtain⟨o,ho,h2⟩:=aPX hK.2
    have:=fun(v:AV) (st':aB) (q:eD s0 st'∧sC P ops s0 K b (φ.put o.dst v) st')=>P7 (S:=S) b _ _ _ (hcl.set hk) hBb q.1 q.2
    rw[hsz] at this
    exact⟨o,ho,.inr ⟨hSj,tS (fun v st' q=>⟨.inr q.1,this v st' q⟩) h2⟩⟩
theorem aUD{N:Nat}{id:Nat}{l:List Oper}{Q:Exit→AF→aB→Prop}{φ:AF}{st:aB}(t:PT)(S:List Nat)(s0:aB)(hm:P.follows .mixedOrders=true)(hok:qL N l.toArray=true)(hl:t.size=l.length)(hB:FM l.toArray S t (Array.replicate l.toArray.size false)=true)(hs:eD s0 st)
 (h:sC P l.toArray s0 (Q .normal) t φ st):fK P N (.region id l.toArray true) Q φ st:=by
 intro a w R
 refine wp_region_any hm ?_
 have R0:Rel N a { w with drawn:=w.drawn+1 } φ st:=⟨R.size,R.defers,R.frame,R.store⟩
 have key:=P7 (P:=P) (ops:=l.toArray) (S:=S) (s0:=s0) (K:=Q .normal) t (Array.replicate l.toArray.size false) φ st (fun j o _ hl=>(by rw[SB] at hl;cases hl)) hB hs h
 rw[hl,←KP] at key
 exact KY (zZ hok) (xW hok) (w0:=w) (st0:=st) (fun φ' st' a' w' k R' T s=>⟨φ',st',R',T,s,k⟩) _ _ _ _ _ _ (KZ _ _ _ _ key) R0 (bX.refl _ _) ⟨rfl,rfl,rfl⟩
end
@[congr] theorem bEL {P:Program} {ops:Array Oper} {s0:aB} {K:AF→aB→Prop} {t:PT} {φ φ':AF} {st st':aB} {o o':Option Oper} (h1:φ=φ') (h2:st=st') (h3:o=o'):wB P ops s0 K t φ st o=wB P ops s0 K t φ' st' o':=by rw[h1,h2,h3]
end Go.AW
namespace Go.AW
open Go.Proofs.Tryz
structure mF (s:Ss):Prop where
 p:s.p.length≤20
 ps:∀c∈s.p,vM c
 q:s.q.length≤6
 qs:∀t∈s.q,Dn t
theorem mF.small{s:Ss}(h:mF s):s.p.length≤1048576∧(∀c∈s.p,aA2 c)∧s.q.length≤1048576∧∀t∈s.q,t.small=true:=
 ⟨by have:=h.p;omega,fun c hc=>⟨(h.ps c hc).1.2,by have:=(h.ps c hc).2.1;omega,fun x hx=>((h.ps c hc).2.2 x hx).2⟩,by have:=h.q;omega,fun t ht=>(h.qs t ht).2⟩
theorem mF.uP{p:List Cl}{q:List Tm}{k:Int}(hp:p.length≤20)(hps:∀c∈p,vM c)(hq:I8 q):mF (uP p q k):=by
 unfold AW.uP
 split
 · exact⟨hp,hps,hq.1,hq.2⟩
 · exact⟨by simp,by simp,by simp,by simp⟩
theorem mF.of{s s':Ss}(h:mF s)(hp:s'.p=s.p)(hq:s'.q=s.q):mF s':=
 ⟨by rw[hp];exact h.p,by rw[hp];exact h.ps,by rw[hq];exact h.q,by rw[hq];exact h.qs⟩
theorem mF.fU{s:Ss}{n:Int}(h:mF s):mF (fU s n).1:=h.of (VA s n).1 (VA s n).2.1
abbrev XG (r:AV):Prop:=∃s:Ss,mF s∧r=aT s
abbrev C3:=zi aW (zi fJ (zi jM (zi cA (zi lG yE))))
set_option maxHeartbeats 2000000 in
theorem aWO(bs:List Bt)(c p:Nat)(st:aB)(hp:p+1000≤1099511627776)(hR:gW st c bs p):aD prog 44 [.ptr c 0] st (Dr bs c p 1000 st XG):=by
 refine aD.nR ?_
 refine wF [1000000,2,5] 1 func44 ntmps44 rfl rfl ?_
 intro _
 simp only[aA,seval,C3]
 intro b2 h2
 have h2c:=hR.ne h2
 refine(aX1 bs c p _ (by omega) (hR.aC h2c)).mono ?_
 rintro _ _ ⟨p1,r1,r2,rfl,l,q,⟨l1,l2,l3⟩,hq,rfl⟩
 simp only[aA,seval,C3]
 refine(xB [60,100,20,7,0] (by simp) (by simp) bs c p1 (by omega) _ gW.new).mono ?_
 rintro _ _ ⟨x,hx,rfl,rfl⟩
 rw[dO]
 simp only[aA,seval]
 refine(aYO l q x _).to ?_
 have hD:mF (uP l q x):=mF.uP l2 l3 hq
 generalize uP l q x=s0 at *
 simp only[aT]
 simp only[aK,aA,↓aS,seval,C3]
 intro b5 h5
 have h5c:b5≠c:=gW.new.ne h5
 rw[aB.aH _ _ h5c] at h5
 have h52:b5≠b2:=by rintro rfl;rw[aB.aJ] at h5;cases h5
 rw[aB.aH _ _ h52] at h5
 refine(y9 bs c (p1+1) (by omega) 3 (by omega) (by omega) _ (gW.new.aC h5c)).mono ?_
 rintro _ _ ⟨k,hk,rfl,rfl⟩
 rw[aB.lZ _ _ _ h5c,dO]
 simp only[aA,seval]
 generalize ho:(AO.cells _:AO)=o2
 refine iJ (σ:=Nat×Nat×Ss) [1000000] [0,2,5] (fun x=>x.1≤2∧p≤x.2.1∧x.2.1+10*x.1≤p+900∧mF x.2.2) (fun x=>[(7,.int .i64 (x.1:Int))]) (fun x=>((st.aC b2 o2).aC c (jW bs x.2.1)).aC b5 (.cells (AH x.2.2))) (fun x=>x.1) (by decide +kernel) ⟨(k,p1+1+1,s0),⟨by simp only;omega,by simp only;omega,by simp only;omega,hD⟩,aO.mk (by simp only[aA,seval])⟩ ?_
 rintro⟨i,q2,z⟩ ⟨i1,i2,i3,i4⟩
 simp only at i1 i2 i3 i4
 obtain⟨k1,k2,k3,k4⟩:=i4.small
 have hsl:=fun n=>aYQ z n k1 k2 k3 k4
 have hkp:=fun n=>i4.fU (n:=n)
 have e5:∀X:AO,(((st.aC b2 o2).aC c X).aC b5 (.cells (AH z))) b5=some (.cells [.slice (z.p.map bY),.slice (z.q.map Tm.av),.int .i64 z.dJ,.int .i64 z.used,.int .i64 z.sent,.int .i64 z.fin]):=fun X=>aB.aJ _ _ _
 have e2:∀X Y:AO,(((st.aC b2 o2).aC c X).aC b5 Y) b2=some o2:=fun X Y=>by rw[aB.aH _ _ h52.symm,aB.aH _ _ h2c,aB.aJ]
 simp only[aT] at hsl
 have hw:=bF (n:=(i:Int) - 1)
 subst ho
 simp only[aA,seval]
 refine aP (fun h=>?_) (fun h=>?_)
 case refine_2=>
  simp only[aK,e5,e2,aB.aJ,aA,seval,C3]
  refine⟨st.aC c (jW bs q2),fun x=>?_,q2,by omega,by omega,rfl,z,i4,rfl⟩
  by_cases x2:x=b2<;>by_cases xc:x=c<;>by_cases x5:x=b5<;>simp_all [aB.aC]
 have hi:0<i:=by simp only[bK] at h;omega
 simp only[aA,seval]
 refine aUD (.br [(0,1),(1,1),(2,1)] 3 8 (.fin [(4,1),(5,1),(6,1),(7,1),(8,0),(9,0),(10,1)]) (.fin [(3,0),(4,1),(5,1),(6,1),(7,1),(9,0),(10,1)])) [0,1,2,4,5,6,7,10] (one b5 (.cells [.slice (z.p.map bY),.slice (z.q.map Tm.av),.int .i64 z.dJ,.int .i64 z.used,.int .i64 z.sent,.int .i64 z.fin])) mixed (by decide +kernel) rfl (by decide +kernel) (fP (e5 _)) ?_
 simp only[uM,PR,XQ,aSQ,aSR,XR,aA,seval,C3]
 refine⟨?_,?_⟩
 · refine(xB [3,5,1,20,0] (by simp) (by simp) bs c q2 (by omega) _ (gW.new.aC h5c)).mono ?_
   rintro _ _ ⟨x,hx,rfl,rfl⟩
   rw[aB.lZ _ _ _ h5c,dO]
   simp only[PR,XR,aA,seval]
   refine⟨fP (e5 _),?_⟩
   refine D5 (fun st _=>hsl x st) ?_
   simp only[aK,hw,aB.aJ,dO,aA,seval,C3]
   intro b8 h8
   have h85:b8≠b5:=by rintro rfl;rw[aB.aJ] at h8;cases h8
   have h8c:b8≠c:=by rintro rfl;rw[aB.aH _ _ h85,aB.aJ] at h8;cases h8
   have e58:∀X Y:AO,((((st.aC b2 (.cells [.fslice [],.fslice [],.int .i64 0,.int .i64 0,.int .i64 0,.int .i64 0])).aC c X).aC b5 (.cells (AH z))).aC b8 Y) b5=some (.cells [.slice (z.p.map bY),.slice (z.q.map Tm.av),.int .i64 z.dJ,.int .i64 z.used,.int .i64 z.sent,.int .i64 z.fin]):=fun X Y=>by rw[aB.aH _ _ h85.symm,e5]
   refine⟨fP (e58 _ _),fP (e58 _ _),?_⟩
   rw[e58]
   simp only[aA,seval]
   have hi1:((i - 1:Nat):Int)=(i:Int) - 1:=by omega
   have D:∀X Y Z W:AO,aL (((((st.aC b2 X).aC c Y).aC b5 Z).aC b8 W).aC b5 (.cells (AH (fU z x).1))) (((st.aC b2 X).aC c Y).aC b5 (.cells (AH (fU z x).1))):=fun X Y Z W y=>by
    by_cases x2:y=b2<;>by_cases xc:y=c<;>by_cases x5:y=b5<;>by_cases x8:y=b8<;>simp_all [aB.aC]
   exact⟨(i - 1,q2+1,(fU z x).1),by simp only;omega,⟨by simp only;omega,by simp only;omega,by simp only;omega,hkp x⟩,aO.drop (D _ _ _ _) (by simp only[hi1,aA,seval])⟩
 · intro b8 h8
   refine⟨fP ?_,?_⟩
   · rw[aB.aH _ _ (show b5≠b8 by rintro rfl;rw[e5] at h8;cases h8),e5]
   have h85:b8≠b5:=by rintro rfl;rw[aB.aJ] at h8;cases h8
   have h8c:b8≠c:=by rintro rfl;rw[aB.aH _ _ h85,aB.aJ] at h8;cases h8
   refine(xB [3,5,1,20,0] (by simp) (by simp) bs c q2 (by omega) _ ((gW.new.aC h5c).aC h8c)).mono ?_
   rintro _ _ ⟨x,hx,rfl,rfl⟩
   rw[aB.lZ _ _ _ h8c,aB.lZ _ _ _ h5c,dO]
   simp only[aA,seval]
   refine⟨fP ?_,?_⟩
   · rw[aB.aH _ _ h85.symm,e5]
   refine D5 (fun st _=>hsl x st) ?_
   simp only[aK,hw,aB.aJ,dO,aA,seval,C3]
   have e58:∀X Y:AO,((((st.aC b2 (.cells [.fslice [],.fslice [],.int .i64 0,.int .i64 0,.int .i64 0,.int .i64 0])).aC c X).aC b5 (.cells (AH z))).aC b8 Y) b5=some (.cells [.slice (z.p.map bY),.slice (z.q.map Tm.av),.int .i64 z.dJ,.int .i64 z.used,.int .i64 z.sent,.int .i64 z.fin]):=fun X Y=>by rw[aB.aH _ _ h85.symm,e5]
   refine⟨fP (e58 _ _),?_⟩
   rw[e58]
   simp only[aA,seval]
   have hi1:((i - 1:Nat):Int)=(i:Int) - 1:=by omega
   have D:∀X Y Z W:AO,aL (((((st.aC b2 X).aC c Y).aC b5 Z).aC b8 W).aC b5 (.cells (AH (fU z x).1))) (((st.aC b2 X).aC c Y).aC b5 (.cells (AH (fU z x).1))):=fun X Y Z W y=>by
    by_cases x2:y=b2<;>by_cases xc:y=c<;>by_cases x5:y=b5<;>by_cases x8:y=b8<;>simp_all [aB.aC]
   exact⟨(i - 1,q2+1,(fU z x).1),by simp only;omega,⟨by simp only;omega,by simp only;omega,by simp only;omega,hkp x⟩,aO.drop (D _ _ _ _) (by simp only[hi1,aA,seval])⟩
abbrev uW:=zi aW (zi fJ (zi lG yE))
set_option maxHeartbeats 2000000 in
theorem aWP(bs:List Bt)(c p:Nat)(s:Ss)(hs:mF s)(st:aB)(hp:p+10≤1099511627776)(hR:gW st c bs p):aD prog 46 [.ptr c 0,aT s] st (Dr bs c p 10 st XG):=by
 obtain⟨k1,k2,k3,k4⟩:=hs.small
 have hcp:=LM s k1 k2 k3 k4
 obtain⟨p',q',i0,i1,i2,i3⟩:=s
 simp only[aT] at *
 refine aD.nR ?_
 refine wF [1000000,4,5] 2 func46 ntmps46 rfl rfl ?_
 intro _
 simp only[aA,seval,uW]
 intro b4 h4
 have h4c:=hR.ne h4
 refine(hcp _).to ?_
 simp only[aK,aA,↓aS,seval,uW]
 intro b5 h5
 have h54:b5≠b4:=by rintro rfl;rw[aB.aJ] at h5;cases h5
 rw[aB.aH _ _ h54] at h5
 have h5c:=hR.ne h5
 refine(y9 bs c p (by omega) 24 (by omega) (by omega) _ ((hR.aC h4c).aC h5c)).mono ?_
 rintro _ _ ⟨k,hk,rfl,rfl⟩
 have e5:∀(o o':AO) (X:AO),(((st.aC b4 o).aC b5 o').aC c X) b5=some o':=fun o o' X=>by rw[aB.aH _ _ h5c,aB.aJ]
 have e4:∀(o o':AO) (X:AO),(((st.aC b4 o).aC b5 o').aC c X) b4=some o:=fun o o' X=>by rw[aB.aH _ _ h4c,aB.aH _ _ h54.symm,aB.aJ]
 have e4':∀(o o':AO) (X Y:AO),((((st.aC b4 o).aC b5 o').aC c X).aC b5 Y) b4=some o:=fun o o' X Y=>by rw[aB.aH _ _ h54.symm,e4]
 simp only[aA,seval]
 refine aP (fun h=>?_) (fun h=>?_)
 · simp only[aA,seval,uW]
   refine(xB [-1,400,0] (by simp) (by simp) bs c (p+1) (by omega) _ gW.new).mono ?_
   rintro _ _ ⟨x,hx,rfl,rfl⟩
   rw[dO]
   simp only[aK,e5,e4',aB.aJ,aA,seval,uW]
   refine⟨st.aC c (jW bs (p+1+1)),fun y=>?_,p+1+1,by omega,by omega,rfl,⟨p',q',i0,x,i2,i3⟩,hs.of rfl rfl,rfl⟩
   by_cases x4:y=b4<;>by_cases xc:y=c<;>by_cases x5:y=b5<;>simp_all [aB.aC]
 simp only[aA,seval]
 refine aP (fun h=>?_) (fun h=>?_)
 · simp only[aA,seval,uW]
   refine(xB [-1,9] (by simp) (by simp) bs c (p+1) (by omega) _ gW.new).mono ?_
   rintro _ _ ⟨x,hx,rfl,rfl⟩
   rw[dO]
   simp only[aK,e5,e4',aB.aJ,aA,seval,uW]
   refine⟨st.aC c (jW bs (p+1+1)),fun y=>?_,p+1+1,by omega,by omega,rfl,⟨p',q',i0,i1,x,i3⟩,hs.of rfl rfl,rfl⟩
   by_cases x4:y=b4<;>by_cases xc:y=c<;>by_cases x5:y=b5<;>simp_all [aB.aC]
 simp only[aA,seval]
 refine aP (fun h=>?_) (fun h=>?_)
 · simp only[aA,seval,uW]
   refine(xB [0,9,-2] (by simp) (by simp) bs c (p+1) (by omega) _ gW.new).mono ?_
   rintro _ _ ⟨x,hx,rfl,rfl⟩
   rw[dO]
   simp only[aK,e5,e4',aB.aJ,aA,seval,uW]
   refine⟨st.aC c (jW bs (p+1+1)),fun y=>?_,p+1+1,by omega,by omega,rfl,⟨p',q',i0,i1,i2,x⟩,hs.of rfl rfl,rfl⟩
   by_cases x4:y=b4<;>by_cases xc:y=c<;>by_cases x5:y=b5<;>simp_all [aB.aC]
 simp only[aA,seval]
 refine aP (fun h=>?_) (fun h=>?_)
 · simp only[aA,seval,uW]
   refine(xB [-1,301] (by simp) (by simp) bs c (p+1) (by omega) _ gW.new).mono ?_
   rintro _ _ ⟨x,hx,rfl,rfl⟩
   rw[dO]
   simp only[aK,e5,e4',aB.aJ,aA,seval,uW]
   refine⟨st.aC c (jW bs (p+1+1)),fun y=>?_,p+1+1,by omega,by omega,rfl,⟨p',q',x,i1,i2,i3⟩,hs.of rfl rfl,rfl⟩
   by_cases x4:y=b4<;>by_cases xc:y=c<;>by_cases x5:y=b5<;>simp_all [aB.aC]
 simp only[aK,e5,e4,aB.aJ,aA,seval,uW]
 refine⟨st.aC c (jW bs (p+1)),fun x=>?_,p+1,by omega,by omega,rfl,⟨p',q',i0,i1,i2,i3⟩,hs,rfl⟩
 by_cases x4:x=b4<;>by_cases xc:x=c<;>by_cases x5:x=b5<;>simp_all [aB.aC]
theorem YK{S:aB}{c b b7:Nat}{l:List AV}{X o:AO}(h7:S b7=none)(h7c:b7≠c)(h:l≠[]→b7≠b):aL (bE ((S.aC c X).aC b7 o) b l) (bE (S.aC c X) b l):=by
 rw[←oH h]
 refine(aL.refl _).aC ?_
 rw[QA h,aB.aH _ _ h7c]
 exact h7
abbrev F9:=zi aW (zi bBV (zi C4 (zi AR (zi fJ (zi lG yE)))))
set_option maxHeartbeats 2000000 in
theorem aVI(code:List Bt)(st:aB):aD prog 8 [.slice (code.map iM)] st (fun r st'=>(∃(L:List Ss) (n:Int),L.length≤3∧(∀s∈L,mF s)∧r=.tup [.slice (L.map aT),.int .i64 n])∧st'=st):=by
 refine aD.nR (aD.fin ?_)
 refine wF [1000000,7] 1 func8 ntmps8 rfl rfl ?_
 intro _
 simp only[aA,seval]
 refine(aWS code _).mono ?_
 rintro _ _ ⟨c,bs,rfl,hc,rfl⟩
 simp only[aA,seval,F9]
 refine(xB [2,3,1,0] (by simp) (by simp) bs c 0 (by omega) _ gW.new).mono ?_
 rintro _ _ ⟨x,hx,rfl,rfl⟩
 rw[dO]
 have hx5:0≤x∧x≤3:=by simp only[cY,dK,dQ] at hx;omega
 simp only[aA,seval]
 have hRq:∀(q b:Nat) (L:List AV),(L≠[]→(st.aC c (jW bs q)) b=none)→gW (bE (st.aC c (jW bs q)) b L) c bs q∧∀o,(bE (st.aC c (jW bs q)) b L).aC c o=bE (st.aC c o) b L∧(L≠[]→(st.aC c o) b=none):=fun q b L hb=>by
  have hne:L≠[]→c≠b:=fun h e=>by have:=hb h;rw[←e,aB.aJ] at this;cases this
  refine⟨?_,fun o=>⟨?_,fun h=>?_⟩⟩
  · unfold gW
    by_cases h:L= []
    · rw[h,y6,aB.aJ];try rfl
    · rw[nN (hne h),aB.aJ];try rfl
  · rw[oH hne,dO]
  · have:=hb h
    rw[aB.aH _ _ (c9 (hne h))] at this ⊢
    exact this
 obtain⟨k,rfl⟩:=qR hx5.1
 refine iJ (σ:=Nat×Nat×Nat×List Ss) [1000000,7] [2,3,4] (fun x=>x.1≤3∧x.2.1+2000*x.1≤10000∧x.2.2.2.length+x.1≤3∧(∀s∈x.2.2.2,mF s)∧(x.2.2.2.map aT≠[]→(st.aC c (jW bs x.2.1)) x.2.2.1=none)) (fun x=>[(5,bS 6 x.2.2.1 (x.2.2.2.map aT)),(6,.int .i64 (x.1:Int))]) (fun x=>bE (st.aC c (jW bs x.2.1)) x.2.2.1 (x.2.2.2.map aT)) (fun x=>x.1) (by decide +kernel) ⟨(k,0+1,0,[]),⟨by simp only;omega,by simp only;omega,by simp only[aZ];omega,by simp,by simp⟩,aO.mk (by simp only[aY,iV,aA,seval])⟩ ?_
 rintro⟨i,q,b,l⟩ ⟨i1,i2,i3,i4,i5⟩
 simp only at i1 i2 i3 i4 i5
 obtain⟨m1,m2⟩:=hRq q b _ i5
 have hw:=bF (n:=(i:Int) - 1)
 have hcb:l.map aT≠[]→c≠b:=fun h e=>by have:=i5 h;rw[←e,aB.aJ] at this;cases this
 have i5':l.map aT≠[]→st b=none:=fun h=>by have:=i5 h;rw[aB.aH _ _ (c9 (hcb h))] at this;exact this
 have hj:∀e∈l.map aT,e.cD=false:=fun e he=>by simp only[cB] at he;obtain⟨t,_,rfl⟩:=he;rfl
 have hwd:∀e∈l.map aT,e.width=6:=fun e he=>by simp only[cB] at he;obtain⟨t,_,rfl⟩:=he;rfl
 simp only[aA,seval]
 refine aP (fun h=>?_) (fun h=>?_)
 case refine_2=>
  simp only[aA,seval,F9]
  refine(xB [3,1,7,20,300,0] (by simp) (by simp) bs c q (by omega) _ m1).mono ?_
  rintro _ _ ⟨x,hx,rfl,rfl⟩
  obtain⟨m3,m4⟩:=m2 (jW bs (q+1))
  rw[m3]
  simp only[mZ,aA,seval]
  refine⟨b,l.map aT,_,rfl,m4,hj,⟨6,hwd⟩,st,(aL.refl _).aC hc,⟨l,x,by omega,i4,by simp only[jS,eW,kJ,bA,aY]⟩,rfl⟩
 have hi:0<i:=by simp only[bK] at h;omega
 simp only[aA,seval]
 refine(aWO bs c q _ (by omega) m1).mono ?_
 rintro _ _ ⟨q1,r1,r2,rfl,s,hs,rfl⟩
 obtain⟨m3,m4⟩:=m2 (jW bs q1)
 rw[m3]
 simp only[aK,aB.aJ,NZ,aA,↓aS,seval,F9]
 intro b7 h7
 obtain⟨h7,h7b⟩:=HD h7
 have h7c:b7≠c:=by rintro rfl;rw[aB.aJ] at h7;cases h7
 rw[aB.aH _ _ h7c] at h7
 have hal:∀z:Ss,mF z→∀s∈l++ [z],mF s:=fun z hz s h=>(eH.1 h).elim (i4 s) fun h=>by rw[DI.1 h];exact hz
 have hW:∀o:AO,(bE (st.aC c (jW bs q1)) b (l.map aT)).aC b7 o=bE ((st.aC c (jW bs q1)).aC b7 o) b (l.map aT):=fun o=>oH h7b
 have hcn:∀(o X:AO),(bE ((st.aC c X).aC b7 o) b (l.map aT)) c=some X:=fun o X=>by rw[QA hcb,aB.aH _ _ h7c.symm,aB.aJ]
 have h7n:∀(o X:AO),(bE ((st.aC c X).aC b7 o) b (l.map aT)) b7=some o:=fun o X=>by rw[QA h7b,aB.aJ]
 have hcu:∀(o X Y:AO),(bE ((st.aC c X).aC b7 o) b (l.map aT)).aC c Y=bE ((st.aC c Y).aC b7 o) b (l.map aT):=fun o X Y=>by rw[oH hcb,aB.lZ _ _ _ h7c,dO]
 have h7u:∀(o X o':AO),(bE ((st.aC c X).aC b7 o) b (l.map aT)).aC b7 o'=bE ((st.aC c X).aC b7 o') b (l.map aT):=fun o X o'=>by rw[oH h7b,dO]
 obtain⟨p',q',j0,j1,j2,j3⟩:=s
 simp only[aT]
 rw[hW]
 simp only[aA,seval]
 refine(y9 bs c q1 (by omega) 16 (by omega) (by omega) _ (hcn _ _)).mono ?_
 rintro _ _ ⟨k2,hk2,rfl,rfl⟩
 rw[hcu]
 simp only[aA,seval]
 refine aP (fun h=>?_) (fun h=>?_)
 · simp only[h7n,aA,seval,F9]
   refine(aWP bs c (q1+1) ⟨p',q',j0,j1,j2,j3⟩ hs _ (by omega) (hcn _ _)).mono ?_
   rintro _ _ ⟨q2,t1,t2,rfl,s1,hs1,rfl⟩
   rw[hcu]
   obtain⟨p1',q1',u0,u1,u2,u3⟩:=s1
   simp only[aT]
   simp only[aK,h7n,h7u,aA,seval,F9]
   have hj1:(aT (⟨p1',q1',u0,u1,u2,u3⟩:Ss)).cells.all AV.storable=true:=rfl
   refine eO (xs:=[aT (⟨p1',q1',u0,u1,u2,u3⟩:Ss)]) pC EB ED rfl rfl (fQ rfl hj1) hwd (fun h=>by rw[aB.aH _ _ (c9 (h7b h)),aB.aH _ _ (c9 (hcb h))];exact i5' h) (by simp only[aF,aU,aZ];omega) (by simp only[aF,aU,aZ];omega) (fun b' hb'=>?_)
   rw[show l.map aT++ [aT (⟨p1',q1',u0,u1,u2,u3⟩:Ss)]=(l++ [(⟨p1',q1',u0,u1,u2,u3⟩:Ss)]).map aT by simp] at hb' ⊢
   have hi1:((i - 1:Nat):Int)=(i:Int) - 1:=by omega
   have hb2:∀(b':Nat) {M:List AV} {X o:AO},(M≠[]→((st.aC c X).aC b7 o) b'=none)→M≠[]→∀ {Y:AO},(st.aC c Y) b'=none∧b7≠b':=fun b' M X o hb h Y=>by
    have h1:=hb h
    have n7:b'≠b7:=by rintro rfl;rw[aB.aJ] at h1;cases h1
    rw[aB.aH _ _ n7] at h1
    have nc:b'≠c:=by rintro rfl;rw[aB.aJ] at h1;cases h1
    rw[aB.aH _ _ nc] at h1 ⊢
    exact⟨h1,n7.symm⟩
   simp only[hw,aA,seval]
   exact⟨(i - 1,q2,b',l++ [⟨p1',q1',u0,u1,u2,u3⟩]),by simp only;omega,⟨by simp only;omega,by simp only;omega,by simp only[dN,aU,aZ];omega,hal _ hs1,fun h=>(hb2 b' hb' h).1⟩,aO.drop (YK h7 h7c fun h=>(hb2 b' hb' h (Y:=.cells [])).2) (by simp only[hi1,aA,seval])⟩
 simp only[h7n,aA,seval,F9]
 have hj1:(aT (⟨p',q',j0,j1,j2,j3⟩:Ss)).cells.all AV.storable=true:=rfl
 refine eO (xs:=[aT (⟨p',q',j0,j1,j2,j3⟩:Ss)]) pC EB ED rfl rfl (fQ rfl hj1) hwd (fun h=>by rw[aB.aH _ _ (c9 (h7b h)),aB.aH _ _ (c9 (hcb h))];exact i5' h) (by simp only[aF,aU,aZ];omega) (by simp only[aF,aU,aZ];omega) (fun b' hb'=>?_)
 rw[show l.map aT++ [aT (⟨p',q',j0,j1,j2,j3⟩:Ss)]=(l++ [(⟨p',q',j0,j1,j2,j3⟩:Ss)]).map aT by simp] at hb' ⊢
 have hi1:((i - 1:Nat):Int)=(i:Int) - 1:=by omega
 have hb2:∀(b':Nat) {M:List AV} {X o:AO},(M≠[]→((st.aC c X).aC b7 o) b'=none)→M≠[]→∀ {Y:AO},(st.aC c Y) b'=none∧b7≠b':=fun b' M X o hb h Y=>by
  have h1:=hb h
  have n7:b'≠b7:=by rintro rfl;rw[aB.aJ] at h1;cases h1
  rw[aB.aH _ _ n7] at h1
  have nc:b'≠c:=by rintro rfl;rw[aB.aJ] at h1;cases h1
  rw[aB.aH _ _ nc] at h1 ⊢
  exact⟨h1,n7.symm⟩
 simp only[hw,aA,seval]
 exact⟨(i - 1,q1+1,b',l++ [⟨p',q',j0,j1,j2,j3⟩]),by simp only;omega,⟨by simp only;omega,by simp only;omega,by simp only[dN,aU,aZ];omega,hal _ hs,fun h=>(hb2 b' hb' h).1⟩,aO.drop (YK h7 h7c fun h=>(hb2 b' hb' h (Y:=.cells [])).2) (by simp only[hi1,aA,seval])⟩
theorem a0A(l:List Tm):mH Tm.same l l=true:=(RW (fun x _ y=>Tm.NU x y)).2 rfl
abbrev bBG:=zi cF (zi cA tD)
theorem aVB(l l':List Tm)(st:aB):aD prog 55 [bU l,bU l'] st (fun r st'=>r=.bool (mH Tm.same l l')∧st'=st):=by
 refine wF [1000000] 2 func55 ntmps55 rfl rfl ?_
 intro _
 simp only[bU,aA,seval,bBG]
 refine(ZE l l' 71 _ fun x _ y s=>QQ x y s).to ?_
 simp only[aA,seval]
abbrev N6:=zi aW (zi cF (zi nH tD))
theorem aYF(L:List (List Tm))(st:aB):aD prog 12 [.slice (L.map bU),.slice (L.map bU)] st (fun r st'=>r=.bool true∧st'=st):=by
 refine wF [1000000] 2 func12 ntmps12 rfl rfl ?_
 simp only[eM,AV.fits,eS,aF]
 intro ⟨⟨hl,_⟩,_⟩
 simp only[bM,aF,aA,seval,N6]
 refine dX (σ:=Unit) [1000000] [0,1] L (fun _ _=>True) (fun i _=>[(4,.bool false),(5,.int .i64 i)]) (fun _ _=>st) (by decide +kernel) ⟨(),trivial,aO.mk (by simp only[aA,↓aS,seval])⟩ (fun i x _ hx hlt bL hdr _=>?_) (fun _ hge _=>?_)
 case refine_2=>
  simp only[hge,aF,aA,seval,N6]
 have hw:=bF (n:=(i:Int)+1)
 have hat:c8 prog 27 (.slice (L.map bU)) (.int .i64 (i:Int))=some (.pptr (bU x)):=bH (av:=bU) oN hx rfl
 simp only[bL,aF,aA,seval,N6]
 refine wX [(0,1),(1,1),(2,1),(3,1),(4,1),(5,1),(6,1),(7,1),(8,0),(9,1)] [0,1,2,3,4,5,6,7,9] d9 mixed rfl fH ?_
 simp only[hat,aA,seval,N6]
 refine(aVB x x _).to ?_
 rw[a0A]
 simp only[hw,aA,seval]
 refine⟨fH,?_⟩
 exact⟨(),aO.mk (by simp only[aA,seval])⟩
abbrev N7:=zi aW (zi cF fJ)
theorem aAG(l:List Int)(st:aB):aD prog 11 [.slice (l.map iv),.slice (l.map iv)] st (fun r st'=>r=.bool true∧st'=st):=by
 refine wF [1000000] 2 func11 ntmps11 rfl rfl ?_
 simp only[eM,AV.fits,eS,aF]
 intro ⟨⟨hl,_⟩,_⟩
 simp only[bM,aF,aA,seval,N7]
 refine dX (σ:=Unit) [1000000] [0,1] l (fun _ _=>True) (fun i _=>[(4,.bool false),(5,.int .i64 i)]) (fun _ _=>st) (by decide +kernel) ⟨(),trivial,aO.mk (by simp only[aA,↓aS,seval])⟩ (fun i x _ hx hlt bL hdr _=>?_) (fun _ hge _=>?_)
 case refine_2=>
  simp only[hge,aF,aA,seval,N7]
 have hw:=bF (n:=(i:Int)+1)
 have hat:c8 prog 26 (.slice (l.map iv)) (.int .i64 (i:Int))=some (.pptr (iv x)):=bH (av:=iv) fO hx rfl
 simp only[bL,aF,aA,seval,N7]
 refine wX [(0,1),(1,1),(2,1),(3,1),(4,1),(5,1),(6,1),(7,1),(8,1)] [0,1,2,3,4,5,6,7,8] d9 mixed rfl fH ?_
 simp only[bM,kG,hat,hw,aA,seval,N7]
 exact⟨(),aO.mk (by simp only[aA,seval])⟩
end Go.AW
namespace Go.AW
structure iK where
 l:List Ss
 w:List Nat
 a:List (List Tm)
noncomputable def rX(n:Int)(x:iK)(i:Nat):iK:=
 match x.l[i]? with
 | some s=>if s.fin= -1 then⟨x.l.set i (fU s n).1,x.w++List.replicate (fU s n).2.length i,x.a++(fU s n).2⟩ else x
 | none=>x
noncomputable def jY(n:Int)(x:iK)(k:Nat):iK:=(List.range k).foldl (rX n) x
noncomputable def oC(n:Int)(x:iK):iK:=jY n x x.l.length
def nC(s:Ss):Bool:=decide (s.fin= -1)
def runs(l:List Ss):Bool:=l.any nC
noncomputable def rounds(n:Int):Nat→iK→iK
 | 0,x=>x
 | k+1,x=>if runs x.l=true then rounds n k (oC n x) else x
def CB(s:Ss):Nat:=if s.fin= -1 then(s.dJ - s.used).toNat+1 else 0
def iA(l:List Ss):Nat:=bB CB l
noncomputable def gK(n:Int)(L:List Ss):iK:=rounds n (iA L) ⟨L,[],[]⟩
def nX(i:Nat):List Nat→List (List Tm)→List (List Tm)
 | w::ws,a::us=>if w=i then a::nX i ws us else nX i ws us
 | _,_=>[]
theorem OX{n:Int}{x:iK}{i:Nat}(h:x.l[i]?=none):rX n x i=x:=by unfold rX;rw[h]
theorem KB{n:Int}{x:iK}{i:Nat}{s:Ss}(h:x.l[i]?=some s)(hf:s.fin= -1):rX n x i=⟨x.l.set i (fU s n).1,x.w++List.replicate (fU s n).2.length i,x.a++(fU s n).2⟩:=by unfold rX;rw[h];exact aG hf
theorem GE{n:Int}{x:iK}{i:Nat}{s:Ss}(h:x.l[i]?=some s)(hf:s.fin≠-1):rX n x i=x:=by unfold rX;rw[h];exact aE hf
theorem bB1(n:Int)(x:iK)(i:Nat):(rX n x i).l.length=x.l.length:=by
 cases h:x.l[i]? with
 | none=>rw[OX h]
 | some s=>
  by_cases hf:s.fin= -1
  · rw[KB h hf];simp
  · rw[GE h hf]
theorem bB2(n:Int)(x:iK){i j:Nat}(hij:i≠j):(rX n x i).l[j]?=x.l[j]?:=by
 cases h:x.l[i]? with
 | none=>rw[OX h]
 | some s=>
  by_cases hf:s.fin= -1
  · rw[KB h hf];simp [hij]
  · rw[GE h hf]
theorem GF(n:Int)(x:iK)(k:Nat):jY n x (k+1)=rX n (jY n x k) k:=by
 unfold jY
 rw[List.range_succ,KN]
 try rfl
theorem OZ(n:Int)(x:iK):∀k,(jY n x k).l.length=x.l.length
 | 0=>rfl
 | k+1=>by rw[GF,bB1,OZ n x k]
theorem OY(n:Int)(x:iK){j:Nat}:∀k,k≤j→(jY n x k).l[j]?=x.l[j]?
 | 0,_=>rfl
 | k+1,h=>by rw[GF,bB2 n _ (by omega),OY n x k (by omega)]
theorem C5{n:Int}{x:iK}(h:runs x.l=false):∀k,jY n x k=x
 | 0=>rfl
 | k+1=>by
  rw[GF,C5 h k]
  cases hs:x.l[k]? with
  | none=>exact OX hs
  | some s=>
   refine GE hs fun hf=>?_
   have:runs x.l=true:=A5.2 ⟨s,cH hs,by unfold nC;simpa using hf⟩
   rw[h] at this
   cases this
theorem aP4{α:Type}(f:α→Nat):∀ {l:List α} {i:Nat} {a b:α},l[i]?=some a→bB f (l.set i b)+f a=bB f l+f b
 | x::l,0,a,b,h=>by
  simp only[A8,Option.some.injEq] at h
  subst h
  simp only[List.set_cons_zero,bB]
  omega
 | x::l,i+1,a,b,h=>by
  simp only[A7] at h
  have:=aP4 f (b:=b) h
  simp only[List.set_cons_succ,bB]
  omega
theorem a7O{s:Ss}{n:Int}(h:fE s=true)(hf:s.fin= -1)(hn:1≤n):CB (fU s n).1<CB s:=by
 have hc:pZ s n=true:=zB.2 ⟨h,by omega,hf⟩
 have hF:=x9 (n:=n) h (by omega)
 have h1:=hF.u1
 have h2:=hF.u2
 rw[FT hc]
 unfold CB
 rw[aG hf]
 split
 · rename_i he
   have hlt:gI s n≠s.dJ:=by
    intro e
    have:(d7 s (gI s n)).2= -1:=he
    rw[e,H4] at this
    have:=aPR (p:=s.p) (cnd:=fun _ l=>l) (q:=s.q) (most:=20) (fuel:=s.dJ)
    omega
   have hnu:gI s n=s.used+n:=by
    unfold gI at hlt ⊢
    split
    · rfl
    · rename_i hh;rw[aE hh] at hlt;exact absurd rfl hlt
   show(s.dJ - gI s n).toNat+1<_
   omega
 · omega
theorem aNY{s:Ss}:nC s=true↔s.fin= -1:=by unfold nC;simp
theorem aN0(i:Nat):∀ {ws vs:List Nat} {us bs:List (List Tm)},ws.length=us.length→nX i (ws++vs) (us++bs)=nX i ws us++nX i vs bs
 | [],vs,[],bs,_=>by simp [nX]
 | [],vs,_::_,bs,h=>by simp at h
 | w::ws,vs,[],bs,h=>by simp at h
 | w::ws,vs,a::us,bs,h=>by
  simp only[gV,nX,aN0 i (ws:=ws) (vs:=vs) (us:=us) (bs:=bs) (by simpa using h)]
  split<;>simp
theorem aN2(i:Nat):∀(us:List (List Tm)),nX i (List.replicate us.length i) us=us
 | []=>rfl
 | a::us=>by
  simp only[aU,PO,nX,aG,aN2 i us]
theorem aN1{i j:Nat}(h:j≠i):∀(us:List (List Tm)),nX i (List.replicate us.length j) us= []
 | []=>rfl
 | a::us=>by
  simp only[aU,PO,nX,aE h,aN1 h us]
structure kC (L:List Ss) (x:iK):Prop where
 len:x.l.length=L.length
 ok:∀s∈x.l,fE s=true
 wl:x.w.length=x.a.length
 wr:∀i∈x.w,i<L.length
 bd:x.a.length+20*iA x.l≤20*iA L
 kp:∀(i:Nat) s s0,x.l[i]?=some s→L[i]?=some s0→s.p=s0.p∧s.q=s0.q∧s.dJ=s0.dJ∧nX i x.w x.a++(d7 s s.dJ).1.drop s.sent.toNat=(d7 s0 s0.dJ).1.drop s0.sent.toNat
theorem kC.start{L:List Ss}(h:∀s∈L,fE s=true):kC L ⟨L,[],[]⟩:=
 ⟨rfl,h,rfl,by simp,by simp,fun i s s0 h1 h2=>by
  simp only at h1
  rw[h1] at h2
  cases h2
  exact⟨rfl,rfl,rfl,by simp [nX]⟩⟩
theorem kC.KC{L:List Ss}{x:iK}{n:Int}(h:kC L x)(hn:1≤n)(i:Nat):kC L (rX n x i)∧iA (rX n x i).l≤iA x.l∧(∀s,x.l[i]?=some s→s.fin= -1→iA (rX n x i).l<iA x.l):=by
 cases hi:x.l[i]? with
 | none=>rw[OX hi];exact⟨h,cU _,fun s e=>by cases e⟩
 | some s=>
  by_cases hf:s.fin= -1
  case neg=>rw[GE hi hf];exact⟨h,cU _,fun s' e hf'=>by cases e;exact absurd hf' hf⟩
  have hok:=h.ok s (cH hi)
  have hm:=a7O hok hf hn
  have hs:=aP4 CB (b:=(fU s n).1) hi
  have hlen:=a96 (n:=n) hok
  have hil:i<x.l.length:=(fA.1 hi).1
  have hlt:iA (x.l.set i (fU s n).1)<iA x.l:=by unfold iA;omega
  rw[KB hi hf]
  refine⟨⟨?_,fun s' hs'=>?_,?_,fun j hj=>?_,?_,fun j s' s0 h1 h2=>?_⟩,Nat.le_of_lt hlt,fun _ _ _=>hlt⟩
  · simp only[List.length_set];exact h.len
  · rcases List.mem_or_eq_of_mem_set hs' with hs' | rfl
    · exact h.ok s' hs'
    · exact a97 hok
  · simp only[dN,List.length_replicate,h.wl]
  · rcases eH.1 hj with hj | hj
    · exact h.wr j hj
    · rw[(List.mem_replicate.1 hj).2,←h.len];exact hil
  · have:=h.bd
    simp only[dN]
    omega
  · simp only at h1 ⊢
    rw[aN0 j h.wl]
    by_cases hij:i=j
    · subst hij
      rw[List.getElem?_set_self hil] at h1
      cases h1
      obtain⟨k1,k2,k3,k4⟩:=h.kp i s s0 hi h2
      obtain⟨e1,e2,e3⟩:=VA s n
      have hfo:d7 (fU s n).1 (fU s n).1.dJ=d7 s s.dJ:=by unfold d7;rw[e1,e2,e3]
      refine⟨e1.trans k1,e2.trans k2,e3.trans k3,?_⟩
      rw[aN2,hfo,lL,a95 hok]
      exact k4
    · rw[List.getElem?_set_ne hij] at h1
      rw[aN1 hij,gM]
      exact h.kp j s' s0 h1 h2
theorem kC.turns{L:List Ss}{x:iK}{n:Int}(h:kC L x)(hn:1≤n):∀k,kC L (jY n x k)∧iA (jY n x k).l≤iA x.l∧(runs (x.l.take k)=true→iA (jY n x k).l<iA x.l)
 | 0=>⟨h,cU _,by simp [runs]⟩
 | k+1=>by
  obtain⟨h1,h2,h3⟩:=kC.turns h hn k
  obtain⟨g1,g2,g3⟩:=h1.KC hn k
  rw[GF]
  refine⟨g1,by omega,fun hr=>?_⟩
  by_cases hk:runs (x.l.take k)=true
  · have:=h3 hk;omega
  · unfold runs at hk hr
    rw[dY,List.any_append] at hr
    rw[show(x.l.take k).any nC=false by simpa using hk,oY] at hr
    cases hx:x.l[k]? with
    | none=>rw[hx] at hr;simp at hr
    | some s=>
     rw[hx] at hr
     simp at hr
     have:=g3 s (by rw[OY n x k (cU _)];exact hx) (aNY.1 hr)
     omega
theorem kC.round{L:List Ss}{x:iK}{n:Int}(h:kC L x)(hn:1≤n):kC L (oC n x)∧(runs x.l=true→iA (oC n x).l<iA x.l):=by
 obtain⟨h1,_,h3⟩:=h.turns hn x.l.length
 rw[dS] at h3
 exact⟨h1,h3⟩
theorem JF{n:Int}{x:iK}(h:runs x.l=false):∀k,rounds n k x=x
 | 0=>rfl
 | k+1=>by unfold rounds;rw[h];try rfl
theorem aO6{n:Int}(hn:1≤n){L:List Ss}:∀(k:Nat) (x:iK) (j:Nat),kC L x→iA x.l≤k→iA x.l≤j→rounds n k x=rounds n j x
 | k,x,j,hI,hk,hj=>by
  by_cases hr:runs x.l=true
  case neg=>rw[JF (by simpa using hr),JF (by simpa using hr)]
  obtain⟨h1,h2⟩:=hI.round hn
  have h3:=h2 hr
  match k,j,hk,hj with
  | 0,_,hk,_=>omega
  | _,0,_,hj=>omega
  | k+1,j+1,hk,hj=>
   unfold rounds
   rw[aG hr,aG hr]
   exact aO6 hn k _ j h1 (by omega) (by omega)
theorem aO7{n:Int}(hn:1≤n){L:List Ss}{x:iK}(hI:kC L x)(hr:runs x.l=true):rounds n (iA (oC n x).l) (oC n x)=rounds n (iA x.l) x:=by
 obtain⟨h1,h2⟩:=hI.round hn
 have h3:=h2 hr
 obtain⟨m,hm⟩:∃m,iA x.l=m+1:=⟨iA x.l - 1,by omega⟩
 rw[hm]
 conv=>rhs;unfold rounds
 rw[aG hr]
 exact aO6 hn _ _ _ h1 (cU _) (by omega)
theorem aO5{n:Int}(hn:1≤n){L:List Ss}:∀(k:Nat) (x:iK),kC L x→iA x.l≤k→kC L (rounds n k x)∧runs (rounds n k x).l=false
 | k,x,hI,hk=>by
  by_cases hr:runs x.l=true
  case neg=>rw[JF (by simpa using hr)];exact⟨hI,by simpa using hr⟩
  obtain⟨h1,h2⟩:=hI.round hn
  have h3:=h2 hr
  match k,hk with
  | 0,hk=>omega
  | k+1,hk=>
   unfold rounds
   rw[aG hr]
   exact aO5 hn k _ h1 (by omega)
theorem ND:∀ {L:List Ss},(∀s∈L,fE s=true)→iA L≤301*L.length
 | [],_=>by simp [iA,bB]
 | s::L,h=>by
  have h1:=ND (L:=L) fun x hx=>h x (by simp [hx])
  have h2:CB s≤301:=by
   have h3:=h s (by simp)
   have hF:=x9 (n:=0) h3 (by omega)
   have:=hF.u0
   have:=hF.q1
   unfold CB
   split<;>omega
  unfold iA at h1 ⊢
  simp only[bB,aU]
  omega
noncomputable def qM(L:List Ss)(n:Int):Bool:=decide (1≤n)&&(decide (L.length≤8)&&L.all fE)
noncomputable def iB(L:List Ss)(n:Int):List Nat×List (List Tm)×List Int:=
 if qM L n=true then((gK n L).w,(gK n L).a,(gK n L).l.map Ss.fin) else([],[],[])
theorem JG{L:List Ss}{n:Int}:qM L n=true↔1≤n∧L.length≤8∧∀s∈L,fE s=true:=by
 simp only[qM,bV,bK,dW]
theorem U0{L:List Ss}{n:Int}(h:qM L n=true):kC L (gK n L)∧runs (gK n L).l=false∧(gK n L).l.map Ss.fin=L.map (fun s=>(d7 s s.dJ).2)∧∀(i:Nat) s,L[i]?=some s→nX i (gK n L).w (gK n L).a=(d7 s s.dJ).1.drop s.sent.toNat:=by
 obtain⟨h1,h2,h3⟩:=JG.1 h
 obtain⟨g1,g2⟩:=aO5 h1 (iA L) ⟨L,[],[]⟩ (kC.start h3) (cU _)
 have gR:∀s∈(gK n L).l,s.fin≠-1:=fun s hs hf=>by
  have:runs (gK n L).l=true:=A5.2 ⟨s,hs,aNY.2 hf⟩
  have h9:runs (gK n L).l=false:=g2
  rw[h9] at this
  cases this
 have hg:kC L (gK n L):=g1
 refine⟨g1,g2,DH fun i=>?_,fun i s hi=>?_⟩
 · rw[mA,mA]
   cases hi:L[i]? with
   | none=>
    have:(gK n L).l[i]?=none:=wN (by rw[hg.len];exact List.getElem?_eq_none_iff.1 hi)
    rw[this];try rfl
   | some s0=>
    obtain⟨s,hs⟩:∃s,(gK n L).l[i]?=some s:=⟨_,d4 (by rw[hg.len];exact(fA.1 hi).1)⟩
    obtain⟨k1,k2,k3,_⟩:=hg.kp i s s0 hs hi
    have hm:=cH hs
    obtain⟨_,he⟩:=aBJ (hg.ok s hm) (gR s hm)
    rw[hs]
    simp only[oG,Option.some.injEq]
    rw[←he]
    unfold d7
    rw[k1,k2,k3]
 · obtain⟨s',hs⟩:∃s,(gK n L).l[i]?=some s:=⟨_,d4 (by rw[hg.len];exact(fA.1 hi).1)⟩
   obtain⟨_,_,_,k4⟩:=hg.kp i s' s hs hi
   have hm:=cH hs
   rw[(aBJ (hg.ok s' hm) (gR s' hm)).1,gM] at k4
   exact k4
end Go.AW
namespace Go.AW
open Go.Proofs.Tryz
abbrev V4:=zi aW (zi cA bR)
theorem QU(l:List Tm)(hl:l.length≤1048576)(h:∀x∈l,∀st,aD prog 276 [Tm.av x] st (fun r st'=>r=Tm.av x∧st'=st))(st:aB):aD prog 208 [.slice (l.map Tm.av)] st (fun r st'=>r=.slice (l.map Tm.av)∧st'=st):=by
 refine aD.done ?_
 refine wF [1000000] 1 func208 ntmps208 rfl rfl ?_
 intro _
 simp only[aF,aA,seval,V4]
 refine oW (σ:=Unit) [1000000] [2,7,8] (l) 4 3 (fun i _=>(((l).take i).map (fun y=>y)).map Tm.av) (fun i _=>True) (fun i _=>[(9,.int .i64 i)]) (fun _ _=>st) (fun i _ _ e he=>by simp only[cB] at he;obtain⟨t,_,rfl⟩:=he;exact⟨cP t,aN t⟩) (by decide +kernel) ⟨(),0,trivial,fun h=>absurd rfl h,aO.mk (by simp only[iV,jA,aY,aA,↓aS,seval])⟩ (fun i x s b hx hlt bL hdr hinv hb=>?_) (fun s b hge hinv=>?_)
 case refine_1=>
  have hw:=bF (n:=(i:Int)+1)
  have cM:((((l).take i).map (fun y=>y)).map Tm.av).length=i:=by simp only[aF,c7];omega
  have htk:((((l).take i).map (fun y=>y)).map Tm.av)++ [Tm.av ((fun y=>y) x)]=(((l).take (i+1)).map (fun y=>y)).map Tm.av:=by rw[dY,hx];simp
  have hat:=bH (av:=Tm.av) bQ hx (aN x)
  simp only[bL,hat,a7,aN,cI,cP,aA,↓aS,seval,V4]
  refine(h x (cH hx) _).to ?_
  simp only[a7,aN,cP,aA,seval,V4]
  refine eO bQ jE jF rfl rfl (fQ (aN _) (cI _)) (by intro e he;simp only[cB] at he;obtain⟨t,_,rfl⟩:=he;exact aN t) hb (by simp only[cM,aU,aZ];omega) (by simp only[cM,aU,aZ];omega) (fun b' hb'=>?_)
  rw[htk] at hb' ⊢
  simp only[aA,seval]
  exact⟨(),b',hb',aO.mk (by simp only[hw,aA,seval])⟩
 simp only[hge,eW,iO,nS,kJ,dS,aA,seval]
 exact⟨by rw[GR];simp only[AV.soft],aL.refl _⟩
abbrev aQS:=zi cA bR
theorem LN:∀(t:Tm) (st:aB),t.small=true→aD prog 276 [t.av] st (fun r st'=>r=t.av∧st'=st)
 | .mk k n s ts,st,hsm=>by
  obtain⟨hlen,qB⟩:=Tm.qN hsm
  have IH:=fun st=>QU ts hlen (fun x hx st=>LN x st (qB x hx)) st
  refine aD.m8 ?_
  simp only[aX]
  refine wF [1000000,1] 1 func276 ntmps276 rfl rfl ?_
  intro _
  simp only[aA,seval,aQS]
  intro b1 h1 b2 h2
  have h21:b2≠b1:=by rintro rfl;rw[aB.aJ] at h2;cases h2
  rw[aB.aH _ _ h21] at h2
  have e1:∀X Y:AO,((st.aC b1 X).aC b2 Y) b1=some X:=fun X Y=>by rw[aB.aH _ _ h21.symm,aB.aJ]
  have e2:∀X Y Z:AO,(((st.aC b1 X).aC b2 Y).aC b1 Z) b2=some Y:=fun X Y Z=>by rw[aB.aH _ _ h21,aB.aJ]
  simp only[e1,aA,seval]
  refine(IH _).to ?_
  simp only[aK,e1,e2,aB.aJ,aA,seval,aQS]
  exact(((aL.refl _).aC h1).aC h2).aC h1 |>.aC h2
termination_by t=>SizeOf.sizeOf t
decreasing_by have:=List.sizeOf_lt_of_mem hx;simp only[Tm.mk.sizeOf_spec];omega
abbrev V8:=zi cA (zi bR mT)
theorem aWT(cl:Cl)(hs:HT cl)(st:aB):aD prog 275 [bY cl] st (fun r st'=>r=bY cl∧st'=st):=by
 obtain⟨⟨k,n,s,ks⟩,ts⟩:=cl
 obtain⟨s1,s2,s3⟩:=hs
 have hB:=fun st=>LN (.mk k n s ks) st s1
 have hC:=fun st=>QU ts s2 (fun x hx st=>LN x st (s3 x hx)) st
 refine aD.m8 ?_
 simp only[iW,aX] at hB ⊢
 refine wF [1000000,1] 1 func275 ntmps275 rfl rfl ?_
 intro _
 simp only[aA,seval,V8]
 intro b1 h1 b2 h2
 have h21:b2≠b1:=by rintro rfl;rw[aB.aJ] at h2;cases h2
 rw[aB.aH _ _ h21] at h2
 have e1:∀X Y:AO,((st.aC b1 X).aC b2 Y) b1=some X:=fun X Y=>by rw[aB.aH _ _ h21.symm,aB.aJ]
 have e2:∀X Y Z:AO,(((st.aC b1 X).aC b2 Y).aC b1 Z) b2=some Y:=fun X Y Z=>by rw[aB.aH _ _ h21,aB.aJ]
 simp only[e1,aA,seval]
 refine(hB _).to ?_
 simp only[aK,e1,aB.aJ,aA,seval,V8]
 refine(hC _).to ?_
 simp only[aK,e2,aB.aJ,dO,aA,seval,V8]
 exact(((aL.refl _).aC h1).aC h2).aC h1 |>.aC h2
abbrev V3:=zi aW (zi jM mT)
theorem aWU(l:List Cl)(hl:l.length≤1048576)(h:∀x∈l,∀st,aD prog 275 [bY x] st (fun r st'=>r=bY x∧st'=st))(st:aB):aD prog 207 [.slice (l.map bY)] st (fun r st'=>r=.slice (l.map bY)∧st'=st):=by
 refine aD.done ?_
 refine wF [1000000] 1 func207 ntmps207 rfl rfl ?_
 intro _
 simp only[aF,aA,seval,V3]
 refine oW (σ:=Unit) [1000000] [2,7,8] (l) 5 3 (fun i _=>(((l).take i).map (fun y=>y)).map bY) (fun i _=>True) (fun i _=>[(9,.int .i64 i)]) (fun _ _=>st) (fun i _ _ e he=>by simp only[cB] at he;obtain⟨t,_,rfl⟩:=he;exact⟨BR t,k8 t⟩) (by decide +kernel) ⟨(),0,trivial,fun h=>absurd rfl h,aO.mk (by simp only[iV,jA,aY,aA,↓aS,seval])⟩ (fun i x s b hx hlt bL hdr hinv hb=>?_) (fun s b hge hinv=>?_)
 case refine_1=>
  have hw:=bF (n:=(i:Int)+1)
  have cM:((((l).take i).map (fun y=>y)).map bY).length=i:=by simp only[aF,c7];omega
  have htk:((((l).take i).map (fun y=>y)).map bY)++ [bY ((fun y=>y) x)]=(((l).take (i+1)).map (fun y=>y)).map bY:=by rw[dY,hx];simp
  have hat:=bH (av:=bY) rA hx (k8 x)
  simp only[bL,hat,zC,k8,LW,BR,aA,↓aS,seval,V3]
  refine(h x (cH hx) _).to ?_
  simp only[zC,k8,BR,aA,seval,V3]
  refine eO rA L5 L8 rfl rfl (fQ (k8 _) (LW _)) (by intro e he;simp only[cB] at he;obtain⟨t,_,rfl⟩:=he;exact k8 t) hb (by simp only[cM,aU,aZ];omega) (by simp only[cM,aU,aZ];omega) (fun b' hb'=>?_)
  rw[htk] at hb' ⊢
  simp only[aA,seval]
  exact⟨(),b',hb',aO.mk (by simp only[hw,aA,seval])⟩
 simp only[hge,eW,iO,nS,kJ,dS,aA,seval]
 exact⟨by rw[GR];simp only[AV.soft],aL.refl _⟩
abbrev V0:=zi jM (zi cA lG)
theorem aWX(s:Ss)(hp:s.p.length≤1048576)(hps:∀c∈s.p,HT c)(hq:s.q.length≤1048576)(hqs:∀t∈s.q,t.small=true)(st:aB):aD prog 122 [aT s] st (fun r st'=>r=aT s∧st'=st):=by
 obtain⟨ps,qs,i0,i1,i2,i3⟩:=s
 simp only at hp hps hq hqs
 have hB:=fun st=>aWU ps hp (fun x hx st=>aWT x (hps x hx) st) st
 have hC:=fun st=>QU qs hq (fun x hx st=>LN x st (hqs x hx)) st
 refine aD.m8 ?_
 simp only[aT]
 refine wF [1000000,1] 1 func122 ntmps122 rfl rfl ?_
 intro _
 simp only[aA,seval,V0]
 intro b1 h1 b2 h2
 have h21:b2≠b1:=by rintro rfl;rw[aB.aJ] at h2;cases h2
 rw[aB.aH _ _ h21] at h2
 have e1:∀X Y:AO,((st.aC b1 X).aC b2 Y) b1=some X:=fun X Y=>by rw[aB.aH _ _ h21.symm,aB.aJ]
 have e2:∀X Y Z:AO,(((st.aC b1 X).aC b2 Y).aC b1 Z) b2=some Y:=fun X Y Z=>by rw[aB.aH _ _ h21,aB.aJ]
 simp only[e1,aA,seval]
 refine(hB _).to ?_
 simp only[aK,e1,aB.aJ,aA,seval,V0]
 refine(hC _).to ?_
 simp only[aK,e2,aB.aJ,dO,aA,seval,V0]
 exact(((aL.refl _).aC h1).aC h2).aC h1 |>.aC h2
abbrev VK (s:Ss):Prop:=s.p.length≤1048576∧(∀c∈s.p,HT c)∧s.q.length≤1048576∧∀t∈s.q,t.small=true
abbrev V9:=zi aW (zi AR lG)
theorem aWW(l:List Ss)(hl:l.length≤1048576)(h:∀x∈l,∀st,aD prog 122 [aT x] st (fun r st'=>r=aT x∧st'=st))(st:aB):aD prog 52 [.slice (l.map aT)] st (fun r st'=>r=.slice (l.map aT)∧st'=st):=by
 refine aD.done ?_
 refine wF [1000000] 1 func52 ntmps52 rfl rfl ?_
 intro _
 simp only[aF,aA,seval,V9]
 refine oW (σ:=Unit) [1000000] [2,7,8] (l) 6 3 (fun i _=>(((l).take i).map (fun y=>y)).map aT) (fun i _=>True) (fun i _=>[(9,.int .i64 i)]) (fun _ _=>st) (fun i _ _ e he=>by simp only[cB] at he;obtain⟨t,_,rfl⟩:=he;exact⟨VJ t,n0 t⟩) (by decide +kernel) ⟨(),0,trivial,fun h=>absurd rfl h,aO.mk (by simp only[iV,jA,aY,aA,↓aS,seval])⟩ (fun i x s b hx hlt bL hdr hinv hb=>?_) (fun s b hge hinv=>?_)
 case refine_1=>
  have hw:=bF (n:=(i:Int)+1)
  have cM:((((l).take i).map (fun y=>y)).map aT).length=i:=by simp only[aF,c7];omega
  have htk:((((l).take i).map (fun y=>y)).map aT)++ [aT ((fun y=>y) x)]=(((l).take (i+1)).map (fun y=>y)).map aT:=by rw[dY,hx];simp
  have hat:=bH (av:=aT) pC hx (n0 x)
  simp only[bL,hat,VI,n0,NZ,VJ,aA,↓aS,seval,V9]
  refine(h x (cH hx) _).to ?_
  simp only[VI,n0,VJ,aA,seval,V9]
  refine eO pC EB ED rfl rfl (fQ (n0 _) (NZ _)) (by intro e he;simp only[cB] at he;obtain⟨t,_,rfl⟩:=he;exact n0 t) hb (by simp only[cM,aU,aZ];omega) (by simp only[cM,aU,aZ];omega) (fun b' hb'=>?_)
  rw[htk] at hb' ⊢
  simp only[aA,seval]
  exact⟨(),b',hb',aO.mk (by simp only[hw,aA,seval])⟩
 simp only[hge,eW,iO,nS,kJ,dS,aA,seval]
 exact⟨by rw[GR];simp only[AV.soft],aL.refl _⟩
theorem aWV(l:List Ss)(hl:l.length≤1048576)(h:∀s∈l,VK s)(st:aB):aD prog 52 [.slice (l.map aT)] st (fun r st'=>r=.slice (l.map aT)∧st'=st):=
 aWW l hl (fun s hs st=>aWX s (h s hs).1 (h s hs).2.1 (h s hs).2.2.1 (h s hs).2.2.2 st) st
structure gF (st0 st:aB) (qw qa:AV) (W:List Nat) (A:List AV):Prop where
 w:fW st 1 qw (W.map nv)
 a:fW st 1 qa A
 d:∀b∈aR qw,b∉aR qa
 n:∀b,b∈aR qw∨b∈aR qa→st0 b=none
 k:∀b o,st0 b=some o→st b=some o
theorem gF.fresh{st0 st:aB}{qw qa:AV}{W:List Nat}{A:List AV}(h:gF st0 st qw qa W A){b:Nat}(hb:st b=none):st0 b=none∧b∉aR qw∧b∉aR qa:=by
 refine⟨?_,fun hq=>?_,fun hq=>?_⟩
 · cases hs:st0 b with
   | none=>rfl
   | some o=>rw[h.k b o hs] at hb;cases hb
 · obtain⟨cs,e⟩:=h.w.some b hq;rw[hb] at e;cases e
 · obtain⟨cs,e⟩:=h.a.some b hq;rw[hb] at e;cases e
theorem gF.aC{st0 st:aB}{qw qa:AV}{W:List Nat}{A:List AV}(h:gF st0 st qw qa W A){b:Nat}{o:AO}(h0:st0 b=none)(hw:b∉aR qw)(ha:b∉aR qa):gF st0 (st.aC b o) qw qa W A:=by
 refine⟨h.w.aV fun x hx=>?_,h.a.aV fun x hx=>?_,h.d,h.n,fun x p hx=>?_⟩
 · exact aB.aH _ _ (by rintro rfl;exact hw hx)
 · exact aB.aH _ _ (by rintro rfl;exact ha hx)
 · rw[aB.aH _ _ (by rintro rfl;rw[h0] at hx;cases hx)];exact h.k x p hx
theorem gF.UQ{st0 st st':aB}{qw qa q':AV}{W:List Nat}{A:List AV}{i:Nat}(h:gF st0 st qw qa W A)(f9:fW st' 1 q' (W.map nv++ [nv i]))(hf:∀y,y∉aR qw→y∉aR q'→st' y=st y)(hn:∀y∈aR q',y∈aR qw∨st y=none):gF st0 st' q' qa (W++ [i]) A:=by
 have hd:∀b∈aR q',b∉aR qa:=fun b hb=>by
  rcases hn b hb with h' | h'
  · exact h.d b h'
  · exact(h.fresh h').2.2
 refine⟨by simpa using f9,h.a.aV fun b hb=>hf b (fun h'=>h.d b h' hb) (fun h'=>hd b h' hb),hd,fun b hb=>?_,fun b o hb=>?_⟩
 · rcases hb with hb | hb
   · rcases hn b hb with h' | h'
     · exact h.n b (.inl h')
     · exact(h.fresh h').1
   · exact h.n b (.inr hb)
 · have h1:b∉aR qw:=fun h'=>by rw[h.n b (.inl h')] at hb;cases hb
   have h2:b∉aR q':=fun h'=>by
    rcases hn b h' with h'' | h''
    · exact h1 h''
    · rw[(h.fresh h'').1] at hb;cases hb
   rw[hf b h1 h2]
   exact h.k b o hb
theorem gF.NP{st0 st st':aB}{qw qa q':AV}{W:List Nat}{A:List AV}{x:AV}(h:gF st0 st qw qa W A)(f9:fW st' 1 q' (A++ [x]))(hf:∀y,y∉aR qa→y∉aR q'→st' y=st y)(hn:∀y∈aR q',y∈aR qa∨st y=none):gF st0 st' qw q' W (A++ [x]):=by
 have hd:∀b∈aR qw,b∉aR q':=fun b hb hq=>by
  rcases hn b hq with h' | h'
  · exact h.d b hb h'
  · exact(h.fresh h').2.1 hb
 refine⟨h.w.aV fun b hb=>hf b (fun h'=>h.d b hb h') (fun h'=>hd b hb h'),f9,hd,fun b hb=>?_,fun b o hb=>?_⟩
 · rcases hb with hb | hb
   · exact h.n b (.inl hb)
   · rcases hn b hb with h' | h'
     · exact h.n b (.inr h')
     · exact(h.fresh h').1
 · have h1:b∉aR qa:=fun h'=>by rw[h.n b (.inr h')] at hb;cases hb
   have h2:b∉aR q':=fun h'=>by
    rcases hn b h' with h'' | h''
    · exact h1 h''
    · rw[(h.fresh h'').1] at hb;cases hb
   rw[hf b h1 h2]
   exact h.k b o hb
def gF.trim(st0 st:aB)(qw qa:AV):aB:=fun y=>if y∈aR qw∨y∈aR qa then st y else st0 y
theorem gF.t6{st0 st:aB}{qw qa:AV}{W:List Nat}{A:List AV}(h:gF st0 st qw qa W A):aL st (gF.trim st0 st qw qa)∧gF st0 (gF.trim st0 st qw qa) qw qa W A:=by
 unfold gF.trim
 refine⟨fun y=>?_,h.w.aV fun b hb=>aG (.inl hb),h.a.aV fun b hb=>aG (.inr hb),h.d,h.n,fun b o hb=>?_⟩
 · dsimp only
   split
   · exact⟨fun e=>e,fun o e=>e⟩
   · exact⟨fun e=>(h.fresh e).1,fun o e=>h.k y o e⟩
 · show(if _ then st b else st0 b)=_
   split
   · exact h.k b o hb
   · exact hb
theorem CF{S:aB}{q q':AV}{b:Nat}{o:AO}(hn:∀y∈aR q',y∈aR q∨S y=none)(h:b∉aR q)(hb:S b=some o):b∉aR q':=fun hm=>by
 rcases hn b hm with h' | h'
 · exact h h'
 · rw[hb] at h';cases h'
theorem aPW(l:List Ss):∀e∈l.map aT,e.width=6:=by intro e he;simp only[cB] at he;obtain⟨t,_,rfl⟩:=he;rfl
theorem aPV(l:List Ss):∀e∈l.map aT,e.cD=false:=by intro e he;simp only[cB] at he;obtain⟨t,_,rfl⟩:=he;rfl
theorem U5{α:Type}{av:α→AV}{w:Nat}(hw:∀a,(av a).width=w):∀ {L:List α} {i:Nat} (z:α),i<L.length→aK ((L.map av).flatMap AV.cells) (i*w) (av z).cells=((L.set i z).map av).flatMap AV.cells:=fun {L i} z hi=>by
 have hz:(av z).cells.length=w:=by rw[sJ,hw]
 have hA:((L.take i).map av).flatMap AV.cells=((L.map av).flatMap AV.cells).take (i*w)∧((L.drop (i+1)).map av).flatMap AV.cells=((L.map av).flatMap AV.cells).drop (i*w+w):=by
  have hl1:(((L.take i).map av).flatMap AV.cells).length=i*w:=by
   rw[mI (n:=w) (es:=(L.take i).map av) (fun e he=>by simp only[cB] at he;obtain⟨t,_,rfl⟩:=he;exact hw t),aF,c7,kZ (by omega)]
  have hl2:(((L.take (i+1)).map av).flatMap AV.cells).length=i*w+w:=by
   rw[mI (n:=w) (es:=(L.take (i+1)).map av) (fun e he=>by simp only[cB] at he;obtain⟨t,_,rfl⟩:=he;exact hw t),aF,c7,kZ (by omega),tM,Nat.one_mul]
  constructor
  · conv=>rhs;rw[←pT i L,o7,tL,GW hl1]
  · conv=>rhs;rw[←pT (i+1) L,o7,tL,List.drop_left' hl2]
 unfold aK
 rw[hz,←hA.1,←hA.2,XN,aG hi]
 simp
def Fz(st0 st:aB)(qw qa q:AV)(l:List AV):Prop:=q=.slice l∨∃b w,q=.mslice b 0 l.length w∧st b=some (.cells (l.flatMap AV.cells))∧st0 b=none∧b∉aR qw∧b∉aR qa∧(∀e∈l,e.cD=false)∧∀e∈l,e.width=w
theorem Fz.seen{st0 st s2:aB}{qw qa q:AV}{l:List AV}{h:bJ}{c:Value}(S:cS h st)(D:aL st s2)(hs2:∀b,b∉aR qw→b∉aR qa→s2 b=st0 b)(hz:Fz st0 st qw qa q l)(x:VC h st q [c]):VC h s2 (.slice l) [c]:=by
 rcases hz with rfl | ⟨b,w,rfl,hb,hb0,hbw,hba,hj,hw⟩
 · exact VC.mono (D.step h) _ _ x
 · obtain⟨f1,f2⟩:=frozen S hb hj
   have hs:s2 b=none:=(hs2 b hbw hba).trans hb0
   have D2:aL (st.erase b) s2:=fun x=>by
    unfold aB.erase
    by_cases hx:x=b
    · subst hx;rw[aG rfl];exact⟨fun _=>hs,fun o e=>by rw[hs] at e;cases e⟩
    · rw[aE hx];exact D x
   have hE:=dA.mono (D2.step h) b rfl _ _ f2
   unfold VC at x
   obtain⟨cap,hv,l1,l2,_⟩:=x
   unfold VC
   exact .inr ⟨b,0,cap,hv,l1,l2,hs,f1,⟨w,hw⟩,hE⟩
theorem aD.bB4{P:Program}{g:FuncId}{args:List AV}{st0 st:aB}{W:List Nat}{A LV EV:List AV}(x:aD P g args st (fun r st'=>∃qw qa q1 q4,r=.agg [q1,qw,qa,q4]∧gF st0 st' qw qa W A∧Fz st0 st' qw qa q1 LV∧Fz st0 st' qw qa q4 EV)) :
 aD P g args st (fun r st'=>∃qw qa,r=.agg [.slice LV,qw,qa,.slice EV]∧gF st0 st' qw qa W A):=by
 refine x.l7 fun r st' ⟨qw,qa,q1,q4,hr,hT,h1,h4⟩=>?_
 obtain⟨D,hT2⟩:=hT.t6
 refine⟨_,_,D.u9,fun h v S y=>?_,qw,qa,rfl,hT2⟩
 subst hr
 have hs2:∀b,b∉aR qw→b∉aR qa→gF.trim st0 st' qw qa b=st0 b:=fun b b1 b2=>by unfold gF.trim;rw[aE (by rintro(h | h);exact b1 h;exact b2 h)]
 obtain⟨y0,y1⟩:=y
 refine⟨y0,?_⟩
 unfold VC at y1 ⊢
 simp only[a8] at y1 ⊢
 obtain⟨c1,r1,e1,z1,c2,r2,rfl,z2,c3,r3,rfl,z3,c4,r4,rfl,z4,rfl⟩:=y1
 exact⟨c1,_,e1,Fz.seen S D hs2 h1 z1,c2,_,rfl,VC.mono (D.step h) _ _ z2,c3,_,rfl,VC.mono (D.step h) _ _ z3,c4,_,rfl,Fz.seen S D hs2 h4 z4,rfl⟩
abbrev tA:=zi aW (zi AR (zi fJ (zi nH (zi lG (zi tD WS)))))
set_option maxHeartbeats 4000000 in
theorem aWQ(L:List Ss)(E:List Int)(i:Nat)(s:Ss)(hs:L[i]?=some s)(hok:fE s=true)(n:Int)(hn:0≤n)(hL:L.length≤8)(hE:E.length=L.length)(st0 st:aB)(qw qa:AV)(W:List Nat)(A:List (List Tm))(hWl:W.length≤100000)(hAl:A.length≤100000)(h:gF st0 st qw qa W (A.map bU)) :
 aD prog 54 [.agg [.slice (L.map aT),qw,qa,.slice (E.map iv)],nv i,.int .i64 n] st (fun r st'=>∃qw' qa',r=.agg [.slice ((L.set i (m6 s n)).map aT),qw',qa',.slice ((if(m6 s n).fin≠-1 then E.set i (m6 s n).fin else E).map iv)]∧gF st0 st' qw' qa' (W++List.replicate (oS s n).length i) ((A++oS s n).map bU)):=by
 have hsl:=ZQ s n hok hn
 have SK:=(x9 hok hn).l
 have SK:(oS s n).length≤20:=by unfold oS;rw[mB];omega
 have hil:i<L.length:=(fA.1 hs).1
 obtain⟨w1,w2,w3,w4,w5⟩:=h.w.shape
 obtain⟨a1,a2,a3,a4,a5⟩:=h.a.shape
 have hat:=bH (av:=aT) (P:=prog) pC hs (n0 s)
 refine aD.bB4 ?_
 refine wF [1000000,3] 3 func54 ntmps54 rfl rfl ?_
 intro _
 simp only[nv,aA,seval,tA]
 intro b3 h3 b6 h6
 have h63:b6≠b3:=by rintro rfl;rw[aB.aJ] at h6;cases h6
 rw[aB.aH _ _ h63] at h6
 obtain⟨z3,w3',a3'⟩:=h.fresh h3
 obtain⟨z6,w6',a6'⟩:=h.fresh h6
 have e3:∀X Y:AO,((st.aC b3 X).aC b6 Y) b3=some X:=fun X Y=>by rw[aB.aH _ _ h63.symm,aB.aJ]
 rw[aT] at hat
 simp only[aT] at hsl
 simp only[e3,hat,aA,seval,tA]
 refine(hsl _).to ?_
 simp only[e3,aA,↓aS,seval,tA]
 generalize m6 s n=z at *
 generalize oS s n=M at *
 have SJ:L.map aT≠[]:=by intro e;have:=eA List.length e;simp at this;subst this;simp at hil
 have hT0:=(h.aC (o:=.cells [.slice (L.map aT),qw,qa,.slice (E.map iv)]) z3 w3' a3').aC (o:=.cells [.fslice [],.fslice [],.fslice [],.fslice []]) z6 w6' a6'
 have g3:=e3 (.cells [.slice (L.map aT),qw,qa,.slice (E.map iv)]) (.cells [.fslice [],.fslice [],.fslice [],.fslice []])
 have g6:((st.aC b3 (.cells [.slice (L.map aT),qw,qa,.slice (E.map iv)])).aC b6 (.cells [.fslice [],.fslice [],.fslice [],.fslice []])) b6=some (.cells [.fslice [],.fslice [],.fslice [],.fslice []]):=aB.aJ _ _ _
 clear e3
 generalize (st.aC b3 (.cells [.slice (L.map aT),qw,qa,.slice (E.map iv)])).aC b6 (.cells [.fslice [],.fslice [],.fslice [],.fslice []])=S0 at *
 change jC prog 23 (bE S0 0 []) (bS 6 0 []) (.slice (L.map aT)) _
 refine eO pC EB ED rfl rfl (by intro e he;simp only[cB] at he;obtain⟨t,_,rfl⟩:=he;exact⟨n0 t,NZ t⟩) (by simp) (fun h=>absurd rfl h) (by simp only[aZ,aF];omega) (by simp only[aZ,aF];omega) (fun bl hbl=>?_)
 rw[fB] at hbl ⊢
 replace hbl:=hbl SJ
 rw[pW SJ,kS SJ,aF]
 have hl6:bl≠b6:=by rintro rfl;rw[g6] at hbl;cases hbl
 have hl3:bl≠b3:=by rintro rfl;rw[g3] at hbl;cases hbl
 obtain⟨zl,wl',al'⟩:=hT0.fresh hbl
 have a3S:=p8 (P:=prog) (b:=bl) (w:=6) (i:=i) (len:=L.length) pC hil
 have nU:=U5 (av:=aT) (w:=6) n0 (L:=L) (i:=i) z hil
 have hln:i*6+6≤((L.map aT).flatMap AV.cells).length:=by
  rw[mI (n:=6) (es:=L.map aT) (fun e he=>by simp only[cB] at he;obtain⟨t,_,rfl⟩:=he;exact n0 t),aF]
  omega
 generalize hFL:(L.map aT).flatMap AV.cells=FL at *
 have f3:∀V:AO,(S0.aC bl V) b3=some (.cells [.slice (L.map aT),qw,qa,.slice (E.map iv)]):=fun V=>by rw[aB.aH _ _ hl3.symm,g3]
 have fl:∀V U:AO,((S0.aC bl V).aC b3 U) bl=some V:=fun V U=>by rw[aB.aH _ _ hl3,aB.aJ]
 simp only[f3,fl,a3S,aK,aB.aJ,aA,seval,tA]
 refine⟨hln,?_⟩
 have aM4:List.take (i*6) FL++ [.slice (z.p.map bY),.slice (z.q.map Tm.av),.int .i64 z.dJ,.int .i64 z.used,.int .i64 z.sent,.int .i64 z.fin]++List.drop (i*6+6) FL=((L.set i z).map aT).flatMap AV.cells:=nU
 rw[aM4,aB.lZ _ _ _ hl3,dO]
 have hT1:=(hT0.aC (o:=.cells [.mslice bl 0 L.length 6,qw,qa,.slice (E.map iv)]) z3 w3' a3').aC (o:=.cells (((L.set i z).map aT).flatMap AV.cells)) zl wl' al'
 have u3:((S0.aC b3 (.cells [.mslice bl 0 L.length 6,qw,qa,.slice (E.map iv)])).aC bl (.cells (((L.set i z).map aT).flatMap AV.cells))) b3=some (.cells [.mslice bl 0 L.length 6,qw,qa,.slice (E.map iv)]):=by rw[aB.aH _ _ hl3.symm,aB.aJ]
 have ul:((S0.aC b3 (.cells [.mslice bl 0 L.length 6,qw,qa,.slice (E.map iv)])).aC bl (.cells (((L.set i z).map aT).flatMap AV.cells))) bl=some (.cells (((L.set i z).map aT).flatMap AV.cells)):=aB.aJ _ _ _
 have u6:((S0.aC b3 (.cells [.mslice bl 0 L.length 6,qw,qa,.slice (E.map iv)])).aC bl (.cells (((L.set i z).map aT).flatMap AV.cells))) b6=some (.cells [.fslice [],.fslice [],.fslice [],.fslice []]):=by rw[aB.aH _ _ hl6.symm,aB.aH _ _ h63,g6]
 generalize (S0.aC b3 (.cells [.mslice bl 0 L.length 6,qw,qa,.slice (E.map iv)])).aC bl (.cells (((L.set i z).map aT).flatMap AV.cells))=T1 at *
 generalize aL1:((L.set i z).map aT).flatMap AV.cells=FL2 at *
 clear g3 g6 f3 hT0 nU aM4 hln hbl hFL
 have hML:M.length≤20:=SK
 refine dX (σ:=aB×AV×AV) [1000000] [1,3,6,7,8] M
  (fun k x=>gF st0 x.1 x.2.1 x.2.2 (W++List.replicate k i) ((A++M.take k).map bU)∧x.1 b3=some (.cells [.mslice bl 0 L.length 6,x.2.1,x.2.2,.slice (E.map iv)])∧x.1 bl=some (.cells FL2)∧x.1 b6=some (.cells [.fslice [],.fslice [],.fslice [],.fslice []])∧(b3∉aR x.2.1∧b3∉aR x.2.2)∧(bl∉aR x.2.1∧bl∉aR x.2.2)∧(b6∉aR x.2.1∧b6∉aR x.2.2))
  (fun k x=>[(9,.int .i64 k)]) (fun k x=>x.1) (by decide +kernel) ⟨(T1,qw,qa),⟨by simpa using hT1,u3,ul,u6,⟨w3',a3'⟩,⟨wl',al'⟩,⟨w6',a6'⟩⟩,aO.mk (by simp only[aA,↓aS,seval])⟩ (fun k x T hx hlt bL hdr hinv=>?_) (fun T hge hinv=>?_)
 · obtain⟨T,pw,pa⟩:=T
   obtain⟨i1,i2,i3,i4,⟨i5,i5'⟩,⟨i6,i6'⟩,⟨i7,i7'⟩⟩:=hinv
   simp only at i1 i2 i3 i4 i5 i5' i6 i6' i7 i7'
   obtain⟨w1,w2,w3,w4,w5⟩:=i1.w.shape
   obtain⟨a1,a2,a3,a4,a5⟩:=i1.a.shape
   have hw:=bF (n:=(k:Int)+1)
   have rH:=bH (av:=bU) (P:=prog) oN hx rfl
   simp only[bL,i2,aF,w1,aA,seval,tA]
   refine fW.append fO t7 sQ rfl (by decide) i1.w rfl rfl (by simp only[aF,dN,List.length_replicate];omega) (fun q' T2 f9 hf hn=>?_)
   have j3:=CF hn i5 i2
   have jl:=CF hn i6 i3
   have j6:=CF hn i7 i4
   have m2:=(hf b3 i5 j3).trans i2
   have m3:=(hf bl i6 jl).trans i3
   have m4:=(hf b6 i7 j6).trans i4
   obtain⟨y1,y2,y3,y4,y5⟩:=f9.shape
   have hTT:=(i1.UQ (i:=i) f9 hf hn).aC (o:=.cells [.mslice bl 0 L.length 6,q',pa,.slice (E.map iv)]) z3 j3 i5'
   simp only[m2,aK,y4,y5,aA,seval,tA]
   have v2:(T2.aC b3 (.cells [.mslice bl 0 L.length 6,q',pa,.slice (E.map iv)])) b3=some (.cells [.mslice bl 0 L.length 6,q',pa,.slice (E.map iv)]):=aB.aJ _ _ _
   have v3:(T2.aC b3 (.cells [.mslice bl 0 L.length 6,q',pa,.slice (E.map iv)])) bl=some (.cells FL2):=by rw[aB.aH _ _ hl3,m3]
   have v4:(T2.aC b3 (.cells [.mslice bl 0 L.length 6,q',pa,.slice (E.map iv)])) b6=some (.cells [.fslice [],.fslice [],.fslice [],.fslice []]):=by rw[aB.aH _ _ h63,m4]
   generalize T2.aC b3 (.cells [.mslice bl 0 L.length 6,q',pa,.slice (E.map iv)])=T3 at *
   refine yI [(0,1),(1,1),(2,1),(3,1),(4,1),(5,1),(6,1),(7,0),(8,1),(9,2)] [0,1,2,3,4,5,6,8] (d9.aC b3 (.cells [.mslice bl 0 L.length 6,q',pa,.slice (E.map iv)])) mixed (by decide +kernel) (by decide +kernel) (by decide +kernel) rfl (fP v2) ?_
   simp only[rH,a1,aB.aJ,aA,seval,tA]
   refine fW.append oN HW H0 rfl (by decide) hTT.a rfl rfl (by simp only[aF,dN,c7];omega) (fun q2 T4 H9 hf2 hn2=>?_)
   have k3:=CF hn2 i5' v2
   have kl:=CF hn2 i6' v3
   have k6:=CF hn2 i7' v4
   have n2:=(hf2 b3 i5' k3).trans v2
   have n3:=(hf2 bl i6' kl).trans v3
   have n4:=(hf2 b6 i7' k6).trans v4
   obtain⟨x1,x2,x3,x4,x5⟩:=H9.shape
   have hT4:=(hTT.NP (x:=bU x) H9 hf2 hn2).aC (o:=.cells [.mslice bl 0 L.length 6,q',q2,.slice (E.map iv)]) z3 j3 k3
   simp only[n2,aK,x4,x5,aA,seval,tA]
   refine⟨fP n2,⟨(T4.aC b3 (.cells [.mslice bl 0 L.length 6,q',q2,.slice (E.map iv)]),q',q2),⟨?_,aB.aJ _ _ _,(aB.aH _ _ hl3).trans n3,(aB.aH _ _ h63).trans n4,⟨j3,k3⟩,⟨jl,kl⟩,⟨j6,k6⟩⟩,aO.mk (by simp only[hw,aA,seval])⟩⟩
   have e1:W++List.replicate k i++ [i]=W++List.replicate (k+1) i:=by rw[lL,List.replicate_succ']
   have e2:(A++M.take k).map bU++ [bU x]=(A++M.take (k+1)).map bU:=by rw[dY,hx];simp
   rw[e1,e2] at hT4
   exact hT4
 · obtain⟨T,pw,pa⟩:=T
   obtain⟨i1,i2,i3,i4,⟨i5,i5'⟩,⟨i6,i6'⟩,⟨i7,i7'⟩⟩:=hinv
   simp only at i1 i2 i3 i4 i5 i5' i6 i6' i7 i7'
   rw[dS] at i1
   obtain⟨w1,w2,w3,w4,w5⟩:=i1.w.shape
   obtain⟨a1,a2,a3,a4,a5⟩:=i1.a.shape
   simp only[hge,aF,aA,seval,tA]
   refine aP (fun hc=>?_) (fun hc=>?_)
   case refine_2=>
    have hc':z.fin= -1:=by simpa using hc
    simp only[i2,i4,aK,w5,a5,aB.aJ,aA,seval,tA]
    refine⟨pw,pa,_,_,rfl,i1.aC z6 i7 i7',.inr ⟨bl,6,by rw[aF,List.length_set],by rw[aB.aH _ _ hl6,i3,aL1],zl,i6,i6',aPV _,aPW _⟩,.inl ?_⟩
    rw[aE (by rw[hc'];simp)]
   have hc':z.fin≠-1:=by simpa using hc
   have SI:E.map iv≠[]:=by intro e;have:=eA List.length e;simp at this;subst this;simp at hE;omega
   simp only[i2,aA,seval,tA]
   change jC prog 26 (bE T 0 []) (bS 1 0 []) (.slice (E.map iv)) _
   refine eO fO t7 sQ rfl rfl (by intro e he;simp only[cB] at he;obtain⟨t,_,rfl⟩:=he;exact⟨rfl,rfl⟩) (by simp) (fun h=>absurd rfl h) (by simp only[aZ,aF];omega) (by simp only[aZ,aF];omega) (fun be hbe=>?_)
   rw[fB] at hbe ⊢
   replace hbe:=hbe SI
   rw[pW SI,kS SI,aF]
   have he6:be≠b6:=by rintro rfl;rw[i4] at hbe;cases hbe
   have he3:be≠b3:=by rintro rfl;rw[i2] at hbe;cases hbe
   have hel:be≠bl:=by rintro rfl;rw[i3] at hbe;cases hbe
   obtain⟨ze,we',ae'⟩:=i1.fresh hbe
   have IA:=p8 (P:=prog) (b:=be) (w:=1) (i:=i) (len:=E.length) fO (by omega)
   have nU:=U5 (av:=iv) (w:=1) (fun _=>rfl) (L:=E) (i:=i) z.fin (by omega)
   have hln:i*1+1≤((E.map iv).flatMap AV.cells).length:=by
    rw[mI (n:=1) (es:=E.map iv) (fun e he=>by simp only[cB] at he;obtain⟨t,_,rfl⟩:=he;rfl),aF]
    omega
   generalize hFE:(E.map iv).flatMap AV.cells=FE at *
   have g3:∀V:AO,(T.aC be V) b3=some (.cells [.mslice bl 0 L.length 6,pw,pa,.slice (E.map iv)]):=fun V=>by rw[aB.aH _ _ he3.symm,i2]
   have ge:∀V U:AO,((T.aC be V).aC b3 U) be=some V:=fun V U=>by rw[aB.aH _ _ he3,aB.aJ]
   have g3':∀V U X:AO,(((T.aC be V).aC b3 U).aC be X) b3=some U:=fun V U X=>by rw[aB.aH _ _ he3.symm,aB.aJ]
   have g6':∀V U X:AO,(((T.aC be V).aC b3 U).aC be X) b6=some (.cells [.fslice [],.fslice [],.fslice [],.fslice []]):=fun V U X=>by rw[aB.aH _ _ he6.symm,aB.aH _ _ h63,aB.aH _ _ he6.symm,i4]
   simp only[g3,ge,g3',g6',IA,aK,w5,a5,aB.aJ,aA,seval,tA]
   refine⟨hln,pw,pa,_,_,rfl,(((i1.aC ze we' ae').aC z3 i5 i5').aC ze we' ae').aC z6 i7 i7',.inr ⟨bl,6,by rw[aF,List.length_set],?_,zl,i6,i6',aPV _,aPW _⟩,.inr ⟨be,1,?_,?_,ze,we',ae',?_,?_⟩⟩
   · rw[aB.aH _ _ hl6,aB.aH _ _ hel.symm,aB.aH _ _ hl3,aB.aH _ _ hel.symm,i3,aL1]
   · rw[aG hc',aF,List.length_set]
   · rw[aB.aH _ _ he6,aB.aJ,aG hc']
     exact eA (fun x=>some (AO.cells x)) nU
   · intro e he;simp only[cB] at he;obtain⟨t,_,rfl⟩:=he;rfl
   · intro e he;simp only[cB] at he;obtain⟨t,_,rfl⟩:=he;rfl
theorem fW.seen{h:bJ}{st s2:aB}{w:Nat}{q:AV}{l:List AV}{c:Value}(S:cS h st)(D:aL st s2)(hA:fW st w q l)(hs2:∀b∈aR q,s2 b=none)(hj:∀e∈l,e.cD=false)(hw:∀e∈l,e.width=w)(x:VC h st q [c]):VC h s2 (.slice l) [c]:=by
 rcases hA with ⟨rfl,rfl⟩ | ⟨b,cs,rfl,hb,hcs,hcl⟩
 · unfold VC at x ⊢
   rcases x with x | ⟨b,off,e,l1,_⟩
   · exact .inl x
   · exact .inl ⟨⟨_,by simpa using e⟩,rfl⟩
 · have S1:=aPJ (l.length*w) hb S
   rw[hcs] at S1
   obtain⟨f1,f2⟩:=frozen S1 (aB.aJ _ _ _) hj
   have hs:s2 b=none:=hs2 b (by simp [aR])
   have D2:aL ((st.aC b (.cells (l.flatMap AV.cells))).erase b) s2:=fun x=>by
    unfold aB.erase
    by_cases hx:x=b
    · subst hx;rw[aG rfl];exact⟨fun _=>hs,fun o e=>by rw[hs] at e;cases e⟩
    · rw[aE hx,aB.aH _ _ hx];exact D x
   have hE:=dA.mono (D2.step h) b rfl _ _ f2
   unfold VC at x
   obtain⟨cap,hv,l1,l2,_⟩:=x
   unfold VC
   exact .inr ⟨b,0,cap,hv,l1,l2,hs,f1,⟨w,hw⟩,hE⟩
theorem a7V(l:List Nat):∀e∈l.map nv,e.cD=false:=by intro e h;simp only[cB] at h;obtain⟨t,_,rfl⟩:=h;rfl
theorem aOA(l:List Nat):∀e∈l.map nv,e.width=1:=by intro e h;simp only[cB] at h;obtain⟨t,_,rfl⟩:=h;rfl
theorem aD.bB5{P:Program}{g:FuncId}{args:List AV}{st:aB}{W:List Nat}{A:List (List Tm)}{EV:List AV}(x:aD P g args st (fun r st'=>∃qw qa q3,r=.tup [qw,qa,q3]∧(q3=.slice EV∨q3=.fslice EV)∧gF st st' qw qa W (A.map bU))) :
 aD P g args st (fun r st'=>r=.tup [.slice (W.map nv),.slice (A.map bU),.slice EV]∧st'=st):=by
 refine x.l7 fun r st' ⟨qw,qa,q3,hr,hq3,hT⟩=>?_
 have D:aL st' st:=fun y=>⟨fun e=>(hT.fresh e).1,fun o e=>hT.k y o e⟩
 have aM0:∀h v,(q3.isAgg=j8 v∧VC h st' q3 v.cells.toList)→((AV.slice EV).isAgg=j8 v∧VC h st' (.slice EV) v.cells.toList):=fun h v y=>by
  rcases hq3 with rfl | rfl
  · exact y
  · exact⟨y.1,VC.soft (.fslice EV) _ y.2⟩
 refine⟨_,st,D.u9,fun h v S y=>?_,rfl,rfl⟩
 subst hr
 obtain⟨y0,y1⟩:=y
 refine⟨y0,?_⟩
 unfold VC at y1 ⊢
 obtain⟨vs,e,y2⟩:=y1
 simp only[dP] at y2 ⊢
 obtain⟨v1,r1,rfl,⟨ya,ya'⟩,v2,r2,rfl,⟨yb,yb'⟩,v3,r3,rfl,yc,rfl⟩:=y2
 have one:∀ {q:AV} {v:Value},q.isAgg=false→q.isAgg=j8 v→v.cells.toList= [v]:=fun {q v} h1 h2=>by
  rw[h1] at h2
  cases v<;>first | rfl | (simp [j8] at h2)
 have o1:=one hT.w.shape.1 ya
 have o2:=one hT.a.shape.1 yb
 rw[o1] at ya'
 rw[o2] at yb'
 refine⟨_,e,v1,_,rfl,⟨by rw[←ya,hT.w.shape.1];try rfl,?_⟩,v2,_,rfl,⟨by rw[←yb,hT.a.shape.1];try rfl,?_⟩,v3,_,rfl,⟨(aM0 h v3 yc).1,VC.mono (D.step h) _ _ (aM0 h v3 yc).2⟩,rfl⟩
 · rw[o1];exact fW.seen S D hT.w (fun b hb=>hT.n b (.inl hb)) (a7V _) (aOA _) ya'
 · rw[o2];exact fW.seen S D hT.a (fun b hb=>hT.n b (.inr hb)) (aTU _) (QE _) yb'
theorem gF.under{st T:aB}{qw qa:AV}{W:List Nat}{A:List AV}{b:Nat}{X:AO}(h:gF st T qw qa W A)(hb:T b=some X)(h0:st b=none)(hw:b∉aR qw)(ha:b∉aR qa):gF (st.aC b X) T qw qa W A:=by
 refine⟨h.w,h.a,h.d,fun x hx=>?_,fun x o hx=>?_⟩
 · rw[aB.aH _ _ (by rintro rfl;rcases hx with h' | h';exact hw h';exact ha h')];exact h.n x hx
 · by_cases hxb:x=b
   · subst hxb;rw[aB.aJ] at hx;rw[hb,hx]
   · rw[aB.aH _ _ hxb] at hx;exact h.k x o hx
theorem gF.over{st T:aB}{qw qa:AV}{W:List Nat}{A:List AV}{b:Nat}{X:AO}(h:gF (st.aC b X) T qw qa W A)(h0:st b=none):gF st T qw qa W A∧T b=some X∧b∉aR qw∧b∉aR qa:=by
 have hn:∀y,y∈aR qw∨y∈aR qa→y≠b:=fun y hy e=>by have:=h.n y hy;rw[e,aB.aJ] at this;cases this
 refine⟨⟨h.w,h.a,h.d,fun x hx=>?_,fun x o hx=>?_⟩,h.k b X (aB.aJ _ _ _),fun hm=>hn b (.inl hm) rfl,fun hm=>hn b (.inr hm) rfl⟩
 · have:=h.n x hx;rwa [aB.aH _ _ (hn x hx)] at this
 · exact h.k x o (by rw[aB.aH _ _ (by rintro rfl;rw[h0] at hx;cases hx)];exact hx)
theorem a62{φ:AF}{T T2:aB}{b:Nat}{cs cs':List AV}(hb:T b=some (.cells cs))(h2:T2 b=some (.cells cs'))(hl:cs'.length=cs.length)(D:∀x,x≠b→(T x=none→T2 x=none)∧∀o,T2 x=some o→T x=some o)
 (hv:∀h vs,cS h T→aL T (fun x=>if x=b then some (.cells cs) else T2 x)→bX h T h T2→bX h (fun x=>if x=b then some (.cells cs) else T2 x) h T2→a8 h T cs vs→a8 h T2 cs' vs):fY φ T φ T2:=fun h tmps S F=>by
 have D2:aL T (fun x=>if x=b then some (.cells cs) else T2 x):=fun x=>by
  by_cases hx:x=b
  · subst hx
    exact⟨fun e=>(by rw[hb] at e;cases e),fun o e=>(by simp only[aG] at e;rw[hb,e])⟩
  · simp only[aE hx]
    exact D x hx
 have step:bX h T h T2:=bX.of fun x hx=>by
  have:x≠b:=by rintro rfl;rw[hb] at hx;cases hx
  exact(D x this).1 hx
 refine⟨fun y0 o hx=>?_,step,fun d=>(F d).mono step⟩
 by_cases e:y0=b
 · subst e
   rw[h2] at hx
   cases hx
   obtain⟨hlt,c0,t,e1,e2,vs,e3,e4⟩:=S y0 _ hb
   exact⟨hlt,c0,t,e1,by rw[hl];exact e2,vs,e3,hv h vs S D2 step (bX.of fun x hx=>by
    by_cases hxb:x=y0
    · subst hxb;simp at hx
    · simpa [hxb] using hx) e4⟩
 · obtain⟨hlt,y⟩:=S y0 o ((D y0 e).2 o hx)
   exact⟨hlt,lD.mono step rfl y⟩
theorem a23{L:List Ss}{i:Nat}{s z:Ss}(hs:L[i]?=some s)(hf:s.fin= -1):(if z.fin≠-1 then(L.map Ss.fin).set i z.fin else L.map Ss.fin)=(L.set i z).map Ss.fin:=by
 rw[List.map_set]
 by_cases h:z.fin= -1
 · rw[aE (by simp [h]),h]
   refine(DH fun j=>?_).symm
   by_cases hij:i=j
   · subst hij
     have hi:i<(L.map Ss.fin).length:=by rw[aF];exact(fA.1 hs).1
     rw[List.getElem?_set_self hi,mA,hs,oG,hf]
   · rw[List.getElem?_set_ne hij]
 · rw[aG h]
abbrev oA:=zi aW (zi cF (zi AR (zi fJ (zi nH (zi lG WS)))))
set_option maxHeartbeats 4000000 in
theorem aYP(L:List Ss)(n:Int)(hL:L.length≤1048576)(hs:∀s∈L,VK s)(st:aB):aD prog 10 [.slice (L.map aT),.int .i64 n] st (fun r st'=>r=.tup [.slice ((iB L n).1.map nv),.slice ((iB L n).2.1.map bU),.slice ((iB L n).2.2.map iv)]∧st'=st):=by
 have how:=aWV L hL hs
 have hv:=fun s=>aAP s
 refine aD.bB5 ?_
 have kL:qM L n=false→∀T:aB,(∀b o,st b=some o→T b=some o)→∃qw qa q3,AV.tup [.fslice [],.fslice [],.fslice []]=.tup [qw,qa,q3]∧(q3=.slice ((iB L n).2.2.map iv)∨q3=.fslice ((iB L n).2.2.map iv))∧gF st T qw qa (iB L n).1 ((iB L n).2.1.map bU):=fun h T hk=>by
  unfold iB
  rw[h,aE (by decide)]
  exact⟨_,_,_,rfl,.inr rfl,⟨.inl ⟨rfl,rfl⟩,.inl ⟨rfl,rfl⟩,by simp [aR],by simp [aR],hk⟩⟩
 have ET:∀(b:Nat) (o:AO),st b=none→∀x p,st x=some p→(st.aC b o) x=some p:=fun b o h x p hx=>by rw[aB.aH _ _ (by rintro rfl;rw[h] at hx;cases hx)];exact hx
 refine wF [1000000,7] 2 func10 ntmps10 rfl rfl ?_
 intro _
 simp only[aA,seval]
 refine(how _).to ?_
 simp only[aK,aA,↓aS,seval,oA]
 intro b7 h7
 refine cT (fun h1=>?_) (fun h1=>?_)
 case refine_2=>
  simp only[h1,aA,seval,oA]
  exact kL (by simp at h1;unfold qM;rw[d5 (by omega)];try rfl) _ (ET b7 _ h7)
 have h1':1≤n:=by simp at h1;omega
 simp only[h1,aF,aA,seval,oA]
 refine aP (fun h2=>?_) (fun h2=>?_)
 · simp only[aA,seval,oA]
   exact kL (by simp at h2;unfold qM;rw[d5 (show ¬L.length≤8 by omega)];simp) _ (ET b7 _ h7)
 have h2':L.length≤8:=by simp at h2;omega
 simp only[aA,seval]
 have u7:(st.aC b7 (.cells [.slice (L.map aT),.fslice [],.fslice [],.fslice []])) b7=some (.cells [.slice (L.map aT),.fslice [],.fslice [],.fslice []]):=aB.aJ _ _ _
 have k7:=ET b7 (.cells [.slice (L.map aT),.fslice [],.fslice [],.fslice []]) h7
 generalize st.aC b7 (.cells [.slice (L.map aT),.fslice [],.fslice [],.fslice []])=T0 at *
 refine dX (σ:=aB×AV) [1000000,7] [0,1,7] L
  (fun k x=>gF st x.1 (.fslice []) x.2 [] ((L.take k).map fun s=>iv s.fin)∧x.1 b7=some (.cells [.slice (L.map aT),.fslice [],.fslice [],x.2])∧b7∉aR x.2∧∀s∈L.take k,fE s=true)
  (fun k x=>[(4,.fslice []),(5,.fslice []),(6,.fslice []),(8,.int .i64 k)]) (fun k x=>x.1) (by decide +kernel) ⟨(T0,.fslice []),⟨⟨.inl ⟨rfl,rfl⟩,.inl ⟨rfl,rfl⟩,by simp [aR],by simp [aR],k7⟩,u7,by simp [aR],by simp⟩,aO.mk (by simp only[aA,↓aS,seval])⟩ (fun k s T hx hlt bL hdr hinv=>?_) (fun T hge hinv=>?_)
 · obtain⟨T,q⟩:=T
   obtain⟨i1,i2,i3,i4⟩:=hinv
   simp only at i1 i2 i3
   obtain⟨a1,a2,a3,a4,a5⟩:=i1.a.shape
   have hw:=bF (n:=(k:Int)+1)
   have rH:=bH (av:=aT) (P:=prog) pC hx (n0 s)
   have hvs:=hv s
   rw[aT] at rH hvs
   simp only[bL,rH,aF,aA,seval,oA]
   refine(hvs _).to ?_
   cases hok:fE s with
   | false=>
    simp only[aA,seval,oA]
    exact kL (by
     unfold qM
     have:L.all fE=false:=by
      cases hA:L.all fE with
      | false=>rfl
      | true=>have:=dW.1 hA s (cH hx);rw[hok] at this;cases this
     rw[this];simp) _ i1.k
   | true=>
    simp only[aA,seval]
    refine yI [(0,1),(1,1),(2,1),(3,1),(4,1),(5,1),(6,1),(7,1),(8,0),(9,1),(10,2)] [0,1,2,3,4,5,6,7,9] (d9.aC b7 (.cells [.slice (L.map aT),.fslice [],.fslice [],q])) mixed (by decide +kernel) (by decide +kernel) (by decide +kernel) rfl (fP i2) ?_
    simp only[rH,a1,aB.aJ,aA,seval,oA]
    refine fW.append fO t7 sQ rfl (by decide) i1.a rfl rfl (by simp only[aF,c7];omega) (fun q' T2 f9 hf hn=>?_)
    have j3:=CF hn i3 i2
    have m2:=(hf b7 i3 j3).trans i2
    obtain⟨y1,y2,y3,y4,y5⟩:=f9.shape
    have hTT:=(i1.NP (x:=iv s.fin) f9 hf hn).aC (o:=.cells [.slice (L.map aT),.fslice [],.fslice [],q']) h7 (by simp [aR]) j3
    simp only[hw,m2,aK,y4,y5,aA,seval,oA]
    refine⟨fP m2,⟨(T2.aC b7 (.cells [.slice (L.map aT),.fslice [],.fslice [],q']),q'),⟨?_,aB.aJ _ _ _,j3,fun s' hs'=>?_⟩,aO.mk (by simp only[aA,seval])⟩⟩
    · rw[dY,hx]
      simpa using hTT
    · rw[dY,hx] at hs'
      rcases eH.1 hs' with hs' | hs'
      · exact i4 s' hs'
      · simp at hs';rw[hs'];exact hok
 · obtain⟨T,q⟩:=T
   obtain⟨i1,i2,i3,i4⟩:=hinv
   simp only at i1 i2 i3 i4
   rw[dS] at i1 i4
   have hok:qM L n=true:=JG.2 ⟨h1',h2',i4⟩
   simp only[hge,aF,aA,seval,oA]
   have hI0:=kC.start i4
   have hml:=ND i4
   have u0:(st.aC b7 (.cells [.slice (L.map aT),.fslice [],.fslice [],.slice ((L.map Ss.fin).map iv)])) b7=some (.cells [.slice (L.map aT),.fslice [],.fslice [],.slice ((L.map Ss.fin).map iv)]):=aB.aJ _ _ _
   refine iJ (σ:=aB×AV×AV×iK×Bool) [1000000,7] [0,1,4,5,6,7]
    (fun x=>gF st x.1 x.2.1 x.2.2.1 x.2.2.2.1.w (x.2.2.2.1.a.map bU)∧x.1 b7=some (.cells [.slice (x.2.2.2.1.l.map aT),x.2.1,x.2.2.1,.slice ((x.2.2.2.1.l.map Ss.fin).map iv)])∧(b7∉aR x.2.1∧b7∉aR x.2.2.1)∧kC L x.2.2.2.1∧rounds n (iA x.2.2.2.1.l) x.2.2.2.1=gK n L∧(x.2.2.2.2=false→runs x.2.2.2.1.l=false))
    (fun x=>[(9,.bool x.2.2.2.2)]) (fun x=>x.1) (fun x=>iA x.2.2.2.1.l+(if x.2.2.2.2=true then 1 else 0)) (by decide +kernel)
    ⟨(st.aC b7 (.cells [.slice (L.map aT),.fslice [],.fslice [],.slice ((L.map Ss.fin).map iv)]),.fslice [],.fslice [],⟨L,[],[]⟩,true),⟨⟨.inl ⟨rfl,rfl⟩,.inl ⟨rfl,rfl⟩,by simp [aR],by simp [aR],ET b7 _ h7⟩,u0,⟨by simp [aR],by simp [aR]⟩,hI0,rfl,fun h=>by cases h⟩,?_⟩ ?_
   · refine(a62 i2 u0 rfl (fun x hx=>?_) (fun h vs S D2 step step2 y=>?_)).trans (fY.kK (by simp only[aA,seval]))
     · rw[aB.aH _ _ hx]
       exact⟨fun e=>(i1.fresh e).1,fun o e=>i1.k x o e⟩
     · simp only[a8] at y ⊢
       obtain⟨c1,r1,rfl,z1,c2,r2,rfl,z2,c3,r3,rfl,z3,c4,r4,rfl,z4,rfl⟩:=y
       refine⟨c1,_,rfl,VC.mono step _ _ z1,c2,_,rfl,VC.mono step _ _ z2,c3,_,rfl,VC.mono step _ _ z3,c4,_,rfl,?_,rfl⟩
       have a5M:∀b∈aR q,(fun x=>if x=b7 then some (.cells [.slice (L.map aT),.fslice [],.fslice [],q]) else(st.aC b7 (.cells [.slice (L.map aT),.fslice [],.fslice [],.slice ((L.map Ss.fin).map iv)])) x) b=none:=fun b hb=>by
        have hbb:b≠b7:=by rintro rfl;exact i3 hb
        simp only[aE hbb]
        rw[aB.aH _ _ hbb]
        exact i1.n b (.inr hb)
       have:=fW.seen S D2 i1.a a5M (by intro e he;simp only[cB] at he;obtain⟨t,_,rfl⟩:=he;rfl) (by intro e he;simp only[cB] at he;obtain⟨t,_,rfl⟩:=he;rfl) z4
       rw[show(L.map fun s=>iv s.fin)=(L.map Ss.fin).map iv by rw[pR];try rfl] at this
       exact VC.mono step2 _ _ this
   rintro⟨T,pw,pa,x,more⟩ ⟨i1,i2,⟨i3,i3'⟩,i4,i5,i6⟩
   simp only at i1 i2 i3 i3' i4 i5 i6
   obtain⟨w1,w2,w3,w4,w5⟩:=i1.w.shape
   obtain⟨a1,a2,a3,a4,a5⟩:=i1.a.shape
   simp only
   simp only[aA,seval]
   cases more with
   | false=>
    simp only[aF,aA,seval,oA]
    have hx:x=gK n L:=by rw[←i5,JF (i6 rfl)]
    have hV:iB L n=((gK n L).w,(gK n L).a,(gK n L).l.map Ss.fin):=by unfold iB;rw[aG hok]
    rw[hV]
    subst hx
    refine aP (fun hc=>?_) (fun hc=>?_)
    · have hL0:(gK n L).l= []:=o0 (by rw[i4.len];simpa using hc)
      simp only[i2,aK,aA,seval,oA]
      refine yI [(0,1),(1,1),(2,1),(3,1),(4,1),(5,1),(6,1),(7,1),(8,1)] [0,1,2,3,4,5,6,7,8] (d9.aC b7 (.cells [.slice ((gK n L).l.map aT),pw,pa,.fslice []])) mixed (by decide +kernel) (by decide +kernel) (by decide +kernel) rfl (fP (aB.aJ _ _ _)) ?_
      simp only[w1,w3,a1,a3,aB.aJ,aA,seval,oA]
      exact⟨pw,pa,_,rfl,.inr (by rw[hL0];try rfl),i1.aC h7 i3 i3'⟩
    · skip
      simp only[aA,seval]
      refine yI [(0,1),(1,1),(2,1),(3,1),(4,1),(5,1),(6,1),(7,1),(8,1)] [0,1,2,3,4,5,6,7,8] (d9.aC b7 (.cells [.slice ((gK n L).l.map aT),pw,pa,.slice (((gK n L).l.map Ss.fin).map iv)])) mixed (by decide +kernel) (by decide +kernel) (by decide +kernel) rfl (fP i2) ?_
      simp only[w1,w3,a1,a3,aB.aJ,aA,seval,oA]
      exact⟨pw,pa,_,rfl,.inl rfl,i1⟩
   | true=>
    simp only[aA,seval]
    refine dX (σ:=aB×AV×AV) [1000000,7] [0,1,4,5,6,7,52] L
     (fun k y=>gF st y.1 y.2.1 y.2.2 (jY n x k).w ((jY n x k).a.map bU)∧y.1 b7=some (.cells [.slice ((jY n x k).l.map aT),y.2.1,y.2.2,.slice (((jY n x k).l.map Ss.fin).map iv)])∧(b7∉aR y.2.1∧b7∉aR y.2.2))
     (fun k y=>[(9,.bool (runs (x.l.take k))),(10,.int .i64 k)]) (fun k y=>y.1) (by decide +kernel) ⟨(T,pw,pa),⟨i1,i2,i3,i3'⟩,aO.mk (by simp only[jA,runs,List.any_nil,aA,↓aS,seval])⟩ (fun k s0 y hx hlt bL hdr hinv=>?_) (fun y hge hinv=>?_)
    · obtain⟨T2,pw,pa⟩:=y
      obtain⟨j1,j2,j3,j3'⟩:=hinv
      simp only at j1 j2 j3 j3'
      obtain⟨hIk,_,_⟩:=i4.turns h1' k
      have hlen:=OZ n x k
      rw[i4.len] at hlen
      obtain⟨s,hsk⟩:∃s,(jY n x k).l[k]?=some s:=⟨_,d4 (by rw[hlen];exact hlt)⟩
      have hxk:x.l[k]?=some s:=by rw[←OY n x k (cU _)];exact hsk
      have hH:runs (x.l.take (k+1))=(runs (x.l.take k)||nC s):=by unfold runs;rw[dY,hxk,List.any_append];simp
      have EU:=hIk.ok s (cH hsk)
      have hsu:=GF n x k
      have hbd:=hIk.bd
      have hwl:=hIk.wl
      generalize jY n x (k+1)=Y' at *
      generalize jY n x k=Y at *
      obtain⟨w1,w2,w3,w4,w5⟩:=j1.w.shape
      obtain⟨a1,a2,a3,a4,a5⟩:=j1.a.shape
      have hw:=bF (n:=(k:Int)+1)
      have rH:=bH (av:=aT) (P:=prog) pC hsk (n0 s)
      rw[aT] at rH
      simp only[bL,j2,rH,hlen,aF,aA,seval,oA]
      refine aP (fun hf=>?_) (fun hf=>?_)
      case refine_2=>
       have hf':s.fin≠-1:=by simpa using hf
       have hr:nC s=false:=by unfold nC;simpa using hf'
       rw[hr,yK] at hH
       rw[GE hsk hf'] at hsu
       simp only[hw,aA,seval]
       exact⟨(T2,pw,pa),⟨by rw[hsu];exact j1,by rw[hsu];exact j2,j3,j3'⟩,aO.mk (by simp only[hH,aA,seval])⟩
      have hf':s.fin= -1:=by simpa using hf
      have hr:nC s=true:=by unfold nC;simpa using hf'
      rw[hr,vB] at hH
      rw[KB hsk hf',FT (zB.2 ⟨EU,by omega,hf'⟩)] at hsu
      have sR:=aWQ Y.l (Y.l.map Ss.fin) k s hsk EU n (by omega) (by omega) (by rw[aF]) _ T2 pw pa Y.w Y.a (by omega) (by omega) (j1.under j2 h7 j3 j3')
      rw[a23 hsk hf'] at sR
      simp only[nv] at sR
      simp only[j2,aA,seval,oA]
      refine sR.mono ?_
      rintro _ T3 ⟨qw,qa,rfl,hT3⟩
      obtain⟨g1,g2,g3,g4⟩:=hT3.over h7
      obtain⟨w1,w2,w3,w4,w5⟩:=g1.w.shape
      obtain⟨a1,a2,a3,a4,a5⟩:=g1.a.shape
      simp only[hw,g2,aK,w5,a5,aA,seval,oA]
      exact⟨(T3.aC b7 (.cells [.slice ((Y.l.set k (m6 s n)).map aT),qw,qa,.slice (((Y.l.set k (m6 s n)).map Ss.fin).map iv)]),qw,qa),⟨by rw[hsu];exact g1.aC h7 g3 g4,by rw[hsu];exact aB.aJ _ _ _,g3,g4⟩,aO.mk (by simp only[hH,aA,seval])⟩
    · obtain⟨T2,qw,qa⟩:=y
      obtain⟨j1,j2,j3,j3'⟩:=hinv
      simp only at j1 j2 j3 j3'
      have hlen:=OZ n x L.length
      rw[i4.len] at hlen
      rw[show jY n x L.length=oC n x by unfold oC;rw[i4.len]] at j1 j2 hlen
      rw[show x.l.take L.length=x.l by rw[←i4.len,dS]]
      obtain⟨r1,r2⟩:=i4.round h1'
      simp only[hge,j2,hlen,aF,aA,seval,oA]
      refine⟨(T2,qw,qa,oC n x,runs x.l),?_,⟨j1,j2,⟨j3,j3'⟩,r1,?_,fun h=>?_⟩,aO.mk (by simp only[aA,seval])⟩
      · simp only
        cases hr:runs x.l with
        | true=>have:=r2 hr;simp only[eX];omega
        | false=>
         have:oC n x=x:=C5 hr _
         rw[this]
         simp
      · cases hr:runs x.l with
        | true=>exact(aO7 h1' i4 hr).trans i5
        | false=>rw[show oC n x=x from C5 hr _];exact i5
      · rw[show oC n x=x from C5 h _];exact h

theorem bO.app{s:aB}:∀ {xs os ys os':List AV} {bs bs':List Nat},bO s xs os bs→bO s ys os' bs'→bO s (xs++ys) (os++os') (bs++bs')
 | [],os,ys,os',bs,bs',h,h'=>by
  simp only[bO] at h
  rw[h.1,h.2]
  exact h'
 | a::xs,os,ys,os',bs,bs',h,h'=>by
  simp only[bO] at h
  obtain⟨o,os1,b1,b2,rfl,rfl,h1,h2⟩:=h
  simp only[gV,bO]
  exact⟨o,os1++os',b1,b2++bs',rfl,by rw[lL],h1,bO.app h2 h'⟩
theorem bO.drop{s:aB}:∀ {xs os:List AV} {bs:List Nat} (k:Nat),bO s xs os bs→∃bs',bO s (xs.drop k) (os.drop k) bs'∧bs'.Sublist bs
 | xs,os,bs,0,h=>⟨bs,h,List.Sublist.refl _⟩
 | [],os,bs,k+1,h=>by
  simp only[bO] at h
  rw[h.1,h.2]
  exact⟨[],by simp only[List.drop_nil,bO,and_self],List.Sublist.refl _⟩
 | a::xs,os,bs,k+1,h=>by
  simp only[bO] at h
  obtain⟨o,os1,b1,b2,rfl,rfl,h1,h2⟩:=h
  obtain⟨bs',h3,h4⟩:=bO.drop k h2
  exact⟨bs',h3,h4.trans (List.sublist_append_right _ _)⟩
structure bC7 (st:aB) (b2:Nat) (es os:List AV) (bs:List Nat) (T:aB):Prop where
 own:bO T es os bs
 nd:bs.Nodup
 new:∀b∈bs,st b=none
 old:∀b,b∉bs→T b=st b
 fr:T b2=none
def j9(st:aB)(w:Nat)(q:AV)(l:List AV):Prop:=
 (q=.fslice []∧l= [])∨∃b,q=.mslice b 0 l.length w∧st b=Option.some (.cells (l.flatMap AV.cells))∧(l.flatMap AV.cells).length=l.length*w
theorem j9.shape{st:aB}{w:Nat}{q:AV}{l:List AV}(h:j9 st w q l):q.isAgg=false∧q.width=1∧q.cD=false∧q.cells= [q]∧q.storable=true:=by
 rcases h with ⟨rfl,_⟩ | ⟨b',rfl,_⟩<;>exact⟨rfl,rfl,rfl,rfl,rfl⟩
theorem j9.aV{st st':aB}{w:Nat}{q:AV}{l:List AV}(h:j9 st w q l)(hk:∀b∈aR q,st' b=st b):j9 st' w q l:=by
 rcases h with h | ⟨b,rfl,hb,h2⟩
 · exact .inl h
 · exact .inr ⟨b,rfl,by rw[hk b (by simp [aR])];exact hb,h2⟩
theorem j9.some{st:aB}{w:Nat}{q:AV}{l:List AV}(h:j9 st w q l):∀b∈aR q,∃cs,st b=Option.some (.cells cs):=by
 intro b hb
 rcases h with ⟨rfl,_⟩ | ⟨b',rfl,hb',_⟩
 · simp [aR] at hb
 · simp only[aR,cY,dK,dQ] at hb;subst hb;exact⟨_,hb'⟩
theorem j9.append{P:Program}{t:TypeId}{ag:Bool}{bytes w:Nat}{zs:List AV}{st:aB}{q:AV}{l:List AV}{x:AV}{K:AV→aB→Prop}(hI:eI P t=Option.some (ag,w))(hB:eB P t=Option.some bytes)(hZ:eZ P t=Option.some zs)(hz:zs.length=w)(hb8:bytes≤4096)
 (h:j9 st w q l) (hx:x.width=w) (hxs:x.cells.all AV.storable=true) (hl:l.length≤1073741824)
 (hK:∀q' st',j9 st' w q' (l++ [x])→(∀y,y∉aR q→y∉aR q'→st' y=st y)→(∀y∈aR q',y∈aR q∨st y=none)→K q' st'):jC P t st q (.fslice [x]) K:=by
 have eR:w7 w [x]:=by intro e he;simp only[cY,dK,dQ] at he;subst he;exact⟨hx,hxs⟩
 have zN:(l.length+1)*bytes≤140737488355328:=by
  have:=KR (show l.length+1≤1073741825 by omega) hb8
  omega
 have hxc:x.cells.length=w:=by rw[sJ,hx]
 unfold jC
 simp only[hI,hB,hZ,yV]
 refine⟨hz,eR,?_⟩
 rcases h with ⟨rfl,rfl⟩ | ⟨b,rfl,hb,hcl⟩
 · simp only[aZ,aU,gZ] at zN ⊢
   refine⟨by omega,by omega,by simp,fun h=>by simp at h,fun _ b hb=>?_⟩
   refine hK _ _ (.inr ⟨b,rfl,by simp [aB.aJ],by simp [hxc]⟩) (fun y _ hy=>?_) (fun y hy=>?_)
   · simp only[aR,cY,dK,dQ] at hy
     rw[aB.aH _ _ hy]
   · simp only[aR,cY,dK,dQ] at hy
     subst hy;exact .inr hb
 · simp only[aU,aZ,gZ,hb]
   have jT:(l.flatMap AV.cells).take (l.length*w)++ [x].flatMap AV.cells=(l++ [x]).flatMap AV.cells:=by rw[←hcl,dS];simp
   have hlen:((l++ [x]).flatMap AV.cells).length=(l++ [x]).length*w:=by
    rw[tL,dN,hcl]
    simp only[qT,List.flatMap_nil,gM,hxc,dN,aU,aZ]
    rw[tM];omega
   refine⟨trivial,zN,by omega,by omega,?_,fun b' hb'=>?_⟩
   · rw[jT]
     refine hK _ _ (.inr ⟨b,by simp,aB.aJ _ _ _,hlen⟩) (fun y hy _=>?_) (fun y hy=>.inl hy)
     simp only[aR,cY,dK,dQ] at hy
     rw[aB.aH _ _ hy]
   · rw[jT]
     refine hK _ _ (.inr ⟨b',by simp,aB.aJ _ _ _,hlen⟩) (fun y hy hy'=>?_) (fun y hy=>?_)
     · simp only[aR,cY,dK,dQ] at hy hy'
       rw[aB.aH _ _ hy']
       simp [aB.erase,hy]
     · simp only[aR,cY,dK,dQ] at hy
       subst hy;exact .inr hb'
theorem j9.own{st:aB}{w:Nat}{q:AV}{l os:List AV}{bs:List Nat}(h:j9 st w q os)(ho:bO st l os bs)(hw:∀e∈l,e.width=w)(hne:l= []→bs= []):cG st (.slice l) q (aR q++bs):=by
 have hl:=ho.length
 rcases h with ⟨rfl,rfl⟩ | ⟨b,rfl,hb,_⟩
 · have:l= []:=o0 (by simpa using hl.symm)
   subst this
   rw[hne rfl]
   simp only[cG]
   exact .inl ⟨trivial,trivial,rfl⟩
 · simp only[cG]
   exact .inr ⟨b,bs,os,w,by rw[hl],rfl,hb,ho,hw⟩
theorem T8{S:aB}{q q':AV}{b:Nat}(hn:∀y∈aR q',y∈aR q∨S y=none)(h:b∉aR q)(hb:S b≠none):b∉aR q':=fun hm=>by
 rcases hn b hm with h' | h'
 · exact h h'
 · exact hb h'
structure kR (st0 T:aB) (qw qa:AV) (ba:Nat) (bs:List Nat) (W:List Nat) (osx A os LV:List AV):Prop where
 w:j9 T 1 qw (W.map nv)
 a:j9 T 1 qa osx
 o:bO T A os bs
 l:LV≠[]→T ba=some (.cells (LV.flatMap AV.cells))
 d1:∀b∈aR qw,b∉aR qa∧b∉bs∧(LV≠[]→b≠ba)
 d2:∀b∈aR qa,b∉bs∧(LV≠[]→b≠ba)
 d3:LV≠[]→ba∉bs
 nd:bs.Nodup
 n1:∀b∈aR qw,st0 b=none
 n2:∀b∈aR qa,st0 b=none
 n3:∀b∈bs,st0 b=none
 n4:LV≠[]→st0 ba=none
 k:∀b o,st0 b=some o→T b=some o
section
variable {st0 T T':aB} {qw qa q':AV} {ba:Nat} {bs:List Nat} {W:List Nat} {osx A os LV:List AV}
theorem kR.aPU(h:kR st0 T qw qa ba bs W osx A os LV){b:Nat}(hb:b∈bs):T b≠none:=by
 obtain⟨cs,e,_⟩:=(bO.iR _ _ _ h.o).2 b hb
 rw[e];simp
theorem kR.fresh(h:kR st0 T qw qa ba bs W osx A os LV){b:Nat}(hb:T b=none):st0 b=none∧b∉aR qw∧b∉aR qa∧b∉bs∧(LV≠[]→b≠ba):=by
 refine⟨?_,fun hq=>?_,fun hq=>?_,fun hq=>h.aPU hq hb,fun hL e=>?_⟩
 · cases hs:st0 b with
   | none=>rfl
   | some o=>rw[h.k b o hs] at hb;cases hb
 · obtain⟨cs,e⟩:=h.w.some b hq;rw[hb] at e;cases e
 · obtain⟨cs,e⟩:=h.a.some b hq;rw[hb] at e;cases e
 · rw[e,h.l hL] at hb;cases hb
theorem kR.UQ{i:Nat}(h:kR st0 T qw qa ba bs W osx A os LV)(f9:j9 T' 1 q' (W.map nv++ [nv i]))(hf:∀y,y∉aR qw→y∉aR q'→T' y=T y)(hn:∀y∈aR q',y∈aR qw∨T y=none):kR st0 T' q' qa ba bs (W++ [i]) osx A os LV:=by
 have hd:∀b∈aR q',b∉aR qa∧b∉bs∧(LV≠[]→b≠ba):=fun b hb=>by
  rcases hn b hb with h' | h'
  · exact h.d1 b h'
  · exact(h.fresh h').2.2
 have hk:∀b,b∉aR qw→T b≠none→T' b=T b:=fun b h1 h2=>hf b h1 (T8 hn h1 h2)
 have ha:∀b∈aR qa,T' b=T b:=fun b hb=>hf b (fun h'=>(h.d1 b h').1 hb) (fun h'=>(hd b h').1 hb)
 have hb':∀b∈bs,T' b=T b:=fun b hb=>hf b (fun h'=>(h.d1 b h').2.1 hb) (fun h'=>(hd b h').2.1 hb)
 refine⟨by simpa using f9,h.a.aV ha,bO.aV _ _ _ hb' h.o,fun hL=>?_,hd,h.d2,h.d3,h.nd,fun b hb=>?_,h.n2,h.n3,h.n4,fun b o hb=>?_⟩
 · rw[hf ba (fun h'=>(h.d1 ba h').2.2 hL rfl) (fun h'=>(hd ba h').2.2 hL rfl)];exact h.l hL
 · rcases hn b hb with h' | h'
   · exact h.n1 b h'
   · exact(h.fresh h').1
 · have h1:b∉aR qw:=fun h'=>by rw[h.n1 b h'] at hb;cases hb
   have h2:=h.k b o hb
   rw[hk b h1 (by rw[h2];simp)];exact h2
theorem kR.NP{x:AV}(h:kR st0 T qw qa ba bs W osx A os LV)(f9:j9 T' 1 q' (osx++ [x]))(hf:∀y,y∉aR qa→y∉aR q'→T' y=T y)(hn:∀y∈aR q',y∈aR qa∨T y=none):kR st0 T' qw q' ba bs W (osx++ [x]) A os LV:=by
 have hd:∀b∈aR q',b∉bs∧(LV≠[]→b≠ba):=fun b hb=>by
  rcases hn b hb with h' | h'
  · exact h.d2 b h'
  · exact(h.fresh h').2.2.2
 have hdw:∀b∈aR qw,b∉aR q':=fun b hb hq=>by
  rcases hn b hq with h' | h'
  · exact(h.d1 b hb).1 h'
  · exact(h.fresh h').2.1 hb
 refine⟨h.w.aV fun b hb=>hf b (h.d1 b hb).1 (hdw b hb),f9,bO.aV _ _ _ (fun b hb=>hf b (fun h'=>(h.d2 b h').1 hb) (fun h'=>(hd b h').1 hb)) h.o,fun hL=>?_,fun b hb=>⟨hdw b hb,(h.d1 b hb).2⟩,hd,h.d3,h.nd,h.n1,fun b hb=>?_,h.n3,h.n4,fun b o hb=>?_⟩
 · rw[hf ba (fun h'=>(h.d2 ba h').2 hL rfl) (fun h'=>(hd ba h').2 hL rfl)];exact h.l hL
 · rcases hn b hb with h' | h'
   · exact h.n2 b h'
   · exact(h.fresh h').1
 · have h1:b∉aR qa:=fun h'=>by rw[h.n2 b h'] at hb;cases hb
   have h2:=h.k b o hb
   rw[hf b h1 (T8 hn h1 (by rw[h2];simp))];exact h2
theorem kR.more{A2 os2:List AV}{bs2:List Nat}(h:kR st0 T qw qa ba bs W osx A os LV)(ho:bO T' A2 os2 bs2)(hn:bs2.Nodup)(hf:∀b∈bs2,T b=none)(hk:∀b,b∉bs2→T' b=T b):kR st0 T' qw qa ba (bs++bs2) W osx (A++A2) (os++os2) LV:=by
 have hw:∀b∈aR qw,b∉bs2:=fun b hb h2=>(h.fresh (hf b h2)).2.1 hb
 have ha:∀b∈aR qa,b∉bs2:=fun b hb h2=>(h.fresh (hf b h2)).2.2.1 hb
 have hs:∀b∈bs,b∉bs2:=fun b hb h2=>(h.fresh (hf b h2)).2.2.2.1 hb
 have hl:LV≠[]→ba∉bs2:=fun hL h2=>(h.fresh (hf ba h2)).2.2.2.2 hL rfl
 refine⟨h.w.aV fun b hb=>hk b (hw b hb),h.a.aV fun b hb=>hk b (ha b hb),bO.app (bO.aV _ _ _ (fun b hb=>hk b (hs b hb)) h.o) ho,fun hL=>by rw[hk ba (hl hL)];exact h.l hL,fun b hb=>⟨(h.d1 b hb).1,?_,(h.d1 b hb).2.2⟩,fun b hb=>⟨?_,(h.d2 b hb).2⟩,fun hL=>?_,pS.2 ⟨h.nd,hn,fun x hx y hy e=>hs x hx (e▸hy)⟩,h.n1,h.n2,fun b hb=>?_,h.n4,fun b o hb=>?_⟩
 · simp only[eH,not_or];exact⟨(h.d1 b hb).2.1,hw b hb⟩
 · simp only[eH,not_or];exact⟨(h.d2 b hb).1,ha b hb⟩
 · simp only[eH,not_or];exact⟨h.d3 hL,hl hL⟩
 · rcases eH.1 hb with hb | hb
   · exact h.n3 b hb
   · exact(h.fresh (hf b hb)).1
 · have h2:=h.k b o hb
   rw[hk b fun h'=>by rw[hf b h'] at h2;cases h2];exact h2
theorem kR.a9Y{LV':List AV}(h:kR st0 T qw qa ba bs W osx A os LV)(hL:LV≠[])(hL':LV'≠[]):kR st0 (T.aC ba (.cells (LV'.flatMap AV.cells))) qw qa ba bs W osx A os LV':=by
 refine⟨h.w.aV fun b hb=>aB.aH _ _ ((h.d1 b hb).2.2 hL),h.a.aV fun b hb=>aB.aH _ _ ((h.d2 b hb).2 hL),bO.aV _ _ _ (fun b hb=>aB.aH _ _ (by rintro rfl;exact h.d3 hL hb)) h.o,fun _=>aB.aJ _ _ _,fun b hb=>⟨(h.d1 b hb).1,(h.d1 b hb).2.1,fun _=>(h.d1 b hb).2.2 hL⟩,fun b hb=>⟨(h.d2 b hb).1,fun _=>(h.d2 b hb).2 hL⟩,fun _=>h.d3 hL,h.nd,h.n1,h.n2,h.n3,fun _=>h.n4 hL,fun b o hb=>?_⟩
 rw[aB.aH _ _ (by rintro rfl;rw[h.n4 hL] at hb;cases hb)];exact h.k b o hb
end
structure DO (st0 T:aB) (q:AV) (l:List AV):Prop where
 a:j9 T 1 q l
 n:∀b∈aR q,st0 b=none
 k:∀b o,st0 b=some o→T b=some o
theorem DO.push{st0 T T':aB}{q q':AV}{l:List AV}{x:AV}(h:DO st0 T q l)(f9:j9 T' 1 q' (l++ [x]))(hf:∀y,y∉aR q→y∉aR q'→T' y=T y)(hn:∀y∈aR q',y∈aR q∨T y=none):DO st0 T' q' (l++ [x]):=by
 refine⟨f9,fun b hb=>?_,fun b o hb=>?_⟩
 · rcases hn b hb with h' | h'
   · exact h.n b h'
   · cases hs:st0 b with
     | none=>rfl
     | some o=>rw[h.k b o hs] at h';cases h'
 · have h1:b∉aR q:=fun h'=>by rw[h.n b h'] at hb;cases hb
   have h2:=h.k b o hb
   rw[hf b h1 (T8 hn h1 (by rw[h2];simp))];exact h2
theorem kR.final{st0 T T':aB}{qw qa qe:AV}{ba:Nat}{bs:List Nat}{W:List Nat}{A os LV:List AV}{E:List Int}(h:kR st0 T qw qa ba bs W os A os LV)(hE:DO T T' qe (E.map iv))(hA:∀e∈A,e.width=1) :
 ∃s2,aL T' s2∧yQ st0 [.slice (W.map nv),.slice A,.slice (E.map iv)] (.tup [qw,qa,qe]) s2:=by
 have hko:∀b,T b≠none→T' b=T b:=fun b hb=>by
  cases e:T b with
  | none=>exact absurd e hb
  | some o=>exact hE.k b o e
 have fw:∀b∈aR qw,T b≠none:=fun b hb=>by obtain⟨cs,e⟩:=h.w.some b hb;rw[e];simp
 have fa:∀b∈aR qa,T b≠none:=fun b hb=>by obtain⟨cs,e⟩:=h.a.some b hb;rw[e];simp
 have fb:∀b∈bs,T b≠none:=fun b hb=>h.aPU hb
 have fe:∀b∈aR qe,T b=none:=hE.n
 have f0:∀b∈aR qe,st0 b=none:=fun b hb=>(h.fresh (fe b hb)).1
 have hAb:A= []→bs= []:=fun e=>by have:=h.o;rw[e] at this;simp only[bO] at this;exact this.2
 obtain⟨B,hB⟩:∃B,B=aR qw++((aR qa++bs)++aR qe):=⟨_,rfl⟩
 have eT:∀b,b∈B↔b∈aR qw∨b∈aR qa∨b∈bs∨b∈aR qe:=fun b=>by rw[hB];simp []
 obtain⟨s2,hs⟩:∃s2:aB,s2=fun b=>if b∈B then T' b else st0 b:=⟨_,rfl⟩
 have hs2:∀b,(b∈aR qw∨b∈aR qa∨b∈bs∨b∈aR qe)→s2 b=T' b:=fun b hb=>by rw[hs];exact aG ((eT b).2 hb)
 have o1:cG s2 (.slice (W.map nv)) qw (aR qw++ []):=
  j9.own (os:=W.map nv) (h.w.aV fun b hb=>(hs2 b (.inl hb)).trans (hko b (fw b hb))) (bO.flat (by simp [nv,AV.flat])) (aOA W) (fun _=>rfl)
 have o2:cG s2 (.slice A) qa (aR qa++bs):=
  j9.own (h.a.aV fun b hb=>(hs2 b (.inr (.inl hb))).trans (hko b (fa b hb))) (bO.aV _ _ _ (fun b hb=>(hs2 b (.inr (.inr (.inl hb)))).trans (hko b (fb b hb))) h.o) hA hAb
 have o3:cG s2 (.slice (E.map iv)) qe (aR qe++ []):=
  j9.own (os:=E.map iv) (hE.a.aV fun b hb=>hs2 b (.inr (.inr (.inr hb)))) (bO.flat (by simp [AV.flat])) (by intro e he;simp only[cB] at he;obtain⟨t,_,rfl⟩:=he;rfl) (fun _=>rfl)
 rw[gM] at o1 o3
 refine⟨s2,fun b=>?_,[qw,qa,qe],B,rfl,?_,fun b hb=>?_,?_,fun b hb=>by rw[hs];exact aE hb⟩
 · rw[hs]
   dsimp only
   split
   · exact⟨fun e=>e,fun o e=>e⟩
   · refine⟨fun e=>?_,fun o e=>?_⟩
     · cases hs:st0 b with
       | none=>rfl
       | some o=>rw[hE.k b o (h.k b o hs)] at e;cases e
     · exact hE.k b o (h.k b o e)
 · rw[hB]
   refine pS.2 ⟨FI _,pS.2 ⟨pS.2 ⟨FI _,h.nd,fun x hx y hy e=>(h.d2 x hx).1 (e▸hy)⟩,FI qe,fun x hx y hy e=>?_⟩,fun x hx y hy e=>?_⟩
   · subst e
     have hy':=fe x hy
     rcases eH.1 hx with hx | hx
     · exact fa x hx hy'
     · exact fb x hx hy'
   · subst e
     rcases eH.1 hy with hy | hy
     · rcases eH.1 hy with hy | hy
       · exact(h.d1 x hx).1 hy
       · exact(h.d1 x hx).2.1 hy
     · exact fw x hx (fe x hy)
 · rcases (eT b).1 hb with hb | hb | hb | hb
   · exact h.n1 b hb
   · exact h.n2 b hb
   · exact h.n3 b hb
   · exact f0 b hb
 · simp only[bO]
   exact⟨qw,[qa,qe],aR qw,(aR qa++bs)++aR qe,rfl,hB,o1,qa,[qe],aR qa++bs,aR qe,rfl,rfl,o2,qe,[],aR qe,[],rfl,by rw[gM],o3,rfl,rfl⟩
end Go.AW
