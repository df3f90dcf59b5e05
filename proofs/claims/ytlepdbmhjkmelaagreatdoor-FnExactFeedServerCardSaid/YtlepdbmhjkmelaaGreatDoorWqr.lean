import Derived.Test.YtlepdbmhjkmelaaGreatDoorWqq
import Derived.Test.YtlepdbmhjkmelaaGreatDoorWqo
import Derived.Test.YtlepdbmhjkmelaaGreatDoorWql
import Derived.Test.YtlepdbmhjkmelaaGreatDoorWqp
import Derived.Test.YtlepdbmhjkmelaaGreatDoorWqk
import Derived.Test.YtlepdbmhjkmelaaGreatDoorWqj
import Derived.Test.YtlepdbmhjkmelaaGreatDoorWqf
import Derived.Test.YtlepdbmhjkmelaaGreatDoorWqm
import Derived.Test.YtlepdbmhjkmelaaGreatDoorWqi
set_option linter.unusedSimpArgs false
set_option linter.unusedVariables false
set_option maxRecDepth 100000
namespace Go.AW
open Go.Proofs.Tryz
noncomputable def wU(s:Ss)(u:Int):List (List Tm)×Int:=
 ((mX s.p (fun _ l=>l) s.q 20 u).1,if(mX s.p (fun _ l=>l) s.q 20 u).2=2∧u<s.bB then -1 else(mX s.p (fun _ l=>l) s.q 20 u).2)
noncomputable def yL(s:Ss):List (List Tm)×Int:=wU s s.used
def EV(s:Ss):Bool:=qG s.p&&(rI s.q&&(decide (0≤s.bB)&&(decide (s.bB≤300)&&(decide (0≤s.used)&&decide (s.used≤s.bB)))))
def TU(s:Ss):Bool:=decide (s.used=0)&&(decide (s.bL=0)&&decide (s.fin= -1))
noncomputable def BT(s:Ss):Bool:=EV s&&(TU s||(decide (s.bL=((yL s).1.length:Int))&&decide (s.fin=(yL s).2)))
theorem a8N{s:Ss}(h:EV s=true):uN s.p s.q 20 s.used=true:=by
 simp only[EV,cY,bM] at h
 obtain⟨h1,h2,h3,h4,h5,h6⟩:=h
 simp only[uN,h1,h2,gM]
 rw[vC h5,vC (show s.used≤300 by omega)]
 decide
abbrev aPM:=zi aX (zi gL (zi cI (zi oF (zi dD BY))))
theorem aU2(s:Ss)(u:Int)(h:uN s.p s.q 20 u=true)(st:aA):aD prog 86 [gU s,.int .i64 u] st (fun r st'=>r=.tup [.slice ((wU s u).1.map dM),.int .i64 (wU s u).2]∧st'=st):=by
 have hok:=h
 simp only[uN,cY,bM] at h
 obtain⟨kp,kq,_,_,k3,k4⟩:=h
 obtain⟨p1,p2⟩:=TA kp
 obtain⟨q1,q2⟩:=TB kq
 have hr:=aVW p2 p1 q2 q1 (most:=20) (fuel:=u.toNat) (by omega) (by omega)
 rw[show((20:Nat):Int)=20 from rfl,show((u.toNat:Nat):Int)=u by omega] at hr
 have hs:mX s.p (fun _ l=>l) s.q 20 u=y9 s.p (fun _ l=>l) s.q 20 u.toNat:=by
  unfold mX
  rw[aN hok]
  try rfl
 rw[←hs] at hr
 unfold wU
 generalize mX s.p (fun _ l=>l) s.q 20 u=T at *
 obtain⟨L,e⟩:=T
 simp only at hr ⊢
 obtain⟨p,q,i0,i1,i2,i3⟩:=s
 simp only[gU] at *
 refine wF [1000000] 2 func86 ntmps86 rfl rfl ?_
 intro _
 simp only[aB,seval,aPM]
 refine(hr _).to ?_
 repeat' (first
  | (simp only[*,aB,seval,aPM])
  | (refine cP (fun h=>?_) (fun h=>?_))
  | (refine aQ (fun h=>?_) (fun h=>?_)))
 all_goals simp_all
theorem aU1(s:Ss)(h:EV s=true)(st:aA):aD prog 86 [gU s,.int .i64 s.used] st (fun r st'=>r=.tup [.slice ((yL s).1.map dM),.int .i64 (yL s).2]∧st'=st):=aU2 s s.used (a8N h) st
abbrev aPK:=zi aX (zi cB (zi gL (zi cI (zi oF (zi dD BY)))))
theorem aWG(s:Ss)(st:aA):aD prog 59 [gU s] st (fun r st'=>r=.bool (BT s)∧st'=st):=by
 have ha:=aU1 s
 unfold BT
 generalize yL s=T at *
 obtain⟨L,e⟩:=T
 obtain⟨p,q,i0,i1,i2,i3⟩:=s
 simp only[gU,EV,TU] at *
 refine aD.done ?_
 refine wF [1000000] 1 func59 ntmps59 rfl rfl ?_
 intro _
 simp only[aB,seval,aPK]
 repeat' (first
  | (simp only[*,aE,aB,seval,aPK])
  | (refine cP (fun h=>?_) (fun h=>?_))
  | (refine(Y5 p _).to ?_) | (refine(aWF q _).to ?_) | (refine(ha (by simp_all) _).to ?_)
  | (refine aQ (fun h=>?_) (fun h=>?_)))
 all_goals (refine⟨?_,aO.refl _⟩;simp only[AV.soft];first | (simp_all;done) | (simp_all;intros;omega))
abbrev aPN:=zi aX (zi gL (zi cI (zi oF (zi dD BY))))
theorem aUM(s:Ss)(u:Int)(st:aA):aD prog 97 [gU s,.int .i64 u] st (OX st ((wU s u).1.map dM) (wU s u).2):=by
 have hr:=aUY s.p s.q 20 u
 unfold wU
 generalize mX s.p (fun _ l=>l) s.q 20 u=T at *
 obtain⟨L,e⟩:=T
 simp only at hr ⊢
 obtain⟨p,q,i0,i1,i2,i3⟩:=s
 simp only[gU] at *
 refine wF [1000000] 2 func97 ntmps97 rfl rfl ?_
 intro _
 simp only[aB,seval,aPN]
 refine(hr _).mono ?_
 intro r s1 h
 obtain⟨o,rfl,hM,hN⟩:=h
 obtain⟨hqc,hqs,hqa,hqw,hqj⟩:=aS.sS hM.choose_spec.2.2.1
 repeat' (first
  | (simp only[*,aB,seval,aPN])
  | (refine cP (fun h=>?_) (fun h=>?_))
  | (refine aQ (fun h=>?_) (fun h=>?_)))
 all_goals exact⟨o,by simp_all,hM,hN⟩
theorem aUN(s:Ss)(u:Int)(st:aA):aD prog 97 [gU s,.int .i64 u] st (CD st [.slice ((wU s u).1.map dM),.int .i64 (wU s u).2]):=
 (aUM s u st).mono fun _ _ ⟨o,h1,h2,_⟩=>by subst h1;exact CD.a6R h2
theorem aUL(s:Ss)(k:Int)(st:aA):aD prog 97 [gU s,.int .i64 s.used] st (CD st [.slice ((yL s).1.map dM),.int .i64 (yL s).2]):=aUN s s.used st
abbrev aPL:=zi aX (zi cB (zi gL (zi cI (zi oF (zi dD BY)))))
theorem aUX(s:Ss)(st:aA):aD prog 72 [gU s] st (fun r st'=>r=.bool (BT s)∧st'=st):=by
 have ha:=fun st=>(aUL s 0 st).a5N
 unfold BT
 generalize yL s=T at *
 obtain⟨L,e⟩:=T
 obtain⟨p,q,i0,i1,i2,i3⟩:=s
 simp only[gU,EV,TU] at *
 refine aD.done ?_
 refine wF [1000000] 1 func72 ntmps72 rfl rfl ?_
 intro _
 simp only[aB,seval,aPL]
 repeat' (first
  | (simp only[*,aE,aB,seval,aPL])
  | (refine cP (fun h=>?_) (fun h=>?_))
  | (refine(PW p _).to ?_) | (refine(X7 q _).to ?_) | (refine(sD _ _ _ _).to ?_) | (refine(ha _).to ?_)
  | (refine aQ (fun h=>?_) (fun h=>?_)))
 all_goals (refine⟨?_,aO.refl _⟩;simp only[AV.soft];first | (simp_all;done) | (simp_all;intros;omega))

theorem Made.a6S{st S:aA}{a r:AV}{bs:List Nat}(hnd:bs.Nodup)(kM:∀b∈bs,st b=none)(hO:aS S a r bs)(hk:∀x o,st x=some o→S x=some o):∃s2,aO S s2∧Made st a r s2:=by
 refine⟨fun x=>if x∈bs then S x else st x,fun x=>?_,bs,hnd,kM,aS.aU _ _ _ (fun b hb=>aN hb) hO,fun b hb=>aK hb⟩
 dsimp only
 by_cases hx:x∈bs
 · rw[aN hx]
   exact⟨fun h=>h,fun o h=>h⟩
 · rw[aK hx]
   refine⟨fun h=>?_,fun o h=>hk x o h⟩
   cases hs:st x with
   | none=>rfl
   | some o=>rw[hk x o hs] at h;cases h
abbrev ND:=zi gL (zi cI oF)
theorem a6G(s:Ss)(hp:s.p.length≤1048576)(hps:∀c∈s.p,AH c)(hq:s.q.length≤1048576)(hqx:∀t∈s.q,t.small=true)(st:aA):aD prog 36 [gU s] st (Made st (gU s)):=by
 obtain⟨p,q,i0,i1,i2,i3⟩:=s
 simp only at hp hps hq hqx
 simp only[gU]
 refine aD.uH ?_
 refine wF [1000000,1] 1 func36 ntmps36 rfl rfl ?_
 intro _
 simp only[aB,seval,ND]
 intro b hb1 b2 hb2
 obtain⟨hne,C0⟩:=fT.two hb1 hb2
 refine zq5 [(0,1),(1,1),(3,1),(4,1),(2,0),(6,1),(5,0),(7,2),(8,2),(9,2)] [0,1,3,4,6] (dJ.aC b (.cells [.slice (p.map aG),.slice (q.map Tm.av),.int .i64 i0,.int .i64 i1,.int .i64 i2,.int .i64 i3])) mixed (by decide +kernel) (by decide +kernel) (by decide +kernel) rfl (jM (by rw[aA.aF _ _ hne.symm,aA.aJ])) ?_
 simp only[eC,aB,seval,ND]
 refine(aMN p _ hp fun x hx s=>aMM x s (hps x hx)).mono ?_
 rintro q0 s1 m1
 obtain⟨k1,bs1,C1⟩:=C0.made m1
 have e1:=k1 b (by simp)
 have e2:=k1 b2 (by simp)
 simp only[eC,hne,hne.symm,dV,cM] at e1 e2
 obtain⟨hqc,hqs,hqa,hqw,hqj⟩:=C1.own.jO rfl q0 (by simp)
 simp only[aB,seval,ND]
 refine⟨jM e1,?_⟩
 refine(MA q _ hq fun x hx s=>HZ x s (hqx x hx)).mono ?_
 rintro q1 s2 m2
 obtain⟨k2,bs2,C2⟩:=C1.made m2
 have f1:=k2 b (by simp)
 have f2:=k2 b2 (by simp)
 rw[e1] at f1
 rw[e2] at f2
 obtain⟨hrc,hrs,hra,hrw,hrj⟩:=C2.own.jO rfl q1 (by simp)
 simp only[aM,eC,hne,f1,f2,hqc,hqs,hrc,hrs,dR,aB,seval,ND]
 refine⟨jM f1,?_⟩
 refine((C2.aC (d:=b) (by simp) _).aC (d:=b2) (by simp) _).done fun h=>?_
 exact sT.2 ⟨_,rfl,h⟩

end Go.AW
namespace Go.AW

end Go.AW
namespace Go.AW
open Go.Proofs.Tryz



end Go.AW
namespace Go.AW

theorem AB{U:aA}{bo x:Nat}{os:List AV}(h:os≠[]→x≠bo):bK U bo os x=U x:=by
 by_cases hl:os= []
 · rw[hl,AC]
 · rw[nQ (h hl)]
section
variable {P:Program}
def yX(ops:Array Oper)(S:List Nat):List (Nat×Nat)→Array Bool→Option (Array Bool)
 | [],listed=>some listed
 | (i,0)::r,listed=>if decide (Region.ready .any ops listed= [i])&& !S.contains i then yX ops S r (listed.setIfInBounds i true) else none
 | (i,1)::r,listed=>if(Region.ready .any ops listed).contains i&&Region.free .any ops listed i&&S.contains i then yX ops S r (listed.setIfInBounds i true) else none
 | _::_,_=>none
theorem PD{ops:Array Oper}{S:List Nat}{s0:aA}{K K':AF→aA→Prop}{n:Nat}:∀(p:List (Nat×Nat)) (listed l':Array Bool) (φ:AF) (st:aA),tG ops listed→yX ops S p listed=some l'→eQ s0 st →
 (∀φ st,tG ops l'→eQ s0 st→K' φ st→wB P ops S s0 K n l' φ st)→z8 P ops s0 K' p φ st→wB P ops S s0 K (p.length+n) listed φ st
 | [],listed,l',φ,st,hcl,hB,hx,hK,h=>by
  simp only[yX,Option.some.injEq] at hB
  subst hB
  rw[bG,jW]
  exact hK φ st hcl hx h
 | (i,0)::r,listed,l',φ,st,hcl,hB,hx,hK,h=>by
  simp only[yX] at hB
  split at hB
  case isFalse=>cases hB
  rename_i hc
  simp only[cY,bM,gZ] at hc
  obtain⟨o,ho,h'⟩:=h
  have hr:i∈Region.ready .any ops listed:=by rw[hc.1];simp
  rw[a8,show r.length+1+n=(r.length+n)+1 by omega]
  refine⟨fun h0=>(by rw[hc.1] at h0;cases h0),fun j hj=>?_⟩
  rw[hc.1] at hj
  obtain rfl:j=i:=by simpa using hj
  exact⟨o,ho,.inr ⟨hc.2,tL (fun v st' q=>⟨.inr q.1,PD r _ _ _ _ (hcl.set hr) hB q.1 hK q.2⟩) h'⟩⟩
 | (i,1)::r,listed,l',φ,st,hcl,hB,hx,hK,h=>by
  simp only[yX] at hB
  split at hB
  case isFalse=>cases hB
  rename_i hc
  simp only[cY] at hc
  obtain⟨⟨hr,hf⟩,hS⟩:=hc
  obtain⟨o,ho,v,hv,h'⟩:=h
  have hr':i∈Region.ready .any ops listed:=by simpa using hr
  rw[a8,show r.length+1+n=(r.length+n)+1 by omega]
  exact WN ho hS _ listed φ st hcl (Region.free_spec ho hf) hr' hv hx (PD r _ _ _ _ (hcl.set hr') hB hx hK h')
 | (i,k+2)::r,listed,l',φ,st,hcl,hB,hx,hK,h=>by simp [yX] at hB
inductive PT where
 | fin (p:List (Nat×Nat))
 | br (p:List (Nat×Nat)) (i j:Nat) (a b:PT)
def PT.size:PT→Nat
 | .fin p=>p.length
 | .br p _ _ a _=>p.length+(a.size+1)
def EN(ops:Array Oper)(S:List Nat):PT→Array Bool→Bool
 | .fin p,l=>sU ops S p l&&BE p
 | .br p i j a b,l=>match yX ops S p l with
  | none=>false
  | some l'=>decide (Region.ready .any ops l'= [i,j])&& !S.contains i&& !S.contains j&&decide (b.size=a.size)&&EN ops S a (l'.setIfInBounds i true)&&EN ops S b (l'.setIfInBounds j true)
def rY(P:Program)(ops:Array Oper)(s0:aA)(K:AF→aA→Prop):PT→AF→aA→Prop
 | .fin p,φ,st=>iF P ops s0 K p φ st
 | .br p i j a b,φ,st=>iF P ops s0 (fun φ st=>
  (match ops[i]? with | none=>False | some o=>bA P [] ops [o] (fun φ' st'=>eQ s0 st'∧rY P ops s0 K a φ' st') φ st) ∧
  (match ops[j]? with | none=>False | some o=>bA P [] ops [o] (fun φ' st'=>eQ s0 st'∧rY P ops s0 K b φ' st') φ st)) p φ st
def L0(P:Program)(ops:Array Oper)(s0:aA)(K:AF→aA→Prop)(t:PT)(φ:AF)(st:aA):Prop:=eQ s0 st∧rY P ops s0 K t φ st
def vQ(P:Program)(ops:Array Oper)(s0:aA)(K:AF→aA→Prop)(t:PT)(φ:AF)(st:aA):Option Oper→Prop
 | none=>False
 | some o=>bA P [] ops [o] (L0 P ops s0 K t) φ st
def J4(P:Program)(ops:Array Oper)(s0:aA)(K:AF→aA→Prop)(i j:Nat)(a b:PT)(φ:AF)(st:aA):Prop:=vQ P ops s0 K a φ st ops[i]?∧vQ P ops s0 K b φ st ops[j]?
theorem OY{ops:Array Oper}{s0:aA}{K:AF→aA→Prop}{p:List (Nat×Nat)}{φ:AF}{st:aA}:rY P ops s0 K (.fin p) φ st=iF P ops s0 K p φ st:=by rw[rY]
theorem V3{ops:Array Oper}{s0:aA}{K:AF→aA→Prop}{p:List (Nat×Nat)}{i j:Nat}{a b:PT}{φ:AF}{st:aA}:rY P ops s0 K (.br p i j a b) φ st=iF P ops s0 (J4 P ops s0 K i j a b) p φ st:=by
 rw[rY]
 congr 1
theorem aQ4{l:List Oper}{s0:aA}{K:AF→aA→Prop}{i j:Nat}{a b:PT}{φ:AF}{st:aA}:J4 P l.toArray s0 K i j a b φ st=(vQ P l.toArray s0 K a φ st l[i]?∧vQ P l.toArray s0 K b φ st l[j]?):=by
 simp only[J4,x7]
theorem aQ5{ops:Array Oper}{s0:aA}{K:AF→aA→Prop}{t:PT}{φ:AF}{st:aA}{o:Oper}:vQ P ops s0 K t φ st (some o)=bA P [] ops [o] (L0 P ops s0 K t) φ st:=by rw[vQ]
theorem V8{ops:Array Oper}{s0:aA}{K:AF→aA→Prop}{t:PT}{φ:AF}{st:aA}:L0 P ops s0 K t φ st=(eQ s0 st∧rY P ops s0 K t φ st):=by rw[L0]
theorem aN7{ops:Array Oper}{s0:aA}{K:AF→aA→Prop}{t:PT}{φ:AF}{st:aA}{i:Nat}(h:vQ P ops s0 K t φ st ops[i]?) :
 ∃o,ops[i]?=some o∧i8 P ops o φ st (fun v st'=>eQ s0 st'∧rY P ops s0 K t (φ.put o.dst v) st'):=by
 cases ho:ops[i]? with
 | none=>rw[ho] at h;exact h.elim
 | some o=>
  rw[ho] at h
  refine⟨o,rfl,?_⟩
  simp only[vQ,bA] at h
  unfold i8
  split at h
  · rename_i hg
    rw[hg]
    exact AA (fun v s q=>q) h
  · rename_i hg
    rw[hg]
    exact⟨h.1,h.2⟩
  · exact h.elim
theorem PC{ops:Array Oper}{S:List Nat}{s0:aA}{K:AF→aA→Prop}:∀(t:PT) (listed:Array Bool) (φ:AF) (st:aA),tG ops listed→EN ops S t listed=true→eQ s0 st→rY P ops s0 K t φ st→wB P ops S s0 K t.size listed φ st
 | .fin p,listed,φ,st,hcl,hB,hx,h=>by
  simp only[EN,cY] at hB
  rw[OY] at h
  exact GE p _ _ _ hcl hB.1 (.inl ⟨hB.2,hx⟩) (u7 _ _ _ h)
 | .br p i j a b,listed,φ,st,hcl,hB,hx,h=>by
  simp only[EN] at hB
  split at hB
  · cases hB
  rename_i l' hl'
  simp only[cY,bM,gZ] at hB
  obtain⟨⟨⟨⟨⟨hr,hSi⟩,hSj⟩,hsz⟩,hBa⟩,hBb⟩:=hB
  rw[V3] at h
  refine PD (K':=J4 P ops s0 K i j a b) p _ _ _ _ hcl hl' hx (fun φ st hcl hx hK=>?_) (u7 _ _ _ h)
  refine⟨fun h0=>(by rw[hr] at h0;cases h0),fun k hk=>?_⟩
  have hk':=hk
  rw[hr] at hk'
  rcases cG.1 hk' with rfl | hk'
  · obtain⟨o,ho,h2⟩:=aN7 hK.1
    exact⟨o,ho,.inr ⟨hSi,tL (fun v st' q=>⟨.inr q.1,PC a _ _ _ (hcl.set hk) hBa q.1 q.2⟩) h2⟩⟩
  · obtain rfl:k=j:=by simpa using hk'
    obtain⟨o,ho,h2⟩:=aN7 hK.2
    have:=fun(v:AV) (st':aA) (q:eQ s0 st'∧rY P ops s0 K b (φ.put o.dst v) st')=>PC (S:=S) b _ _ _ (hcl.set hk) hBb q.1 q.2
    rw[hsz] at this
    exact⟨o,ho,.inr ⟨hSj,tL (fun v st' q=>⟨.inr q.1,this v st' q⟩) h2⟩⟩
theorem aSF{N:Nat}{id:Nat}{l:List Oper}{Q:Exit→AF→aA→Prop}{φ:AF}{st:aA}(t:PT)(S:List Nat)(s0:aA)(hm:P.follows .mixedOrders=true)(hok:qF N l.toArray=true)(hl:t.size=l.length)(hB:EN l.toArray S t (Array.replicate l.toArray.size false)=true)(hs:eQ s0 st)
 (h:rY P l.toArray s0 (Q .normal) t φ st):fR P N (.region id l.toArray true) Q φ st:=by
 intro a w R
 refine wp_region_any hm ?_
 have R0:Rel N a { w with drawn:=w.drawn+1 } φ st:=⟨R.size,R.defers,R.frame,R.store⟩
 have key:=PC (P:=P) (ops:=l.toArray) (S:=S) (s0:=s0) (K:=Q .normal) t (Array.replicate l.toArray.size false) φ st (fun j o _ hl=>(by rw[Q9] at hl;cases hl)) hB hs h
 rw[hl,←List.size_toArray] at key
 exact JP (yW hok) (xG hok) (w0:=w) (st0:=st) (fun φ' st' a' w' k R' T s=>⟨φ',st',R',T,s,k⟩) _ _ _ _ _ _ (JQ _ _ _ _ key) R0 (bT.refl _ _) ⟨rfl,rfl,rfl⟩
end
@[congr] theorem bCK {P:Program} {ops:Array Oper} {s0:aA} {K:AF→aA→Prop} {t:PT} {φ φ':AF} {st st':aA} {o o':Option Oper} (h1:φ=φ') (h2:st=st') (h3:o=o'):vQ P ops s0 K t φ st o=vQ P ops s0 K t φ' st' o':=by rw[h1,h2,h3]
end Go.AW
namespace Go.AW
open Go.Proofs.Tryz


theorem D8{b:List Bt}(h:0<iU b):iU b=((2+eO b:Nat):Int)∧2+eO b≤b.length∧3≤2+eO b∧mT (nF b)=true∧xE b=nF b:=by
 by_cases h0:b.length<2
 · rw[L6 h0] at h;omega
 by_cases h1:eO b<1∨2001<eO b
 · rw[BH h0 h1] at h;omega
 by_cases h2:b.length<2+eO b
 · rw[L7 h0 h1 h2] at h;omega
 have hd:=L8 h0 h1 h2
 cases hf:mT (nF b) with
 | false=>rw[hf,aK (by simp)] at hd;omega
 | true=>
  rw[hf,aN rfl] at hd
  exact⟨hd,by omega,by omega,rfl,by unfold xE;rw[aN h]⟩
def hH(b:List Bt):List Fr×List Bt×Bool:=
 if h:0<iU b then let r:=hH (b.drop (2+eO b));(nF b::r.1,r.2)
 else if iU b=0 then([],b,false) else([],[],true)
termination_by b.length
decreasing_by
 have:=D8 h
 rw[lP]
 omega
def JL(T:List Fr×List Bt×Bool)(r:AV):Prop:=r=.tup [.slice (T.1.map bJ),.slice (T.2.1.map bX),.bool T.2.2]
theorem sN(l:List Fr):∀e∈l.map bJ,e.bV=false:=fun e he=>by simp only[cF] at he;obtain⟨t,_,rfl⟩:=he;rfl
theorem oW(l:List Fr):∀e∈l.map bJ,e.width=2:=fun e he=>by simp only[cF] at he;obtain⟨t,_,rfl⟩:=he;rfl
abbrev UH:=zi aX (zi cB (zi iQ (zi lM pI)))
set_option maxHeartbeats 1000000 in
theorem aU5(b:List Bt)(st:aA)(hb:b.length≤4000000):aD prog 31 [.slice (b.map bX)] st (fun r st'=>JL (hH b) r∧st'=st):=by
 generalize hT:hH b=T
 refine aD.drop (Q:=JL T) (aD.fin ?_)
 refine wF [1000000,6] 1 func31 ntmps31 rfl rfl ?_
 intro _
 simp only[aB,seval,UH]
 refine oI (σ:=List Bt×List Fr×Nat×aA) [1000000,6] [] (fun x=>(x.2.1++(hH x.1).1,(hH x.1).2)=T∧x.2.1.length+x.1.length≤4000000∧aO x.2.2.2 st∧(x.2.1.map bJ≠[]→x.2.2.2 x.2.2.1=none)) (fun x=>[(0,.slice (x.1.map bX)),(2,.fslice []),(3,.fslice []),(4,.bool false),(5,bQ 2 x.2.2.1 (x.2.1.map bJ))]) (fun x=>bK x.2.2.2 x.2.2.1 (x.2.1.map bJ)) (fun x=>x.1.length) (by decide +kernel) ⟨(b,[],0,st),⟨by rw[eE];exact hT,by simp only[bG];omega,aO.refl _,by simp⟩,aP.mk (by simp only[bS,lT,aB,seval])⟩ ?_
 rintro⟨b,acc,p,s0⟩ ⟨h1,h2,h3,h4⟩
 simp only at h1 h2 h3 h4 ⊢
 have hn:=YD b (bK s0 p (acc.map bJ))
 unfold hH at h1
 have DX:=D8 (b:=b)
 generalize hN:iU b=N at *
 generalize hF:xE b=F at *
 obtain⟨y,s⟩:=F
 simp only[aB,seval]
 refine hn.to ?_
 simp only[aM,aA.aJ,bJ,aB,↓aW,seval,UH]
 intro b6 hb6
 obtain⟨h5,h6⟩:=CS hb6
 have hW:∀o:AO,(bK s0 p (acc.map bJ)).aC b6 o=bK (s0.aC b6 o) p (acc.map bJ):=fun o=>nR h6
 have h6n:∀o:AO,(bK (s0.aC b6 o) p (acc.map bJ)) b6=some o:=fun o=>by rw[AB h6,aA.aJ]
 have h6u:∀(o o':AO),(bK (s0.aC b6 o) p (acc.map bJ)).aC b6 o'=bK (s0.aC b6 o') p (acc.map bJ):=fun o o'=>by rw[nR h6,dR]
 have h7:∀o:AO,aO (s0.aC b6 o) st:=fun o=>h3.aC ((h3 b6).1 h5)
 have h8:∀o:AO,acc.map bJ≠[]→(s0.aC b6 o) p=none:=fun o h=>by rw[aA.aF _ _ (dA (h6 h))];exact h4 h
 rw[hW]
 by_cases hz:N=0
 case pos=>
  subst hz
  rw[dif_neg (by omega),aN rfl] at h1
  simp only[eU] at h1
  simp only[mC,aB,seval]
  exact⟨p,_,_,rfl,h8 _,sN _,⟨2,oW _⟩,h7 _,by rw[←h1];simp only[JL,iM,lV,iC,lF,bR,bS]⟩
 have hz':=gO hz
 by_cases hg:N<0
 case pos=>
  rw[dif_neg (by omega),aK hz] at h1
  simp only[eU] at h1
  have hg':=kI hg
  simp only[hz',hg',dW,dU,mC,aB,seval]
  exact⟨p,_,_,rfl,h8 _,sN _,⟨2,oW _⟩,h7 _,by rw[←h1];simp only[JL,iM,lV,nE,lF,bR,bS]⟩
 have hg':=gO hg
 have hp:0<N:=by omega
 obtain⟨e1,e2,e3,-,e5⟩:=DX hp
 rw[dif_pos hp] at h1
 simp only at h1
 subst e1
 have hsl:=fun φ h=>aN2 (φ:=φ) (x:=.tmp 26) (l:=b) (k:=2+eO b) h e2
 simp only[hz',hg',dW,h6n,aB,seval,UH]
 refine gA mS tW tY rfl rfl (g8 rfl rfl) (oW _) (h8 _) (by simp only[aE,a8,bG];omega) (by simp only[aE,a8,bG];omega) (fun p' hp'=>?_)
 rw[show acc.map bJ++ [.agg [.int .i64 y,.str s]]=(acc++ [nF b]).map bJ by rw[←e5];simp [bJ]] at hp' ⊢
 simp only[aB,seval]
 rw[hsl _ (by simp only[aB,seval])]
 simp only[aB,seval]
 refine⟨(b.drop (2+eO b),acc++ [nF b],p',_),by simp only[lP];omega,⟨?_,?_,h7 _,hp'⟩,aP.mk (by simp only[aB,seval]<;>rfl)⟩
 · rw[←h1];simp
 · simp only[dS,a8,bG,lP];omega
theorem TX(b:List Bt):(hH b).2.1.length≤b.length:=by
 unfold hH
 split
 · rename_i h
   have h1:=D8 h
   have:=TX (b.drop (2+eO b))
   rw[lP] at this
   simp only
   omega
 · split<;>simp
termination_by b.length
decreasing_by
 have:=D8 (by assumption)
 rw[lP]
 omega
def pU(r:List Bt)(k:Bool):Bool:=if k then r.isEmpty else decide (iU r=0)
abbrev UI:=zi aX (zi cB (zi iQ (zi oE pI)))
theorem Y2(r:List Bt)(k:Bool)(st:aA):aD prog 30 [gS r k] st (fun x st'=>x=.bool (pU r k)∧st'=st):=by
 unfold gS
 refine aD.oS ?_
 refine wF [1000000,3] 1 func30 ntmps30 rfl rfl ?_
 intro _
 unfold pU
 cases k with
 | true=>
  have hz:decide ((r.length:Int)=0)=r.isEmpty:=by cases r with
   | nil=>rfl
   | cons x l=>simp;omega
  simp only[hz,aE,aB,seval,UI]
  exact aO.refl _
 | false=>
  have hn:=YD r st
  generalize iU r=N at *
  generalize xE r=F at *
  obtain⟨y,s⟩:=F
  simp only[bJ] at hn
  simp only[aB,seval,UI]
  refine hn.to ?_
  simp only[aM,aA.aJ,aB,↓aW,seval,UI]
  intro b1 hb1
  have hD:=fun o=>(aO.refl st).aC (o:=o) hb1
  exact hD _
theorem aRU{st:aA}{w b:Nat}{l:List AV}(h:l≠[]→st b=none):Lit st w l (bQ w b l) (bK st b l):=by
 cases l with
 | nil=>exact .inl ⟨rfl,rfl⟩
 | cons x l=>exact .inr ⟨b,h (by simp),rfl,rfl⟩
theorem yF(l:List Bt):∀e∈l.map bX,e.bV=false:=fun e he=>by simp only[cF] at he;obtain⟨t,_,rfl⟩:=he;rfl
theorem wJ(l:List Bt):∀e∈l.map bX,e.width=1:=fun e he=>by simp only[cF] at he;obtain⟨t,_,rfl⟩:=he;rfl
theorem wI(l:List Bt):tO 1 (l.map bX):=fun e he=>by simp only[cF] at he;obtain⟨t,_,rfl⟩:=he;exact⟨rfl,rfl⟩
def jE(r:List Bt)(k:Bool)(x:List Bt):(List Bt×Bool)×List Fr:=if pU r k=false∨k=true then((r,k),[]) else(((hH (r++x)).2.1,(hH (r++x)).2.2),(hH (r++x)).1)
def oL(T:(List Bt×Bool)×List Fr)(v:AV):Prop:=v=.tup [gS T.1.1 T.1.2,bO T.2]
abbrev xP:=zi cB (zi iQ (zi oE lM))
set_option maxHeartbeats 1000000 in
theorem aWC(r:List Bt)(k:Bool)(x:List Bt)(st:aA)(hr:r.length+x.length≤4000000):aD prog 18 [gS r k,cE x] st (fun v st'=>oL (jE r k x) v∧st'=st):=by
 have hv:=fun s=>Y2 r k s
 unfold gS at hv ⊢
 refine aD.drop (Q:=oL _) (aD.fin ?_)
 refine wF [1000000,4] 2 func18 ntmps18 rfl rfl ?_
 intro _
 simp only[aB,seval,xP]
 intro b4 h4
 refine(hv _).to ?_
 have hno:pU r k=false∨k=true→jE r k x=((r,k),[]):=fun h=>by unfold jE;rw[aN h]
 have yU:pU r k=true→k=false→jE r k x=(((hH (r++x)).2.1,(hH (r++x)).2.2),(hH (r++x)).1):=fun h h'=>by unfold jE;rw[aK (by rintro(e | e)<;>first | (rw[h] at e;cases e) | (rw[h'] at e;cases e))]
 generalize pU r k=d at *
 generalize jE r k x=T at *
 simp only[aB,seval]
 cases d with
 | false=>
  cases hno (.inl rfl)
  simp only[kO,aB,seval]
  refine wX [(0,1),(1,1),(2,1),(4,1),(5,1),(7,1),(3,0),(6,1),(8,0),(9,1)] [0,1,2,4,5,7,6,9] dJ mixed rfl dF ?_
  simp only[aB,seval,xP]
  refine gA (P:=prog) (st:=aA.aC st b4 (.cells [.fslice [],.bool false])) (b:=0) (l:=[]) (xs:=(r.map bX)) jC tV tX rfl rfl (wI _) (by simp) (by simp) (by simp only[bG,aE];omega) (by simp only[bG,aE];omega) (fun b hb=>?_)
  rw[eE] at hb ⊢
  have hne:r.map bX≠[]→b4≠b:=fun h e=>by have:=hb h;rw[←e,aA.aJ] at this;cases this
  have e1:∀o:AO,(bK (aA.aC st b4 o) b (r.map bX)) b4=some o:=fun o=>by rw[AB hne,aA.aJ]
  have e2:∀o o':AO,(bK (aA.aC st b4 o) b (r.map bX)).aC b4 o'=bK (aA.aC st b4 o') b (r.map bX):=fun o o'=>by rw[nR hne,dR]
  have e3:∀o:AO,r.map bX≠[]→(aA.aC st b4 o) b=none:=fun o h=>by have:=hb h;rw[aA.aF _ _ (dA (hne h))] at this ⊢;exact this
  refine⟨dF,?_⟩
  simp only[aM,e1,e2,mC,nS,iK,aB,seval,xP]
  exact⟨dF,b,_,_,rfl,e3 _,yF _,⟨1,wJ _⟩,(aO.refl _).aC h4,by simp only[oL,gS,gJ,iM,lV,nE,lF,bR,bS];rfl⟩
 | true=>
  cases k with
  | true=>
   cases hno (.inr rfl)
   simp only[fG,aB,seval,xP]
   refine wX [(0,1),(1,1),(2,1),(4,1),(5,1),(7,1),(3,0),(6,1),(8,0),(9,1)] [0,1,2,4,5,7,6,9] dJ mixed rfl dF ?_
   simp only[aB,seval,xP]
   refine gA (P:=prog) (st:=aA.aC st b4 (.cells [.fslice [],.bool false])) (b:=0) (l:=[]) (xs:=(r.map bX)) jC tV tX rfl rfl (wI _) (by simp) (by simp) (by simp only[bG,aE];omega) (by simp only[bG,aE];omega) (fun b hb=>?_)
   rw[eE] at hb ⊢
   have hne:r.map bX≠[]→b4≠b:=fun h e=>by have:=hb h;rw[←e,aA.aJ] at this;cases this
   have e1:∀o:AO,(bK (aA.aC st b4 o) b (r.map bX)) b4=some o:=fun o=>by rw[AB hne,aA.aJ]
   have e2:∀o o':AO,(bK (aA.aC st b4 o) b (r.map bX)).aC b4 o'=bK (aA.aC st b4 o') b (r.map bX):=fun o o'=>by rw[nR hne,dR]
   have e3:∀o:AO,r.map bX≠[]→(aA.aC st b4 o) b=none:=fun o h=>by have:=hb h;rw[aA.aF _ _ (dA (hne h))] at this ⊢;exact this
   refine⟨dF,?_⟩
   simp only[aM,e1,e2,mC,nS,iK,aB,seval,xP]
   exact⟨dF,b,_,_,rfl,e3 _,yF _,⟨1,wJ _⟩,(aO.refl _).aC h4,by simp only[oL,gS,gJ,iM,lV,nE,lF,bR,bS];rfl⟩
  | false=>
   cases yU rfl rfl
   simp only[fG,aB,seval,xP]
   refine gA (P:=prog) (st:=aA.aC st b4 (.cells [.fslice [],.bool false])) (b:=0) (l:=[]) (xs:=(r.map bX)) jC tV tX rfl rfl (wI _) (by simp) (by simp) (by simp only[bG,aE];omega) (by simp only[bG,aE];omega) (fun b hb=>?_)
   rw[eE] at hb ⊢
   simp only[aB,seval]
   refine gA jC tV tX rfl rfl (wI x) (wJ _) hb (by simp only[aE];omega) (by simp only[aE];omega) (fun b' hb'=>?_)
   rw[←oN] at hb' ⊢
   have AY:=((aRU (w:=1) hb').call (post:=[]) (yF _) (wJ _) (fun _=>rfl) (aU5 (r++x) _ (by rw[dS];omega)))
   have hlen:=TX (r++x)
   rw[dS] at hlen
   generalize hH (r++x)=T at *
   obtain⟨fs,rest,bk⟩:=T
   simp only at hlen
   simp only[aB,seval]
   refine AY.mono ?_
   rintro _ _ ⟨rfl,rfl⟩
   simp only[aB,seval,xP]
   refine gA (P:=prog) (st:=aA.aC st b4 (.cells [.fslice [],.bool false])) (b:=0) (l:=[]) (xs:=(rest.map bX)) jC tV tX rfl rfl (wI _) (by simp) (by simp) (by simp only[bG,aE];omega) (by simp only[bG,aE];omega) (fun c hc=>?_)
   rw[eE] at hc ⊢
   have hne:rest.map bX≠[]→b4≠c:=fun h e=>by have:=hc h;rw[←e,aA.aJ] at this;cases this
   have e1:∀o:AO,(bK (aA.aC st b4 o) c (rest.map bX)) b4=some o:=fun o=>by rw[AB hne,aA.aJ]
   have e2:∀o o':AO,(bK (aA.aC st b4 o) c (rest.map bX)).aC b4 o'=bK (aA.aC st b4 o') c (rest.map bX):=fun o o'=>by rw[nR hne,dR]
   have e3:∀o:AO,rest.map bX≠[]→(aA.aC st b4 o) c=none:=fun o h=>by have:=hc h;rw[aA.aF _ _ (dA (hne h))] at this ⊢;exact this
   simp only[aM,e1,e2,mC,nS,iK,aB,seval,xP]
   exact⟨c,_,_,rfl,e3 _,yF _,⟨1,wJ _⟩,(aO.refl _).aC h4,by simp only[oL,gS,gJ,iM,lV,iC,lF,bR,bS]⟩
theorem aV.VM{s:aA}{xs os:List AV}{bo:List Nat}{b:Nat}(X:aV s xs os bo)(hb:b∉bo)(o:AO):aV (s.aC b o) xs os bo:=
 aV.aU _ _ _ (fun x hx=>aA.aF _ _ (fun(e:x=b)=>hb (e▸hx))) X
def sF(c:eF)(j:Int):eF:=
 let m1:=j+(c.rest.length:Int)
 let m2:=m1+1+(aH eV c.wait:Int)+(aH fF c.prog:Int)
 let m:=m2+1+(aH fF c.ses.p:Int)+(aH Tm.dB c.ses.q:Int)
 ⟨seqB c.rest.length j,decide (m1.tmod 3=0),dX nY eV c.wait (m1+1),dX nV fF c.prog (m1+1+(aH eV c.wait:Int)),decide (m2.tmod 3=0),
  ⟨dX nV fF c.ses.p (m2+1),dX Tm.mark Tm.dB c.ses.q (m2+1+(aH fF c.ses.p:Int)),m,m+1,m+1+1,m+1+1+1⟩,decide ((m+1+1+1+1).tmod 3=0),dX nY eV c.out (m+1+1+1+1+1)⟩
theorem ZT(r:List Bt)(bk:Bool)(wt:List Fr)(pr:List Cl)(ac:Bool)(ss:Ss)(td:Bool)(ou:List Fr)(k m:Int)(hm:k+(r.length:Int)+1+(aH eV wt:Int)+(aH fF pr:Int)+1+(aH fF ss.p:Int)+(aH Tm.dB ss.q:Int)=m) :
 sF ⟨r,bk,wt,pr,ac,ss,td,ou⟩ k=⟨seqB r.length k,decide ((k+(r.length:Int)).tmod 3=0),dX nY eV wt (k+(r.length:Int)+1),dX nV fF pr (k+(r.length:Int)+1+(aH eV wt:Int)),decide ((k+(r.length:Int)+1+(aH eV wt:Int)+(aH fF pr:Int)).tmod 3=0),
  ⟨dX nV fF ss.p (k+(r.length:Int)+1+(aH eV wt:Int)+(aH fF pr:Int)+1),dX Tm.mark Tm.dB ss.q (k+(r.length:Int)+1+(aH eV wt:Int)+(aH fF pr:Int)+1+(aH fF ss.p:Int)),m,m+1,m+1+1,m+1+1+1⟩,decide ((m+1+1+1+1).tmod 3=0),dX nY eV ou (m+1+1+1+1+1)⟩:=by
 subst hm
 rfl
abbrev E2:=zi aX (zi cB (zi iQ (zi oD (zi oE (zi lM (zi gL (zi cI (zi oF oG))))))))
theorem aV0(l:List eF)(j:Int)(o:AV)(bs:List Nat)(st:aA)(hO:aS st (.slice (l.map bP)) o bs)(hnd:bs.Nodup)(hj0:0≤j)(hj1:j+aH fY l≤1099511627776) :
 aD prog 25 [o,.int .i64 j] st (CE st (.slice ((dX sF fY l j).map bP)) o bs (j+aH fY l)):=by
 obtain⟨hlen,haL⟩:=hO.len
 rw[aE] at hlen
 have haL:=haL prog 27 _ a95
 rw[aE] at haL
 refine wF [1000000] 2 func25 ntmps25 rfl rfl ?_
 simp only[cV]
 intro ⟨hf,_⟩
 have hl:=hlen hf
 clear hf hlen
 simp only[aB,seval]
 refine dI (σ:=List eF×Int×aA) [1000000] [0,4] l
  (fun i p=>p.1.length=i∧p.1++dX sF fY (l.drop i) p.2.1=dX sF fY l j∧0≤p.2.1∧p.2.1+aH fY (l.drop i)=j+aH fY l∧aS p.2.2 (.slice ((p.1++l.drop i).map bP)) o bs∧∀q,q∉bs→p.2.2 q=st q)
  (fun i p=>[(1,.int .i64 p.2.1),(5,.int .i64 i)]) (fun _ p=>p.2.2) (by decide +kernel)
  ⟨([],j,st),⟨rfl,rfl,hj0,rfl,hO,fun _ _=>rfl⟩,aP.mk (by simp only[aB,↓aW,seval])⟩ (fun i x p hx hlt a7 hdr hinv=>?_) (fun p hge hinv=>?_)
 case refine_2=>
  obtain⟨done,k,s⟩:=p
  obtain⟨i1,i2,i3,i4,i5,i6⟩:=hinv
  simp only at i1 i2 i3 i4 i5 i6
  simp only[haL,hge,aB,seval]
  simp only[iA,aH,dX,eU] at i2 i4 i5
  exact⟨by rw[←i4];simp,by rw[←i2];exact i5,i6⟩
 obtain⟨done,k,s⟩:=p
 obtain⟨i1,i2,i3,i4,i5,i6⟩:=hinv
 simp only at i1 i2 i3 i4 i5 i6
 rw[hdr] at i2 i4 i5
 simp only[dX] at i2
 simp only[aH,fY] at i4
 have mU:=HT (av:=bP) (done:=done) (x:=x) (rest:=l.drop (i+1))
 obtain⟨b,bs',w,A,oe,bo,B,rfl,hbs,hsb,hA,hoe,hbo,hbn,n7,hw,hi,pY⟩:=i5.focus hnd mU
 rw[kR] at hw
 subst hw
 rw[i1] at hA
 obtain⟨r,bk,wt,pr,ac,ss,td,ou⟩:=x
 have hcm:fY ⟨r,bk,wt,pr,ac,ss,td,ou⟩=r.length+1+aH eV wt+aH fF pr+1+aH fF ss.p+aH Tm.dB ss.q+4+1+aH eV ou:=rfl
 have hck:=ZT r bk wt pr ac ss td ou k _ rfl
 obtain⟨q0,q1,q2,q3,q4,q5,rfl,X0⟩:=H1.1 hoe
 have w6:((done++(⟨r,bk,wt,pr,ac,ss,td,ou⟩:eF)::l.drop (i+1)).map bP).length=l.length:=by
  rw[aE,dS,a8,lP,i1];omega
 rw[w6] at haL pY ⊢
 simp only at i4
 have hat:=kT (P:=prog) (b:=b) (len:=l.length) (w:=13) (i:=i) qU hlt
 replace hsb:s b=some (.cells (A++ [q0,.bool bk,q1,q2,.bool ac,q3,q4,.int .i64 ss.bB,.int .i64 ss.used,.int .i64 ss.bL,.int .i64 ss.fin,.bool td,q5]++B)):=hsb
 obtain⟨e1,e2,e3,e4,e5,e6⟩:=vN (B:=B) hA
 obtain⟨c0,t0,g0,w0,j0⟩:=X0.jO rfl q0 (by simp)
 obtain⟨c1,t1,g1,w1,j1⟩:=X0.jO rfl q1 (by simp)
 obtain⟨c2,t2,g2,w2,j2⟩:=X0.jO rfl q2 (by simp)
 obtain⟨c3,t3,g3,w3,j3⟩:=X0.jO rfl q3 (by simp)
 obtain⟨c4,t4,g4,w4,j4⟩:=X0.jO rfl q4 (by simp)
 obtain⟨c5,t5,g5,w5,j5⟩:=X0.jO rfl q5 (by simp)
 generalize hf0:r.length=n0 at *
 generalize hf1:aH eV wt=n1 at *
 generalize hf2:aH fF pr=n2 at *
 generalize hf3:aH fF ss.p=n3 at *
 generalize hf4:aH Tm.dB ss.q=n4 at *
 generalize hf5:aH eV ou=n5 at *
 have o1:i*13+5+1=i*13+6:=rfl
 have o2:i*13+5+2=i*13+7:=rfl
 have o3:i*13+5+3=i*13+8:=rfl
 have o4:i*13+5+4=i*13+9:=rfl
 have o5:i*13+5+5=i*13+10:=rfl
 simp only[lQ,haL,a7,hat,hsb,e6,g0,aB,seval,E2]
 obtain⟨p0,hO0,hn0,hs0,hp0⟩:=X0.piece hbo 0 (a:=cE r) (o:=q0) rfl rfl
 refine(YT r k q0 p0 _ hO0 hn0 (by omega) (by omega)).mono ?_
 rintro _ s1 ⟨rfl,m0,k0⟩
 rw[hf0] at m0
 have X1:=hp0 s1 _ k0 m0
 have y1:=(k0 b (fun h=>hbn (hs0 b h))).trans hsb
 rw[hf0]
 have hw1:=aZ (n:=k+(n0:Int)+1)
 simp only[lQ,qL,v7,hat,y1,e1,e2,e3,g1,hw1,aB,seval,E2]
 obtain⟨p1,hO1,hn1,hs1,hp1⟩:=(X1.VM hbn _).piece hbo 1 (a:=bO wt) (o:=q1) rfl rfl
 refine(YV wt _ q1 p1 _ hO1 hn1 (by omega) (by omega)).mono ?_
 rintro _ s2 ⟨rfl,m1,k1⟩
 have X2:=hp1 s2 _ k1 m1
 have y2:=k1 b (fun h=>hbn (hs1 b h))
 rw[aA.aJ] at y2
 rw[hf1]
 simp only[hat,y2,e3,g2,aB,seval,E2]
 obtain⟨p2,hO2,hn2,hs2,hp2⟩:=X2.piece hbo 2 (a:=.slice (pr.map aG)) (o:=q2) rfl rfl
 refine(YU pr _ q2 p2 _ hO2 hn2 (by omega) (by omega)).mono ?_
 rintro _ s3 ⟨rfl,m2,k2⟩
 have X3:=hp2 s3 _ k2 m2
 have y3:=(k2 b (fun h=>hbn (hs2 b h))).trans y2
 rw[hf2]
 have hw2:=aZ (n:=k+(n0:Int)+1+(n1:Int)+(n2:Int)+1)
 simp only[lQ,qL,v7,hat,y3,e1,e2,e3,g3,hw2,aB,seval,E2]
 obtain⟨p3,hO3,hn3,hs3,hp3⟩:=(X3.VM hbn _).piece hbo 3 (a:=.slice (ss.p.map aG)) (o:=q3) rfl rfl
 refine(YU ss.p _ q3 p3 _ hO3 hn3 (by omega) (by omega)).mono ?_
 rintro _ s4 ⟨rfl,m3,k3⟩
 have X4:=hp3 s4 _ k3 m3
 have y4:=k3 b (fun h=>hbn (hs3 b h))
 rw[aA.aJ] at y4
 rw[hf3]
 simp only[o1,hat,y4,e3,g4,aB,seval,E2]
 obtain⟨p4,hO4,hn4,hs4,hp4⟩:=X4.piece hbo 4 (a:=.slice (ss.q.map Tm.av)) (o:=q4) rfl rfl
 refine(KD ss.q _ q4 p4 _ hO4 hn4 (by omega) (by omega)).mono ?_
 rintro _ s5 ⟨rfl,m4,k4⟩
 have X5:=hp4 s5 _ k4 m4
 have y5:=(k4 b (fun h=>hbn (hs4 b h))).trans y4
 rw[hf4]
 generalize hm:k+(n0:Int)+1+(n1:Int)+(n2:Int)+1+(n3:Int)+(n4:Int)=m at *
 have hv1:=aZ (n:=m+1)
 have hv2:=aZ (n:=m+1+1)
 have hv3:=aZ (n:=m+1+1+1)
 have hv4:=aZ (n:=m+1+1+1+1)
 have hv5:=aZ (n:=m+1+1+1+1+1)
 simp only[qL,v7,dR,o2,o3,o4,o5,hat,y5,e1,e2,e3,g5,hv1,hv2,hv3,hv4,hv5,aB,seval,E2]
 obtain⟨p5,hO5,hn5,hs5,hp5⟩:=(X5.VM hbn _).piece hbo 5 (a:=bO ou) (o:=q5) rfl rfl
 refine(YV ou _ q5 p5 _ hO5 hn5 (by omega) (by omega)).mono ?_
 rintro _ s6 ⟨rfl,m5,k5⟩
 have X6:=hp5 s6 _ k5 m5
 have y6:=k5 b (fun h=>hbn (hs5 b h))
 rw[aA.aJ] at y6
 rw[hf5]
 have hw4:=aZ (n:=(i:Int)+1)
 simp only[hw4,aB,seval]
 have K:∀x,x∉bo→x≠b→s6 x=s x:=fun x h1 h2=>by
  rw[k5 x (fun h=>h1 (hs5 x h)),aA.aF _ _ h2,k4 x (fun h=>h1 (hs4 x h)),k3 x (fun h=>h1 (hs3 x h)),aA.aF _ _ h2,k2 x (fun h=>h1 (hs2 x h)),k1 x (fun h=>h1 (hs1 x h)),aA.aF _ _ h2,k0 x (fun h=>h1 (hs0 x h))]
 have kM:=pY s6 (bP (sF ⟨r,bk,wt,pr,ac,ss,td,ou⟩ k)) (.agg _) rfl (fun q _ h1 h2=>K q h2 h1) y6 (by rw[hck];exact H1.2 ⟨q0,q1,q2,q3,q4,q5,rfl,X6⟩)
 rw[HU] at kM
 refine⟨(_,m+1+1+1+1+1+(n5:Int),s6),⟨?_,?_,?_,?_,kM,?_⟩,aP.mk (by simp only[aB,seval])⟩
 · simp [i1]
 · simp only
   rw[←i2,hcm]
   simp only[kC,List.singleton_append]
   congr 3
   omega
 · simp only;omega
 · simp only;omega
 · intro x hx
   show s6 x=st x
   rw[K x (fun h=>hx (n7 x h)) (fun e=>hx (by rw[hbs];simp [e])),i6 x hx]
abbrev a88:=zi aX (zi oD tA)
theorem YW(s:Sv)(j:Int)(o:AV)(bs:List Nat)(st:aA)(hO:aS st (fJ s) o bs)(hnd:bs.Nodup)(hj0:0≤j)(hj1:j+aH fY s.cs≤1099511627776) :
 aD prog 11 [o,.int .i64 j] st (CE st (fJ { s with cs:=dX sF fY s.cs j }) o bs (j+aH fY s.cs)):=by
 obtain⟨q,rfl,hq⟩:=H2.1 hO
 obtain⟨hqc,hqs,hqa,hqw,hqj⟩:=aS.sS hq
 refine wF [1000000] 2 func11 ntmps11 rfl rfl ?_
 intro _
 simp only[hqa,hqw,aB,seval,a88]
 refine(aV0 s.cs j q bs st hq hnd hj0 hj1).mono ?_
 rintro _ s2 ⟨rfl,hk⟩
 simp only[aB,seval]
 exact⟨rfl,H2.2 ⟨q,rfl,hk.1⟩,hk.2⟩
theorem aL9{st:aA}{b:Nat}{l:List Fr}(hb:l.map bJ≠[]→st b=none):Made st (bO l) (bQ 2 b (l.map bJ)) (bK st b (l.map bJ)):=by
 have hO:∀(s:aA) (l:List Fr),aV s (l.map bJ) (l.map bJ) []:=fun s l=>by
  induction l with
  | nil=>exact⟨rfl,rfl⟩
  | cons x l ih=>
   simp only[bR,aV]
   exact⟨_,_,[],[],rfl,rfl,sT.2 ⟨[],rfl,rfl,rfl⟩,ih⟩
 have hw:∀e∈l.map bJ,e.width=2:=by intro e h;simp only[cF] at h;obtain⟨t,_,rfl⟩:=h;rfl
 have:=SZ (hO (bK st b (l.map bJ)) l) hw
 rw[eU] at this
 refine⟨_,?_,?_,this,?_⟩
 · cases l.map bJ<;>simp [pQ]
 · intro x hx
   cases hl:l.map bJ with
   | nil=>rw[hl] at hx;simp [pQ] at hx
   | cons y ys=>
    rw[hl] at hx
    simp only[pQ,cG,cX,dG] at hx
    subst hx
    exact hb (by rw[hl];simp)
 · intro x hx
   cases hl:l.map bJ with
   | nil=>rfl
   | cons y ys=>
    rw[hl] at hx
    simp only[pQ,cG,cX,dG] at hx
    simp only[bK]
    exact aA.aF _ _ hx
theorem W6{st:aA}{l:List Fr}{K:AV→aA→Prop}(hb:l.length≤4194304)(hK:∀b,(l.map bJ≠[]→st b=none)→K (bQ 2 b (l.map bJ)) (bK st b (l.map bJ))) :
 kF prog 44 st (.fslice []) (bO l) K:=by
 have hw:∀e∈l.map bJ,e.width=2∧e.cells.all AV.storable=true:=by intro e h;simp only[cF] at h;obtain⟨t,_,rfl⟩:=h;exact⟨rfl,rfl⟩
 have:=gA (P:=prog) (st:=st) (b:=0) (l:=[]) (xs:=l.map bJ) (x:=bO l) (K:=K) mS tW tY rfl rfl hw (by simp) (by simp) (by simp only[bG,aE];omega) (by simp only[bG,aE];omega) (by simpa using hK)
 exact this
theorem a6A(l:List Fr)(st:aA)(hb:l.length≤4194304):aD prog 34 [bO l] st (Made st (bO l)):=by
 refine JU func34 ntmps34 rfl rfl (by kernel_rfl) (by show 1≤_;decide +kernel) ?_
 intro _
 refine sC (nD [1000000] (by decide +kernel) ?_)
 simp only[aB,seval]
 refine sC (sC (J1 VK (by decide +kernel) (by decide +kernel) rfl fun c hc=>?_))
 refine nD [1000000] (by decide +kernel) ?_
 simp only[aB,seval]
 refine aQ (fun h=>?_) (fun h=>?_)
 · subst h
   have hn:l= []:=by
    rcases l with _ | ⟨x,l⟩
    · rfl
    · have:=hc (by simp);cases this
   subst hn
   simp only[aB,seval]
   exact⟨[],mJ,by simp,by simp [aS],fun _ _=>rfl⟩
 · refine nD [1000000] (by decide +kernel) ?_
   simp only[aB,seval,lM]
   refine W6 hb fun b hb'=>?_
   simp only[aB,seval]
   exact aL9 hb'
abbrev aOX:=zi aX (zi cB (zi oD tA))
theorem aVA(s:Sv)(k:Int)(st:aA):aD prog 16 [fJ s,.int .i64 k] st (fun r st'=>r=.bool (decide (0≤k)&&decide (k<s.cs.length))∧st'=st):=by
 obtain⟨cs,q⟩:=s
 simp only[fJ]
 refine wF [1000000] 2 func16 ntmps16 rfl rfl ?_
 intro _
 simp only[aB,seval,aOX]
 refine cP (fun h=>?_) (fun h=>?_)
 · have h':0≤k:=by simpa using h
   simp only[h,aE,aB,seval,aOX]
   all_goals (try simp [h'])
 · have h':¬ 0≤k:=by simpa using h
   simp only[h,aB,seval]
   all_goals (try simp [])
noncomputable def sG(c:eF):Bool:=c.wait.all mT&&((!c.act||(BT c.ses&&decide (c.ses.fin= -1)))&&(pU c.rest c.brk&&qG c.prog))
noncomputable def vT(s:Sv):Bool:=s.cs.all sG&&(decide (s.cs.length≤4)&&(decide (0≤s.bB)&&decide (s.bB≤300)))
theorem aOG(b:List Bt):(hH b).1.length≤b.length:=by
 unfold hH
 split
 · rename_i h
   have h1:=D8 h
   have:=aOG (b.drop (2+eO b))
   rw[lP] at this
   simp only[a8]
   omega
 · split<;>simp
termination_by b.length
decreasing_by
 have:=D8 (by assumption)
 rw[lP]
 omega
def t6(c:eF)(x:List Bt):eF:={ c with rest:=(jE c.rest c.brk x).1.1,brk:=(jE c.rest c.brk x).1.2,wait:=c.wait++(jE c.rest c.brk x).2 }
noncomputable def wS(s:Sv)(k:Int)(x:List Bt):Sv:=if(decide (0≤k)&&decide (k<s.cs.length))=true∧vT s=true then(match s.cs[k.toNat]? with
 | some c=>{ s with cs:=s.cs.set k.toNat (t6 c x) }
 | none=>s) else s
theorem aJ7{s:Sv}{k:Int}{x:List Bt}(h:¬((decide (0≤k)&&decide (k<s.cs.length))=true∧vT s=true)):wS s k x=s:=by
 unfold wS
 rw[aK h]
theorem aJ8{s:Sv}{k:Nat}{x:List Bt}{c:eF}(hc:s.cs[k]?=some c)(h:vT s=true):wS s (k:Int) x= { s with cs:=s.cs.set k (t6 c x) }:=by
 have hk:=(fC.1 hc).1
 unfold wS
 rw[aN ⟨by rw[vC (show(0:Int)≤(k:Int) by omega),vC (show(k:Int)<(s.cs.length:Int) by omega)];try rfl,h⟩]
 simp only[kB,hc]
theorem KZ(r:List Bt)(k:Bool)(x:List Bt):(jE r k x).1.1.length≤r.length+x.length∧(jE r k x).2.length≤r.length+x.length:=by
 unfold jE
 split
 · simp
 · have h1:=TX (r++x)
   have h2:=aOG (r++x)
   rw[dS] at h1 h2
   exact⟨h1,h2⟩
theorem aOF{α:Type}{f:α→Nat}:∀(l:List α) (i:Nat) (y:α),aH f (l.set i y)≤aH f l+f y
 | [],i,y=>by simp [aH]
 | x::l,0,y=>by simp only[qL,aH];omega
 | x::l,i+1,y=>by
  have:=aOF (f:=f) l i y
  simp only[v7,aH]
  omega
theorem aOE:∀l:List Fr,aH eV l=2*l.length
 | []=>rfl
 | x::l=>by
  have:=aOE l
  simp only[aH,eV,a8] at this ⊢
  omega
theorem a1J(c:eF)(x:List Bt):fY (t6 c x)≤fY c+3*(c.rest.length+x.length):=by
 obtain⟨h1,h2⟩:=KZ c.rest c.brk x
 simp only[fY,t6,aOE,dS]
 omega
theorem a1I{s:Sv}{k:Int}{x:List Bt}(hs:pD s.cs≤1048576)(hx:x.length≤1048576):aH fY (wS s k x).cs≤100000000:=by
 have h1:=QI s.cs
 have h2:s.cs.length+aH fH s.cs≤1048576:=hs
 unfold wS
 split
 · split
   · rename_i c hc
     have h3:=aOF (f:=fY) s.cs k.toNat (t6 c x)
     have h4:=a1J c x
     have h5:=pC (f:=fY) (cH hc)
     have h6:=pC (f:=fH) (cH hc)
     have h7:c.rest.length≤fH c:=by unfold fH;omega
     simp only
     omega
   · omega
 · omega
abbrev M4:=zi aX (zi cB (zi oE (zi lM (zi gL (zi oF (zi oG (zi dD pI)))))))
theorem aU9(c:eF)(st:aA):aD prog 29 [bP c] st (fun r st'=>r=.bool (sG c)∧st'=st):=by
 obtain⟨r,bk,wt,pr,ac,ss,td,ou⟩:=c
 have hs:=fun s=>aWG ss s
 have hd:=fun s=>Y2 r bk s
 have hp:=fun s=>Y5 pr s
 simp only[bP,wM,sG]
 unfold gU at hs
 unfold gS at hd
 generalize BT ss=sv at *
 generalize pU r bk=dv at *
 generalize qG pr=pv at *
 refine aD.oS ?_
 refine wF [1000000] 1 func29 ntmps29 rfl rfl ?_
 simp only[cV,AV.fits,dE,aE]
 intro eW
 have hwl:=eW.2.2.1.1
 have hm:maxLen=9223372036854775807:=by rfl
 simp only[aB,seval,M4]
 refine dI (σ:=Unit) [1000000] [1] wt (fun i _=>(wt.take i).all mT=true) (fun i _=>[(2,.bool false),(3,.int .i64 i)]) (fun _ _=>st) (by decide +kernel) ⟨(),by simp,aP.mk (by simp only[aB,↓aW,seval])⟩ (fun i x _ hx hlt a7 hdr hinv=>?_) (fun _ hge hinv=>?_)
 · have hw:=aZ (n:=(i:Int)+1)
   have hat:=bH (av:=bJ) mS hx (nX x)
   have hfv:=fun s=>Y3 x s
   obtain⟨xk,xs⟩:=x
   simp only[bJ] at hat hfv
   simp only[a7,aE,hat,aB,seval,M4]
   refine(hfv _).to ?_
   cases hx2:mT (xk,xs) with
   | false=>
    have:=tN hx hx2
    rw[this,jT]
    simp only[kO,aB,seval]
    first | exact aO.refl _ | exact⟨rfl,aO.refl _⟩
   | true=>
    simp only[fG,hw,aB,seval]
    refine⟨(),?_,aP.mk (by simp only[aB,seval])⟩
    rw[fN,hx,xZ,hinv]
    simp [hx2]
 · rw[eD] at hinv
   rw[hinv,gM]
   simp only[aE,hge,aB,seval,M4]
   repeat' (first
    | (simp only[*,aB,seval,M4])
    | (refine cP (fun h=>?_) (fun h=>?_))
    | (refine(hs _).to ?_) | (refine(hd _).to ?_) | (refine(hp _).to ?_)
    | (refine aQ (fun h=>?_) (fun h=>?_)))
   all_goals first | exact aO.refl _ | (refine⟨?_,aO.refl _⟩;first | (simp_all;done))
abbrev E3:=zi aX (zi cB (zi oD (zi tA oG)))
theorem aVB(s:Sv)(st:aA):aD prog 17 [fJ s] st (fun r st'=>r=.bool (vT s)∧st'=st):=by
 obtain⟨cs,qu⟩:=s
 simp only[fJ,vT]
 refine wF [1000000] 1 func17 ntmps17 rfl rfl ?_
 simp only[cV,AV.fits,dE,aE]
 intro ⟨hl,_⟩
 simp only[aB,seval,E3]
 refine dI (σ:=Unit) [1000000] [1] (cs.take 5) (fun i _=>(cs.take i).all sG=true∧i≤5) (fun i _=>[(2,.bool false),(3,.int .i64 i)]) (fun _ _=>st) (by decide +kernel) ⟨(),by simp,aP.mk (by simp only[aB,↓aW,seval])⟩ (fun i x _ hx hlt a7 hdr hinv=>?_) (fun _ hge hinv=>?_)
 · have hw:=aZ (n:=(i:Int)+1)
   rw[dZ] at hlt
   have hx':cs[i]?=some x:=by rw[OS] at hx;split at hx<;>first | exact hx | cases hx
   have g1:((i:Int)<(cs.length:Int))=True:=kI (by omega)
   have g2:((i:Int)≤4)=True:=kI (by omega)
   have hat:=bH (av:=bP) (P:=prog) qU hx' (kR x)
   have hf:=fun s=>aU9 x s
   simp only[g1,g2,dU,fX,aE,hat,wL,kR,aB,seval,E3]
   refine(hf _).to ?_
   cases hx2:sG x with
   | false=>
    have:=tN hx' hx2
    rw[this,jT]
    simp only[kO,aB,seval]
   | true=>
    simp only[fG,hw,aB,seval]
    refine⟨(),⟨?_,by omega⟩,aP.mk (by simp only[aB,seval])⟩
    rw[fN,hx',xZ,hinv.1]
    simp [hx2]
 · rw[dZ] at hge hinv
   by_cases h5:cs.length≤4
   · have e1:(min 5 cs.length)=cs.length:=by omega
     rw[e1] at hinv
     rw[eD] at hinv
     have g1:(((min 5 cs.length:Nat):Int)<(cs.length:Int))=False:=gO (by omega)
     have g2:((cs.length:Int)≤4)=True:=kI (by omega)
     have g3:(cs.length≤4)=True:=kI h5
     rw[hinv.1,gM]
     simp only[aE,g1,g2,g3,dU,gM,dZ,aB,seval,E3]
     repeat' (first
      | (simp only[*,gM,aB,seval,E3])
      | (refine cP (fun h=>?_) (fun h=>?_))
      | (refine aQ (fun h=>?_) (fun h=>?_)))
     all_goals first | (simp_all;done) | skip
   · have g1:(((min 5 cs.length:Nat):Int)≤4)=False:=gO (by omega)
     have g2:((cs.length:Int)≤4)=False:=gO (by omega)
     have g3:(cs.length≤4)=False:=gO h5
     have g4:decide (((min 5 cs.length:Nat):Int)<(cs.length:Int))=decide (5<cs.length):=by rw[wN];omega
     simp only[aE,g3,g4,dW,jT,xW,dZ,aB,seval,E3]
     repeat' (first
      | (simp only[*,aE,dW,aB,seval,E3])
      | (refine cP (fun h=>?_) (fun h=>?_))
      | (refine aQ (fun h=>?_) (fun h=>?_)))
     all_goals first | (simp_all;done) | skip
theorem aD.aRT{P:Program}{g:FuncId}{args:List AV}{st:aA}{w:Nat}{l:List AV}(hj:∀e∈l,e.bV=false)(hw:∀e∈l,e.width=w)(x:aD P g args st (fun r st'=>dY st' w r l∧(∀b∈bU r,st b=none)∧aO st' st)):aD P g args st (fun r st'=>r=.slice l∧st'=st):=
 x.lN fun r st' ⟨h1,h2,h3⟩=>⟨.slice l,st,h3.uV,fun h v S y=>by
  obtain⟨y1,y2⟩:r.isAgg=jS v∧VC h st' r v.cells.toList:=by rcases h1 with ⟨rfl,_⟩ | ⟨_,_,rfl,_⟩<;>exact y
  obtain⟨c,hc⟩:=y2.one h1.shape.1
  rw[hc] at y2
  exact⟨by rw[←y1,h1.shape.1];try rfl,by rw[hc];exact h1.seen S h3 h2 hj hw y2⟩,rfl,rfl⟩
theorem aR1{P:Program}{t t':TypeId}{ag:Bool}{kd:IntKind}{w bytes n:Nat}{zs:List AV}{st:aA}{K:AV→aA→Prop}(hI:eI P t=some (ag,w))(hB:eB P t=some bytes)(hZ:eZ P t=some zs)(hu:P.underlying t'=some (.int kd))(hz:zs.length=w)(hw:w≠0)(hzs:zs.all AV.storable=true)(h1:n*bytes≤140737488355328)(h2:n≤4194304)(hn:n≠0)(hK:∀b,st b=none→K (.mslice b 0 n w) (st.aC b (.cells (jH zs n)))):qO P t t' st (.fslice []) (.int .i64 (n:Int)) K:=by
 unfold qO
 simp only[hI,hB,hZ,hu,kB]
 exact⟨hz,hw,hzs,by omega,trivial,h1,by omega,fun h=>absurd h hn,fun _=>hK⟩
abbrev UJ:=zi aX (zi d9 iQ)
theorem aTR(n:Nat)(hn:n≤4000000)(st:aA):aD prog 73 [.fslice [],.int .i64 (n:Int)] st (fun r st'=>dY st' 1 r []∧(∀b∈bU r,st b=none)∧aO st' st):=by
 have hw1:=aZ (n:=0)
 have hw2:=aZ (n:=(n:Int) - 0)
 rw[Int.sub_zero] at hw2
 have h0:=gO (show ¬((n:Int)<0) by omega)
 refine wF [1000000] 2 func73 ntmps73 rfl rfl ?_
 intro _
 simp only[h0,dW,bG,hw1,hw2,Int.sub_zero,aB,seval,UJ]
 by_cases hz:n=0
 case pos=>
  have hz':=gO (show ¬(0<(n:Int)) by omega)
  simp only[hz',dW,aB,seval]
  exact⟨.inl ⟨rfl,rfl⟩,by simp [bU],aO.refl _⟩
 have hz':=kI (show 0<(n:Int) by omega)
 simp only[hz',dU,bG,aB,seval,UJ]
 rw[TT jC (by simp only[aB,seval])]
 simp only[aB,seval]
 refine aR1 jC tV tX qI rfl (by omega) rfl (by omega) (by omega) hz fun b hb=>?_
 simp only[bG,aB,seval,UJ]
 rw[MO jC (by simp only[aB,↓aW,seval]) (nO _)]
 simp only[aB,seval]
 refine⟨.inr ⟨b,_,rfl,aA.aJ _ _ _,by simp,by simp⟩,?_,(aO.refl st).aC hb⟩
 intro y hy
 simp only[bU,cG,cX,dG] at hy
 rw[hy]
 exact hb
theorem a1O(Ls:List (List AV))(i:Nat):(Ls.take i).flatten.length≤Ls.flatten.length:=by
 conv=>rhs;rw[←oO i Ls,List.flatten_append,dS]
 omega
theorem sM{Ls:List (List AV)}{i:Nat}{l:List AV}(h:Ls[i]?=some l):(Ls.take (i+1)).flatten=(Ls.take i).flatten++l:=by
 rw[fN,h,List.flatten_append]
 simp
abbrev MW:=zi aX (zi d9 (zi iQ aPX))
set_option maxHeartbeats 1000000 in
theorem aTG(Ls:List (List AV))(hf:∀l∈Ls,tO 1 l)(hj:∀e∈Ls.flatten,e.bV=false)(hn:Ls.flatten.length≤4000000)(h2:Ls.length≤1000)(st:aA):aD prog 41 [.fslice (Ls.map AV.slice)] st (fun r st'=>r=.slice Ls.flatten∧st'=st):=by
 refine aD.args (args':=[.slice (Ls.map AV.slice)]) ?_ fun hp vs S V=>?_
 case refine_2=>
  simp only[cT] at V ⊢
  obtain⟨v,r,rfl,V1,V2⟩:=V
  exact⟨v,r,rfl,V1.DL,V2⟩
 refine aD.aRT (w:=1) hj (fun e he=>by obtain⟨l,hl,he⟩:=List.mem_flatten.1 he;exact(hf l hl e he).1) ?_
 have hfl:=a1O Ls
 refine wF [1000000] 1 func41 ntmps41 rfl rfl ?_
 intro _
 simp only[aE,aB,seval,MW]
 refine oI (σ:=Nat) [1000000] [0,2,9,10] (fun i=>i≤Ls.length) (fun i=>[(3,.int .i64 (((Ls.take i).flatten.length:Nat):Int)),(11,.int .i64 (i:Int))]) (fun _=>st) (fun i=>Ls.length - i) (by decide +kernel) ⟨0,nO _,aP.mk (by simp only[kE,List.flatten_nil,bG,aB,↓aW,seval])⟩ ?_
 intro i hi
 by_cases hlt:i<Ls.length
 case pos=>
  have a7:=kI (show(i:Int)<(Ls.length:Int) by omega)
  obtain⟨l,hl⟩:∃l,Ls[i]?=some l:=⟨_,eK hlt⟩
  have hat:=bH (P:=prog) (av:=AV.slice) (t:=109) QS hl rfl
  have hs:=sM hl
  have h3:=hfl (i+1)
  rw[hs,dS] at h3
  have hw:=aZ (n:=(((Ls.take i).flatten.length:Nat):Int)+(l.length:Int))
  have hw1:=aZ (n:=(i:Int)+1)
  have hz:=gO (show ¬((((Ls.take i).flatten.length:Nat):Int)+(l.length:Int)<0) by omega)
  simp only[a7,dU,hat,hw,aB,seval,MW]
  simp only[hz,dW,hw1,aB,seval]
  refine⟨i+1,by omega,by omega,aP.mk ?_⟩
  rw[hs,dS]
  simp only[aB,seval]
  simp only[Int.natCast_add]
 have hie:i=Ls.length:=by omega
 subst hie
 have a7:=gO (Int.lt_irrefl (Ls.length:Int))
 rw[eD]
 simp only[a7,dW,aB,seval]
 refine(aTR _ hn st).mono ?_
 rintro q s0 ⟨hA,hF,hD⟩
 have hq:=hA.shape
 simp only[aE,aB,seval,MW]
 refine oI (σ:=Nat×AV×aA) [1000000] [2,25,26] (fun x=>x.1≤Ls.length∧dY x.2.2 1 x.2.1 (Ls.take x.1).flatten∧(∀b∈bU x.2.1,st b=none)∧aO x.2.2 st) (fun x=>[(6,x.2.1),(27,.int .i64 (x.1:Int))]) (fun x=>x.2.2) (fun x=>Ls.length - x.1) (by decide +kernel) ⟨(0,q,s0),⟨nO _,hA,hF,hD⟩,aP.mk (by simp only[aB,↓aW,seval])⟩ ?_
 rintro⟨i,q,s⟩ ⟨hi,hA,hF,hD⟩
 simp only at hi hA hF hD
 have hq:=hA.shape
 by_cases hlt:i<Ls.length
 case pos=>
  have a7:=kI (show(i:Int)<(Ls.length:Int) by omega)
  obtain⟨l,hl⟩:∃l,Ls[i]?=some l:=⟨_,eK hlt⟩
  have hat:=bH (P:=prog) (av:=AV.slice) (t:=109) QS hl rfl
  have hs:=sM hl
  have h3:=hfl (i+1)
  rw[hs,dS] at h3
  have hw1:=aZ (n:=(i:Int)+1)
  simp only[a7,dU,hat,aB,seval,MW]
  refine dY.tP jC tV tX rfl (by decide) hA rfl (hf l (cH hl)) (by omega) fun q' s' hA' k1 k2=>?_
  have hq':=hA'.shape
  simp only[hw1,aB,seval]
  have hF':∀b∈bU q',st b=none:=fun b hb=>(k2 b hb).elim (hF b) fun h=>(hD b).1 h
  have hD2:∀y o,st y=some o→s' y=some o:=fun y o h=>by
   rw[k1 y (fun hy=>by rw[hF y hy] at h;cases h) (fun hy=>by rw[hF' y hy] at h;cases h)]
   exact(hD y).2 o h
  refine⟨(i+1,q',s'),by simp only;omega,⟨by simp only;omega,by simp only;rw[hs];exact hA',hF',fun y=>⟨fun h=>?_,hD2 y⟩⟩,aP.mk (by simp only[aB,seval])⟩
  cases hy:st y with
  | none=>rfl
  | some o=>have:=hD2 y o hy;simp only at h;rw[this] at h;cases h
 have hie:i=Ls.length:=by omega
 subst hie
 rw[eD] at hA
 have a7:=gO (Int.lt_irrefl (Ls.length:Int))
 simp only[a7,dW,aB,seval]
 exact⟨hA,hF,hD⟩
theorem a6W{x y:Nat}(hx:x<256)(hy:y<256):GD .i64 ((x:Int)*256) (y:Int)=(x:Int)*256+(y:Int):=by
 unfold GD
 have h1:(BitVec.ofInt IntKind.i64.bits ((x:Int)*256))=BitVec.ofNat IntKind.i64.bits (x*256):=by
  rw[show(x:Int)*256=((x*256:Nat):Int) by omega,BitVec.ofInt_natCast]
 have h2:(BitVec.ofInt IntKind.i64.bits (y:Int))=BitVec.ofNat IntKind.i64.bits y:=BitVec.ofInt_natCast ..
 have hb:IntKind.i64.bits=64:=rfl
 rw[h1,h2,BitVec.toNat_or,BitVec.toNat_ofNat,BitVec.toNat_ofNat,hb,Nat.mod_eq_of_lt (by omega),Nat.mod_eq_of_lt (by omega)]
 have h3:x*256 ||| y=x*256+y:=by
  have:=Nat.shiftLeft_add_eq_or_of_lt (i:=8) (b:=y) (by omega) x
  rw[Nat.shiftLeft_eq] at this
  exact this.symm
 rw[h3,wrap64 (by omega) (by omega)]
 omega
theorem a77{x:Nat}(hx:x<256):GG .shl .i64 (x:Int) 8=some (.int .i64 ((x:Int)*256)):=by
 unfold GG
 rw[aK (by omega)]
 show some (AV.int .i64 (IntKind.i64.wrap ((x:Int)*256)))=_
 rw[wrap64 (by omega) (by omega)]
def lI:List (Fin 256)→Int
 | x::y::_=>(x.val:Int)*256+(y.val:Int)
 | _=> -1
def yG(x:Fin 256):AV:=.int .u8 (x.val:Int)
theorem aXJ(x:Fin 256):pM prog 5 3 (.int .u8 (x.val:Int))=some (.int .i64 (x.val:Int)):=by
 have h:=x.isLt
 have hw:=aZ (n:=(x.val:Int))
 unfold pM
 simp only[VL,qI,hw]
abbrev MX:=zi aX (zi tB (zi iQ (zi dD a9T)))
theorem aVZ(l:List (Fin 256))(st:aA):aD prog 42 [.slice (l.map yG)] st (fun r st'=>r=.int .i64 (lI l)∧st'=st):=by
 refine wF [1000000] 1 func42 ntmps42 rfl rfl ?_
 simp only[cV,AV.fits,dE,aE]
 intro ⟨hl,_⟩
 match l,hl with
 | [],_=> 
  simp only[bS,bG,aB,seval,MX]
  rfl
 | [x],_=> 
  simp only[bR,bS,bG,a8,aB,↓aW,seval,MX]
  rfl
 | x::y::r,hl=>
  have h1:=gO (show ¬(((x::y::r).length:Int)<2) by simp only[a8];omega)
  have eH:dP prog 25 (.slice ((x::y::r).map yG)) (.int .i64 0)=some (.pptr (yG x)):=bH (av:=yG) (i:=0) jC rfl rfl
  have gC:dP prog 25 (.slice ((x::y::r).map yG)) (.int .i64 1)=some (.pptr (yG y)):=bH (av:=yG) (i:=1) jC rfl rfl
  have hs:=a77 x.isLt
  have ho:=a6W x.isLt y.isLt
  generalize hL:x::y::r=L at *
  simp only[h1,dW,aE,aB,seval,MX]
  refine wP [(0,1),(1,1),(5,1),(6,1),(2,2),(3,1),(4,1),(7,2),(8,1),(9,1),(10,1)] [0,1,5,6,2,3,4,7,8,9,10] mixed ?_
  simp only[eH,gC,yG,hs,ho,aXJ,aB,seval,MX]
  rw[←hL]
  try rfl
theorem W4{st:aA}{l:List Bt}{K:AV→aA→Prop}(hb:l.length≤4194304)(hK:∀b,(l.map bX≠[]→st b=none)→K (bQ 1 b (l.map bX)) (bK st b (l.map bX))) :
 kF prog 25 st (.fslice []) (.slice (l.map bX)) K:=by
 have:=gA (P:=prog) (st:=st) (b:=0) (l:=[]) (xs:=l.map bX) (x:=.slice (l.map bX)) (K:=K) jC tV tX rfl rfl (wI l) (by simp) (by simp) (by simp only[bG,aE];omega) (by simp only[bG,aE];omega) (fun b hb=>by rw[eE] at hb ⊢;exact hK b hb)
 exact this
theorem PS(l:List Bt)(st:aA)(hb:l.length≤4194304):aD prog 33 [cE l] st (fun r st'=>r=cE l∧st'=st):=by
 have key:aD prog 33 [cE l] st (fun r st'=>∃b,(l.map bX≠[]→st b=none)∧r=bQ 1 b (l.map bX)∧st'=bK st b (l.map bX)):=by
  refine JU func33 ntmps33 rfl rfl (by kernel_rfl) (by show 1≤_;decide +kernel) ?_
  intro _
  refine sC (nD [1000000] (by decide +kernel) ?_)
  simp only[aB,seval]
  refine sC (sC (J1 I1 (by decide +kernel) (by decide +kernel) rfl fun c hc=>?_))
  refine nD [1000000] (by decide +kernel) ?_
  simp only[aB,seval]
  refine aQ (fun h=>?_) (fun h=>?_)
  · subst h
    have hn:l= []:=by
     rcases l with _ | ⟨x,l⟩
     · rfl
     · have:=hc (by simp);cases this
    subst hn
    simp only[aB,seval]
    exact⟨0,rfl,rfl⟩
  · refine nD [1000000] (by decide +kernel) ?_
    simp only[aB,seval,iQ]
    refine W4 hb fun b hb'=>?_
    simp only[aB,seval]
    exact⟨b,hb',rfl,rfl⟩
 refine aD.fin (key.mono ?_)
 rintro _ _ ⟨b,hb',rfl,rfl⟩
 exact⟨b,_,st,rfl,hb',yF _,⟨1,wJ _⟩,nT,rfl⟩
theorem YS(l:List Bt)(st:aA):aD prog 42 [cE l] st (fun r st'=>r=.int .i64 (lI l)∧st'=st):=aVZ l st
theorem HQ{b:List Bt}(h:b.length<2):lI b= -1:=by
 match b,h with
 | [],_=>rfl
 | [x],_=>rfl
theorem HP{b:List Bt}(h:¬b.length<2):lI b=(eO b:Int):=by
 rcases b with _ | ⟨x,_ | ⟨y,r⟩⟩
 · simp at h
 · simp at h
 · simp [lI,eO]
theorem aL3(b:List Bt):eO b<65536:=by
 rcases b with _ | ⟨x,_ | ⟨y,r⟩⟩
 · simp [eO]
 · simp [eO]
 · have:=x.isLt;have:=y.isLt;simp only[eO];omega
theorem a56{b:List Bt}:(0≤lI b∧¬(1≤lI b∧lI b≤2001))↔(¬b.length<2∧(eO b<1∨2001<eO b)):=by
 by_cases h:b.length<2
 · rw[HQ h];omega
 · rw[HP h];omega
theorem aMI{b:List Bt}:iU b=0↔(lI b<0∨((1≤lI b∧lI b≤2001)∧(b.length:Int)<lI b+2)):=by
 by_cases h0:b.length<2
 · rw[L6 h0,HQ h0];simp
 rw[HP h0]
 by_cases h1:eO b<1∨2001<eO b
 · rw[BH h0 h1];omega
 by_cases h2:b.length<2+eO b
 · rw[L7 h0 h1 h2];omega
 rw[L8 h0 h1 h2]
 split<;>omega
abbrev MY:=zi aX (zi cB (zi iQ (zi oE dD)))
theorem XY(r:List Bt)(k:Bool)(st:aA)(hr:r.length≤4194304):aD prog 40 [gS r k] st (fun x st'=>x=.bool (pU r k)∧st'=st):=by
 have hwi:=sD (lI r) 1 2001
 have hlo:=YS r st
 have hz:=aMI (b:=r)
 have hlt:lI r<65536∧-1≤lI r:=by
  have:=aL3 r
  by_cases h:r.length<2
  · rw[HQ h];omega
  · rw[HP h];omega
 unfold gS
 refine wF [1000000] 1 func40 ntmps40 rfl rfl ?_
 intro _
 simp only[aB,seval,MY]
 unfold pU
 cases k with
 | true=>
  have hz:decide ((r.length:Int)=0)=r.isEmpty:=by cases r with
   | nil=>rfl
   | cons x l=>simp;omega
  simp only[hz,aE,aB,seval,MY]
 | false=>
  generalize lI r=L at *
  have hw:=aZ (n:=L+2)
  simp only[aB,seval,MY]
  refine hlo.to ?_
  simp only[aB,seval]
  by_cases h1:L<0
  case pos=>
   have hd:decide (iU r=0)=true:=vC (hz.2 (.inl h1))
   have h1':=kI h1
   simp only[h1',dU,hd,aB,seval]
  have h1':=gO h1
  by_cases h2:1≤L∧L≤2001
  case neg=>
   have hd:decide (iU r=0)=false:=wO (fun e=>by rcases hz.1 e with h | h<;>omega)
   have hb:(decide (1≤L)&&decide (L≤2001))=false:=by
    cases hx:(decide (1≤L)&&decide (L≤2001)) with
    | false=>rfl
    | true=>simp only[cY,bM] at hx;exact absurd hx h2
   rw[hb] at hwi
   simp only[h1',dW,aB,seval]
   refine(hwi _).to ?_
   simp only[hd,iE,aB,seval]
  have hb:(decide (1≤L)&&decide (L≤2001))=true:=by simp only[cY,bM];exact h2
  rw[hb] at hwi
  have hd:decide ((r.length:Int)<L+2)=decide (iU r=0):=by
   rw[wN,hz]
   omega
  simp only[h1',dW,aB,seval]
  refine(hwi _).to ?_
  simp only[hd,iE,aE,hw,aB,seval,MY]
abbrev aO2:=zi aX (zi lM (zi dD pI))
theorem aTU(l:List Fr)(g:FuncId)(cU:List AV)(p:Fr→Bool)(st:aA)(hc:∀x∈l,aD prog g ([bJ x]++cU) st (fun r st'=>r=.bool (p x)∧st'=st)) :
 aD prog 92 [.slice (l.map bJ),.func g cU] st (fun r st'=>∃j:Int,r=.int .i64 j∧decide (0≤j)=l.any p∧st'=st):=by
 refine wF [] 2 func92 ntmps92 rfl rfl ?_
 simp only[cV,AV.fits,dE,aE]
 intro ⟨hl,_⟩
 simp only[aE,aB,seval,aO2]
 refine dI (σ:=Unit) [] [0,1,7] l (fun i _=>(l.drop i).any p=l.any p) (fun i _=>[(8,.int .i64 i)]) (fun _ _=>st) (by decide +kernel) ⟨(),rfl,aP.mk (by simp only[aB,↓aW,seval])⟩ (fun i x _ hx hlt a7 hdr hinv=>?_) (fun _ hge hinv=>?_)
 case refine_2=>
  simp only[hge,aB,seval]
  rw[iA] at hinv
  exact⟨-1,rfl,by rw[←hinv];try rfl⟩
 rw[hdr,x6] at hinv
 have hw:=aZ (n:=(i:Int)+1)
 simp only[a7,bH (av:=bJ) mS hx (nX x),G7,nX,aB,seval,aO2]
 refine(hc x (cH hx)).to ?_
 simp only[aB,seval]
 refine aQ (fun h=>?_) (fun h=>?_)
 · simp only[aB,seval]
   exact⟨i,rfl,by rw[←hinv,h];simp⟩
 · rw[h,rS] at hinv
   simp only[aB,seval]
   exact⟨(),hinv,aP.mk (by simp only[hw,aB,seval])⟩
abbrev bDA:=zi aX (zi cB lM)
theorem aTJ(l:List Fr)(g:FuncId)(cU:List AV)(p:Fr→Bool)(st:aA)(hc:∀x∈l,aD prog g ([bJ x]++cU) st (fun r st'=>r=.bool (p x)∧st'=st)) :
 aD prog 69 [.slice (l.map bJ),.func g cU] st (fun r st'=>r=.bool (l.any p)∧st'=st):=by
 refine wF [] 2 func69 ntmps69 rfl rfl ?_
 intro _
 simp only[aB,seval]
 refine(aTU l g cU p st hc).mono ?_
 rintro _ _ ⟨j,rfl,hj,rfl⟩
 simp only[hj,aB,seval]
abbrev aO1:=zi aX (zi oD (zi oG dD))
theorem aTT(l:List eF)(g:FuncId)(cU:List AV)(p:eF→Bool)(st:aA)(hc:∀x∈l,aD prog g ([bP x]++cU) st (fun r st'=>r=.bool (p x)∧st'=st)) :
 aD prog 68 [.slice (l.map bP),.func g cU] st (fun r st'=>∃j:Int,r=.int .i64 j∧decide (0≤j)=l.any p∧st'=st):=by
 refine wF [] 2 func68 ntmps68 rfl rfl ?_
 simp only[cV,AV.fits,dE,aE]
 intro ⟨hl,_⟩
 simp only[aE,aB,seval,aO1]
 refine dI (σ:=Unit) [] [0,1,7] l (fun i _=>(l.drop i).any p=l.any p) (fun i _=>[(8,.int .i64 i)]) (fun _ _=>st) (by decide +kernel) ⟨(),rfl,aP.mk (by simp only[aB,↓aW,seval])⟩ (fun i x _ hx hlt a7 hdr hinv=>?_) (fun _ hge hinv=>?_)
 case refine_2=>
  simp only[hge,aB,seval]
  rw[iA] at hinv
  exact⟨-1,rfl,by rw[←hinv];try rfl⟩
 rw[hdr,x6] at hinv
 have hw:=aZ (n:=(i:Int)+1)
 simp only[a7,bH (av:=bP) qU hx (kR x),wL,kR,aB,seval,aO1]
 refine(hc x (cH hx)).to ?_
 simp only[aB,seval]
 refine aQ (fun h=>?_) (fun h=>?_)
 · simp only[aB,seval]
   exact⟨i,rfl,by rw[←hinv,h];simp⟩
 · rw[h,rS] at hinv
   simp only[aB,seval]
   exact⟨(),hinv,aP.mk (by simp only[hw,aB,seval])⟩
theorem aTI(l:List eF)(g:FuncId)(cU:List AV)(p:eF→Bool)(st:aA)(hc:∀x∈l,aD prog g ([bP x]++cU) st (fun r st'=>r=.bool (p x)∧st'=st)) :
 aD prog 37 [.slice (l.map bP),.func g cU] st (fun r st'=>r=.bool (l.any p)∧st'=st):=by
 refine wF [] 2 func37 ntmps37 rfl rfl ?_
 intro _
 simp only[aB,seval]
 refine(aTT l g cU p st hc).mono ?_
 rintro _ _ ⟨j,rfl,hj,rfl⟩
 simp only[hj,aB,seval]
abbrev a9B:=zi cB pI
theorem aUI(f:Fr)(st:aA):aD prog 70 [bJ f] st (fun r st'=>r=.bool (!mT f)∧st'=st):=by
 have hf:=fun s=>XZ f s
 obtain⟨k,s⟩:=f
 simp only[bJ] at hf ⊢
 refine wF [1000000] 1 func70 ntmps70 rfl rfl ?_
 intro _
 simp only[aB,seval,a9B]
 refine(hf _).to ?_
 simp only[aB,seval]
abbrev aO0:=zi aX (zi cB (zi oE (zi lM (zi gL (zi oF (zi oG dD))))))
theorem aT4(c:eF)(st:aA)(hr:c.rest.length≤1048576):aD prog 39 [bP c] st (fun r st'=>r=.bool (sG c)∧st'=st):=by
 obtain⟨r,bk,wt,pr,ac,ss,td,ou⟩:=c
 simp only at hr
 have hs:=fun s=>aUX ss s
 have hd:=fun s=>XY r bk s (by omega)
 have hp:=fun s=>PW pr s
 have hw:=fun s=>aTJ wt 70 [] (fun f=> !mT f) s fun x _=>aUI x s
 have ha:wt.any (fun f=> !mT f)= !(wt.all mT):=by rw[←GM,Bool.not_not]
 rw[ha] at hw
 simp only[bP,wM,sG]
 unfold gU at hs
 unfold gS at hd
 generalize BT ss=sv at *
 generalize pU r bk=dv at *
 generalize qG pr=pv at *
 generalize wt.all mT=wv at *
 refine aD.oS ?_
 refine wF [1000000] 1 func39 ntmps39 rfl rfl ?_
 intro _
 simp only[aB,seval,aO0]
 repeat' (first
  | (simp only[*,aB,seval,aO0])
  | (refine cP (fun h=>?_) (fun h=>?_))
  | (refine(hs _).to ?_) | (refine(hd _).to ?_) | (refine(hp _).to ?_) | (refine(hw _).to ?_)
  | (refine aQ (fun h=>?_) (fun h=>?_)))
 all_goals first | exact aO.refl _ | (refine⟨?_,aO.refl _⟩;first | (simp_all;done))
abbrev a9A:=zi cB oG
theorem aUH(c:eF)(st:aA)(hr:c.rest.length≤1048576):aD prog 38 [bP c] st (fun r st'=>r=.bool (!sG c)∧st'=st):=by
 have hf:=fun s=>aT4 c s hr
 refine wF [1000000] 1 func38 ntmps38 rfl rfl ?_
 intro _
 simp only[ZR,wL,kR,aB,seval,a9A]
 refine(hf _).to ?_
 simp only[aB,seval]
abbrev aOZ:=zi aX (zi cB (zi oD (zi tA dD)))
theorem aWI(s:Sv)(st:aA)(hr:∀c∈s.cs,c.rest.length≤1048576):aD prog 21 [fJ s] st (fun r st'=>r=.bool (vT s)∧st'=st):=by
 obtain⟨cs,qu⟩:=s
 simp only at hr
 have hc:=fun s=>aTI cs 38 [] (fun f=> !sG f) s fun x hx=>aUH x s (hr x hx)
 have ha:cs.any (fun f=> !sG f)= !(cs.all sG):=by rw[←GM,Bool.not_not]
 rw[ha] at hc
 have hwi:=fun s=>sD qu 0 300 s
 simp only[fJ,vT]
 generalize cs.all sG=v at *
 have h4:decide ((cs.length:Int)≤4)=decide (cs.length≤4):=by rw[wN];omega
 refine aD.oS ?_
 refine wF [1000000] 1 func21 ntmps21 rfl rfl ?_
 intro _
 simp only[aE,h4,aB,seval,aOZ]
 repeat' (first
  | (simp only[*,aB,seval,aOZ])
  | (refine cP (fun h=>?_) (fun h=>?_))
  | (refine(hc _).to ?_) | (refine(hwi _).to ?_)
  | (refine aQ (fun h=>?_) (fun h=>?_)))
 all_goals first | exact aO.refl _ | (refine⟨?_,aO.refl _⟩;first | (simp_all;done))
end Go.AW
namespace Go.AW
section
variable {h:bE} {st s0:aA}
mutual
theorem aS.tell(S:cK h st):∀(a o:AV) (bs:List Nat) (cs:List Value),aS st a o bs→(∀b∈bs,s0 b=none)→VC h st o cs→VC h s0 a cs
 | .int k n,o,bs,cs,x,_,y=>by simp only[aS] at x;rw[x.1] at y;exact y
 | .bool b,o,bs,cs,x,_,y=>by simp only[aS] at x;rw[x.1] at y;exact y
 | .str s,o,bs,cs,x,_,y=>by simp only[aS] at x;rw[x.1] at y;exact y
 | .agg xs,o,bs,cs,x,hb,y=>by
  simp only[aS] at x
  obtain⟨os,rfl,x⟩:=x
  simp only[VC] at y ⊢
  exact aV.aOK S xs os bs cs x hb y
 | .slice es,o,bs,cs,x,hb,y=>by
  simp only[aS] at x
  rcases x with ⟨rfl,rfl,rfl⟩ | ⟨b,bs',os,w,rfl,rfl,e2,x,e3⟩
  · unfold VC at y ⊢
    rcases y with y | ⟨b,off,e,_⟩
    · exact .inl y
    · exact .inl ⟨⟨_,e⟩,rfl⟩
  · simp only[VC] at y
    obtain⟨cap,e,l1,l2,_⟩:=y
    obtain⟨hlt,c,t,q1,q2,vs,q3,q4⟩:=S b _ e2
    have hsh:=aV.EU (h:=h) (s0:=s0) x
    unfold VC
    refine .inr ⟨b,0,cap,e,l1,l2,hb b (by simp),hlt,⟨w,e3⟩,aV.aOL S b es os bs' 0 x (fun q hq=>hb q (by simp [hq])) (CH (fun q hq=>hsh q hq) q3 q4)⟩
 | .junk,_,_,_,x,_,_=>x.elim
 | .undef,_,_,_,x,_,_=>x.elim
 | .tup _,_,_,_,x,_,_=>x.elim
 | .fslice _,_,_,_,x,_,_=>x.elim
 | .mslice _ _ _ _,_,_,_,x,_,_=>x.elim
 | .nilptr,_,_,_,x,_,_=>x.elim
 | .ptr _ _,_,_,_,x,_,_=>x.elim
 | .pptr _,_,_,_,x,_,_=>x.elim
 | .nilmap,_,_,_,x,_,_=>x.elim
 | .map _,_,_,_,x,_,_=>x.elim
 | .func _ _,_,_,_,x,_,_=>x.elim
 | .raw _,_,_,_,x,_,_=>x.elim
 | .eslice,_,_,_,x,_,_=>x.elim
theorem aV.aOK(S:cK h st):∀(xs os:List AV) (bs:List Nat) (cs:List Value),aV st xs os bs→(∀b∈bs,s0 b=none)→aY h st os cs→aY h s0 xs cs
 | [],os,bs,cs,x,_,y=>by simp only[aV] at x;rw[x.1] at y;exact y
 | a::xs,os,bs,cs,x,hb,y=>by
  simp only[aV] at x
  obtain⟨o,os',b1,b2,rfl,rfl,x1,x2⟩:=x
  simp only[aY] at y ⊢
  obtain⟨c,r,e,y1,y2⟩:=y
  exact⟨c,r,e,aS.tell S a o b1 [c] x1 (fun q hq=>hb q (by simp [hq])) y1,aV.aOK S xs os' b2 r x2 (fun q hq=>hb q (by simp [hq])) y2⟩
theorem aV.aOL(S:cK h st)(b:Nat):∀(xs os:List AV) (bs:List Nat) (off:Nat),aV st xs os bs→(∀b∈bs,s0 b=none)→cW h st b off os→cW h s0 b off xs
 | [],os,bs,off,x,_,y=>by simp only[cW]
 | a::xs,os,bs,off,x,hb,y=>by
  simp only[aV] at x
  obtain⟨o,os',b1,b2,rfl,rfl,x1,x2⟩:=x
  simp only[cW] at y ⊢
  obtain⟨⟨cs,y1,y2,y3⟩,y4⟩:=y
  have hw:=(aS.shape x1).2.1
  rw[hw] at y2 y4
  exact⟨⟨cs,y1,y2,aS.tell S a o b1 cs x1 (fun q hq=>hb q (by simp [hq])) y3⟩,aV.aOL S b xs os' b2 _ x2 (fun q hq=>hb q (by simp [hq])) y4⟩
end
end
def Told(st s0:aA)(a o:AV):Prop:=o.isAgg=a.isAgg∧o.width=a.width∧o.bV=false∧∀(h:bE) (cs:List Value),cK h st→VC h st o cs→VC h s0 a cs
def dT(st s0:aA):List AV→List AV→Prop
 | [],os=>os= []
 | a::xs,os=>∃o os',os=o::os'∧Told st s0 a o∧dT st s0 xs os'
theorem Told.same{st s0:aA}(T:∀h,bT h st h s0){a:AV}(h:a.bV=false):Told st s0 a a:=⟨rfl,rfl,h,fun h cs _ y=>VC.mono (T h) _ _ y⟩
theorem Told.own{st s0:aA}{a o:AV}{bs:List Nat}(x:aS st a o bs)(hb:∀b∈bs,s0 b=none):Told st s0 a o:=
 ⟨x.shape.1,x.shape.2.1,x.shape.2.2.1,fun _ cs S y=>aS.tell S _ _ _ cs x hb y⟩
theorem Told.acc{st s0:aA}(D:aO st s0){w:Nat}{q:AV}{l:List AV}(hA:dY st w q l)(hs:∀b∈bU q,s0 b=none)(hj:∀e∈l,e.bV=false)(hw:∀e∈l,e.width=w):Told st s0 (.slice l) q:=by
 have hsh:=hA.shape
 refine⟨hsh.1,hsh.2.1,hsh.2.2.1,fun h cs S y=>?_⟩
 have hc:∃c,cs= [c]:=by
  rcases hA with ⟨rfl,_⟩ | ⟨b,ds,rfl,_⟩
  · unfold VC at y
    rcases y with ⟨⟨p,e⟩,_⟩ | ⟨b,off,e,_⟩<;>exact⟨_,e⟩
  · unfold VC at y
    obtain⟨cap,e,_⟩:=y
    exact⟨_,e⟩
 obtain⟨c,rfl⟩:=hc
 exact hA.seen S D hs hj hw y
theorem dT.nil{st s0:aA}:dT st s0 [] []:=rfl
theorem dT.cons{st s0:aA}{a o:AV}{xs os:List AV}(x:Told st s0 a o)(y:dT st s0 xs os):dT st s0 (a::xs) (o::os):=⟨o,os,rfl,x,y⟩
theorem dT.append{st s0:aA}:∀ {xs os xs' os':List AV},dT st s0 xs os→dT st s0 xs' os'→dT st s0 (xs++xs') (os++os')
 | [],os,xs',os',x,y=>by simp only[dT] at x;subst x;exact y
 | a::xs,os,xs',os',x,y=>by
  obtain⟨o,os1,rfl,x1,x2⟩:=x
  exact⟨o,os1++os',rfl,x1,dT.append x2 y⟩
theorem dT.length{st s0:aA}:∀ {xs os:List AV},dT st s0 xs os→os.length=xs.length
 | [],os,x=>by simp only[dT] at x;simp [x]
 | a::xs,os,x=>by
  obtain⟨o,os1,rfl,x1,x2⟩:=x
  simp [dT.length x2]
theorem dT.same{st s0:aA}(T:∀h,bT h st h s0):∀ {xs:List AV},(∀a∈xs,a.bV=false)→dT st s0 xs xs
 | [],_=>rfl
 | a::xs,h=>⟨a,xs,rfl,Told.same T (h a (by simp)),dT.same T fun x hx=>h x (by simp [hx])⟩
theorem dT.own{st s0:aA}:∀ {xs os:List AV} {bs:List Nat},aV st xs os bs→(∀b∈bs,s0 b=none)→dT st s0 xs os
 | [],os,bs,x,_=>by simp only[aV] at x;exact x.1
 | a::xs,os,bs,x,hb=>by
  simp only[aV] at x
  obtain⟨o,os',b1,b2,rfl,rfl,x1,x2⟩:=x
  exact⟨o,os',rfl,Told.own x1 fun b h=>hb b (by simp [h]),dT.own x2 fun b h=>hb b (by simp [h])⟩
theorem dT.cells{st s0:aA}{a o:AV}{bs:List Nat}(x:aS st a o bs)(hb:∀b∈bs,s0 b=none):dT st s0 a.cells o.cells:=by
 cases ha:a with
 | agg xs=>
  subst ha
  simp only[aS] at x
  obtain⟨os,rfl,x⟩:=x
  exact dT.own x hb
 | _=>
  have h1:a.cells= [a]:=by subst ha;rfl
  have h2:o.cells= [o]:=by
   have:=x.shape.1
   rw[ha] at this
   cases o<;>first | rfl | simp [AV.isAgg] at this
  rw[←ha,h1,h2]
  exact dT.cons (Told.own x hb) dT.nil
theorem dT.flat{st s0:aA}:∀ {xs os:List AV} {bs:List Nat},aV st xs os bs→(∀b∈bs,s0 b=none)→dT st s0 (xs.flatMap AV.cells) (os.flatMap AV.cells)
 | [],os,bs,x,_=>by simp only[aV] at x;rw[x.1];try rfl
 | a::xs,os,bs,x,hb=>by
  simp only[aV] at x
  obtain⟨o,os',b1,b2,rfl,rfl,x1,x2⟩:=x
  simp only[rU]
  exact dT.append (dT.cells x1 fun b h=>hb b (by simp [h])) (dT.flat x2 fun b h=>hb b (by simp [h]))
theorem dT.view{h:bE}{st s0:aA}(S:cK h st):∀ {xs os:List AV} {cs:List Value},dT st s0 xs os→aY h st os cs→aY h s0 xs cs
 | [],os,cs,x,y=>by simp only[dT] at x;subst x;exact y
 | a::xs,os,cs,x,y=>by
  obtain⟨o,os',rfl,x1,x2⟩:=x
  simp only[aY] at y ⊢
  obtain⟨c,r,e,y1,y2⟩:=y
  exact⟨c,r,e,x1.2.2.2 h _ S y1,dT.view S x2 y2⟩
theorem dT.I3{h:bE}{st s0:aA}(S:cK h st)(b:Nat):∀ {xs os:List AV} {off:Nat},dT st s0 xs os→cW h st b off os→cW h s0 b off xs
 | [],os,off,x,y=>by simp only[cW]
 | a::xs,os,off,x,y=>by
  obtain⟨o,os',rfl,x1,x2⟩:=x
  simp only[cW] at y ⊢
  obtain⟨⟨cs,y1,y2,y3⟩,y4⟩:=y
  rw[x1.2.1] at y2 y4
  exact⟨⟨cs,y1,y2,x1.2.2.2 h _ S y3⟩,dT.I3 S b x2 y4⟩
theorem dT.EU{st s0:aA}:∀ {xs os:List AV},dT st s0 xs os→∀o∈os,o.bV=false
 | [],os,x=>by simp only[dT] at x;rw[x];simp
 | a::xs,os,x=>by
  obtain⟨o,os',rfl,x1,x2⟩:=x
  intro q hq
  rcases cG.1 hq with rfl | hq
  · exact x1.2.2.1
  · exact dT.EU x2 q hq
theorem Told.agg{st s0:aA}{xs os:List AV}(x:dT st s0 xs os):Told st s0 (.agg xs) (.agg os):=
 ⟨rfl,by simp only[AV.width];exact x.length,rfl,fun h cs S y=>by simp only[VC] at y ⊢;exact x.view S y⟩
theorem Told.I4{h:bE}{st s0:aA}{a o:AV}{v:Value}(x:Told st s0 a o)(S:cK h st)(y:aR h st o v):aR h s0 a v:=by
 have key:o.isAgg=jS v∧VC h st o v.cells.toList:=by
  have:=x.2.2.1
  cases o<;>first | exact y | simp [AV.bV] at this
 have z:a.isAgg=jS v∧VC h s0 a v.cells.toList:=⟨x.1.symm.trans key.1,x.2.2.2 h _ S key.2⟩
 cases ha:a<;>rw[ha] at z<;>first | trivial | exact z
theorem dT.rel{st s0:aA}:∀ {xs os:List AV},dT st s0 xs os→∀h vs,cK h st→cT h st os vs→cT h s0 xs vs
 | [],os,x,h,vs,_,y=>by simp only[dT] at x;rw[x] at y;exact y
 | a::xs,os,x,h,vs,S,y=>by
  obtain⟨o,os',rfl,x1,x2⟩:=x
  simp only[cT] at y ⊢
  obtain⟨v,r,rfl,y1,y2⟩:=y
  exact⟨v,r,rfl,x1.I4 S y1,dT.rel x2 h r S y2⟩
theorem aD.told{P:Program}{g:FuncId}{args:List AV}{st:aA}{Q:AV→aA→Prop}(x:aD P g args st (fun r st'=>∃a s2,aO st' s2∧Told st' s2 a r∧Q a s2)):aD P g args st Q:=
 x.lN fun r st' ⟨a,s2,D,t,q⟩=>⟨a,s2,D.uV,fun _ _ S y=>t.I4 S y,q⟩
theorem aD.a70{P:Program}{g:FuncId}{args args':List AV}{st:aA}{a:AV}(x:∀s,aD P g args s (Made s a))(hv:dT st dJ args args'):aD P g args' st (Made st a):=
 aD.aKI (x dJ) fun h vs S y=>hv.rel h vs S y
theorem bT.tell{h:bE}{st s2:aA}{b:Nat}{o:AO}(hb:st b=some o)(hk:∀y,y≠b→s2 y=none∨s2 y=st y):bT h st h s2:=bT.of fun y hy=>by
 have:y≠b:=by rintro rfl;rw[hb] at hy;cases hy
 rcases hk y this with e | e
 · exact e
 · rw[e];exact hy
theorem F0.tell{st s2:aA}{b:Nat}{xs os:List AV}(hb:st b=some (.cells os))(x:dT st s2 xs os)(h2:s2 b=some (.cells xs))(hk:∀y,y≠b→s2 y=none∨s2 y=st y):F0 st s2:=fun h S=>by
 have T:bT h st h s2:=bT.tell hb hk
 refine⟨fun y o e=>?_,T⟩
 by_cases hy:y=b
 · subst hy
   rw[h2] at e
   cases e
   obtain⟨hl,c,t,e1,e2,vs,e3,e4⟩:=S y _ hb
   exact⟨hl,c,t,e1,by rw[←x.length];exact e2,vs,e3,x.view S e4⟩
 · have hso:st y=some o:=by
    rcases hk y hy with e' | e'
    · rw[e'] at e;cases e
    · rw[e'] at e;exact e
   obtain⟨hl,z⟩:=S y o hso
   exact⟨hl,lB.mono T rfl z⟩
theorem aV.split{st:aA}:∀ {xs ys os:List AV} {bs:List Nat},aV st (xs++ys) os bs→∃o1 o2 b1 b2,os=o1++o2∧bs=b1++b2∧aV st xs o1 b1∧aV st ys o2 b2
 | [],ys,os,bs,x=>⟨[],os,[],bs,rfl,rfl,⟨rfl,rfl⟩,x⟩
 | a::xs,ys,os,bs,x=>by
  simp only[gR,aV] at x
  obtain⟨o,os',b1,b2,rfl,rfl,x1,x2⟩:=x
  obtain⟨o1,o2,c1,c2,rfl,rfl,y1,y2⟩:=aV.split x2
  refine⟨o::o1,o2,b1++c1,c2,rfl,by simp,?_,y2⟩
  simp only[aV]
  exact⟨o,o1,b1,c1,rfl,rfl,x1,y1⟩
theorem aV.aKC{st:aA}:∀ {xs os:List AV} {bs:List Nat},aV st xs os bs→(∀a∈xs,∀o bs,aS st a o bs→o=a∧bs= [])→os=xs∧bs= []
 | [],os,bs,x,_=>by simp only[aV] at x;exact x
 | a::xs,os,bs,x,h=>by
  simp only[aV] at x
  obtain⟨o,os',b1,b2,rfl,rfl,x1,x2⟩:=x
  obtain⟨rfl,rfl⟩:=h a (by simp) _ _ x1
  obtain⟨rfl,rfl⟩:=aV.aKC x2 fun y hy=>h y (by simp [hy])
  exact⟨rfl,rfl⟩
theorem aS.a9X{st:aA}{es:List AV}{w:Nat}{q:AV}{bs:List Nat}(x:aS st (.slice es) q bs)(h:∀a∈es,∀o bs,aS st a o bs→o=a∧bs= [])(hw:∀e∈es,e.width=w)(hz:∀b w,q≠.mslice b 0 0 w):dY st w q es∧(∀b∈bU q,b∈bs)∧(∀b∈bs,b∈bU q):=by
 simp only[aS] at x
 rcases x with ⟨rfl,rfl,rfl⟩ | ⟨b,bs',os,w',rfl,rfl,e2,x,e3⟩
 · exact⟨.inl ⟨rfl,rfl⟩,by simp [bU],by simp⟩
 · obtain⟨rfl,rfl⟩:=x.aKC h
   cases os with
   | nil=>exact absurd rfl (hz b w')
   | cons y l=>
    have:w'=w:=by rw[←e3 y (by simp),hw y (by simp)]
    subst this
    refine⟨.inr ⟨b,_,rfl,e2,?_,?_⟩,by simp [bU],by simp [bU]⟩
    · rw[←mD e3,eD]
    · rw[mD e3];exact cZ _
theorem Told.XE{st s0:aA}{b w n:Nat}{es os X:List AV}(hb:st b=some (.cells (os.flatMap AV.cells++X)))(hs:s0 b=none)(x:dT st s0 es os)(hw:∀e∈es,e.width=w)(hn:es.length=n):Told st s0 (.slice es) (.mslice b 0 n w):=by
 subst hn
 refine⟨rfl,rfl,rfl,fun h cs S y=>?_⟩
 simp only[VC] at y
 obtain⟨cap,e,l1,l2,_⟩:=y
 obtain⟨hlt,c,t,q1,q2,vs,q3,q4⟩:=S b _ hb
 have hsh:=x.EU
 have q5:=q4.take (os.flatMap AV.cells).length
 rw[CC] at q5
 unfold VC
 exact .inr ⟨b,0,cap,e,l1,l2,hs,hlt,⟨w,hw⟩,x.I3 S b (CH hsh (QC _ q3) q5)⟩
theorem dY.split{st:aA}{w:Nat}{q:AV}{l:List AV}(h:dY st w q l)(hw:∀e∈l,e.width=w){k:Nat}{e:AV}(he:l[k]?=Option.some e) :
 ∃b X,q=.mslice b 0 l.length w∧bU q= [b]∧st b=Option.some (.cells ((l.take k).flatMap AV.cells++e.cells++((l.drop (k+1)).flatMap AV.cells++X)))∧((l.take k).flatMap AV.cells).length=k*w:=by
 obtain⟨hi,hei⟩:=fC.1 he
 rcases h with ⟨rfl,rfl⟩ | ⟨b,cs,rfl,hb,hcs,hcl⟩
 · simp at he
 · refine⟨b,cs.drop (l.length*w),rfl,rfl,?_,?_⟩
   · rw[hb,←kC]
     congr 2
     have h2:l=l.take k++e::l.drop (k+1):=by rw[←hei,←oM hi,oO]
     have h3:(l.take k).flatMap AV.cells++e.cells++(l.drop (k+1)).flatMap AV.cells=l.flatMap AV.cells:=by
      conv=>rhs;rw[h2]
      simp
     rw[h3,←hcs,oO]
   · rw[mD (n:=w) (es:=l.take k) (fun e he=>hw e (l9 he)),dZ,kQ (by omega)]
structure fW (st s:aA) (ds:List Nat) (ps:List (Nat×AV×List AV)):Prop where
 acc:∀p∈ps,dY s p.1 p.2.1 p.2.2
 apart:ps.Pairwise fun p p'=>∀y∈bU p.2.1,y∉bU p'.2.1
 fresh:∀p∈ps,∀y∈bU p.2.1,st y=none∧y∉ds
 left:∀d∈ds,st d=none∧s d≠none
 aU:∀x o,st x=some o→s x=some o
theorem fW.kH{st s:aA}{ds:List Nat}{ps:List (Nat×AV×List AV)}(C:fW st s ds ps):aO s st:=fun b=>by
 refine⟨fun h=>?_,fun o h=>C.aU b o h⟩
 cases hb:st b with
 | none=>rfl
 | some o=>rw[C.aU b o hb] at h;cases h
theorem fW.aC{st s:aA}{ds:List Nat}{ps:List (Nat×AV×List AV)}(C:fW st s ds ps){d:Nat}(hd:d∈ds)(o:AO):fW st (s.aC d o) ds ps:=by
 refine⟨fun p hp=>(C.acc p hp).aU fun b hb=>aA.aF _ _ fun e=>(C.fresh p hp b hb).2 (e▸hd),C.apart,C.fresh,fun x hx=>⟨(C.left x hx).1,?_⟩,fun x o' h=>?_⟩
 · by_cases e:x=d
   · subst e;rw[aA.aJ];simp
   · rw[aA.aF _ _ e];exact(C.left x hx).2
 · have:x≠d:=by rintro rfl;rw[(C.left x hd).1] at h;cases h
   rw[aA.aF _ _ this]
   exact C.aU x o' h
theorem fW.new{st s:aA}{ds:List Nat}{ps:List (Nat×AV×List AV)}(C:fW st s ds ps)(w:Nat):fW st s ds ((w,.fslice [],[])::ps):=by
 refine⟨fun p hp=>?_,JH.2 ⟨fun p _ y hy=>by simp [bU] at hy,C.apart⟩,fun p hp=>?_,C.left,C.aU⟩
 · rcases cG.1 hp with rfl | hp
   · exact .inl ⟨rfl,rfl⟩
   · exact C.acc p hp
 · rcases cG.1 hp with rfl | hp
   · intro y hy;simp [bU] at hy
   · exact C.fresh p hp
theorem fW.grow{st s s':aA}{ds:List Nat}{ps:List (Nat×AV×List AV)}{w:Nat}{q q':AV}{l l':List AV}(C:fW st s ds ((w,q,l)::ps))(A:dY s' w q' l')(K:∀y,y∉bU q→y∉bU q'→s' y=s y)(F:∀y∈bU q',y∈bU q∨s y=none) :
 fW st s' ds ((w,q',l')::ps)∧(∀d∈ds,s' d=s d)∧∀p∈ps,∀y∈bU p.2.1,s' y=s y:=by
 have hap:=JH.1 C.apart
 have hf0:=C.fresh _ (l8 ..)
 have hd':∀d∈ds,d∉bU q':=fun d hd h=>by
  rcases F d h with h | h
  · exact(hf0 d h).2 hd
  · exact(C.left d hd).2 h
 have hd:∀d∈ds,s' d=s d:=fun d hd=>K d (fun h=>(hf0 d h).2 hd) (hd' d hd)
 have hp':∀p∈ps,∀y∈bU p.2.1,y∉bU q':=fun p hp y hy h=>by
  rcases F y h with h | h
  · exact hap.1 p hp y h hy
  · obtain⟨cs,e⟩:=(C.acc p (JG _ hp)).some y hy
    rw[h] at e;cases e
 have hp:∀p∈ps,∀y∈bU p.2.1,s' y=s y:=fun p hp y hy=>K y (fun h=>hap.1 p hp y h hy) (hp' p hp y hy)
 refine⟨⟨fun p h=>?_,JH.2 ⟨fun p h y hy hy'=>hp' p h y hy' hy,hap.2⟩,fun p h=>?_,fun d h=>⟨(C.left d h).1,by rw[hd d h];exact(C.left d h).2⟩,fun x o h=>?_⟩,hd,hp⟩
 · rcases cG.1 h with rfl | h
   · exact A
   · exact(C.acc p (JG _ h)).aU (hp p h)
 · rcases cG.1 h with rfl | h
   · intro y hy
     rcases F y hy with h | h
     · exact hf0 y h
     · refine⟨C.kH y |>.1 h,fun hyd=>(C.left y hyd).2 h⟩
   · exact C.fresh p (JG _ h)
 · have h1:x∉bU q:=fun hx=>by rw[(hf0 x hx).1] at h;cases h
   have h2:x∉bU q':=fun hx=>by
    rcases F x hx with h' | h'
    · exact h1 h'
    · rw[C.aU x o h] at h';cases h'
   rw[K x h1 h2]
   exact C.aU x o h
theorem fW.start{st s:aA}{ds:List Nat}(h1:∀d∈ds,st d=none∧s d≠none)(h2:∀x o,st x=some o→s x=some o):fW st s ds []:=⟨by simp,List.Pairwise.nil,by simp,h1,h2⟩
theorem fW.told{st s:aA}{ds:List Nat}{ps:List (Nat×AV×List AV)}(C:fW st s ds ps){p:Nat×AV×List AV}(hp:p∈ps)(hj:∀e∈p.2.2,e.bV=false)(hw:∀e∈p.2.2,e.width=p.1):Told s st (.slice p.2.2) p.2.1:=
 Told.acc C.kH (C.acc p hp) (fun b hb=>(C.fresh p hp b hb).1) hj hw
def OO(st:aA)(w:Nat)(q:AV)(l:List AV)(s:aA):Prop:=dY s w q l∧(∀y∈bU q,st y=none)∧∀y,y∉bU q→s y=st y
theorem fW.a11{st s:aA}{ds:List Nat}{w:Nat}{q:AV}{l:List AV}(C:fW st s ds [(w,q,l)]):∃s2,aO s s2∧OO st w q l s2:=by
 have hf:=C.fresh _ (l8 ..)
 have hA:=C.acc _ (l8 ..)
 refine⟨fun y=>if y∈bU q then s y else st y,fun y=>⟨fun h=>?_,fun o h=>?_⟩,hA.aU fun b hb=>aN hb,fun y hy=>(hf y hy).1,fun y hy=>aK hy⟩
 · by_cases hy:y∈bU q
   · simp only[hy,dV];exact h
   · simp only[hy,cM];exact(C.kH y).1 h
 · by_cases hy:y∈bU q
   · simp only[hy,dV] at h;exact h
   · simp only[hy,cM] at h;exact C.aU y o h
theorem fW.more{st s:aA}{ds:List Nat}{ps:List (Nat×AV×List AV)}(C:fW st s ds ps){b:Nat}(hb:s b=none)(o:AO):fW st (s.aC b o) (b::ds) ps:=by
 have hst:st b=none:=(C.kH b).1 hb
 have hne:∀p∈ps,∀y∈bU p.2.1,y≠b:=fun p hp y hy e=>by
  obtain⟨cs,h⟩:=(C.acc p hp).some y hy
  rw[e,hb] at h;cases h
 refine⟨fun p hp=>(C.acc p hp).aU fun y hy=>aA.aF _ _ (hne p hp y hy),C.apart,fun p hp y hy=>⟨(C.fresh p hp y hy).1,fun h=>?_⟩,fun d hd=>?_,fun x o' h=>?_⟩
 · rcases cG.1 h with h | h
   · exact hne p hp y hy h
   · exact(C.fresh p hp y hy).2 h
 · rcases cG.1 hd with rfl | hd'
   · exact⟨hst,by rw[aA.aJ];simp⟩
   · have:d≠b:=by rintro rfl;exact(C.left d hd').2 hb
     exact⟨(C.left d hd').1,by rw[aA.aF _ _ this];exact(C.left d hd').2⟩
 · have:x≠b:=by rintro rfl;rw[hst] at h;cases h
   rw[aA.aF _ _ this];exact C.aU x o' h
theorem fW.one{st:aA}{b:Nat}(hb:st b=none)(o:AO):fW st (st.aC b o) [b] []:=by
 refine fW.start (fun d hd=>?_) (fun x o' h=>?_)
 · simp only[cG,cX,dG] at hd
   subst hd
   exact⟨hb,by rw[aA.aJ];simp⟩
 · have:x≠b:=by rintro rfl;rw[hb] at h;cases h
   rw[aA.aF _ _ this];exact h
theorem fW.a6Q{st s s':aA}{ds:List Nat}{ps:List (Nat×AV×List AV)}{w:Nat}{q:AV}{l:List AV}(C:fW st s ds ps)(G:OO s w q l s'):fW st s' ds ((w,q,l)::ps)∧(∀d∈ds,s' d=s d)∧∀p∈ps,∀y∈bU p.2.1,s' y=s y:=
 (C.new w).grow G.1 (fun y _ h=>G.2.2 y h) fun y h=>.inr (G.2.1 y h)
end Go.AW
