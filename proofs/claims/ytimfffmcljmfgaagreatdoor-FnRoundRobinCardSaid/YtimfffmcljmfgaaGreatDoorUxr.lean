import Derived.Test.YtimfffmcljmfgaaGreatDoorUxq
import Derived.Test.YtimfffmcljmfgaaGreatDoorUxi
import Derived.Test.YtimfffmcljmfgaaGreatDoorUxf
import Derived.Test.YtimfffmcljmfgaaGreatDoorUxh
import Derived.Test.YtimfffmcljmfgaaGreatDoorUxm
import Derived.Test.YtimfffmcljmfgaaGreatDoorUxn
import Derived.Test.YtimfffmcljmfgaaGreatDoorUxp
import Derived.Test.YtimfffmcljmfgaaGreatDoorUxj
import Derived.Test.YtimfffmcljmfgaaGreatDoorUxl
set_option linter.unusedSimpArgs false
set_option linter.unusedVariables false
set_option maxRecDepth 100000
namespace Go.AW
open Go.Proofs.Tryz
theorem a0D(st:aA):aD prog 164 [] st (fun r st'=>r=.tup []∧st'=st):=by
 refine wF [1000000] 0 func164 ntmps164 rfl rfl ?_
 intro _
 simp -implicitDefEqProofs only[aB,seval,]
structure Q6 where
 st:aA
 qt:AV
 qc:AV
 qn:AV
 mx:Int
 nd:List AV
 s:RS
 i:IS
 out:List (List Tm)
 b:Nat
 u:Nat
 B:Nat
 M:Nat
 e:Int
structure aVA (st0:aA) (S c m:Nat) (p:List Cl) (q:List Tm) (idx:Bool) (cnd:Tm→List Nat→List Nat) (vars:List Int) (most fuel:Nat) (T:List (List Tm)×Int) (x:Q6):Prop where
 a:dR st0 x.st S c m x.qt x.qc x.qn p q idx fuel x.u x.mx x.nd x.i
 r:RI p x.B x.M x.u x.s x.i
 t:T=(x.out++(kD p cnd vars (most - x.out.length) (fuel - x.u) x.i).1,(kD p cnd vars (most - x.out.length) (fuel - x.u) x.i).2)
 u:x.u≤fuel
 B:x.B≤26+26*x.u
 M:x.M≤26+520*x.u
structure Y6 (st0:aA) (S c m:Nat) (p:List Cl) (q:List Tm) (idx:Bool) (cnd:Tm→List Nat→List Nat) (vars:List Int) (most fuel:Nat) (T:List (List Tm)×Int) (x:Q6):Prop where
 d:aL x.st st0
 b:x.out.map bO≠[]→x.st x.b=none
 l:x.out.length≤most
 g:x.e= -1→aVA st0 S c m p q idx cnd vars most fuel T x
 f:x.e≠-1→T=(x.out,x.e)
abbrev PM:=zi tI_3 (zi zI_3 (zi aY (zi tI_4 (zi zI_4 (zi cJ (zi tI_26 (zi zI_26 (zi fZ (zi jF (zi jG (zi mZ (zi tI_31 (zi zI_31 (zi aQ (zi bS (zi bT (zi cI (zi tI_46 (zi zI_46 (zi cZ (zi eG (zi eE (zi eT (zi tI_59 (zi zI_59 (zi yE (zi xX (zi tI_174 (zi zI_174 (zi tI_227 (zi zI_227 (zi tI_256 (zi zI_256 (zi tI_260 (zi zI_260 (zi I6 (zi I7 (zi JA (zi JB (zi JC (zi JD (zi JE (zi JF (zi JG (zi JH (zi I8 (zi I9 IL)))))))))))))))))))))))))))))))))))))))))))))))
set_option maxHeartbeats 2000000 in
theorem a0B{p:List Cl}(hp:∀c∈p,gQ c∧c.2.length≤6)(hpl:p.length≤20){cnd:Tm→List Nat→List Nat}(hc:∀(ρ:Int→Int) (t:Tm) (l:List Nat),cnd (cD ρ t) l=cnd t l)(hd:∀t l,(∀i∈cnd t l,i∈l)∧(cnd t l).length≤l.length){idx:Bool}(yN:QT p idx cnd)
 {q:List Tm} (hq:∀t∈q,bJ 26 t∧t.k=3) (h6:q.length≤6) {most fuel:Nat} (hm:most≤20) (hf:fuel≤300) {st0 st:aA} {S c m:Nat} (A3:idx=true→st0 vE=some y8) (h:dR st0 st S c m (.fslice []) (.fslice []) (.fslice []) p q idx fuel 0 0 [] (pY q)) :
 aD prog 163 [.ptr S 0,.int .i64 (most:Int),.func 164 []] st (fun r st'=>∃b s,r=.tup [bU 1 b ((kD p cnd (cG q []) most fuel (pY q)).1.map bO),.int .i64 (kD p cnd (cG q []) most fuel (pY q)).2]∧st'=aZ s b ((kD p cnd (cG q []) most fuel (pY q)).1.map bO)∧((kD p cnd (cG q []) most fuel (pY q)).1.map bO≠[]→s b=none)∧aL s st0):=by
 have hnd:bD Tm.nodes q≤1099511627776:=by
  have:=GH q fun t ht=>(hq t ht).1.2
  omega
 have hva:=fun st=>SW q st hnd
 have hv:∀v∈cG q [],0≤v∧v<26:=fun v hv=>by
  rcases (BQ q [] fun t ht=>(hq t ht).1.1.2.1).1 hv with h | ⟨t,ht,h⟩
  · cases h
  · exact(hq t ht).1.1.2.2 v h
 have hvl:(cG q []).length≤1000:=by
  have h1:=BP q []
  have h2:=GH q fun t ht=>(hq t ht).1.2
  simp only[a8] at h1
  omega
 have N8:=RI.start (p:=p) hq h6
 generalize hT:kD p cnd (cG q []) most fuel (pY q)=T
 generalize cG q []=vars at *
 have hI0:Y6 st0 S c m p q idx cnd vars most fuel T ⟨st,.fslice [],.fslice [],.fslice [],0,[],nS q,pY q,[],0,0,26,26,-1⟩:=
  ⟨h.uP,by simp,jE _,fun _=>⟨h,N8,by rw[←hT];try rfl,jE _,cY _,cY _⟩,fun h=>absurd rfl h⟩
 have UJ:=h.cell
 simp only[iO] at UJ
 obtain⟨l1,l2,l3,l4,l5,l6⟩:=qU (pY q).goals
 refine wF [1000000] 3 func163 ntmps163 rfl rfl ?_
 intro _
 simp -implicitDefEqProofs only[UJ,aB,seval,PM]
 refine(hva _).to ?_
 simp -implicitDefEqProofs only[aB,seval]
 clear UJ l1 l2 l3 l4 l5 l6
 have hne:∀l:List IG,eJ prog .neq 256 (eS l) .nilptr=some (.bool (!l.isEmpty)):=fun l=>by
  have h:prog.underlying 256=some (.pointer 321):=by kernel_rfl
  cases l with
  | nil=>rw[eS];simp only[eJ,h];rfl
  | cons g l=>obtain⟨⟨k,n,s,ts⟩,cut,up⟩:=g;rw[uR];simp only[eJ,h];rfl
 refine iP (σ:=Q6) [1000000] [0,1,2,8] (fun x=>Y6 st0 S c m p q idx cnd vars most fuel T x)
  (fun x=>[(6,.fslice []),(7,.int .i64 0),(9,bU 1 x.b (x.out.map bO)),(10,.int .i64 x.e)])
  (fun x=>aZ x.st x.b (x.out.map bO))
  (fun x=>(most - x.out.length)+(fuel - x.u)+(if x.e= -1 then 1 else 0)) (by decide +kernel) ⟨_,hI0,aM.mk (by simp -implicitDefEqProofs only[iY,a7,aB,seval])⟩ ?_
 clear hI0 h hT N8
 rintro⟨st,qt,qc,qn,mx,nd,s,i,out,b,u,B,M,e⟩ ⟨hdr,hb,hlen,hgo,fX⟩
 simp only at hdr hb hlen hgo fX
 simp only
 simp -implicitDefEqProofs only[aB,seval]
 refine aP (fun h=>?_) (fun h=>?_)
 case refine_2=>
  have h':e≠-1:=by simpa using h
  have hTe:=fX h'
  subst hTe
  simp -implicitDefEqProofs only[nF,aB,seval]
  exact⟨b,st,rfl,rfl,hb,hdr⟩
 obtain rfl:e= -1:=by simpa using h
 obtain⟨ha,hR,ht,hu,hBB,hMM⟩:=hgo rfl
 simp only at ha hR ht hu hBB hMM
 have hb0:out.map bO≠[]→st0 b=none:=fun h=>(hdr b).1 (hb h)
 have hA:=ha.acc hb
 have a4Z:idx=true→aZ st0 b (out.map bO) vE=some y8:=fun hi=>by
  by_cases hl:out.map bO= []
  · rw[hl];exact A3 hi
  · rw[oG (by rintro rfl;have:=hb0 hl;rw[A3 hi] at this;cases this)];exact A3 hi
 have hlo:(out.map bO).length=out.length:=aF _
 have hun:prog.underlying 26=some (.slice 59):=by kernel_rfl
 have wR:=CG (w:=1) (b:=b) (l:=out.map bO) hun
 rw[hlo] at wR
 have N9:∀l:List (List Tm),∀e∈l.map bO,e.width=1:=fun l e he=>by simp only[cH] at he;obtain⟨t,_,rfl⟩:=he;rfl
 have gA:=hA.cell
 simp only[iO] at gA
 obtain⟨l1,l2,l3,l4,l5,l6⟩:=qU i.goals
 have yQ:=hne i.goals
 simp -implicitDefEqProofs only[aB,seval]
 refine(a0D _).to ?_
 simp -implicitDefEqProofs only[gA,l1,yQ,aB,seval,PM]
 cases hg:i.goals with
 | cons g rest=>
  rw[hg] at yQ
  simp only[List.isEmpty_cons,o7] at yQ
  refine aP (fun h2=>?_) (fun h2=>absurd h2 (by first | rw[hg];simp | simp))
  simp -implicitDefEqProofs only[aB,seval]
  rw[a5H hg] at ht
  have iQ:=a0H hp hpl hc hd yN (B:=B) (M:=M) (k:=u) (by omega) (by omega) (by omega) a4Z hA hR hg (by omega) (by omega)
  have hRs:=hR.step hp hpl hc hd (by omega) hg
  have hse:=a5L (p:=p) (cnd:=cnd) (i:=i) (g:=g) (rest:=rest)
  refine iQ.mono ?_
  clear iQ
  rintro r s2 hr
  split at hr
  · rename_i hfu
    obtain⟨rfl,hA2⟩:=hr
    obtain⟨s3,rfl,hb3,hA3⟩:=hA2.D9 hb0
    rw[aH (by omega)] at ht
    simp -implicitDefEqProofs only[aB,seval]
    exact⟨⟨s3,qt,qc,qn,mx,nd,s,i,out,b,u,B,M,2⟩,by simp,⟨hA3.uP,hb3,hlen,fun h=>absurd h (by simp),fun _=>by rw[ht];simp⟩,aM.mk (by simp -implicitDefEqProofs only[aB,seval])⟩
  · rename_i hfu
    have bDE:u<fuel:=by omega
    rw[aE (by omega)] at ht
    cases hS:nK p cnd i g rest with
    | stop e=>
     rw[hS] at hr ht hse
     simp only[Y9] at hse
     simp only at ht
     obtain⟨rfl,qt2,qc2,qn2,mx2,nd2,i2,hA2⟩:=hr
     obtain⟨s3,rfl,hb3,hA3⟩:=hA2.D9 hb0
     simp -implicitDefEqProofs only[aB,seval]
     exact⟨⟨s3,qt,qc,qn,mx,nd,s,i,out,b,u,B,M,e⟩,by simp [hse],⟨hA3.uP,hb3,hlen,fun h=>absurd h hse,fun _=>by rw[ht];simp⟩,aM.mk (by simp -implicitDefEqProofs only[aB,seval])⟩
    | go i'=>
     rw[hS] at hr ht hRs
     simp only at ht hRs
     obtain⟨s',hR'⟩:=hRs
     obtain⟨rfl,qt2,qc2,qn2,mx2,nd2,hA2⟩:=hr
     obtain⟨s3,rfl,hb3,hA3⟩:=hA2.D9 hb0
     simp -implicitDefEqProofs only[aB,seval]
     exact⟨⟨s3,qt2,qc2,qn2,mx2,nd2,s',i',out,b,u+1,B+26,M+520,-1⟩,by simp;omega,⟨hA3.uP,hb3,hlen,fun _=>⟨hA3,hR',by rw[ht,Nat.sub_sub],by simp only;omega,by simp only;omega,by simp only;omega⟩,fun h=>absurd rfl h⟩,aM.mk (by simp -implicitDefEqProofs only[aB,seval])⟩
    | fail i'=>
     rw[hS] at hr ht hRs
     simp only[H2] at ht hRs hr
     obtain⟨_,_,_,hRb⟩:=hRs
     cases hbk:g7 p i'.chs.length i' with
     | none=>
      rw[hbk] at hr ht
      simp only at ht
      obtain⟨rfl,qt2,qc2,qn2,mx2,nd2,i2,hA2⟩:=hr
      obtain⟨s3,rfl,hb3,hA3⟩:=hA2.D9 hb0
      simp -implicitDefEqProofs only[aB,seval]
      exact⟨⟨s3,qt,qc,qn,mx,nd,s,i,out,b,u,B,M,0⟩,by simp,⟨hA3.uP,hb3,hlen,fun h=>absurd h (by simp),fun _=>by rw[ht];simp⟩,aM.mk (by simp -implicitDefEqProofs only[aB,seval])⟩
     | some i2=>
      rw[hbk] at hr ht
      simp only at ht
      obtain⟨s',hR'⟩:=hRb i2 hbk
      obtain⟨rfl,qt2,qc2,qn2,mx2,nd2,hA2⟩:=hr
      obtain⟨s3,rfl,hb3,hA3⟩:=hA2.D9 hb0
      simp -implicitDefEqProofs only[aB,seval]
      exact⟨⟨s3,qt2,qc2,qn2,mx2,nd2,s',i2,out,b,u+1,B+26,M+520,-1⟩,by simp;omega,⟨hA3.uP,hb3,hlen,fun _=>⟨hA3,hR',by rw[ht,Nat.sub_sub],by simp only;omega,by simp only;omega,by simp only;omega⟩,fun h=>absurd rfl h⟩,aM.mk (by simp -implicitDefEqProofs only[aB,seval])⟩
 | nil=>
  rw[hg] at yQ
  simp only[List.isEmpty_nil,kP] at yQ
  refine aP (fun h2=>absurd h2 (by first | rw[hg];simp | simp)) (fun h2=>?_)
  simp -implicitDefEqProofs only[wR,aB,seval]
  rw[a5I hg] at ht
  refine aP (fun h2=>?_) (fun h2=>?_)
  · have h':out.length=most:=by simp at h2;omega
    rw[aH (by omega)] at ht
    simp -implicitDefEqProofs only[nF,aB,seval]
    have hTe:T=(out,1):=by rw[ht];simp
    subst hTe
    exact⟨b,st,rfl,rfl,hb,hdr⟩
  have h':out.length<most:=by simp at h2;omega
  rw[aE (by omega)] at ht
  simp -implicitDefEqProofs only[gA,hg,aB,seval,PM]
  obtain⟨hgd,ho,_,_⟩:=hR.r.facts
  have hfr:26≤i.fresh:=by
   obtain⟨ρ,S',_⟩:=hR.r
   have h1:=S'.rng 25 (by omega) (by have:=S'.h26;omega)
   rw[S'.idn 25 (by omega) (by omega)] at h1
   omega
  refine(a0K (N:=i.fresh) hgd ho vars (fun v h=>⟨(hv v h).1,by have:=(hv v h).2;omega⟩) hvl c m qt _ hA.sto.sub).to ?_
  cases rY:jV i.σ vars with
  | none=>
   rw[rY] at ht
   simp only[YJ]
   simp only at ht
   simp -implicitDefEqProofs only[nF,aB,seval]
   have hTe:T=(out,3):=by rw[ht];simp
   subst hTe
   exact⟨b,st,rfl,rfl,hb,hdr⟩
  | some a=>
   rw[rY] at ht
   simp only[YJ]
   simp only at ht
   simp -implicitDefEqProofs only[aB,seval,PM]
   refine eQ (P:=prog) (b:=b) (l:=out.map bO) (xs:=[bO a]) fZ jF jG rfl rfl (f9 rfl rfl) (N9 out) hb (by simp only[aX,a8,hlo];omega) (by simp only[aX,a8,hlo];omega) (fun b' hb'=>?_)
   rw[show(out.map bO)++ [bO a]=(out++ [a]).map bO by simp] at hb' ⊢
   have hA':=ha.acc hb'
   have aO0:(out++ [a]).map bO≠[]→st0 b'=none:=fun h=>(hdr b').1 (hb' h)
   have a3H:=hA'.cell
   simp only[iO] at a3H
   simp -implicitDefEqProofs only[aB,seval]
   have hbk:=MN hp (M:=M) (by omega) _ qt qc qn mx nd i s.chs (st0:=aZ st0 b' ((out++ [a]).map bO)) (S:=S) (c:=c) (m:=m) (q:=q) (idx:=idx) (fuel:=fuel) (used:=u) (T:=g7 p i.chs.length i) ⟨hA',hR.cr,hR.x,rfl,by have:=hR.qO;have:=hR.n;constructor<;>omega⟩
   refine hbk.mono ?_
   rintro r s2 hr
   have hln:(out++ [a]).length=out.length+1:=by simp
   cases hbk:g7 p i.chs.length i with
   | none=>
    rw[hbk] at hr ht
    simp only at ht
    obtain⟨rfl,qt2,qc2,qn2,mx2,nd2,i2,hA2⟩:=hr
    obtain⟨s3,rfl,hb3,hA3⟩:=hA2.D9 aO0
    simp -implicitDefEqProofs only[aB,seval]
    exact⟨⟨s3,qt,qc,qn,mx,nd,s,i,out++ [a],b',u,B,M,0⟩,by simp only[hln];simp;omega,⟨hA3.uP,hb3,by simp only[hln];omega,fun h=>absurd h (by simp),fun _=>by rw[ht]⟩,aM.mk (by simp -implicitDefEqProofs only[aB,seval])⟩
   | some i2=>
    rw[hbk] at hr ht
    simp only at ht
    obtain⟨s',hR'⟩:=hR.back hp (by omega) hbk
    obtain⟨rfl,qt2,qc2,qn2,mx2,nd2,hA2⟩:=hr
    obtain⟨s3,rfl,hb3,hA3⟩:=hA2.D9 aO0
    simp -implicitDefEqProofs only[aB,seval]
    exact⟨⟨s3,qt2,qc2,qn2,mx2,nd2,s',i2,out++ [a],b',u,B,M,-1⟩,by simp [hln];omega,⟨hA3.uP,hb3,by simp only[hln];omega,fun _=>⟨hA3,hR',by rw[ht];simp only[hln,lX,iB,fF,Nat.sub_sub],hu,hBB,hMM⟩,fun h=>absurd rfl h⟩,aM.mk (by simp -implicitDefEqProofs only[aB,seval])⟩
theorem nB.aQ6{st st':aA}{a o:AV}{k:IntKind}{n:Int}(h:Made st a o st'):nB st [a,.int k n] (.tup [o,.int k n]) st':=by
 obtain⟨bs,h1,h2,h3,h4⟩:=h
 exact⟨_,bs,rfl,h1,h2,WA.2 ⟨o,.int k n,bs,[],rfl,by simp,h3,⟨rfl,rfl⟩⟩,h4⟩
def Q2(st:aA)(L:List AV)(e:Int)(r:AV)(st':aA):Prop:=∃o,r=.tup [o,.int .i64 e]∧Made st (.slice L) o st'∧(L= []→o=.fslice [])
structure vX (st:aA) (L:List AV) (b i:Nat) (os:List AV) (bs:List Nat) (s:aA):Prop where
 len:os.length=i
 own:aW s (L.take i) os bs
 nd:bs.Nodup
 new:∀q∈bs,st q=none
 bn:L≠[]→b∉bs
 cell:L≠[]→s b=some (.cells (os.flatMap AV.cells++(L.drop i).flatMap AV.cells))
 aV:∀q,q∉bs→(L≠[]→q≠b)→s q=st q
theorem vX.start{st:aA}{L:List AV}{b:Nat}:vX st L b 0 [] [] (aZ st b L):=by
 refine⟨rfl,by simp [aW],lZ,by simp,by simp,fun h=>?_,fun q _ h=>?_⟩
 · rw[jU h,aA.aJ];try rfl
 · cases L with
   | nil=>rfl
   | cons x l=>exact oG (h (by simp))
theorem vX.done{st s:aA}{L os:List AV}{b w:Nat}{bs:List Nat}(h:vX st L b L.length os bs s)(hb:L≠[]→st b=none)(hw:∀e∈L,e.width=w):Made st (.slice L) (bU w b L) s:=by
 obtain⟨h1,h2,h3,h4,h5,h6,h7⟩:=h
 rw[dZ] at h2
 by_cases hL:L= []
 · subst hL
   simp only[aW] at h2
   obtain⟨rfl,rfl⟩:=h2
   exact⟨[],lZ,by simp,.inl ⟨rfl,rfl,rfl⟩,fun q hq=>h7 q hq (fun h=>absurd rfl h)⟩
 · refine⟨b::bs,B5.2 ⟨h5 hL,h3⟩,fun q hq=>?_,?_,fun q hq=>?_⟩
   · rcases c7.1 hq with rfl | hq
     · exact hb hL
     · exact h4 q hq
   · rw[qK hL]
     refine .inr ⟨b,bs,os,w,rfl,rfl,?_,h2,hw⟩
     have:=h6 hL
     rw[kK] at this
     simpa using this
   · simp only[c7,nO] at hq
     exact h7 q hq.2 fun _=>hq.1
theorem vX.step{st s s2:aA}{L os B:List AV}{b i:Nat}{bs bx:List Nat}{e r:AV}(h:vX st L b i os bs s)(he:L[i]?=some (.agg [e]))(hB:(L.drop (i+1)).flatMap AV.cells=B)(m1:bx.Nodup)(m2:∀q∈bx,s q=none)(m3:bM s2 e r bx)(m4:∀q,q∉bx→s2 q=s q) :
 vX st L b (i+1) (os++ [.agg [r]]) (bs++bx) (s2.aC b (.cells (os.flatMap AV.cells++ [r]++B))):=by
 obtain⟨h1,h2,h3,h4,h5,h6,h7⟩:=h
 have hi:i<L.length:=(fL.1 he).1
 have hL:L≠[]:=by rintro rfl;simp at hi
 have A4:=aW.gY _ _ _ h2
 have wT:∀q∈bs,s q≠none:=fun q hq=>by obtain⟨cs,e1,_⟩:=A4.2 q hq;rw[e1];simp
 have hsb:=h6 hL
 have hbx:b∉bx:=fun hq=>by have:=m2 b hq;rw[hsb] at this;cases this
 have wL:∀q∈bs,q∉bx:=fun q hq hq'=>wT q hq (m2 q hq')
 have hbs:∀q∈bs,(s2.aC b (.cells (os.flatMap AV.cells++ [r]++B))) q=s q:=fun q hq=>by
  rw[aA.aG _ _ (by rintro rfl;exact h5 hL hq),m4 q (wL q hq)]
 refine⟨by simp [h1],?_,mJ.2 ⟨h3,m1,fun a ha c hc e=>wL a ha (e▸hc)⟩,fun q hq=>?_,fun _ hq=>?_,fun _=>?_,fun q hq hne=>?_⟩
 · rw[eD,he,EO]
   refine h2.snoc hbs ?_
   refine WB.2 ⟨r,rfl,bM.aV _ _ _ (fun x hx=>?_) m3⟩
   exact aA.aG _ _ (by rintro rfl;exact hbx hx)
 · rcases d6.1 hq with hq | hq
   · exact h4 q hq
   · have h8:q∉bs:=fun h=>wL q h hq
     have h9:q≠b:=by rintro rfl;exact hbx hq
     rw[←h7 q h8 fun _=>h9]
     exact m2 q hq
 · rcases d6.1 hq with hq | hq
   · exact h5 hL hq
   · exact hbx hq
 · rw[aA.aJ,hB]
   simp [AV.cells]
 · simp only[d6,nO] at hq
   rw[aA.aG _ _ (hne hL),m4 q hq.2,h7 q hq.1 hne]
abbrev aTT:=zi tI_3 (zi zI_3 (zi aY (zi tI_4 (zi zI_4 (zi cJ (zi tI_26 (zi zI_26 (zi fZ (zi jF (zi jG (zi mZ (zi tI_29 (zi zI_29 (zi fN (zi iG (zi iI (zi jN (zi tI_31 (zi zI_31 (zi aQ (zi bS (zi bT (zi cI (zi tI_59 (zi zI_59 (zi yE (zi xX (zi tI_174 zI_174))))))))))))))))))))))))))))
set_option maxHeartbeats 2000000 in
theorem aYH(p:List Cl){cnd:Tm→List Nat→List Nat}(hc:∀(ρ:Int→Int) (t:Tm) (l:List Nat),cnd (cD ρ t) l=cnd t l)(hd:∀t l,(∀i∈cnd t l,i∈l)∧(cnd t l).length≤l.length){idx:Bool}(yN:QT p idx cnd)
 (q:List Tm) (most fuel:Int) (st:aA) (A3:idx=true→st vE=some y8) :
 aD prog 75 [.slice (p.map bR),.slice (q.map Tm.av),.int .i64 most,.int .i64 fuel,.bool idx] st (Q2 st ((g9 p cnd q most fuel).1.map bO) (g9 p cnd q most fuel).2):=by
 have FV:=aXW p q most fuel
 have JN:=W7 p hd q most fuel
 refine wF [1000000] 5 func75 ntmps75 rfl rfl ?_
 intro _
 simp -implicitDefEqProofs only[aB,seval]
 refine(FV _).to ?_
 simp -implicitDefEqProofs only[aB,seval]
 refine aP (fun h=>?_) (fun h=>?_)
 · have hS:g9 p cnd q most fuel=([],9):=by
    unfold g9
    rw[aE (by rw[show lW p q most fuel=false from by unfold lW;simpa only[mG] using h];simp)]
   rw[hS]
   simp -implicitDefEqProofs only[aB,seval]
   exact⟨_,rfl,⟨[],lZ,by simp,.inl ⟨rfl,rfl,rfl⟩,fun _ _=>rfl⟩,fun _=>rfl⟩
 have hok:lW p q most fuel=true:=by unfold lW;simpa using h
 have hk:=hok
 simp only[lW,cF,bK] at hk
 obtain⟨kp,kq,k1,k2,k3,k4⟩:=hk
 obtain⟨p1,p2⟩:=WK kp
 obtain⟨q1,q2⟩:=OW kq
 have hTT:g9 p cnd q most fuel=kD p cnd (cG q []) most.toNat fuel.toNat (pY q):=by
  unfold g9
  rw[aH hok,a9M (fun c h=>(p2 c h).1) hc q2]
 rw[hTT] at JN ⊢
 clear hTT FV hok h
 obtain⟨mo,rfl⟩:=t7 k1
 obtain⟨fu,rfl⟩:=t7 k3
 rw[jQ,jQ] at JN ⊢
 simp -implicitDefEqProofs only[aB,seval]
 refine(aZ3 p q (fu:Int) idx (by omega) st).mono ?_
 rintro _ s1 ⟨S,c,m,rfl,hA⟩
 simp -implicitDefEqProofs only[aB,seval]
 refine(a0B p2 p1 hc hd yN q2 q1 (most:=mo) (fuel:=fu) (by omega) (by omega) A3 hA).mono ?_
 generalize kD p cnd (cG q []) mo fu (pY q)=T at JN ⊢
 rintro _ _ ⟨b,s2,rfl,rfl,hb,hD⟩
 obtain⟨L,e⟩:=T
 simp only at JN hb ⊢
 have hb':L.map bO≠[]→st b=none:=fun h=>(hD b).1 (hb h)
 have hun:prog.underlying 26=some (.slice 59):=by kernel_rfl
 have wR:=CG (w:=1) (b:=b) (l:=L.map bO) hun
 rw[aF] at wR
 have hwd:∀e∈L.map bO,e.width=1:=fun e he=>by simp only[cH] at he;obtain⟨t,_,rfl⟩:=he;rfl
 simp -implicitDefEqProofs only[wR,aB,seval]
 refine d8 (σ:=List AV×List Nat×aA) [1000000] [10,11,12,13,32,33] L (fun j x=>vX st (L.map bO) b j x.1 x.2.1 x.2.2) (fun j x=>[(34,.int .i64 j)]) (fun j x=>x.2.2) (by decide +kernel) ⟨([],[],aZ st b (L.map bO)),vX.start,aM.drop (a1B hD) (by simp -implicitDefEqProofs only[aB,↓aU,seval])⟩ (fun j a x hx hlt bL hdr hinv=>?_) (fun x hge hinv=>?_)
 case refine_2=>
  simp -implicitDefEqProofs only[hge,nF,aB,seval]
  have a4B:vX st (L.map bO) b (L.map bO).length x.1 x.2.1 x.2.2:=by rw[aF];exact hinv
  exact⟨_,rfl,a4B.done hb' hwd,fun h=>by rw[h];try rfl⟩
 obtain⟨os,bs,s⟩:=x
 simp only at hinv
 have hw:=bE (n:=(j:Int)+1)
 have hne:L.map bO≠[]:=by intro h;have:=gH List.length h;simp at this;subst this;simp at hlt
 have A1:(L.map bO)[j]?=some (.agg [.slice (a.map Tm.av)]):=by rw[lY,hx];try rfl
 have hc2:=hinv.cell hne
 have a3U:((L.map bO).drop j).flatMap AV.cells= [.slice (a.map Tm.av)]++((L.map bO).drop (j+1)).flatMap AV.cells:=by
  rw[←zS,hdr,bH,rN,zS];try rfl
 rw[a3U,←lX] at hc2
 have hA2:(os.flatMap AV.cells).length=j*1:=by
  rw[hinv.own.aOD (fun q hq=>hwd q (m9 hq)),dE,aF,lQ (by omega)]
 obtain⟨e1,e2,e3,e4,e5,e6⟩:=VP (B:=((L.map bO).drop (j+1)).flatMap AV.cells) hA2
 have hat:=qV (P:=prog) (b:=b) (w:=1) (i:=j) fZ (len:=(L.map bO).length) (by rw[aF];omega)
 have htk:List.take 1 (List.drop (j*1) (os.flatMap AV.cells++ [.slice (a.map Tm.av)]++((L.map bO).drop (j+1)).flatMap AV.cells))= [.slice (a.map Tm.av)]:=by
  rw[lX,List.drop_append,List.drop_of_length_le (by omega),hA2]
  simp
 obtain⟨hal,hav⟩:=JN.2 a (cM hx)
 rw[qK hne] at wR ⊢
 rw[aF] at hat wR ⊢
 simp -implicitDefEqProofs only[bL,hat,hc2,htk,e5,aB,↓aU,seval,aTT]
 refine(OL a _ (by omega) fun x hx s=>KF x s (Tm.QN (eH.1 hav x hx))).mono ?_
 rintro r s3 ⟨bx,m1,m2,m3,m4⟩
 have hbx:b∉bx:=fun h=>by have:=m2 b h;rw[hc2] at this;cases this
 have f1:=(m4 b hbx).trans hc2
 obtain⟨hqc,hqs,hqa,hqw,hqj⟩:=bM.oQ m3
 simp -implicitDefEqProofs only[hat,f1,hqc,hqs,e4,e5,EN,List.set_cons_zero,aB,seval,aTT]
 exact⟨(os++ [.agg [r]],bs++bx,s3.aC b (.cells (os.flatMap AV.cells++ [r]++((L.map bO).drop (j+1)).flatMap AV.cells))),hinv.step A1 rfl m1 m2 m3 m4,aM.mk (by simp -implicitDefEqProofs only[hw,aB,seval])⟩
theorem aYG(p:List Cl)(q:List Tm)(most fuel:Int)(st:aA) :
 aD prog 29 [.slice (p.map bR),.slice (q.map Tm.av),.int .i64 most,.int .i64 fuel] st (Q2 st ((g9 p (fun _ l=>l) q most fuel).1.map bO) (g9 p (fun _ l=>l) q most fuel).2):=by
 refine wF [1000000] 4 func29 ntmps29 rfl rfl ?_
 intro _
 simp -implicitDefEqProofs only[aB,seval]
 refine(aYH p (cnd:=fun _ l=>l) (fun _ _ _=>rfl) (fun _ l=>⟨fun _ h=>h,cY _⟩) (idx:=false) rfl q most fuel st (fun h=>by cases h)).mono ?_
 intro r s1 h
 obtain⟨o,rfl,hM,hN⟩:=h
 obtain⟨hqc,hqs,hqa,hqw,hqj⟩:=bM.oQ hM.choose_spec.2.2.1
 simp -implicitDefEqProofs only[hqj,aB,seval]
 exact⟨_,rfl,hM,hN⟩







theorem oA(s:Ss):(aS s).width=6:=rfl
theorem O9(s:Ss):(aS s).cells.all AV.storable=true:=rfl
theorem XA(s:Ss):(aS s).cE=false:=rfl
theorem O8(s:Ss):(aS s).isAgg=true:=rfl
end Go.AW
namespace Go.AW
def DB:AV→Bool
 | .int _ _ | .bool _ | .str _=>true
 | _=>false
theorem aRH{st:aA}{a o:AV}{bs:List Nat}(h:DB a=true):bM st a o bs↔o=a∧bs= []:=by
 cases a<;>simp [DB] at h<;>simp [bM]
theorem a7L{st:aA}{a:AV}{es os:List AV}{bs:List Nat}(h:DB a=true):aW st (a::es) os bs↔∃os',os=a::os'∧aW st es os' bs:=by
 simp only[aW]
 constructor
 · rintro⟨o,os',b1,b2,rfl,rfl,x1,x2⟩
   obtain⟨rfl,rfl⟩:=(aRH h).1 x1
   exact⟨os',rfl,x2⟩
 · rintro⟨os',rfl,x⟩
   exact⟨a,os',[],bs,rfl,rfl,(aRH h).2 ⟨rfl,rfl⟩,x⟩
def EA:List AV→List AV→List AV
 | [],_=>[]
 | a::es,qs=>if DB a then a::EA es qs else match qs with
  | q::qs=>q::EA es qs
  | []=>[]
theorem GR{st:aA}:∀ {es os:List AV} {bs:List Nat},aW st es os bs↔∃qs,os=EA es qs∧aW st (es.filter fun a=> !DB a) qs bs
 | [],os,bs=>by
  simp only[aW,EA,List.filter_nil]
  constructor
  · rintro⟨rfl,rfl⟩;exact⟨[],rfl,rfl,rfl⟩
  · rintro⟨qs,rfl,rfl,rfl⟩;exact⟨rfl,rfl⟩
 | a::es,os,bs=>by
  cases h:DB a with
  | true=>
   rw[a7L h]
   simp only[EA,h,List.filter_cons,kP,iK,dY,eX]
   constructor
   · rintro⟨os',rfl,x⟩
     obtain⟨qs,rfl,y⟩:=GR.1 x
     exact⟨qs,rfl,y⟩
   · rintro⟨qs,rfl,y⟩
     exact⟨_,rfl,GR.2 ⟨qs,rfl,y⟩⟩
  | false=>
   simp only[EA,h,List.filter_cons,o7,iK,dY,eX,aW]
   constructor
   · rintro⟨o,os',b1,b2,rfl,rfl,x1,x2⟩
     obtain⟨qs,rfl,y⟩:=GR.1 x2
     exact⟨o::qs,rfl,o,qs,b1,b2,rfl,rfl,x1,y⟩
   · rintro⟨qs,rfl,o,os',b1,b2,rfl,rfl,x1,y⟩
     exact⟨o,_,b1,b2,rfl,rfl,x1,GR.2 ⟨os',rfl,y⟩⟩
theorem a7Q{st:aA}{cs:List AV}{o:AV}{bs:List Nat}:bM st (.agg cs) o bs↔∃qs,o=.agg (EA cs qs)∧aW st (cs.filter fun a=> !DB a) qs bs:=by
 simp only[bM]
 constructor
 · rintro⟨os,rfl,x⟩
   obtain⟨qs,rfl,y⟩:=GR.1 x
   exact⟨qs,rfl,y⟩
 · rintro⟨qs,rfl,y⟩
   exact⟨_,rfl,GR.2 ⟨qs,rfl,y⟩⟩
def aQA:AV→Bool
 | .slice _=>true
 | _=>false
def One(q:AV):Prop:=q.cells= [q]∧q.storable=true∧q.isAgg=false∧q.width=1∧q.cE=false
theorem aW.V4{st:aA}:∀ {es os:List AV} {bs:List Nat},aW st es os bs→es.all aQA=true→∀q∈os,One q
 | [],os,bs,x,_=>by simp only[aW] at x;rw[x.1];simp
 | a::es,os,bs,x,h=>by
  simp only[aW] at x
  obtain⟨o,os',b1,b2,rfl,rfl,x1,x2⟩:=x
  simp only[kJ,cF] at h
  intro q hq
  rcases c7.1 hq with rfl | hq
  · cases a<;>simp [aQA] at h
    exact bM.oQ x1
  · exact aW.V4 x2 h.2 q hq
structure qE (st:aA) (ds:List Nat) (es os:List AV) (bs:List Nat) (s:aA):Prop where
 nd:bs.Nodup
 fresh:∀b∈bs,st b=none
 apart:∀d∈ds,st d=none∧d∉bs∧s d≠none
 own:aW s es os bs
 aV:∀x,x∉bs→x∉ds→s x=st x
theorem qE.start{st:aA}{ds:List Nat}{s:aA}(h1:∀d∈ds,st d=none∧s d≠none)(h2:∀x,x∉ds→s x=st x):qE st ds [] [] [] s:=
 ⟨lZ,by simp,fun d hd=>⟨(h1 d hd).1,by simp,(h1 d hd).2⟩,⟨rfl,rfl⟩,fun x _ h=>h2 x h⟩
theorem qE.aC{st:aA}{ds:List Nat}{es os:List AV}{bs:List Nat}{s:aA}(c:qE st ds es os bs s){d:Nat}(hd:d∈ds)(o:AO):qE st ds es os bs (s.aC d o):=by
 refine⟨c.nd,c.fresh,fun e he=>⟨(c.apart e he).1,(c.apart e he).2.1,?_⟩,aW.aV _ _ _ (fun b hb=>aA.aG _ _ (fun e=>(c.apart d hd).2.1 (e▸hb))) c.own,fun x h1 h2=>?_⟩
 · by_cases h:e=d
   · subst h;rw[aA.aJ];simp
   · rw[aA.aG _ _ h];exact(c.apart e he).2.2
 · have hx:x≠d:=by rintro rfl;exact h2 hd
   rw[aA.aG _ _ hx];exact c.aV x h1 h2
theorem qE.made{st:aA}{ds:List Nat}{es os:List AV}{bs:List Nat}{s s':aA}{a r:AV}(c:qE st ds es os bs s)(m:Made s a r s'):(∀d∈ds,s' d=s d)∧∃bs',qE st ds (es++ [a]) (os++ [r]) bs' s':=by
 obtain⟨b2,m1,m2,m3,m4⟩:=m
 have hb:∀b∈bs,b∉b2:=fun b hb hb'=>by
  obtain⟨cs,e,_⟩:=(aW.gY _ _ _ c.own).2 b hb
  rw[m2 b hb'] at e;cases e
 have hd:∀d∈ds,d∉b2:=fun d hd hd'=>(c.apart d hd).2.2 (m2 d hd')
 have hf:∀b∈b2,st b=none:=fun b h2=>by
  have h1:b∉bs:=fun h=>hb b h h2
  have h3:b∉ds:=fun h=>hd b h h2
  rw[←c.aV b h1 h3];exact m2 b h2
 refine⟨fun d h=>m4 d (hd d h),bs++b2,mJ.2 ⟨c.nd,m1,fun x hx y hy e=>hb x hx (e▸hy)⟩,fun b h=>?_,fun d h=>⟨(c.apart d h).1,?_,?_⟩,?_,fun x h1 h2=>?_⟩
 · rcases d6.1 h with h | h
   · exact c.fresh b h
   · exact hf b h
 · simp only[d6,nO];exact⟨(c.apart d h).2.1,hd d h⟩
 · rw[m4 d (hd d h)];exact(c.apart d h).2.2
 · exact aW.snoc c.own (fun b h=>m4 b (hb b h)) m3
 · simp only[d6,nO] at h1
   rw[m4 x h1.2,c.aV x h1.1 h2]
theorem qE.done{st:aA}{ds:List Nat}{es os:List AV}{bs:List Nat}{s:aA}(c:qE st ds es os bs s){a r:AV}(h:aW s es os bs→bM s a r bs):∃ds,Y1 st ds a r s:=
 ⟨ds,bs,c.nd,c.fresh,fun d hd=>⟨(c.apart d hd).1,(c.apart d hd).2.1⟩,h c.own,fun b h1 h2=>c.aV b h1 h2⟩
theorem qE.two{st:aA}{b b2:Nat}{o o2:AO}(hb:st b=none)(hb2:(st.aC b o) b2=none):b2≠b∧qE st [b,b2] [] [] [] ((st.aC b o).aC b2 o2):=by
 have hne:b2≠b:=by rintro rfl;rw[aA.aJ] at hb2;cases hb2
 have hn2:st b2=none:=by rw[aA.aG st _ hne] at hb2;exact hb2
 refine⟨hne,qE.start (fun d hd=>?_) (fun x hx=>?_)⟩
 · simp only[c7,dT,d4] at hd
   rcases hd with rfl | rfl
   · exact⟨hb,by rw[aA.aG _ _ (dH hne),aA.aJ];simp⟩
   · exact⟨hn2,by rw[aA.aJ];simp⟩
 · simp only[c7,dT,d4,nO] at hx
   rw[aA.aG _ _ hx.2,aA.aG _ _ hx.1]
abbrev Fr:=Int×ByteArray
structure Clt where
 rest:List Bt
 brk:Bool
 wait:List Fr
 prog:List Cl
 act:Bool
 ses:Ss
 told:Bool
 out:List Fr
structure Sv where
 cs:List Clt
 dD:Int
end Go.AW
namespace Go.AW
open Go.Proofs.Tryz



noncomputable def dU(s:Ss)(u:Int):List (List Tm)×Int:=
 ((g9 s.p (fun _ l=>l) s.q 20 u).1,if(g9 s.p (fun _ l=>l) s.q 20 u).2=2∧u<s.dD then -1 else(g9 s.p (fun _ l=>l) s.q 20 u).2)
noncomputable def wK(s:Ss):List (List Tm)×Int:=dU s s.used
def zC(s:Ss):Bool:=pJ s.p&&(lM s.q&&(decide (0≤s.dD)&&(decide (s.dD≤300)&&(decide (0≤s.used)&&decide (s.used≤s.dD)))))
def KU(s:Ss):Bool:=decide (s.used=0)&&(decide (s.sent=0)&&decide (s.fin= -1))
noncomputable def eM(s:Ss):Bool:=zC s&&(KU s||(decide (s.sent=((wK s).1.length:Int))&&decide (s.fin=(wK s).2)))
theorem XB{s:Ss}(h:zC s=true):lW s.p s.q 20 s.used=true:=by
 simp only[zC,cF,bK] at h
 obtain⟨h1,h2,h3,h4,h5,h6⟩:=h
 simp only[lW,h1,h2,eU]
 rw[fQ h5,fQ (show s.used≤300 by omega)]
 decide
abbrev aTM:=zi tI_3 (zi zI_3 (zi aY (zi tI_26 (zi zI_26 (zi fZ (zi jF (zi jG (zi mZ (zi tI_29 (zi zI_29 (zi fN (zi iG (zi iI (zi jN (zi tI_31 (zi zI_31 (zi aQ (zi bS (zi bT (zi cI (zi tI_62 (zi zI_62 (zi lE (zi lF (zi lG (zi lH (zi lI (zi lJ lA))))))))))))))))))))))))))))
theorem aBH(s:Ss)(u:Int)(h:lW s.p s.q 20 u=true)(st:aA):aD prog 167 [aS s,.int .i64 u] st (fun r st'=>r=.tup [.slice ((dU s u).1.map bO),.int .i64 (dU s u).2]∧st'=st):=by
 have hok:=h
 simp only[lW,cF,bK] at h
 obtain⟨kp,kq,_,_,k3,k4⟩:=h
 obtain⟨p1,p2⟩:=WK kp
 obtain⟨q1,q2⟩:=OW kq
 have hr:=aZ0 p2 p1 q2 q1 (most:=20) (fuel:=u.toNat) (by omega) (by omega)
 rw[show((20:Nat):Int)=20 from rfl,show((u.toNat:Nat):Int)=u by omega] at hr
 have hs:g9 s.p (fun _ l=>l) s.q 20 u=w7 s.p (fun _ l=>l) s.q 20 u.toNat:=by
  unfold g9
  rw[aH hok]
  try rfl
 rw[←hs] at hr
 unfold dU
 generalize g9 s.p (fun _ l=>l) s.q 20 u=T at *
 obtain⟨L,e⟩:=T
 simp only at hr ⊢
 obtain⟨p,q,i0,i1,i2,i3⟩:=s
 simp only[aS] at *
 refine wF [1000000] 2 func167 ntmps167 rfl rfl ?_
 intro _
 simp -implicitDefEqProofs only[aB,seval,aTM]
 refine(hr _).to ?_
 repeat' (first
  | (simp -implicitDefEqProofs only[*,aB,seval,aTM])
  | (refine cX (fun h=>?_) (fun h=>?_))
  | (refine aP (fun h=>?_) (fun h=>?_)))
 all_goals simp_all
theorem aYJ(s:Ss)(h:zC s=true)(st:aA):aD prog 167 [aS s,.int .i64 s.used] st (fun r st'=>r=.tup [.slice ((wK s).1.map bO),.int .i64 (wK s).2]∧st'=st):=aBH s s.used (XB h) st
abbrev aTO:=zi tI_3 (zi zI_3 (zi aY (zi tI_4 (zi zI_4 (zi cJ (zi tI_26 (zi zI_26 (zi fZ (zi jF (zi jG (zi mZ (zi tI_29 (zi zI_29 (zi fN (zi iG (zi iI (zi jN (zi tI_31 (zi zI_31 (zi aQ (zi bS (zi bT (zi cI (zi tI_62 (zi zI_62 (zi lE (zi lF (zi lG (zi lH (zi lI (zi lJ lA)))))))))))))))))))))))))))))))
theorem aCH(s:Ss)(st:aA):aD prog 84 [aS s] st (fun r st'=>r=.bool (eM s)∧st'=st):=by
 have ha:=aYJ s
 unfold eM
 generalize wK s=T at *
 obtain⟨L,e⟩:=T
 obtain⟨p,q,i0,i1,i2,i3⟩:=s
 simp only[aS,zC,KU] at *
 refine aD.done ?_
 refine wF [1000000] 1 func84 ntmps84 rfl rfl ?_
 intro _
 simp -implicitDefEqProofs only[aB,seval,aTO]
 repeat' (first
  | (simp -implicitDefEqProofs only[*,aF,aB,seval,aTO])
  | (refine cX (fun h=>?_) (fun h=>?_))
  | (refine(aCF p _).to ?_) | (refine(SS q _).to ?_) | (refine(ha (by simp_all) _).to ?_)
  | (refine aP (fun h=>?_) (fun h=>?_)))
 all_goals (refine⟨?_,aL.refl _⟩;simp only[AV.soft];first | (simp_all;done) | (simp_all;intros;omega))
abbrev aTN:=zi tI_3 (zi zI_3 (zi aY (zi tI_26 (zi zI_26 (zi fZ (zi jF (zi jG (zi mZ (zi tI_29 (zi zI_29 (zi fN (zi iG (zi iI (zi jN (zi tI_31 (zi zI_31 (zi aQ (zi bS (zi bT (zi cI (zi tI_62 (zi zI_62 (zi lE (zi lF (zi lG (zi lH (zi lI (zi lJ lA))))))))))))))))))))))))))))
theorem aA9(s:Ss)(u:Int)(st:aA):aD prog 171 [aS s,.int .i64 u] st (Q2 st ((dU s u).1.map bO) (dU s u).2):=by
 have hr:=aYG s.p s.q 20 u
 unfold dU
 generalize g9 s.p (fun _ l=>l) s.q 20 u=T at *
 obtain⟨L,e⟩:=T
 simp only at hr ⊢
 obtain⟨p,q,i0,i1,i2,i3⟩:=s
 simp only[aS] at *
 refine wF [1000000] 2 func171 ntmps171 rfl rfl ?_
 intro _
 simp -implicitDefEqProofs only[aB,seval,aTN]
 refine(hr _).mono ?_
 intro r s1 h
 obtain⟨o,rfl,hM,hN⟩:=h
 obtain⟨hqc,hqs,hqa,hqw,hqj⟩:=bM.oQ hM.choose_spec.2.2.1
 repeat' (first
  | (simp -implicitDefEqProofs only[*,aB,seval,aTN])
  | (refine cX (fun h=>?_) (fun h=>?_))
  | (refine aP (fun h=>?_) (fun h=>?_)))
 all_goals exact⟨o,by simp_all,hM,hN⟩
theorem aX7(s:Ss)(u:Int)(st:aA):aD prog 171 [aS s,.int .i64 u] st (nB st [.slice ((dU s u).1.map bO),.int .i64 (dU s u).2]):=
 (aA9 s u st).mono fun _ _ ⟨o,h1,h2,_⟩=>by subst h1;exact nB.aQ6 h2
theorem aX6(s:Ss)(k:Int)(st:aA):aD prog 171 [aS s,.int .i64 s.used] st (nB st [.slice ((wK s).1.map bO),.int .i64 (wK s).2]):=aX7 s s.used st
abbrev aTP:=zi tI_3 (zi zI_3 (zi aY (zi tI_4 (zi zI_4 (zi cJ (zi tI_26 (zi zI_26 (zi fZ (zi jF (zi jG (zi mZ (zi tI_29 (zi zI_29 (zi fN (zi iG (zi iI (zi jN (zi tI_31 (zi zI_31 (zi aQ (zi bS (zi bT (zi cI (zi tI_62 (zi zI_62 (zi lE (zi lF (zi lG (zi lH (zi lI (zi lJ (zi lA (zi tI_300 (zi zI_300 (zi a17 (zi a18 (zi a19 (zi a2A (zi a2B aWW)))))))))))))))))))))))))))))))))))))))
theorem SE(s:Ss)(st:aA):aD prog 89 [aS s] st (fun r st'=>r=.bool (eM s)∧st'=st):=by
 have ha:=fun st=>(aX6 s 0 st).KB
 unfold eM
 generalize wK s=T at *
 obtain⟨L,e⟩:=T
 obtain⟨p,q,i0,i1,i2,i3⟩:=s
 simp only[aS,zC,KU] at *
 refine aD.done ?_
 refine wF [1000000] 1 func89 ntmps89 rfl rfl ?_
 intro _
 simp -implicitDefEqProofs only[aB,seval,aTP]
 repeat' (first
  | (simp -implicitDefEqProofs only[*,aF,aB,seval,aTP])
  | (refine cX (fun h=>?_) (fun h=>?_))
  | (refine(aBB p _).to ?_) | (refine(aBC q _).to ?_) | (refine(CJ _ _ _ _).to ?_) | (refine(ha _).to ?_)
  | (refine aP (fun h=>?_) (fun h=>?_)))
 all_goals (refine⟨?_,aL.refl _⟩;simp only[AV.soft];first | (simp_all;done) | (simp_all;intros;omega))
def fJ(s:Ss)(n:Int):Int:=if n<s.dD - s.used then s.used+n else s.dD
noncomputable def k9(s:Ss)(n:Int):Ss:={ s with used:=fJ s n,sent:=((dU s (fJ s n)).1.length:Int),fin:=(dU s (fJ s n)).2 }
noncomputable def oP(s:Ss)(n:Int):List (List Tm):=(dU s (fJ s n)).1.drop s.sent.toNat
noncomputable def l9(s:Ss)(n:Int):Bool:=eM s&&(decide (0≤n)&&decide (s.fin= -1))
noncomputable def dB(s:Ss)(n:Int):Ss×List (List Tm):=if l9 s n=true then(k9 s n,oP s n) else(s,[])
structure SlF (s:Ss) (n:Int):Prop where
 rng:zC s=true
 ok:lW s.p s.q 20 (fJ s n)=true
 u0:0≤s.used
 u1:s.used≤fJ s n
 u2:fJ s n≤s.dD
 q1:s.dD≤300
 s0:0≤s.sent
 s1:s.sent≤((dU s (fJ s n)).1.length:Int)
 l:(dU s (fJ s n)).1.length≤20
 nxt:eM (k9 s n)=true
theorem PB{s:Ss}:zC s=true↔pJ s.p=true∧lM s.q=true∧0≤s.dD∧s.dD≤300∧0≤s.used∧s.used≤s.dD:=by
 simp only[zC,cF,bK]
theorem vH{s:Ss}{n:Int}(h:eM s=true)(hn:0≤n):SlF s n:=by
 have h':=h
 simp only[eM,cF] at h'
 obtain⟨hr,hs⟩:=h'
 obtain⟨kp,kq,k1,k2,k3,k4⟩:=PB.1 hr
 have hu1:s.used≤fJ s n:=by unfold fJ;split<;>omega
 have hu2:fJ s n≤s.dD:=by unfold fJ;split<;>omega
 have a4U:lW s.p s.q 20 s.used=true:=XB hr
 have hok:lW s.p s.q 20 (fJ s n)=true:=O7.2 ⟨kp,kq,by omega,by omega,by omega,by omega⟩
 have hl:=a9L (cnd:=fun _ l=>l) hok
 have N6:=(TT (cnd:=fun _ l=>l) a4U hu1 (by omega)).2.length_le
 have aPW:0≤s.sent∧s.sent≤((dU s (fJ s n)).1.length:Int):=by
  simp only[pP,KU,cF,bK] at hs
  rcases hs with ⟨_,h2,_⟩ | ⟨h1,_⟩
  · omega
  · simp only[wK,dU] at h1 ⊢
    omega
 refine⟨hr,hok,k3,hu1,hu2,k2,aPW.1,aPW.2,by simp only[dU];omega,?_⟩
 simp only[eM,cF]
 refine⟨PB.2 ⟨kp,kq,k1,k2,?_,hu2⟩,?_⟩
 · show 0≤fJ s n
   omega
 · rw[pP]
   exact .inr (by rw[cF];exact⟨fQ rfl,fQ rfl⟩)
theorem aVO{P:Program}{t:TypeId}{ag:Bool}{w:Nat}{φ:AF}{y:Operand}{L:List AV}{n:Nat}(hI:eI P t=some (ag,w))(hn:n≤L.length)(hw:∀e∈L,e.width=w)(h:φ.eval y=.int .i64 (n:Int)):fH P φ t (.slice L) (some y) none none=some (.slice (L.drop n)):=by
 have h1:dK φ none L.length L.length=some L.length:=rfl
 have h3:dK φ (some y) 0 L.length=some n:=by
  simp only[dK,h]
  rw[aH ⟨by omega,by omega⟩]
  rw[jQ]
 have hwd:xE L n w=true:=by
  unfold xE
  split
  · rename_i e he
    simp [hw e (cM he)]
  · rfl
 unfold fH nE
 rw[aE (by simp [oN])]
 simp only[hI,h1,h3,hwd]
 simp
theorem xV(l:List (List Tm)):∀e∈l.map bO,e.width=1:=by intro e h;simp only[cH] at h;obtain⟨t,_,rfl⟩:=h;rfl
theorem aAB(l:List (List Tm)):∀e∈l.map bO,e.cE=false:=by intro e h;simp only[cH] at h;obtain⟨t,_,rfl⟩:=h;rfl
abbrev BM:=zi tI_3 (zi zI_3 (zi aY (zi tI_26 (zi zI_26 (zi fZ (zi jF (zi jG (zi mZ (zi tI_62 (zi zI_62 (zi lE (zi lF (zi lG (zi lH (zi lI (zi lJ lA))))))))))))))))
set_option maxHeartbeats 2000000 in
theorem aBI(s:Ss)(n:Int)(h:eM s=true)(hn:0≤n)(st:aA):aD prog 168 [aS s,.int .i64 n] st (fun r st'=>r=.tup [aS (k9 s n),.slice ((oP s n).map bO)]∧st'=st):=by
 have hF:=vH h hn
 obtain⟨kp,kq,k1,k2,k3,k4⟩:=PB.1 hF.rng
 obtain⟨p1,p2⟩:=aRM kp
 obtain⟨q1,q2⟩:=aRN kq
 have hcp:=MO s (by omega) p2 (by omega) q2
 have ha:=aBH s (fJ s n) hF.ok
 have hs0:=hF.s0
 have hs1:=hF.s1
 have hfl:=hF.l
 have hu0:=hF.u0
 have hu1:=hF.u1
 have hu2:=hF.u2
 have hq1:=hF.q1
 unfold k9 oP
 generalize dU s (fJ s n)=T at *
 obtain⟨L,e⟩:=T
 simp only at ha hs1 hfl ⊢
 have hnu:fJ s n=if n<s.dD - s.used then s.used+n else s.dD:=rfl
 generalize fJ s n=u at *
 obtain⟨p,q,i0,i1,i2,i3⟩:=s
 simp only[aS] at *
 obtain⟨k,rfl⟩:=t7 hs0
 refine aD.done ?_
 refine wF [1000000,6] 2 func168 ntmps168 rfl rfl ?_
 intro _
 simp -implicitDefEqProofs only[aB,seval,BM]
 intro b4 h4
 refine(hcp _).to ?_
 simp -implicitDefEqProofs only[aK,aB,↓aU,seval,BM]
 intro b6 h6
 have h64:b6≠b4:=by rintro rfl;rw[aA.aJ] at h6;cases h6
 have h6':st b6=none:=by rwa [aA.aG _ _ h64] at h6
 have hw0:=bE (n:=i0 - i1)
 have hsl:=fun(φ:AF) (y:Operand) (h:φ.eval y=.int .i64 (k:Int))=>aVO (P:=prog) (t:=26) (L:=L.map bO) fZ (by rw[aF];omega) (xV L) h
 simp -implicitDefEqProofs only[hw0,seval]
 refine aP (fun h1=>?_) (fun h1=>?_)
 · have h1':n<i0 - i1:=by simpa using h1
   rw[aH h1'] at hnu
   have hw1:=bE (n:=i1+n)
   rw[←hnu] at hw1
   simp -implicitDefEqProofs only[aK,hw1,←hnu,dS,aB,seval,BM]
   refine(ha _).to ?_
   simp -implicitDefEqProofs only[aF,aK,dS,aB,seval,BM]
   have gA:∀(o:AO),((st.aC b4 (.cells [.fslice [],.fslice [],.int .i64 0,.int .i64 0,.int .i64 0,.int .i64 0])).aC b6 o) b6=some o:=fun o=>aA.aJ _ _ _
   refine vU [(0,1),(1,1),(2,1),(3,1),(4,1),(5,0),(6,1)] [0,1,2,3,4,6] (d9.aC b6 (.cells [.slice (p.map bR),.slice (q.map Tm.av),.int .i64 i0,.int .i64 (u),.int .i64 (L.length:Int),.int .i64 e])) mixed (by decide +kernel) (by decide +kernel) (by decide +kernel) rfl (fR (gA _)) ?_
   simp -implicitDefEqProofs only[aK,h64.symm,hsl,aB,seval,BM]
   exact⟨fR (by rw[aA.aG _ _ h64,aA.aJ]),by simp only[iT,jZ,iU,n9,bH,a7,jQ,zS],(((aL.refl _).aC h4).aC h6').aC h4⟩
 · have h1':¬n<i0 - i1:=by simpa using h1
   rw[aE h1'] at hnu
   obtain rfl:i0=u:=hnu.symm
   simp -implicitDefEqProofs only[aB,seval,BM]
   refine(ha _).to ?_
   simp -implicitDefEqProofs only[aF,aK,dS,aB,seval,BM]
   have gA:∀(o:AO),((st.aC b4 (.cells [.fslice [],.fslice [],.int .i64 0,.int .i64 0,.int .i64 0,.int .i64 0])).aC b6 o) b6=some o:=fun o=>aA.aJ _ _ _
   refine vU [(0,1),(1,1),(2,1),(3,1),(4,1),(5,0),(6,1)] [0,1,2,3,4,6] (d9.aC b6 (.cells [.slice (p.map bR),.slice (q.map Tm.av),.int .i64 i0,.int .i64 (i0),.int .i64 (L.length:Int),.int .i64 e])) mixed (by decide +kernel) (by decide +kernel) (by decide +kernel) rfl (fR (gA _)) ?_
   simp -implicitDefEqProofs only[aK,h64.symm,hsl,aB,seval,BM]
   exact⟨fR (by rw[aA.aG _ _ h64,aA.aJ]),by simp only[iT,jZ,iU,n9,bH,a7,jQ,zS],(((aL.refl _).aC h4).aC h6').aC h4⟩
theorem pT{s:Ss}{n:Int}:l9 s n=true↔eM s=true∧0≤n∧s.fin= -1:=by
 simp only[l9,cF,bK]
abbrev xA:=zi tI_3 (zi zI_3 (zi aY (zi tI_4 (zi zI_4 (zi cJ (zi tI_26 (zi zI_26 (zi fZ (zi jF (zi jG (zi mZ (zi tI_62 (zi zI_62 (zi lE (zi lF (zi lG (zi lH (zi lI (zi lJ lA)))))))))))))))))))
set_option maxHeartbeats 1000000 in
theorem a0G(s:Ss)(n:Int)(hp:s.p.length≤1048576)(hps:∀c∈s.p,IY c)(hq:s.q.length≤1048576)(hqs:∀t∈s.q,t.small=true)(st:aA):aD prog 174 [aS s,.int .i64 n] st (fun r st'=>r=.tup [aS (dB s n).1,.slice ((dB s n).2.map bO)]∧st'=st):=by
 have hv:=aCH s
 have hcp:=MO s hp hps hq hqs
 have hsl:=fun h hn=>aBI s n h hn
 have jI:l9 s n=false→dB s n=(s,[]):=fun h=>by unfold dB;rw[h];try rfl
 have UU:l9 s n=true→dB s n=(k9 s n,oP s n):=fun h=>by unfold dB;rw[h];try rfl
 have FV:eM s=true→0≤n→s.fin= -1→l9 s n=true:=fun a b c=>pT.2 ⟨a,b,c⟩
 have C4:l9 s n=true→eM s=true∧0≤n∧s.fin= -1:=pT.1
 generalize k9 s n=A at *
 generalize oP s n=M at *
 generalize dB s n=R at *
 generalize l9 s n=cs at *
 generalize eM s=ok at *
 have hE:∀(o:AO) (b4:Nat),st b4=none→aL (st.aC b4 o) st:=fun o b4 h=>(aL.refl _).aC h
 obtain⟨p,q,i0,i1,i2,i3⟩:=s
 obtain⟨ap,aq,a0,a1,a2,a3⟩:=A
 simp only[aS] at *
 refine aD.done ?_
 refine wF [1000000] 2 func174 ntmps174 rfl rfl ?_
 intro _
 simp -implicitDefEqProofs only[aB,seval,xA]
 intro b4 h4
 refine(hv _).to ?_
 simp -implicitDefEqProofs only[aB,seval]
 cases ok with
 | false=>
  have:R=(⟨p,q,i0,i1,i2,i3⟩,[]):=jI (by cases cs with | false=>rfl | true=>exact absurd (C4 rfl).1 (by decide))
  subst this
  simp -implicitDefEqProofs only[aB,seval,xA]
  refine(hcp _).to ?_
  simp -implicitDefEqProofs only[aK,aB,seval,xA]
  exact⟨by simp only[iT,jZ,iU,n9,mV,bH,a7],(aL.refl _).aC h4⟩
 | true=>
  simp -implicitDefEqProofs only[aB,seval]
  by_cases hn:0≤n
  case neg=>
   have:R=(⟨p,q,i0,i1,i2,i3⟩,[]):=jI (by cases cs with | false=>rfl | true=>exact absurd (C4 rfl).2.1 hn)
   subst this
   have hn':(n<0)=True:=dC (by omega)
   simp -implicitDefEqProofs only[hn',bV,aB,seval,xA]
   refine(hcp _).to ?_
   simp -implicitDefEqProofs only[aK,aB,seval,xA]
   exact⟨by simp only[iT,jZ,iU,n9,mV,bH,a7],(aL.refl _).aC h4⟩
  have hn':(n<0)=False:=cK (by omega)
  simp -implicitDefEqProofs only[hn',bX,aB,seval,xA]
  by_cases h3:i3= -1
  case neg=>
   have:R=(⟨p,q,i0,i1,i2,i3⟩,[]):=jI (by cases cs with | false=>rfl | true=>exact absurd (C4 rfl).2.2 h3)
   subst this
   have h3':=cK h3
   simp -implicitDefEqProofs only[h3',bX,aB,seval,xA]
   refine(hcp _).to ?_
   simp -implicitDefEqProofs only[aK,aB,seval,xA]
   exact⟨by simp only[iT,jZ,iU,n9,mV,bH,a7],(aL.refl _).aC h4⟩
  have:R=(⟨ap,aq,a0,a1,a2,a3⟩,M):=UU (FV rfl hn h3)
  subst this
  have h3':=dC h3
  simp -implicitDefEqProofs only[h3',bV,aB,seval,xA]
  refine(hsl rfl hn _).to ?_
  simp -implicitDefEqProofs only[aK,aB,seval,xA]
  exact⟨by simp only[iT,jZ,iU,n9,bH,a7],(aL.refl _).aC h4⟩
theorem Made.VZ{st S:aA}{a r:AV}{bs:List Nat}(hnd:bs.Nodup)(jJ:∀b∈bs,st b=none)(hO:bM S a r bs)(hk:∀x o,st x=some o→S x=some o):∃s2,aL S s2∧Made st a r s2:=by
 refine⟨fun x=>if x∈bs then S x else st x,fun x=>?_,bs,hnd,jJ,bM.aV _ _ _ (fun b hb=>aH hb) hO,fun b hb=>aE hb⟩
 dsimp only
 by_cases hx:x∈bs
 · rw[aH hx]
   exact⟨fun h=>h,fun o h=>h⟩
 · rw[aE hx]
   refine⟨fun h=>?_,fun o h=>hk x o h⟩
   cases hs:st x with
   | none=>rfl
   | some o=>rw[hk x o hs] at h;cases h
def B6(st:aA)(L:List AV)(k:Nat)(o:AV)(st':aA):Prop:=∃q,Made st (.slice L) q st'∧L0 L.length k q o
def LB(b n k:Nat):AV:=if k<n then .mslice b (k*1) (n - k) 1 else .eslice
theorem aVW{P:Program}{t:TypeId}{ag:Bool}{φ:AF}{y:Operand}{b n k:Nat}(hI:eI P t=some (ag,1))(hk:k≤n)(hn:0<n)(h:φ.eval y=.int .i64 (k:Int)):fH P φ t (.mslice b 0 n 1) (some y) none none=some (LB b n k):=by
 have h1:dK φ none n n=some n:=rfl
 have h3:dK φ (some y) 0 n=some k:=by
  simp only[dK,h]
  rw[aH ⟨by omega,by omega⟩]
  rw[jQ]
 unfold fH nE
 rw[aE (by simp [oN])]
 simp only[hI,h1,h3]
 rw[aH trivial]
 unfold LB
 by_cases h0:k=0
 · subst h0
   rw[aH rfl,aH hn]
   simp
 · rw[aE h0]
   by_cases hlt:k<n
   · rw[aH hlt,aH hlt,iE]
   · rw[aE hlt,aE hlt]
theorem aVV{P:Program}{t:TypeId}{ag:Bool}{w:Nat}{φ:AF}{y:Operand}(hI:eI P t=some (ag,w))(h:φ.eval y=.int .i64 0):fH P φ t (.fslice []) (some y) none none=some (.fslice []):=by
 have h1:dK φ none 0 0=some 0:=rfl
 have h3:dK φ (some y) 0 0=some 0:=by
  simp only[dK,h]
  rw[aH ⟨by omega,by omega⟩]
  try rfl
 unfold fH
 rw[aH ⟨rfl,rfl⟩]
 simp only[hI,h1,h3]
theorem a1M{P:Program}{t:TypeId}:mN P t .eslice=match P.underlying t with | some (.slice _)=>some (.int .i64 ((0:Nat):Int)) | _=>none:=rfl
abbrev XW:=zi tI_26 (zi zI_26 (zi fZ (zi jF (zi jG mZ))))
theorem aVS{P:Program}{t:TypeId}{ag:Bool}{φ:AF}{y z:Operand}{b n off:Nat}(hI:eI P t=some (ag,1))(h:φ.eval y=.int .i64 (n:Int))(h':φ.eval z=.int .i64 (n:Int)):fH P φ t (.mslice b off n 1) none (some y) (some z)=some (.mslice b off n 1):=by
 have h3:∀y,φ.eval y=.int .i64 (n:Int)→dK φ (some y) n n=some n:=fun y h=>by
  simp only[dK,h]
  rw[aH ⟨by omega,by omega⟩]
  rw[jQ]
 unfold fH nE
 rw[aE (by simp [oN])]
 simp only[hI,h3 y h,h3 z h']
 rw[aH trivial]
theorem aVT{P:Program}{t:TypeId}{ag:Bool}{w:Nat}{φ:AF}{y z:Operand}(hI:eI P t=some (ag,w))(h:φ.eval y=.int .i64 0)(h':φ.eval z=.int .i64 0):fH P φ t .eslice none (some y) (some z)=some (.fslice []):=by
 have h3:∀y,φ.eval y=.int .i64 0→dK φ (some y) 0 0=some 0:=fun y h=>by
  simp only[dK,h]
  rw[aH ⟨by omega,by omega⟩]
  try rfl
 unfold fH nE
 rw[aE (by simp [oN])]
 simp only[hI,h3 y h,h3 z h']
theorem aVU{P:Program}{t:TypeId}{ag:Bool}{w:Nat}{φ:AF}{y z:Operand}(hI:eI P t=some (ag,w))(h:φ.eval y=.int .i64 0)(h':φ.eval z=.int .i64 0):fH P φ t (.fslice []) none (some y) (some z)=some (.fslice []):=by
 have h3:∀y,φ.eval y=.int .i64 0→dK φ (some y) 0 0=some 0:=fun y h=>by
  simp only[dK,h]
  rw[aH ⟨by omega,by omega⟩]
  try rfl
 have h4:dK φ none 0 0=some 0:=rfl
 unfold fH nE
 rw[aE (by simp [oN])]
 simp only[hI,a8,h3 y h,h3 z h',h4]
 simp [xE]
theorem aX0(b off n:Nat)(st:aA):aD prog 172 [.mslice b off n 1] st (fun r st'=>r=.mslice b off n 1∧st'=st):=by
 refine wF [1000000] 1 func172 ntmps172 rfl rfl ?_
 intro _
 have hcl:=fun(φ:AF) (y z:Operand) (h:φ.eval y=.int .i64 (n:Int)) (h':φ.eval z=.int .i64 (n:Int))=>aVS (P:=prog) (t:=26) (b:=b) (off:=off) fZ h h'
 simp -implicitDefEqProofs only[hcl,aB,seval,XW]
theorem aXY(st:aA):aD prog 172 [.eslice] st (fun r st'=>r=.fslice []∧st'=st):=by
 refine wF [1000000] 1 func172 ntmps172 rfl rfl ?_
 intro _
 have hcl:=fun(φ:AF) (y z:Operand) (h:φ.eval y=.int .i64 0) (h':φ.eval z=.int .i64 0)=>aVT (P:=prog) (t:=26) fZ h h'
 simp -implicitDefEqProofs only[hcl,a1M,aB,↓aU,seval,XW]
theorem aXZ(st:aA):aD prog 172 [.fslice []] st (fun r st'=>r=.fslice []∧st'=st):=by
 refine wF [1000000] 1 func172 ntmps172 rfl rfl ?_
 intro _
 have hcl:=fun(φ:AF) (y z:Operand) (h:φ.eval y=.int .i64 0) (h':φ.eval z=.int .i64 0)=>aVU (P:=prog) (t:=26) fZ h h'
 simp -implicitDefEqProofs only[hcl,a8,aB,seval,XW]
abbrev PN:=zi tI_29 (zi zI_29 (zi fN (zi iG (zi iI (zi jN (zi tI_31 (zi zI_31 (zi aQ (zi bS (zi bT (zi cI (zi tI_62 (zi zI_62 (zi lE (zi lF (zi lG (zi lH (zi lI (zi lJ lA)))))))))))))))))))
theorem aQ4(s:Ss)(hp:s.p.length≤1048576)(hps:∀c∈s.p,FD c)(hq:s.q.length≤1048576)(hqx:∀t∈s.q,t.small=true)(st:aA):aD prog 176 [aS s] st (Made st (aS s)):=by
 obtain⟨p,q,i0,i1,i2,i3⟩:=s
 simp only at hp hps hq hqx
 simp only[aS]
 refine aD.VM ?_
 refine wF [1000000,1] 1 func176 ntmps176 rfl rfl ?_
 intro _
 simp -implicitDefEqProofs only[aB,seval,PN]
 intro b hb1 b2 hb2
 obtain⟨hne,C0⟩:=qE.two hb1 hb2
 refine vU [(0,1),(1,1),(3,1),(4,1),(2,0),(6,1),(5,0),(7,2),(8,2),(9,2)] [0,1,3,4,6] (d9.aC b (.cells [.slice (p.map bR),.slice (q.map Tm.av),.int .i64 i0,.int .i64 i1,.int .i64 i2,.int .i64 i3])) mixed (by decide +kernel) (by decide +kernel) (by decide +kernel) rfl (fR (by rw[aA.aG _ _ hne.symm,aA.aJ])) ?_
 simp -implicitDefEqProofs only[lN,aB,seval,PN]
 refine(a7D p _ hp fun x hx s=>a7C x s (hps x hx)).mono ?_
 rintro q0 s1 m1
 obtain⟨k1,bs1,C1⟩:=C0.made m1
 have e1:=k1 b (by simp)
 have e2:=k1 b2 (by simp)
 simp only[lN,hne,hne.symm,eX,dY] at e1 e2
 obtain⟨hqc,hqs,hqa,hqw,hqj⟩:=C1.own.V4 rfl q0 (by simp)
 simp -implicitDefEqProofs only[aB,seval,PN]
 refine⟨fR e1,?_⟩
 refine(OL q _ hq fun x hx s=>KF x s (hqx x hx)).mono ?_
 rintro q1 s2 m2
 obtain⟨k2,bs2,C2⟩:=C1.made m2
 have f1:=k2 b (by simp)
 have f2:=k2 b2 (by simp)
 rw[e1] at f1
 rw[e2] at f2
 obtain⟨hrc,hrs,hra,hrw,hrj⟩:=C2.own.V4 rfl q1 (by simp)
 simp -implicitDefEqProofs only[aK,lN,hne,f1,f2,hqc,hqs,hrc,hrs,dS,aB,seval,PN]
 refine⟨fR f1,?_⟩
 refine((C2.aC (d:=b) (by simp) _).aC (d:=b2) (by simp) _).done fun h=>?_
 exact a7Q.2 ⟨_,rfl,h⟩
theorem a9T{st:aA}{L:List (List Tm)}{o:AV}{bs:List Nat}{k:Nat}(hO:bM st (.slice (L.map bO)) o bs)(hN:L.map bO= []→o=.fslice [])(hk:k≤L.length) :
 ∃o1 o2,(∀(φ:AF) (y:Operand),φ.eval y=.int .i64 (k:Int)→fH prog φ 26 o (some y) none none=some o1)∧mN prog 26 o=some (.int .i64 (L.length:Int)) ∧
  (∀s,aD prog 172 [o1] s (fun r s'=>r=o2∧s'=s))∧L0 (L.map bO).length k o o2∧(o1.isAgg=false∧o1.cE=false∧o1.width=1∧o1.cells= [o1]):=by
 have hun:prog.underlying 26=some (.slice 59):=by kernel_rfl
 by_cases hL:L= []
 · subst hL
   obtain rfl:=hN rfl
   obtain rfl:k=0:=by simpa using hk
   exact⟨.fslice [],.fslice [],fun φ y h=>aVV fZ h,by simp only[mN,hun];rfl,fun s=>aXZ s,.inr ⟨rfl,rfl⟩,rfl,rfl,rfl,rfl⟩
 have hl:0<L.length:=QY.2 hL
 simp only[bM] at hO
 rcases hO with ⟨h,_,_⟩ | ⟨b,bs',os,w,rfl,_,_,_,hw⟩
 · exact absurd (by simpa using h) hL
 · obtain⟨x,l,rfl⟩:∃x l,L=x::l:=by cases L with | nil=>exact absurd rfl hL | cons x l=>exact⟨x,l,rfl⟩
   obtain rfl:w=1:=(hw (bO x) (by simp)).symm
   generalize hLL:x::l=L at *
   rw[aF]
   refine⟨LB b L.length k,if k<L.length then .mslice b (k*1) (L.length - k) 1 else .fslice [],fun φ y h=>aVW fZ hk hl h,by simp only[mN,hun],fun s=>?_,?_,?_⟩
   · unfold LB
     by_cases h:k<L.length
     · rw[aH h,aH h];exact aX0 _ _ _ s
     · rw[aE h,aE h];exact aXY s
   · by_cases h:k<L.length
     · rw[aH h];exact .inl ⟨hk,b,1,rfl,rfl⟩
     · rw[aE h];exact .inr ⟨by omega,rfl⟩
   · unfold LB
     split<;>exact⟨rfl,rfl,rfl,rfl⟩
abbrev K5:=zi tI_3 (zi zI_3 (zi aY (zi tI_26 (zi zI_26 (zi fZ (zi jF (zi jG (zi mZ (zi tI_62 (zi zI_62 (zi lE (zi lF (zi lG (zi lH (zi lI (zi lJ lA))))))))))))))))
set_option maxHeartbeats 2000000 in
theorem aCC(s:Ss)(n:Int)(h:eM s=true)(hn:0≤n)(st:aA):aD prog 91 [aS s,.int .i64 n] st (fun r st'=>∃o,r=.tup [aS (k9 s n),o]∧B6 st ((dU s (fJ s n)).1.map bO) s.sent.toNat o st'):=by
 have hF:=vH h hn
 have hs0:=hF.s0
 have hs1:=hF.s1
 have hfl:=hF.l
 have hu0:=hF.u0
 have hu1:=hF.u1
 have hu2:=hF.u2
 have hq1:=hF.q1
 have hf:=aA9 ⟨s.p,s.q,s.dD,fJ s n,s.sent,s.fin⟩ (fJ s n)
 rw[show dU ⟨s.p,s.q,s.dD,fJ s n,s.sent,s.fin⟩ (fJ s n)=dU s (fJ s n) from rfl] at hf
 unfold k9
 generalize dU s (fJ s n)=T at *
 obtain⟨L,e⟩:=T
 simp only at hf hs1 hfl ⊢
 have hnu:fJ s n=if n<s.dD - s.used then s.used+n else s.dD:=rfl
 generalize fJ s n=u at *
 obtain⟨p,q,i0,i1,i2,i3⟩:=s
 simp only[aS] at *
 obtain⟨k,rfl⟩:=t7 hs0
 obtain⟨m,hm,hmu⟩:∃m,(if i0 - i1<n then i0 - i1 else n)=m∧i1+m=u:=by
  refine⟨_,rfl,?_⟩
  rw[hnu]
  split<;>split<;>omega
 have hw0:=bE (n:=i0 - i1)
 have hw1:=bE (n:=i1+m)
 rw[hmu] at hw1
 refine aD.nG ?_
 refine wF [1000000,2] 2 func91 ntmps91 rfl rfl ?_
 intro _
 simp -implicitDefEqProofs only[aB,seval,K5]
 intro b2 h2 b4 h4
 have h42:b4≠b2:=by rintro rfl;rw[aA.aJ] at h4;cases h4
 have h4':st b4=none:=by rwa [aA.aG _ _ h42] at h4
 simp -implicitDefEqProofs only[aK,h42.symm,hw0,hm,hmu,hw1,aB,seval,K5]
 refine(hf _).mono ?_
 rintro r s1 ⟨o,rfl,⟨bs,m1,m2,m3,m4⟩,hN⟩
 have hb2:b2∉bs:=fun hq=>by have:=m2 b2 hq;simp [lN] at this
 have hb4:b4∉bs:=fun hq=>by have:=m2 b4 hq;simp [lN,h42] at this
 have e2:=m4 b2 hb2
 have e4:=m4 b4 hb4
 simp only[lN,h42,h42.symm,eX,dY] at e2 e4
 obtain⟨hqc,hqs,hqa,hqw,hqj⟩:=bM.oQ m3
 obtain⟨o1,o2,hsl,hlen,hcl,hT,ho1,ho2,ho3,ho4⟩:=a9T (k:=k) m3 hN (by omega)
 obtain⟨ht1,ht2,ht3,ht4,ht5⟩:=PE hT
 simp -implicitDefEqProofs only[aK,e2,lN,hsl,hlen,dS,aB,seval,K5]
 refine vU [(0,1),(1,1),(2,0),(3,0),(4,1)] [0,1,4] (d9.aC b2 (.cells [.slice (p.map bR),.slice (q.map Tm.av),.int .i64 i0,.int .i64 u,.int .i64 (L.length:Int),.int .i64 e])) mixed (by decide +kernel) (by decide +kernel) (by decide +kernel) rfl (fR (by simp only[lN,eX])) ?_
 simp -implicitDefEqProofs only[lN,aB,seval,K5]
 refine(hcl _).to ?_
 simp -implicitDefEqProofs only[aK,h42,e4,lN,ht2,aB,seval,K5]
 refine⟨fR (by simp only[lN,eX]),fR (by simp only[lN,h42.symm,eX,dY]),?_⟩
 generalize hS:aA.aC (aA.aC s1 b2 _) b4 _=S
 have hSx:∀x,x≠b2→x≠b4→S x=s1 x:=fun x h2 h4=>by rw[←hS,aA.aG _ _ h4,aA.aG _ _ h2]
 have hne:∀x,st x≠none→x≠b2∧x≠b4:=fun x h=>⟨fun e=>h (e▸h2),fun e=>h (e▸h4')⟩
 have hin:∀x∈bs,x≠b2∧x≠b4:=fun x hx=>⟨fun e=>hb2 (e▸hx),fun e=>hb4 (e▸hx)⟩
 have jJ:∀x∈bs,st x=none:=fun x hx=>by
  have:=m2 x hx
  rwa [aA.aG _ _ (hin x hx).1,aA.aG _ _ (hin x hx).2,aA.aG _ _ (hin x hx).1] at this
 obtain⟨s2,hd,hm2⟩:=Made.VZ (st:=st) (S:=S) m1 jJ (bM.aV _ _ _ (fun x hx=>hSx x (hin x hx).1 (hin x hx).2) m3) (fun x o hx=>by
  have hx0:st x≠none:=by rw[hx];exact fun e=>nomatch e
  have hxb:x∉bs:=fun hq=>hx0 (jJ x hq)
  rw[hSx x (hne x hx0).1 (hne x hx0).2,m4 x hxb,aA.aG _ _ (hne x hx0).1,aA.aG _ _ (hne x hx0).2,aA.aG _ _ (hne x hx0).1,hx])
 exact⟨s2,hd,_,rfl,o,hm2,by rw[jQ];exact hT⟩
def aV9(l:List Tm):Nat:=bD Tm.vC l
end Go.AW
namespace Go.AW
theorem aD.a6B{P:Program}{g:FuncId}{args args':List AV}{st s0:aA}{Q:AV→aA→Prop}(D:aL st s0)(hv:qH st s0 args' args)(x:aD P g args s0 Q):aD P g args' st Q:=
 ⟨x.1,fun w vs S V=>(x.2 w vs (D.G2 S) (hv _ _ S V)).mono fun e w' ⟨v,r,st',e1,a,b,c,d,q⟩=>⟨v,r,st',e1,a,b,(D.step w.heap).trans c,d,q⟩⟩
theorem qH.mono{st s0:aA}(D:aL st s0):∀(us:List AV),qH st s0 us us
 | []=>qH.nil
 | a::us=>qH.cons (fun hp v S y=>y.mono (D.step hp)) (qH.mono D us)
end Go.AW
namespace Go.AW
open Go.Proofs.Tryz

theorem nB.VZ{st S:aA}{xs os:List AV}{bs:List Nat}(hnd:bs.Nodup)(jJ:∀b∈bs,st b=none)(hO:aW S xs os bs)(hk:∀x o,st x=some o→S x=some o):∃s2,aL S s2∧nB st xs (.tup os) s2:=by
 refine⟨fun x=>if x∈bs then S x else st x,fun x=>?_,os,bs,rfl,hnd,jJ,aW.aV _ _ _ (fun b hb=>aH hb) hO,fun b hb=>aE hb⟩
 dsimp only
 by_cases hx:x∈bs
 · rw[aH hx]
   exact⟨fun h=>h,fun o h=>h⟩
 · rw[aE hx]
   refine⟨fun h=>?_,fun o h=>hk x o h⟩
   cases hs:st x with
   | none=>rfl
   | some o=>rw[hk x o hs] at h;cases h
def H1(st:aA)(s:Ss)(n:Int)(r:AV)(st':aA):Prop:=
 ∃o1 q o2 L k,r=.tup [o1,o2]∧nB st [aS (dB s n).1,.slice (L.map bO)] (.tup [o1,q]) st'∧L0 (L.map bO).length k q o2∧k≤L.length∧L.drop k=(dB s n).2∧L.length≤20∧(bD aV9 L≤9360*L.length)
theorem Made.two{st st1 st2:aA}{a b o p:AV}(h1:Made st a o st1)(h2:Made st1 b p st2):nB st [b,a] (.tup [p,o]) st2:=by
 obtain⟨b1,m1,m2,m3,m4⟩:=h1
 obtain⟨b2,n1,n2,n3,n4⟩:=h2
 have hs:=m3.a9N
 have hd:∀x∈b1,x∉b2:=fun x hx hx'=>hs x hx (n2 x hx')
 refine⟨_,b2++b1,rfl,mJ.2 ⟨n1,m1,fun x hx y hy e=>hd y hy (e▸hx)⟩,fun x hx=>?_,WA.2 ⟨p,o,b2,b1,rfl,rfl,n3,bM.aV _ _ _ (fun x hx=>n4 x (hd x hx)) m3⟩,fun x hx=>?_⟩
 · rcases d6.1 hx with hx | hx
   · have:=n2 x hx
     by_cases h:x∈b1
     · exact m2 x h
     · rw[←m4 x h];exact this
   · exact m2 x hx
 · simp only[d6,nO] at hx
   rw[n4 x hx.1,m4 x hx.2]
theorem nB.under{st s1:aA}{b4:Nat}{v w:AO}{xs os:List AV}(h4:st b4=none)(h:nB (st.aC b4 v) xs (.tup os) s1):∃s2,aL (s1.aC b4 w) s2∧nB st xs (.tup os) s2:=by
 obtain⟨os',bs,he,m1,m2,m3,m4⟩:=h
 cases he
 have hb4:b4∉bs:=fun hq=>by have:=m2 b4 hq;rw[aA.aJ] at this;cases this
 have hne:∀x∈bs,x≠b4:=fun x hx e=>hb4 (e▸hx)
 refine nB.VZ m1 (fun x hx=>?_) (aW.aV _ _ _ (fun x hx=>aA.aG _ _ (hne x hx)) m3) (fun x o hx=>?_)
 · have:=m2 x hx
   rwa [aA.aG _ _ (hne x hx)] at this
 · have hx4:x≠b4:=by rintro rfl;rw[h4] at hx;cases hx
   have hxb:x∉bs:=fun h=>by have:=m2 x h;rw[aA.aG _ _ hx4,hx] at this;cases this
   rw[aA.aG _ _ hx4,m4 x hxb,aA.aG _ _ hx4,hx]
theorem Made.aSN{st s1:aA}{s:Ss}{r:AV}(h:Made st (aS s) r s1):∃q q',r=.agg [q,q',.int .i64 s.dD,.int .i64 s.used,.int .i64 s.sent,.int .i64 s.fin]∧(∃b,bM s1 (.slice (s.p.map bR)) q b)∧∃b,bM s1 (.slice (s.q.map Tm.av)) q' b:=by
 obtain⟨bs,_,_,h,_⟩:=h
 obtain⟨q,b1,q',b2,rfl,_,h1,h2⟩:=a7P.1 h
 exact⟨q,q',rfl,⟨b1,h1⟩,⟨b2,h2⟩⟩
theorem Made.stays{st s1:aA}{a r:AV}{b:Nat}{o:AO}(h:Made st a r s1)(hb:st b=some o):s1 b=some o:=by
 obtain⟨bs,_,h2,_,h4⟩:=h
 rw[h4 b (fun hq=>by have:=h2 b hq;rw[hb] at this;cases this),hb]
theorem B6.stays{st s1:aA}{L:List AV}{k:Nat}{r:AV}{b:Nat}{o:AO}(h:B6 st L k r s1)(hb:st b=some o):s1 b=some o:=by
 obtain⟨q,h1,_⟩:=h
 exact h1.stays hb
theorem B6.flat{st s1:aA}{L:List AV}{k:Nat}{r:AV}(h:B6 st L k r s1):r.isAgg=false∧r.cE=false∧r.width=1∧r.cells= [r]∧r.storable=true:=by
 obtain⟨q,_,h2⟩:=h
 exact PE h2
abbrev vM:=zi tI_3 (zi zI_3 (zi aY (zi tI_4 (zi zI_4 (zi cJ (zi tI_26 (zi zI_26 (zi fZ (zi jF (zi jG (zi mZ (zi tI_62 (zi zI_62 (zi lE (zi lF (zi lG (zi lH (zi lI (zi lJ lA)))))))))))))))))))
set_option maxHeartbeats 2000000 in
theorem aYF(s:Ss)(n:Int)(hp:s.p.length≤1048576)(hps:∀c∈s.p,FD c)(hq:s.q.length≤1048576)(hqs:∀t∈s.q,t.small=true)(st:aA):aD prog 98 [aS s,.int .i64 n] st (H1 st s n):=by
 have hv:=SE s
 have how:=aQ4 s hp hps hq hqs
 have a4W:=aQ4 (k9 s n) hp hps hq hqs
 have hsl:=fun(h:l9 s n=true)=>aCC s n (pT.1 h).1 (pT.1 h).2.1
 have jI:∀(b4:Nat) (r:AV) (s1:aA) (v w:AO),l9 s n=false→st b4=none→Made (st.aC b4 v) (aS s) r s1→∃s2,aL (s1.aC b4 w) s2∧H1 st s n (.tup [r,.fslice []]) s2:=fun b4 r s1 v w hc h4 hM=>by
  have hs:dB s n=(s,[]):=by unfold dB;rw[hc];try rfl
  have h0:Made (st.aC b4 v) (.slice []) (.fslice []) (st.aC b4 v):=⟨[],lZ,by simp,.inl ⟨rfl,rfl,rfl⟩,fun _ _=>rfl⟩
  obtain⟨s2,D,hT⟩:=nB.under (w:=w) h4 (Made.two h0 hM)
  exact⟨s2,D,r,.fslice [],.fslice [],[],0,rfl,by rw[hs];exact hT,.inr ⟨rfl,rfl⟩,cY _,by rw[hs];try rfl,by simp,by simp [bD]⟩
 have UU:∀(b4:Nat) (r o:AV) (s1 s2:aA) (v w:AO),l9 s n=true→st b4=none→B6 (st.aC b4 v) ((dU s (fJ s n)).1.map bO) s.sent.toNat o s1→Made s1 (aS (k9 s n)) r s2→∃s3,aL (s2.aC b4 w) s3∧H1 st s n (.tup [r,o]) s3:=fun b4 r o s1 s2 v w hc h4 hL hM=>by
  have hs:dB s n=(k9 s n,oP s n):=by unfold dB;rw[hc];try rfl
  have hF:=vH (pT.1 hc).1 (pT.1 hc).2.1
  obtain⟨q,h1,h2⟩:=hL
  obtain⟨s3,D,hT⟩:=nB.under (w:=w) h4 (Made.two h1 hM)
  have hSo:=W7 s.p (cnd:=fun _ l=>l) (fun _ l=>⟨fun _ h=>h,cY _⟩) s.q 20 (fJ s n)
  exact⟨s3,D,r,q,o,(dU s (fJ s n)).1,s.sent.toNat,rfl,by rw[hs];exact hT,h2,by have:=hF.s1;omega,by rw[hs];try rfl,hF.l,aAD hSo.2⟩
 have FV:eM s=true→0≤n→s.fin= -1→l9 s n=true:=fun a b c=>pT.2 ⟨a,b,c⟩
 have C4:l9 s n=true→eM s=true∧0≤n∧s.fin= -1:=pT.1
 have hsw:=fun {st s1:aA} {r:AV} (h:Made st (aS s) r s1)=>h.aSN
 have hAw:=fun {st s1:aA} {r:AV} (h:Made st (aS (k9 s n)) r s1)=>h.aSN
 generalize k9 s n=A at *
 generalize hRR:H1 st s n=RR at *
 generalize l9 s n=cs at *
 generalize eM s=ok at *
 obtain⟨ap,aq,a0,a1,a2,a3⟩:=A
 obtain⟨p,q,i0,i1,i2,i3⟩:=s
 simp only[aS] at *
 refine aD.nG ?_
 refine wF [1000000] 2 func98 ntmps98 rfl rfl ?_
 intro _
 simp -implicitDefEqProofs only[aB,seval,vM]
 intro b4 h4
 refine(hv _).to ?_
 simp -implicitDefEqProofs only[aB,seval]
 cases ok with
 | false=>
  have hc:cs=false:=by cases cs with | false=>rfl | true=>exact absurd (C4 rfl).1 (by decide)
  subst hc
  simp -implicitDefEqProofs only[aB,seval,vM]
  refine(how _).mono ?_
  intro r s1 hM
  obtain⟨q0,q1,rfl,⟨_,hq0⟩,⟨_,hq1⟩⟩:=hsw hM
  obtain⟨hqc,hqs,hqa,hqw,hqj⟩:=bM.oQ hq0
  obtain⟨hrc,hrs,hra,hrw,hrj⟩:=bM.oQ hq1
  have e4:=hM.stays (aA.aJ _ _ _)
  simp -implicitDefEqProofs only[aK,e4,hqs,hrs,aB,seval,vM]
  exact jI b4 _ s1 _ _ rfl h4 hM
 | true=>
  simp -implicitDefEqProofs only[aB,seval,vM]
  by_cases h3:i3= -1
  case neg=>
   have hc:cs=false:=by cases cs with | false=>rfl | true=>exact absurd (C4 rfl).2.2 h3
   subst hc
   have h3':=cK h3
   simp -implicitDefEqProofs only[h3',bX,aB,seval,vM]
   refine(how _).mono ?_
   intro r s1 hM
   obtain⟨q0,q1,rfl,⟨_,hq0⟩,⟨_,hq1⟩⟩:=hsw hM
   obtain⟨hqc,hqs,hqa,hqw,hqj⟩:=bM.oQ hq0
   obtain⟨hrc,hrs,hra,hrw,hrj⟩:=bM.oQ hq1
   have e4:=hM.stays (aA.aJ _ _ _)
   simp -implicitDefEqProofs only[aK,e4,hqs,hrs,aB,seval,vM]
   exact jI b4 _ s1 _ _ rfl h4 hM
  have h3':=dC h3
  by_cases hn:0≤n
  case neg=>
   have hc:cs=false:=by cases cs with | false=>rfl | true=>exact absurd (C4 rfl).2.1 hn
   subst hc
   have hn':(n<0)=True:=dC (by omega)
   simp -implicitDefEqProofs only[h3',hn',bV,aB,seval,vM]
   refine(how _).mono ?_
   intro r s1 hM
   obtain⟨q0,q1,rfl,⟨_,hq0⟩,⟨_,hq1⟩⟩:=hsw hM
   obtain⟨hqc,hqs,hqa,hqw,hqj⟩:=bM.oQ hq0
   obtain⟨hrc,hrs,hra,hrw,hrj⟩:=bM.oQ hq1
   have e4:=hM.stays (aA.aJ _ _ _)
   simp -implicitDefEqProofs only[aK,e4,hqs,hrs,aB,seval,vM]
   exact jI b4 _ s1 _ _ rfl h4 hM
  have hn':(n<0)=False:=cK (by omega)
  have hc:cs=true:=FV rfl hn h3
  subst hc
  simp -implicitDefEqProofs only[h3',hn',bX,bV,aB,seval,vM]
  refine(hsl rfl _).mono ?_
  rintro _ s1 ⟨o,rfl,hL⟩
  have f4:=hL.stays (aA.aJ _ _ _)
  obtain⟨ht1,ht2,ht3,ht4,ht5⟩:=hL.flat
  simp -implicitDefEqProofs only[aB,↓aU,seval,vM]
  refine(a4W _).mono ?_
  intro r s2 hM
  obtain⟨q0,q1,rfl,⟨_,hq0⟩,⟨_,hq1⟩⟩:=hAw hM
  obtain⟨hqc,hqs,hqa,hqw,hqj⟩:=bM.oQ hq0
  obtain⟨hrc,hrs,hra,hrw,hrj⟩:=bM.oQ hq1
  have e4:=hM.stays f4
  simp -implicitDefEqProofs only[aK,e4,hqs,hrs,ht2,aB,seval,vM]
  exact UU b4 _ _ s1 s2 _ _ rfl h4 hL hM

end Go.AW
namespace Go.AW
def oB(s:Ss):List AV:=[.slice (s.p.map bR),.slice (s.q.map Tm.av),.int .i64 s.dD,.int .i64 s.used,.int .i64 s.sent,.int .i64 s.fin]
theorem a8B{p:List Cl}{cnd:Tm→List Nat→List Nat}{s:RS}{g:RG}{rest:List RG}{e:Int}(h:jL p cnd s g rest=.stop e):0≤e:=by
 unfold jL at h
 repeat' split at h
 all_goals first | (cases h;done) | (injection h with h;subst h;unfold qT;repeat' split;all_goals omega) | (injection h with h;omega)
theorem a77(p:List Cl)(cnd:Tm→List Nat→List Nat)(vars:List Int):∀(n most f:Nat) (s:RS),most+f≤n→0≤(jB p cnd vars most f s).2:=by
 intro n
 induction n with
 | zero=>
  intro most f s hn
  obtain rfl:most=0:=by omega
  obtain rfl:f=0:=by omega
  cases hg:s.goals with
  | nil=>rw[vF hg];simp
  | cons g rest=>rw[sH (fuel:=0) hg];simp
 | succ n ih=>
  intro most f s hn
  cases hg:s.goals with
  | nil=>
   rw[vF hg]
   by_cases hm:most=0
   · rw[aH hm];simp
   rw[aE hm]
   cases ha:jV s.σ vars with
   | none=>simp
   | some a=>
    simp only
    cases hb:gC p s.chs.length s.chs with
    | none=>simp
    | some s'=>exact ih (most - 1) f s' (by omega)
  | cons g rest=>
   by_cases hf:f=0
   · subst hf
     rw[sH (fuel:=0) hg];simp
   rw[sH hg,aE hf]
   cases hst:jL p cnd s g rest with
   | stop e=>exact a8B hst
   | go s'=>exact ih most (f - 1) s' (by omega)
   | fail=>
    simp only
    cases hb:gC p s.chs.length s.chs with
    | none=>simp
    | some s'=>exact ih most (f - 1) s' (by omega)
theorem aSI{p:List Cl}{cnd:Tm→List Nat→List Nat}{q:List Tm}{most fuel:Int}:0≤(g9 p cnd q most fuel).2:=by
 unfold g9
 split
 · exact a77 p cnd _ _ _ _ _ (cY _)
 · simp
theorem a2O{s:Ss}{u v:Int}(hok:lW s.p s.q 20 u=true)(huv:u≤v)(hv:v≤s.dD)(hq:s.dD≤300)(h:(dU s u).2≠-1):dU s v=dU s u:=by
 have hf:=(TT (cnd:=fun _ l=>l) hok huv (by omega)).1
 by_cases h2:(g9 s.p (fun _ l=>l) s.q 20 u).2=2
 · have hu:¬u<s.dD:=fun hu=>by
    unfold dU at h
    rw[aH ⟨h2,hu⟩] at h
    exact h rfl
   obtain rfl:v=u:=by omega
   rfl
 · have he:=hf h2
   unfold dU
   rw[he,aE (fun h=>h2 h.1),aE (fun h=>h2 h.1)]
theorem a2P{s:Ss}{u v:Int}(hok:lW s.p s.q 20 u=true)(huv:u≤v)(hv:v≤300):(dU s u).1 <+: (dU s v).1:=(TT (cnd:=fun _ l=>l) hok huv hv).2
theorem bBJ{s:Ss}(h:eM s=true)(hf:s.fin≠-1):(g9 s.p (fun _ l=>l) s.q 20 s.dD).2=s.fin∧s.sent=((g9 s.p (fun _ l=>l) s.q 20 s.dD).1.length:Int):=by
 simp only[eM,cF] at h
 obtain⟨hr,hs⟩:=h
 obtain⟨kp,kq,k1,k2,k3,k4⟩:=PB.1 hr
 simp only[pP,KU,cF,bK] at hs
 rcases hs with ⟨_,_,h3⟩ | ⟨h1,h2⟩
 · exact absurd h3 hf
 have he:(dU s s.used).2≠-1:=by rw[show dU s s.used=wK s from rfl,←h2];exact hf
 have:=a2O (XB hr) k4 (Int.le_refl _) k2 he
 have hq:dU s s.dD=((g9 s.p (fun _ l=>l) s.q 20 s.dD).1,(g9 s.p (fun _ l=>l) s.q 20 s.dD).2):=by
  unfold dU
  rw[aE (by omega)]
 rw[hq] at this
 have e1:=gH Prod.fst this
 have e2:=gH Prod.snd this
 simp only at e1 e2
 rw[e1,e2]
 exact⟨h2.symm,h1⟩
theorem W4{s:Ss}{n:Int}(h:l9 s n=false):dB s n=(s,[]):=by unfold dB;rw[h];try rfl
theorem DV{s:Ss}{n:Int}(h:l9 s n=true):dB s n=(k9 s n,oP s n):=by unfold dB;rw[h];try rfl
noncomputable def drain:List Int→Ss→List (List Tm)→List (List Tm)×Int
 | [],s,acc=>if s.fin= -1 then(acc++(dB s 300).2,(dB s 300).1.fin) else(acc,s.fin)
 | n::sl,s,acc=>if s.fin= -1 then drain sl (dB s n).1 (acc++(dB s n).2) else(acc,s.fin)
theorem w6(s:Ss)(n:Int):(dB s n).1.p=s.p∧(dB s n).1.q=s.q∧(dB s n).1.dD=s.dD:=by
 unfold dB
 split<;>exact⟨rfl,rfl,rfl⟩
theorem KS{s:Ss}{n:Int}(h:eM s=true):eM (dB s n).1=true:=by
 by_cases hc:l9 s n=true
 · rw[DV hc]
   exact(vH h (pT.1 hc).2.1).nxt
 · rw[W4 (by simpa using hc)]
   exact h
theorem NM(s:Ss):dU s s.dD=g9 s.p (fun _ l=>l) s.q 20 s.dD:=by
 unfold dU
 rw[aE (by omega)]
theorem aSD{s:Ss}{n:Int}(h:eM s=true):(dB s n).2++(dU s s.dD).1.drop (dB s n).1.sent.toNat=(dU s s.dD).1.drop s.sent.toNat:=by
 by_cases hc:l9 s n=true
 · rw[DV hc]
   have hF:=vH h (pT.1 hc).2.1
   have h0:=hF.s0
   have h1:=hF.s1
   obtain⟨M,hM⟩:=a2P hF.ok hF.u2 hF.q1
   show(dU s (fJ s n)).1.drop s.sent.toNat++(dU s s.dD).1.drop ((dU s (fJ s n)).1.length:Int).toNat=_
   rw[←hM,jQ,EI,YV (by omega)]
 · rw[W4 (by simpa using hc)]
   try rfl
theorem FI{s:Ss}(h:eM s=true)(hf:s.fin≠-1):(dU s s.dD).1.drop s.sent.toNat= []∧(dU s s.dD).2=s.fin:=by
 obtain⟨h1,h2⟩:=bBJ h hf
 rw[NM]
 exact⟨B2 (by omega),h1⟩
theorem VK{s:Ss}(h:eM s=true)(hf:s.fin= -1):(dB s 300).1.fin=(dU s s.dD).2∧(dB s 300).2=(dU s s.dD).1.drop s.sent.toNat:=by
 have hc:l9 s 300=true:=pT.2 ⟨h,by omega,hf⟩
 have hF:=vH (n:=300) h (by omega)
 have hu:fJ s 300=s.dD:=by
  have:=hF.u0
  have:=hF.q1
  unfold fJ
  rw[aE (by omega)]
 rw[DV hc]
 show(dU s (fJ s 300)).2=_∧(dU s (fJ s 300)).1.drop s.sent.toNat=_
 rw[hu]
 exact⟨rfl,rfl⟩
theorem aDA:∀(sl:List Int) (s:Ss) (acc:List (List Tm)),eM s=true→drain sl s acc=(acc++(dU s s.dD).1.drop s.sent.toNat,(dU s s.dD).2)
 | [],s,acc,h=>by
  unfold drain
  by_cases hf:s.fin= -1
  · rw[aH hf,(VK h hf).1,(VK h hf).2]
  · rw[aE hf,(FI h hf).1,(FI h hf).2,gF]
 | n::sl,s,acc,h=>by
  unfold drain
  by_cases hf:s.fin= -1
  · obtain⟨k1,k2,k3⟩:=w6 s n
    have hq:dU (dB s n).1 (dB s n).1.dD=dU s s.dD:=by
     unfold dU
     rw[k1,k2,k3]
    rw[aH hf,aDA sl _ _ (KS h),hq,lX,aSD h]
  · rw[aE hf,(FI h hf).1,(FI h hf).2,gF]
theorem O5{s:Ss}{n:Int}(h:eM s=true):(dB s n).2.length≤20:=by
 by_cases hc:l9 s n=true
 · rw[DV hc]
   have:=(vH h (pT.1 hc).2.1).l
   simp only[oP,mI]
   omega
 · rw[W4 (by simpa using hc)]
   exact jE _
theorem rR{U:aA}{bo x:Nat}{os:List AV}(h:os≠[]→x≠bo):aZ U bo os x=U x:=by
 by_cases hl:os= []
 · rw[hl,uJ]
 · rw[oG (h hl)]
section
variable {P:Program}
def BA(ops:Array Oper)(S:List Nat):List (Nat×Nat)→Array Bool→Option (Array Bool)
 | [],listed=>some listed
 | (i,0)::r,listed=>if decide (Region.ready .any ops listed= [i])&& !S.contains i then BA ops S r (listed.setIfInBounds i true) else none
 | (i,1)::r,listed=>if(Region.ready .any ops listed).contains i&&Region.free .any ops listed i&&S.contains i then BA ops S r (listed.setIfInBounds i true) else none
 | _::_,_=>none
theorem RK{ops:Array Oper}{S:List Nat}{s0:aA}{K K':AF→aA→Prop}{n:Nat}:∀(p:List (Nat×Nat)) (listed l':Array Bool) (φ:AF) (st:aA),tY ops listed→BA ops S p listed=some l'→eN s0 st →
 (∀φ st,tY ops l'→eN s0 st→K' φ st→xP P ops S s0 K n l' φ st)→CD P ops s0 K' p φ st→xP P ops S s0 K (p.length+n) listed φ st
 | [],listed,l',φ,st,hcl,hB,hx,hK,h=>by
  simp only[BA,Option.some.injEq] at hB
  subst hB
  rw[a8,iE]
  exact hK φ st hcl hx h
 | (i,0)::r,listed,l',φ,st,hcl,hB,hx,hK,h=>by
  simp only[BA] at hB
  split at hB
  case isFalse=>cases hB
  rename_i hc
  simp only[cF,bK,mG] at hc
  obtain⟨o,ho,h'⟩:=h
  have hr:i∈Region.ready .any ops listed:=by rw[hc.1];simp
  rw[aX,show r.length+1+n=(r.length+n)+1 by omega]
  refine⟨fun h0=>(by rw[hc.1] at h0;cases h0),fun j hj=>?_⟩
  rw[hc.1] at hj
  obtain rfl:j=i:=by simpa using hj
  exact⟨o,ho,.inr ⟨hc.2,uG (fun v st' q=>⟨.inr q.1,RK r _ _ _ _ (hcl.set hr) hB q.1 hK q.2⟩) h'⟩⟩
 | (i,1)::r,listed,l',φ,st,hcl,hB,hx,hK,h=>by
  simp only[BA] at hB
  split at hB
  case isFalse=>cases hB
  rename_i hc
  simp only[cF] at hc
  obtain⟨⟨hr,hf⟩,hS⟩:=hc
  obtain⟨o,ho,v,hv,h'⟩:=h
  have hr':i∈Region.ready .any ops listed:=by simpa using hr
  rw[aX,show r.length+1+n=(r.length+n)+1 by omega]
  exact ZQ ho hS _ listed φ st hcl (Region.free_spec ho hf) hr' hv hx (RK r _ _ _ _ (hcl.set hr') hB hx hK h')
 | (i,k+2)::r,listed,l',φ,st,hcl,hB,hx,hK,h=>by simp [BA] at hB
inductive PT where
 | fin (p:List (Nat×Nat))
 | br (p:List (Nat×Nat)) (i j:Nat) (a b:PT)
def PT.size:PT→Nat
 | .fin p=>p.length
 | .br p _ _ a _=>p.length+(a.size+1)
def GV(ops:Array Oper)(S:List Nat):PT→Array Bool→Bool
 | .fin p,l=>tN ops S p l&&DF p
 | .br p i j a b,l=>match BA ops S p l with
  | none=>false
  | some l'=>decide (Region.ready .any ops l'= [i,j])&& !S.contains i&& !S.contains j&&decide (b.size=a.size)&&GV ops S a (l'.setIfInBounds i true)&&GV ops S b (l'.setIfInBounds j true)
def sU(P:Program)(ops:Array Oper)(s0:aA)(K:AF→aA→Prop):PT→AF→aA→Prop
 | .fin p,φ,st=>iX P ops s0 K p φ st
 | .br p i j a b,φ,st=>iX P ops s0 (fun φ st=>
  (match ops[i]? with | none=>False | some o=>bF P [] ops [o] (fun φ' st'=>eN s0 st'∧sU P ops s0 K a φ' st') φ st) ∧
  (match ops[j]? with | none=>False | some o=>bF P [] ops [o] (fun φ' st'=>eN s0 st'∧sU P ops s0 K b φ' st') φ st)) p φ st
def OD(P:Program)(ops:Array Oper)(s0:aA)(K:AF→aA→Prop)(t:PT)(φ:AF)(st:aA):Prop:=eN s0 st∧sU P ops s0 K t φ st
def w8(P:Program)(ops:Array Oper)(s0:aA)(K:AF→aA→Prop)(t:PT)(φ:AF)(st:aA):Option Oper→Prop
 | none=>False
 | some o=>bF P [] ops [o] (OD P ops s0 K t) φ st
def MJ(P:Program)(ops:Array Oper)(s0:aA)(K:AF→aA→Prop)(i j:Nat)(a b:PT)(φ:AF)(st:aA):Prop:=w8 P ops s0 K a φ st ops[i]?∧w8 P ops s0 K b φ st ops[j]?
theorem Q4{ops:Array Oper}{s0:aA}{K:AF→aA→Prop}{p:List (Nat×Nat)}{φ:AF}{st:aA}:sU P ops s0 K (.fin p) φ st=iX P ops s0 K p φ st:=by rw[sU]
theorem Y2{ops:Array Oper}{s0:aA}{K:AF→aA→Prop}{p:List (Nat×Nat)}{i j:Nat}{a b:PT}{φ:AF}{st:aA}:sU P ops s0 K (.br p i j a b) φ st=iX P ops s0 (MJ P ops s0 K i j a b) p φ st:=by
 rw[sU]
 congr 1
theorem aU8{l:List Oper}{s0:aA}{K:AF→aA→Prop}{i j:Nat}{a b:PT}{φ:AF}{st:aA}:MJ P l.toArray s0 K i j a b φ st=(w8 P l.toArray s0 K a φ st l[i]?∧w8 P l.toArray s0 K b φ st l[j]?):=by
 simp only[MJ,zR]
theorem aU9{ops:Array Oper}{s0:aA}{K:AF→aA→Prop}{t:PT}{φ:AF}{st:aA}{o:Oper}:w8 P ops s0 K t φ st (some o)=bF P [] ops [o] (OD P ops s0 K t) φ st:=by rw[w8]
theorem Y3{ops:Array Oper}{s0:aA}{K:AF→aA→Prop}{t:PT}{φ:AF}{st:aA}:OD P ops s0 K t φ st=(eN s0 st∧sU P ops s0 K t φ st):=by rw[OD]
theorem aSQ{ops:Array Oper}{s0:aA}{K:AF→aA→Prop}{t:PT}{φ:AF}{st:aA}{i:Nat}(h:w8 P ops s0 K t φ st ops[i]?) :
 ∃o,ops[i]?=some o∧j9 P ops o φ st (fun v st'=>eN s0 st'∧sU P ops s0 K t (φ.put o.dst v) st'):=by
 cases ho:ops[i]? with
 | none=>rw[ho] at h;exact h.elim
 | some o=>
  rw[ho] at h
  refine⟨o,rfl,?_⟩
  simp only[w8,bF] at h
  unfold j9
  split at h
  · rename_i hg
    rw[hg]
    exact CE (fun v s q=>q) h
  · rename_i hg
    rw[hg]
    exact⟨h.1,h.2⟩
  · exact h.elim
theorem RJ{ops:Array Oper}{S:List Nat}{s0:aA}{K:AF→aA→Prop}:∀(t:PT) (listed:Array Bool) (φ:AF) (st:aA),tY ops listed→GV ops S t listed=true→eN s0 st→sU P ops s0 K t φ st→xP P ops S s0 K t.size listed φ st
 | .fin p,listed,φ,st,hcl,hB,hx,h=>by
  simp only[GV,cF] at hB
  rw[Q4] at h
  exact H9 p _ _ _ hcl hB.1 (.inl ⟨hB.2,hx⟩) (v8 _ _ _ h)
 | .br p i j a b,listed,φ,st,hcl,hB,hx,h=>by
  simp only[GV] at hB
  split at hB
  · cases hB
  rename_i l' hl'
  simp only[cF,bK,mG] at hB
  obtain⟨⟨⟨⟨⟨hr,hSi⟩,hSj⟩,hsz⟩,hBa⟩,hBb⟩:=hB
  rw[Y2] at h
  refine RK (K':=MJ P ops s0 K i j a b) p _ _ _ _ hcl hl' hx (fun φ st hcl hx hK=>?_) (v8 _ _ _ h)
  refine⟨fun h0=>(by rw[hr] at h0;cases h0),fun k hk=>?_⟩
  have hk':=hk
  rw[hr] at hk'
  rcases c7.1 hk' with rfl | hk'
  · obtain⟨o,ho,h2⟩:=aSQ hK.1
    exact⟨o,ho,.inr ⟨hSi,uG (fun v st' q=>⟨.inr q.1,RJ a _ _ _ (hcl.set hk) hBa q.1 q.2⟩) h2⟩⟩
  · obtain rfl:k=j:=by simpa using hk'
    obtain⟨o,ho,h2⟩:=aSQ hK.2
    have:=fun(v:AV) (st':aA) (q:eN s0 st'∧sU P ops s0 K b (φ.put o.dst v) st')=>RJ (S:=S) b _ _ _ (hcl.set hk) hBb q.1 q.2
    rw[hsz] at this
    exact⟨o,ho,.inr ⟨hSj,uG (fun v st' q=>⟨.inr q.1,this v st' q⟩) h2⟩⟩
theorem aWU{N:Nat}{id:Nat}{l:List Oper}{Q:Exit→AF→aA→Prop}{φ:AF}{st:aA}(t:PT)(S:List Nat)(s0:aA)(hm:P.follows .mixedOrders=true)(hok:rE N l.toArray=true)(hl:t.size=l.length)(hB:GV l.toArray S t (Array.replicate l.toArray.size false)=true)(hs:eN s0 st)
 (h:sU P l.toArray s0 (Q .normal) t φ st):fU P N (.region id l.toArray true) Q φ st:=by
 intro a w R
 refine wp_region_any hm ?_
 have R0:Rel N a { w with drawn:=w.drawn+1 } φ st:=⟨R.size,R.defers,R.frame,R.store⟩
 have key:=RJ (P:=P) (ops:=l.toArray) (S:=S) (s0:=s0) (K:=Q .normal) t (Array.replicate l.toArray.size false) φ st (fun j o _ hl=>(by rw[TV] at hl;cases hl)) hB hs h
 rw[hl,←List.size_toArray] at key
 exact L6 (A9 hok) (yZ hok) (w0:=w) (st0:=st) (fun φ' st' a' w' k R' T s=>⟨φ',st',R',T,s,k⟩) _ _ _ _ _ _ (L7 _ _ _ _ key) R0 (cC.refl _ _) ⟨rfl,rfl,rfl⟩
end
@[congr] theorem bC4 {P:Program} {ops:Array Oper} {s0:aA} {K:AF→aA→Prop} {t:PT} {φ φ':AF} {st st':aA} {o o':Option Oper} (h1:φ=φ') (h2:st=st') (h3:o=o'):w8 P ops s0 K t φ st o=w8 P ops s0 K t φ' st' o':=by rw[h1,h2,h3]
end Go.AW
namespace Go.AW
open Go.Proofs.Tryz
structure nD (s:Ss):Prop where
 p:s.p.length≤20
 ps:∀c∈s.p,yA c
 q:s.q.length≤6
 qs:∀t∈s.q,Dn t
theorem nD.small{s:Ss}(h:nD s):s.p.length≤1048576∧(∀c∈s.p,FD c)∧s.q.length≤1048576∧∀t∈s.q,t.small=true:=
 ⟨by have:=h.p;omega,fun c hc=>⟨(h.ps c hc).1.2,by have:=(h.ps c hc).2.1;omega,fun x hx=>((h.ps c hc).2.2 x hx).2⟩,by have:=h.q;omega,fun t ht=>(h.qs t ht).2⟩
theorem nD.vG{p:List Cl}{q:List Tm}{k:Int}(hp:p.length≤20)(hps:∀c∈p,yA c)(hq:OV q):nD (vG p q k):=by
 unfold AW.vG
 split
 · exact⟨hp,hps,hq.1,hq.2⟩
 · exact⟨by simp,by simp,by simp,by simp⟩
theorem nD.of{s s':Ss}(h:nD s)(hp:s'.p=s.p)(hq:s'.q=s.q):nD s':=
 ⟨by rw[hp];exact h.p,by rw[hp];exact h.ps,by rw[hq];exact h.q,by rw[hq];exact h.qs⟩
theorem nD.dB{s:Ss}{n:Int}(h:nD s):nD (dB s n).1:=h.of (w6 s n).1 (w6 s n).2.1
abbrev YT (r:AV):Prop:=∃s:Ss,nD s∧r=aS s
abbrev D6:=zi tI_3 (zi zI_3 (zi aY (zi tI_29 (zi zI_29 (zi fN (zi iG (zi iI (zi jN (zi tI_31 (zi zI_31 (zi aQ (zi bS (zi bT (zi cI (zi tI_46 (zi zI_46 (zi cZ (zi eG (zi eE (zi eT (zi tI_62 (zi zI_62 (zi lE (zi lF (zi lG (zi lH (zi lI (zi lJ (zi lA (zi tI_116 zI_116))))))))))))))))))))))))))))))
set_option maxHeartbeats 2000000 in
theorem aYK(bs:List Bt)(c p:Nat)(st:aA)(hp:p+1000≤1099511627776)(hR:iF st c bs p):aD prog 95 [.ptr c 0] st (Dr bs c p 1000 st YT):=by
 refine aD.nG ?_
 refine wF [1000000,2,5] 1 func95 ntmps95 rfl rfl ?_
 intro _
 simp -implicitDefEqProofs only[aB,seval,D6]
 intro b2 h2
 have h2c:=hR.ne h2
 refine(aZX bs c p _ (by omega) (hR.aC h2c)).mono ?_
 rintro _ _ ⟨p1,r1,r2,rfl,l,q,⟨l1,l2,l3⟩,hq,rfl⟩
 simp -implicitDefEqProofs only[aB,seval,D6]
 refine(x7 [60,100,20,7,0] (by simp) (by simp) bs c p1 (by omega) _ iF.new).mono ?_
 rintro _ _ ⟨x,hx,rfl,rfl⟩
 rw[dS]
 simp -implicitDefEqProofs only[aB,seval]
 refine(a0F l q x _).to ?_
 have hD:nD (vG l q x):=nD.vG l2 l3 hq
 generalize vG l q x=s0 at *
 simp only[aS]
 simp -implicitDefEqProofs only[aK,aB,↓aU,seval,D6]
 intro b5 h5
 have h5c:b5≠c:=iF.new.ne h5
 rw[aA.aG _ _ h5c] at h5
 have h52:b5≠b2:=by rintro rfl;rw[aA.aJ] at h5;cases h5
 rw[aA.aG _ _ h52] at h5
 refine(AG bs c (p1+1) (by omega) 3 (by omega) (by omega) _ (iF.new.aC h5c)).mono ?_
 rintro _ _ ⟨k,hk,rfl,rfl⟩
 rw[aA.m7 _ _ _ h5c,dS]
 simp -implicitDefEqProofs only[aB,seval]
 generalize ho:(AO.cells _:AO)=o2
 refine iP (σ:=Nat×Nat×Ss) [1000000] [0,2,5] (fun x=>x.1≤2∧p≤x.2.1∧x.2.1+10*x.1≤p+900∧nD x.2.2) (fun x=>[(7,.int .i64 (x.1:Int))]) (fun x=>((st.aC b2 o2).aC c (kF bs x.2.1)).aC b5 (.cells (oB x.2.2))) (fun x=>x.1) (by decide +kernel) ⟨(k,p1+1+1,s0),⟨by simp only;omega,by simp only;omega,by simp only;omega,hD⟩,aM.mk (by simp -implicitDefEqProofs only[aB,seval])⟩ ?_
 rintro⟨i,q2,z⟩ ⟨i1,i2,i3,i4⟩
 simp only at i1 i2 i3 i4
 obtain⟨k1,k2,k3,k4⟩:=i4.small
 have hsl:=fun n=>a0G z n k1 k2 k3 k4
 have hkp:=fun n=>i4.dB (n:=n)
 have e5:∀X:AO,(((st.aC b2 o2).aC c X).aC b5 (.cells (oB z))) b5=some (.cells [.slice (z.p.map bR),.slice (z.q.map Tm.av),.int .i64 z.dD,.int .i64 z.used,.int .i64 z.sent,.int .i64 z.fin]):=fun X=>aA.aJ _ _ _
 have e2:∀X Y:AO,(((st.aC b2 o2).aC c X).aC b5 Y) b2=some o2:=fun X Y=>by rw[aA.aG _ _ h52.symm,aA.aG _ _ h2c,aA.aJ]
 simp only[aS] at hsl
 have hw:=bE (n:=(i:Int) - 1)
 subst ho
 simp -implicitDefEqProofs only[aB,seval]
 refine aP (fun h=>?_) (fun h=>?_)
 case refine_2=>
  simp -implicitDefEqProofs only[aK,e5,e2,aA.aJ,aB,seval,D6]
  refine⟨st.aC c (kF bs q2),fun x=>?_,q2,by omega,by omega,rfl,z,i4,rfl⟩
  by_cases x2:x=b2<;>by_cases xc:x=c<;>by_cases x5:x=b5<;>simp_all [aA.aC]
 have hi:0<i:=by simp only[bK] at h;omega
 simp -implicitDefEqProofs only[aB,seval]
 refine aWU (.br [(0,1),(1,1),(2,1)] 3 8 (.fin [(4,1),(5,1),(6,1),(7,1),(8,0),(9,0),(10,1)]) (.fin [(3,0),(4,1),(5,1),(6,1),(7,1),(9,0),(10,1)])) [0,1,2,4,5,6,7,10] (one b5 (.cells [.slice (z.p.map bR),.slice (z.q.map Tm.av),.int .i64 z.dD,.int .i64 z.used,.int .i64 z.sent,.int .i64 z.fin])) mixed (by decide +kernel) rfl (by decide +kernel) (fR (e5 _)) ?_
 simp -implicitDefEqProofs only[wY,Q4,Y2,aU8,aU9,Y3,aB,seval,D6]
 refine⟨?_,?_⟩
 · refine(x7 [3,5,1,20,0] (by simp) (by simp) bs c q2 (by omega) _ (iF.new.aC h5c)).mono ?_
   rintro _ _ ⟨x,hx,rfl,rfl⟩
   rw[aA.m7 _ _ _ h5c,dS]
   simp -implicitDefEqProofs only[Q4,Y3,aB,seval]
   refine⟨fR (e5 _),?_⟩
   refine MW (fun st _=>hsl x st) ?_
   simp -implicitDefEqProofs only[aK,hw,aA.aJ,dS,aB,seval,D6]
   intro b8 h8
   have h85:b8≠b5:=by rintro rfl;rw[aA.aJ] at h8;cases h8
   have h8c:b8≠c:=by rintro rfl;rw[aA.aG _ _ h85,aA.aJ] at h8;cases h8
   have e58:∀X Y:AO,((((st.aC b2 (.cells [.fslice [],.fslice [],.int .i64 0,.int .i64 0,.int .i64 0,.int .i64 0])).aC c X).aC b5 (.cells (oB z))).aC b8 Y) b5=some (.cells [.slice (z.p.map bR),.slice (z.q.map Tm.av),.int .i64 z.dD,.int .i64 z.used,.int .i64 z.sent,.int .i64 z.fin]):=fun X Y=>by rw[aA.aG _ _ h85.symm,e5]
   refine⟨fR (e58 _ _),fR (e58 _ _),?_⟩
   rw[e58]
   simp -implicitDefEqProofs only[aB,seval]
   have hi1:((i - 1:Nat):Int)=(i:Int) - 1:=by omega
   have D:∀X Y Z W:AO,aL (((((st.aC b2 X).aC c Y).aC b5 Z).aC b8 W).aC b5 (.cells (oB (dB z x).1))) (((st.aC b2 X).aC c Y).aC b5 (.cells (oB (dB z x).1))):=fun X Y Z W y=>by
    by_cases x2:y=b2<;>by_cases xc:y=c<;>by_cases x5:y=b5<;>by_cases x8:y=b8<;>simp_all [aA.aC]
   exact⟨(i - 1,q2+1,(dB z x).1),by simp only;omega,⟨by simp only;omega,by simp only;omega,by simp only;omega,hkp x⟩,aM.drop (D _ _ _ _) (by simp -implicitDefEqProofs only[hi1,aB,seval])⟩
 · intro b8 h8
   refine⟨fR ?_,?_⟩
   · rw[aA.aG _ _ (show b5≠b8 by rintro rfl;rw[e5] at h8;cases h8),e5]
   have h85:b8≠b5:=by rintro rfl;rw[aA.aJ] at h8;cases h8
   have h8c:b8≠c:=by rintro rfl;rw[aA.aG _ _ h85,aA.aJ] at h8;cases h8
   refine(x7 [3,5,1,20,0] (by simp) (by simp) bs c q2 (by omega) _ ((iF.new.aC h5c).aC h8c)).mono ?_
   rintro _ _ ⟨x,hx,rfl,rfl⟩
   rw[aA.m7 _ _ _ h8c,aA.m7 _ _ _ h5c,dS]
   simp -implicitDefEqProofs only[aB,seval]
   refine⟨fR ?_,?_⟩
   · rw[aA.aG _ _ h85.symm,e5]
   refine MW (fun st _=>hsl x st) ?_
   simp -implicitDefEqProofs only[aK,hw,aA.aJ,dS,aB,seval,D6]
   have e58:∀X Y:AO,((((st.aC b2 (.cells [.fslice [],.fslice [],.int .i64 0,.int .i64 0,.int .i64 0,.int .i64 0])).aC c X).aC b5 (.cells (oB z))).aC b8 Y) b5=some (.cells [.slice (z.p.map bR),.slice (z.q.map Tm.av),.int .i64 z.dD,.int .i64 z.used,.int .i64 z.sent,.int .i64 z.fin]):=fun X Y=>by rw[aA.aG _ _ h85.symm,e5]
   refine⟨fR (e58 _ _),?_⟩
   rw[e58]
   simp -implicitDefEqProofs only[aB,seval]
   have hi1:((i - 1:Nat):Int)=(i:Int) - 1:=by omega
   have D:∀X Y Z W:AO,aL (((((st.aC b2 X).aC c Y).aC b5 Z).aC b8 W).aC b5 (.cells (oB (dB z x).1))) (((st.aC b2 X).aC c Y).aC b5 (.cells (oB (dB z x).1))):=fun X Y Z W y=>by
    by_cases x2:y=b2<;>by_cases xc:y=c<;>by_cases x5:y=b5<;>by_cases x8:y=b8<;>simp_all [aA.aC]
   exact⟨(i - 1,q2+1,(dB z x).1),by simp only;omega,⟨by simp only;omega,by simp only;omega,by simp only;omega,hkp x⟩,aM.drop (D _ _ _ _) (by simp -implicitDefEqProofs only[hi1,aB,seval])⟩
abbrev vO:=zi tI_3 (zi zI_3 (zi aY (zi tI_46 (zi zI_46 (zi cZ (zi eG (zi eE (zi eT (zi tI_62 (zi zI_62 (zi lE (zi lF (zi lG (zi lH (zi lI (zi lJ (zi lA (zi tI_116 zI_116))))))))))))))))))
set_option maxHeartbeats 2000000 in
theorem aYL(bs:List Bt)(c p:Nat)(s:Ss)(hs:nD s)(st:aA)(hp:p+10≤1099511627776)(hR:iF st c bs p):aD prog 97 [.ptr c 0,aS s] st (Dr bs c p 10 st YT):=by
 obtain⟨k1,k2,k3,k4⟩:=hs.small
 have hcp:=MO s k1 k2 k3 k4
 obtain⟨p',q',i0,i1,i2,i3⟩:=s
 simp only[aS] at *
 refine aD.nG ?_
 refine wF [1000000,4,5] 2 func97 ntmps97 rfl rfl ?_
 intro _
 simp -implicitDefEqProofs only[aB,seval,vO]
 intro b4 h4
 have h4c:=hR.ne h4
 refine(hcp _).to ?_
 simp -implicitDefEqProofs only[aK,aB,↓aU,seval,vO]
 intro b5 h5
 have h54:b5≠b4:=by rintro rfl;rw[aA.aJ] at h5;cases h5
 rw[aA.aG _ _ h54] at h5
 have h5c:=hR.ne h5
 refine(AG bs c p (by omega) 24 (by omega) (by omega) _ ((hR.aC h4c).aC h5c)).mono ?_
 rintro _ _ ⟨k,hk,rfl,rfl⟩
 have e5:∀(o o':AO) (X:AO),(((st.aC b4 o).aC b5 o').aC c X) b5=some o':=fun o o' X=>by rw[aA.aG _ _ h5c,aA.aJ]
 have e4:∀(o o':AO) (X:AO),(((st.aC b4 o).aC b5 o').aC c X) b4=some o:=fun o o' X=>by rw[aA.aG _ _ h4c,aA.aG _ _ h54.symm,aA.aJ]
 have e4':∀(o o':AO) (X Y:AO),((((st.aC b4 o).aC b5 o').aC c X).aC b5 Y) b4=some o:=fun o o' X Y=>by rw[aA.aG _ _ h54.symm,e4]
 simp -implicitDefEqProofs only[aB,seval]
 refine aP (fun h=>?_) (fun h=>?_)
 · simp -implicitDefEqProofs only[aB,seval,vO]
   refine(x7 [-1,400,0] (by simp) (by simp) bs c (p+1) (by omega) _ iF.new).mono ?_
   rintro _ _ ⟨x,hx,rfl,rfl⟩
   rw[dS]
   simp -implicitDefEqProofs only[aK,e5,e4',aA.aJ,aB,seval,vO]
   refine⟨st.aC c (kF bs (p+1+1)),fun y=>?_,p+1+1,by omega,by omega,rfl,⟨p',q',i0,x,i2,i3⟩,hs.of rfl rfl,rfl⟩
   by_cases x4:y=b4<;>by_cases xc:y=c<;>by_cases x5:y=b5<;>simp_all [aA.aC]
 simp -implicitDefEqProofs only[aB,seval]
 refine aP (fun h=>?_) (fun h=>?_)
 · simp -implicitDefEqProofs only[aB,seval,vO]
   refine(x7 [-1,9] (by simp) (by simp) bs c (p+1) (by omega) _ iF.new).mono ?_
   rintro _ _ ⟨x,hx,rfl,rfl⟩
   rw[dS]
   simp -implicitDefEqProofs only[aK,e5,e4',aA.aJ,aB,seval,vO]
   refine⟨st.aC c (kF bs (p+1+1)),fun y=>?_,p+1+1,by omega,by omega,rfl,⟨p',q',i0,i1,x,i3⟩,hs.of rfl rfl,rfl⟩
   by_cases x4:y=b4<;>by_cases xc:y=c<;>by_cases x5:y=b5<;>simp_all [aA.aC]
 simp -implicitDefEqProofs only[aB,seval]
 refine aP (fun h=>?_) (fun h=>?_)
 · simp -implicitDefEqProofs only[aB,seval,vO]
   refine(x7 [0,9,-2] (by simp) (by simp) bs c (p+1) (by omega) _ iF.new).mono ?_
   rintro _ _ ⟨x,hx,rfl,rfl⟩
   rw[dS]
   simp -implicitDefEqProofs only[aK,e5,e4',aA.aJ,aB,seval,vO]
   refine⟨st.aC c (kF bs (p+1+1)),fun y=>?_,p+1+1,by omega,by omega,rfl,⟨p',q',i0,i1,i2,x⟩,hs.of rfl rfl,rfl⟩
   by_cases x4:y=b4<;>by_cases xc:y=c<;>by_cases x5:y=b5<;>simp_all [aA.aC]
 simp -implicitDefEqProofs only[aB,seval]
 refine aP (fun h=>?_) (fun h=>?_)
 · simp -implicitDefEqProofs only[aB,seval,vO]
   refine(x7 [-1,301] (by simp) (by simp) bs c (p+1) (by omega) _ iF.new).mono ?_
   rintro _ _ ⟨x,hx,rfl,rfl⟩
   rw[dS]
   simp -implicitDefEqProofs only[aK,e5,e4',aA.aJ,aB,seval,vO]
   refine⟨st.aC c (kF bs (p+1+1)),fun y=>?_,p+1+1,by omega,by omega,rfl,⟨p',q',x,i1,i2,i3⟩,hs.of rfl rfl,rfl⟩
   by_cases x4:y=b4<;>by_cases xc:y=c<;>by_cases x5:y=b5<;>simp_all [aA.aC]
 simp -implicitDefEqProofs only[aK,e5,e4,aA.aJ,aB,seval,vO]
 refine⟨st.aC c (kF bs (p+1)),fun x=>?_,p+1,by omega,by omega,rfl,⟨p',q',i0,i1,i2,i3⟩,hs,rfl⟩
 by_cases x4:x=b4<;>by_cases xc:x=c<;>by_cases x5:x=b5<;>simp_all [aA.aC]
theorem Z1{S:aA}{c b b7:Nat}{l:List AV}{X o:AO}(h7:S b7=none)(h7c:b7≠c)(h:l≠[]→b7≠b):aL (aZ ((S.aC c X).aC b7 o) b l) (aZ (S.aC c X) b l):=by
 rw[←mP h]
 refine(aL.refl _).aC ?_
 rw[rR h,aA.aG _ _ h7c]
 exact h7
abbrev HE:=zi tI_3 (zi zI_3 (zi aY (zi tI_16 (zi zI_16 (zi tI_40 (zi zI_40 (zi tD (zi AL (zi AP (zi zH (zi tI_46 (zi zI_46 (zi cZ (zi eG (zi eE (zi eT (zi tI_49 (zi zI_49 (zi lD (zi qQ (zi qS (zi vQ (zi tI_62 (zi zI_62 (zi lE (zi lF (zi lG (zi lH (zi lI (zi lJ (zi lA (zi tI_116 zI_116))))))))))))))))))))))))))))))))
set_option maxHeartbeats 2000000 in
theorem aA2(code:List Bt)(st:aA):aD prog 40 [.slice (code.map iZ)] st (fun r st'=>(∃(L:List Ss) (n:Int),L.length≤3∧(∀s∈L,nD s)∧r=.tup [.slice (L.map aS),.int .i64 n])∧st'=st):=by
 refine aD.nG (aD.fin ?_)
 refine wF [1000000,7] 1 func40 ntmps40 rfl rfl ?_
 intro _
 simp -implicitDefEqProofs only[aB,seval]
 refine(aYO code _).mono ?_
 rintro _ _ ⟨c,bs,rfl,hc,rfl⟩
 simp -implicitDefEqProofs only[aB,seval,HE]
 refine(x7 [2,3,1,0] (by simp) (by simp) bs c 0 (by omega) _ iF.new).mono ?_
 rintro _ _ ⟨x,hx,rfl,rfl⟩
 rw[dS]
 have hx5:0≤x∧x≤3:=by simp only[c7,dT,d4] at hx;omega
 simp -implicitDefEqProofs only[aB,seval]
 have hRq:∀(q b:Nat) (L:List AV),(L≠[]→(st.aC c (kF bs q)) b=none)→iF (aZ (st.aC c (kF bs q)) b L) c bs q∧∀o,(aZ (st.aC c (kF bs q)) b L).aC c o=aZ (st.aC c o) b L∧(L≠[]→(st.aC c o) b=none):=fun q b L hb=>by
  have hne:L≠[]→c≠b:=fun h e=>by have:=hb h;rw[←e,aA.aJ] at this;cases this
  refine⟨?_,fun o=>⟨?_,fun h=>?_⟩⟩
  · unfold iF
    by_cases h:L= []
    · rw[h,uJ,aA.aJ];try rfl
    · rw[oG (hne h),aA.aJ];try rfl
  · rw[mP hne,dS]
  · have:=hb h
    rw[aA.aG _ _ (dH (hne h))] at this ⊢
    exact this
 obtain⟨k,rfl⟩:=t7 hx5.1
 refine iP (σ:=Nat×Nat×Nat×List Ss) [1000000,7] [2,3,4] (fun x=>x.1≤3∧x.2.1+2000*x.1≤10000∧x.2.2.2.length+x.1≤3∧(∀s∈x.2.2.2,nD s)∧(x.2.2.2.map aS≠[]→(st.aC c (kF bs x.2.1)) x.2.2.1=none)) (fun x=>[(5,bU 6 x.2.2.1 (x.2.2.2.map aS)),(6,.int .i64 (x.1:Int))]) (fun x=>aZ (st.aC c (kF bs x.2.1)) x.2.2.1 (x.2.2.2.map aS)) (fun x=>x.1) (by decide +kernel) ⟨(k,0+1,0,[]),⟨by simp only;omega,by simp only;omega,by simp only[a8];omega,by simp,by simp⟩,aM.mk (by simp -implicitDefEqProofs only[a7,iY,aB,seval])⟩ ?_
 rintro⟨i,q,b,l⟩ ⟨i1,i2,i3,i4,i5⟩
 simp only at i1 i2 i3 i4 i5
 obtain⟨m1,m2⟩:=hRq q b _ i5
 have hw:=bE (n:=(i:Int) - 1)
 have hcb:l.map aS≠[]→c≠b:=fun h e=>by have:=i5 h;rw[←e,aA.aJ] at this;cases this
 have i5':l.map aS≠[]→st b=none:=fun h=>by have:=i5 h;rw[aA.aG _ _ (dH (hcb h))] at this;exact this
 have hj:∀e∈l.map aS,e.cE=false:=fun e he=>by simp only[cH] at he;obtain⟨t,_,rfl⟩:=he;rfl
 have hwd:∀e∈l.map aS,e.width=6:=fun e he=>by simp only[cH] at he;obtain⟨t,_,rfl⟩:=he;rfl
 simp -implicitDefEqProofs only[aB,seval]
 refine aP (fun h=>?_) (fun h=>?_)
 case refine_2=>
  simp -implicitDefEqProofs only[aB,seval,HE]
  refine(x7 [3,1,7,20,300,0] (by simp) (by simp) bs c q (by omega) _ m1).mono ?_
  rintro _ _ ⟨x,hx,rfl,rfl⟩
  obtain⟨m3,m4⟩:=m2 (kF bs (q+1))
  rw[m3]
  simp -implicitDefEqProofs only[nF,aB,seval]
  refine⟨b,l.map aS,_,rfl,m4,hj,⟨6,hwd⟩,st,(aL.refl _).aC hc,⟨l,x,by omega,i4,by simp only[kC,fS,lU,bH,a7]⟩,rfl⟩
 have hi:0<i:=by simp only[bK] at h;omega
 simp -implicitDefEqProofs only[aB,seval]
 refine(aYK bs c q _ (by omega) m1).mono ?_
 rintro _ _ ⟨q1,r1,r2,rfl,s,hs,rfl⟩
 obtain⟨m3,m4⟩:=m2 (kF bs q1)
 rw[m3]
 simp -implicitDefEqProofs only[aK,aA.aJ,O9,aB,↓aU,seval,HE]
 intro b7 h7
 obtain⟨h7,h7b⟩:=IE h7
 have h7c:b7≠c:=by rintro rfl;rw[aA.aJ] at h7;cases h7
 rw[aA.aG _ _ h7c] at h7
 have hal:∀z:Ss,nD z→∀s∈l++ [z],nD s:=fun z hz s h=>(d6.1 h).elim (i4 s) fun h=>by rw[HS.1 h];exact hz
 have hW:∀o:AO,(aZ (st.aC c (kF bs q1)) b (l.map aS)).aC b7 o=aZ ((st.aC c (kF bs q1)).aC b7 o) b (l.map aS):=fun o=>mP h7b
 have hcn:∀(o X:AO),(aZ ((st.aC c X).aC b7 o) b (l.map aS)) c=some X:=fun o X=>by rw[rR hcb,aA.aG _ _ h7c.symm,aA.aJ]
 have h7n:∀(o X:AO),(aZ ((st.aC c X).aC b7 o) b (l.map aS)) b7=some o:=fun o X=>by rw[rR h7b,aA.aJ]
 have hcu:∀(o X Y:AO),(aZ ((st.aC c X).aC b7 o) b (l.map aS)).aC c Y=aZ ((st.aC c Y).aC b7 o) b (l.map aS):=fun o X Y=>by rw[mP hcb,aA.m7 _ _ _ h7c,dS]
 have h7u:∀(o X o':AO),(aZ ((st.aC c X).aC b7 o) b (l.map aS)).aC b7 o'=aZ ((st.aC c X).aC b7 o') b (l.map aS):=fun o X o'=>by rw[mP h7b,dS]
 obtain⟨p',q',j0,j1,j2,j3⟩:=s
 simp only[aS]
 rw[hW]
 simp -implicitDefEqProofs only[aB,seval]
 refine(AG bs c q1 (by omega) 16 (by omega) (by omega) _ (hcn _ _)).mono ?_
 rintro _ _ ⟨k2,hk2,rfl,rfl⟩
 rw[hcu]
 simp -implicitDefEqProofs only[aB,seval]
 refine aP (fun h=>?_) (fun h=>?_)
 · simp -implicitDefEqProofs only[h7n,aB,seval,HE]
   refine(aYL bs c (q1+1) ⟨p',q',j0,j1,j2,j3⟩ hs _ (by omega) (hcn _ _)).mono ?_
   rintro _ _ ⟨q2,t1,t2,rfl,s1,hs1,rfl⟩
   rw[hcu]
   obtain⟨p1',q1',u0,u1,u2,u3⟩:=s1
   simp only[aS]
   simp -implicitDefEqProofs only[aK,h7n,h7u,aB,seval,HE]
   have hj1:(aS (⟨p1',q1',u0,u1,u2,u3⟩:Ss)).cells.all AV.storable=true:=rfl
   refine eQ (xs:=[aS (⟨p1',q1',u0,u1,u2,u3⟩:Ss)]) lD qQ qS rfl rfl (f9 rfl hj1) hwd (fun h=>by rw[aA.aG _ _ (dH (h7b h)),aA.aG _ _ (dH (hcb h))];exact i5' h) (by simp only[aF,aX,a8];omega) (by simp only[aF,aX,a8];omega) (fun b' hb'=>?_)
   rw[show l.map aS++ [aS (⟨p1',q1',u0,u1,u2,u3⟩:Ss)]=(l++ [(⟨p1',q1',u0,u1,u2,u3⟩:Ss)]).map aS by simp] at hb' ⊢
   have hi1:((i - 1:Nat):Int)=(i:Int) - 1:=by omega
   have hb2:∀(b':Nat) {M:List AV} {X o:AO},(M≠[]→((st.aC c X).aC b7 o) b'=none)→M≠[]→∀ {Y:AO},(st.aC c Y) b'=none∧b7≠b':=fun b' M X o hb h Y=>by
    have h1:=hb h
    have n7:b'≠b7:=by rintro rfl;rw[aA.aJ] at h1;cases h1
    rw[aA.aG _ _ n7] at h1
    have nc:b'≠c:=by rintro rfl;rw[aA.aJ] at h1;cases h1
    rw[aA.aG _ _ nc] at h1 ⊢
    exact⟨h1,n7.symm⟩
   simp -implicitDefEqProofs only[hw,aB,seval]
   exact⟨(i - 1,q2,b',l++ [⟨p1',q1',u0,u1,u2,u3⟩]),by simp only;omega,⟨by simp only;omega,by simp only;omega,by simp only[dQ,aX,a8];omega,hal _ hs1,fun h=>(hb2 b' hb' h).1⟩,aM.drop (Z1 h7 h7c fun h=>(hb2 b' hb' h (Y:=.cells [])).2) (by simp -implicitDefEqProofs only[hi1,aB,seval])⟩
 simp -implicitDefEqProofs only[h7n,aB,seval,HE]
 have hj1:(aS (⟨p',q',j0,j1,j2,j3⟩:Ss)).cells.all AV.storable=true:=rfl
 refine eQ (xs:=[aS (⟨p',q',j0,j1,j2,j3⟩:Ss)]) lD qQ qS rfl rfl (f9 rfl hj1) hwd (fun h=>by rw[aA.aG _ _ (dH (h7b h)),aA.aG _ _ (dH (hcb h))];exact i5' h) (by simp only[aF,aX,a8];omega) (by simp only[aF,aX,a8];omega) (fun b' hb'=>?_)
 rw[show l.map aS++ [aS (⟨p',q',j0,j1,j2,j3⟩:Ss)]=(l++ [(⟨p',q',j0,j1,j2,j3⟩:Ss)]).map aS by simp] at hb' ⊢
 have hi1:((i - 1:Nat):Int)=(i:Int) - 1:=by omega
 have hb2:∀(b':Nat) {M:List AV} {X o:AO},(M≠[]→((st.aC c X).aC b7 o) b'=none)→M≠[]→∀ {Y:AO},(st.aC c Y) b'=none∧b7≠b':=fun b' M X o hb h Y=>by
  have h1:=hb h
  have n7:b'≠b7:=by rintro rfl;rw[aA.aJ] at h1;cases h1
  rw[aA.aG _ _ n7] at h1
  have nc:b'≠c:=by rintro rfl;rw[aA.aJ] at h1;cases h1
  rw[aA.aG _ _ nc] at h1 ⊢
  exact⟨h1,n7.symm⟩
 simp -implicitDefEqProofs only[hw,aB,seval]
 exact⟨(i - 1,q1+1,b',l++ [⟨p',q',j0,j1,j2,j3⟩]),by simp only;omega,⟨by simp only;omega,by simp only;omega,by simp only[dQ,aX,a8];omega,hal _ hs,fun h=>(hb2 b' hb' h).1⟩,aM.drop (Z1 h7 h7c fun h=>(hb2 b' hb' h (Y:=.cells [])).2) (by simp -implicitDefEqProofs only[hi1,aB,seval])⟩
end Go.AW
