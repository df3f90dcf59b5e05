import Derived.Test.YtimfffmcljmfgaaGreatDoorUxq
import Derived.Test.YtimfffmcljmfgaaGreatDoorUxr
import Derived.Test.YtimfffmcljmfgaaGreatDoorUxl
import Derived.Test.YtimfffmcljmfgaaGreatDoorUxn
set_option linter.unusedSimpArgs false
set_option linter.unusedVariables false
set_option maxRecDepth 100000
namespace Go.AW
open Go.Proofs.Tryz
theorem a1J(l:List Tm):nH Tm.same l l=true:=(TG (fun x _ y=>Tm.O2 x y)).2 rfl
abbrev bAE:=zi tI_4 (zi zI_4 (zi cJ (zi tI_31 (zi zI_31 (zi aQ (zi bS (zi bT (zi cI (zi tI_59 (zi zI_59 (zi yE xX)))))))))))
theorem aXB(l l':List Tm)(st:aA):aD prog 81 [bO l,bO l'] st (fun r st'=>r=.bool (nH Tm.same l l')∧st'=st):=by
 refine wF [1000000] 2 func81 ntmps81 rfl rfl ?_
 intro _
 simp -implicitDefEqProofs only[bO,aB,seval,bAE]
 refine(aA3 l l' 133 _ fun x _ y s=>SF x y s).to ?_
 simp -implicitDefEqProofs only[aB,seval]
abbrev PH:=zi tI_3 (zi zI_3 (zi aY (zi tI_4 (zi zI_4 (zi cJ (zi tI_26 (zi zI_26 (zi fZ (zi jF (zi jG (zi mZ (zi tI_59 (zi zI_59 (zi yE xX))))))))))))))
theorem SO(L:List (List Tm))(st:aA):aD prog 30 [.slice (L.map bO),.slice (L.map bO)] st (fun r st'=>r=.bool true∧st'=st):=by
 refine wF [1000000] 2 func30 ntmps30 rfl rfl ?_
 simp only[eW,AV.fits,fC,aF]
 intro ⟨⟨hl,_⟩,_⟩
 simp -implicitDefEqProofs only[bV,aF,aB,seval,PH]
 refine d8 (σ:=Unit) [1000000] [0,1] L (fun _ _=>True) (fun i _=>[(4,.bool false),(5,.int .i64 i)]) (fun _ _=>st) (by decide +kernel) ⟨(),trivial,aM.mk (by simp -implicitDefEqProofs only[aB,↓aU,seval])⟩ (fun i x _ hx hlt bL hdr _=>?_) (fun _ hge _=>?_)
 case refine_2=>
  simp -implicitDefEqProofs only[hge,aF,aB,seval,PH]
 have hw:=bE (n:=(i:Int)+1)
 have hat:dG prog 26 (.slice (L.map bO)) (.int .i64 (i:Int))=some (.pptr (bO x)):=bP (av:=bO) fZ hx rfl
 simp -implicitDefEqProofs only[bL,aF,aB,seval,PH]
 refine wX [(0,1),(1,1),(2,1),(3,1),(4,1),(5,1),(6,1),(7,1),(8,0),(9,1)] [0,1,2,3,4,5,6,7,9] d9 mixed rfl eK ?_
 simp -implicitDefEqProofs only[hat,aB,seval,PH]
 refine(aXB x x _).to ?_
 rw[a1J]
 simp -implicitDefEqProofs only[hw,aB,seval]
 refine⟨eK,?_⟩
 exact⟨(),aM.mk (by simp -implicitDefEqProofs only[aB,seval])⟩
abbrev PI:=zi tI_3 (zi zI_3 (zi aY (zi tI_4 (zi zI_4 (zi cJ (zi tI_46 (zi zI_46 (zi cZ (zi eG (zi eE eT))))))))))
theorem MU(l:List Int)(st:aA):aD prog 41 [.slice (l.map iv),.slice (l.map iv)] st (fun r st'=>r=.bool true∧st'=st):=by
 refine wF [1000000] 2 func41 ntmps41 rfl rfl ?_
 simp only[eW,AV.fits,fC,aF]
 intro ⟨⟨hl,_⟩,_⟩
 simp -implicitDefEqProofs only[bV,aF,aB,seval,PI]
 refine d8 (σ:=Unit) [1000000] [0,1] l (fun _ _=>True) (fun i _=>[(4,.bool false),(5,.int .i64 i)]) (fun _ _=>st) (by decide +kernel) ⟨(),trivial,aM.mk (by simp -implicitDefEqProofs only[aB,↓aU,seval])⟩ (fun i x _ hx hlt bL hdr _=>?_) (fun _ hge _=>?_)
 case refine_2=>
  simp -implicitDefEqProofs only[hge,aF,aB,seval,PI]
 have hw:=bE (n:=(i:Int)+1)
 have hat:dG prog 46 (.slice (l.map iv)) (.int .i64 (i:Int))=some (.pptr (iv x)):=bP (av:=iv) cZ hx rfl
 simp -implicitDefEqProofs only[bL,aF,aB,seval,PI]
 refine wX [(0,1),(1,1),(2,1),(3,1),(4,1),(5,1),(6,1),(7,1),(8,1)] [0,1,2,3,4,5,6,7,8] d9 mixed rfl eK ?_
 simp -implicitDefEqProofs only[bV,lB,hat,hw,aB,seval,PI]
 exact⟨(),aM.mk (by simp -implicitDefEqProofs only[aB,seval])⟩
end Go.AW
namespace Go.AW
structure iW where
 l:List Ss
 w:List Nat
 a:List (List Tm)
noncomputable def sL(n:Int)(x:iW)(i:Nat):iW:=
 match x.l[i]? with
 | some s=>if s.fin= -1 then⟨x.l.set i (dB s n).1,x.w++List.replicate (dB s n).2.length i,x.a++(dB s n).2⟩ else x
 | none=>x
noncomputable def kH(n:Int)(x:iW)(k:Nat):iW:=(List.range k).foldl (sL n) x
noncomputable def oY(n:Int)(x:iW):iW:=kH n x x.l.length
def n6(s:Ss):Bool:=decide (s.fin= -1)
def runs(l:List Ss):Bool:=l.any n6
noncomputable def rounds(n:Int):Nat→iW→iW
 | 0,x=>x
 | k+1,x=>if runs x.l=true then rounds n k (oY n x) else x
def DG(s:Ss):Nat:=if s.fin= -1 then(s.dD - s.used).toNat+1 else 0
def iN(l:List Ss):Nat:=bD DG l
noncomputable def gW(n:Int)(L:List Ss):iW:=rounds n (iN L) ⟨L,[],[]⟩
def jK(i:Nat):List Nat→List (List Tm)→List (List Tm)
 | w::ws,a::us=>if w=i then a::jK i ws us else jK i ws us
 | _,_=>[]
theorem QA{n:Int}{x:iW}{i:Nat}(h:x.l[i]?=none):sL n x i=x:=by unfold sL;rw[h]
theorem LG{n:Int}{x:iW}{i:Nat}{s:Ss}(h:x.l[i]?=some s)(hf:s.fin= -1):sL n x i=⟨x.l.set i (dB s n).1,x.w++List.replicate (dB s n).2.length i,x.a++(dB s n).2⟩:=by unfold sL;rw[h];exact aH hf
theorem HG{n:Int}{x:iW}{i:Nat}{s:Ss}(h:x.l[i]?=some s)(hf:s.fin≠-1):sL n x i=x:=by unfold sL;rw[h];exact aE hf
theorem bAT(n:Int)(x:iW)(i:Nat):(sL n x i).l.length=x.l.length:=by
 cases h:x.l[i]? with
 | none=>rw[QA h]
 | some s=>
  by_cases hf:s.fin= -1
  · rw[LG h hf];simp
  · rw[HG h hf]
theorem bAU(n:Int)(x:iW){i j:Nat}(hij:i≠j):(sL n x i).l[j]?=x.l[j]?:=by
 cases h:x.l[i]? with
 | none=>rw[QA h]
 | some s=>
  by_cases hf:s.fin= -1
  · rw[LG h hf];simp [hij]
  · rw[HG h hf]
theorem HH(n:Int)(x:iW)(k:Nat):kH n x (k+1)=sL n (kH n x k) k:=by
 unfold kH
 rw[List.range_succ,LU]
 try rfl
theorem QC(n:Int)(x:iW):∀k,(kH n x k).l.length=x.l.length
 | 0=>rfl
 | k+1=>by rw[HH,bAT,QC n x k]
theorem QB(n:Int)(x:iW){j:Nat}:∀k,k≤j→(kH n x k).l[j]?=x.l[j]?
 | 0,_=>rfl
 | k+1,h=>by rw[HH,bAU n _ (by omega),QB n x k (by omega)]
theorem D7{n:Int}{x:iW}(h:runs x.l=false):∀k,kH n x k=x
 | 0=>rfl
 | k+1=>by
  rw[HH,D7 h k]
  cases hs:x.l[k]? with
  | none=>exact QA hs
  | some s=>
   refine HG hs fun hf=>?_
   have:runs x.l=true:=B1.2 ⟨s,cM hs,by unfold n6;simpa using hf⟩
   rw[h] at this
   cases this
theorem aSY{α:Type}(f:α→Nat):∀ {l:List α} {i:Nat} {a b:α},l[i]?=some a→bD f (l.set i b)+f a=bD f l+f b
 | x::l,0,a,b,h=>by
  simp only[EL,Option.some.injEq] at h
  subst h
  simp only[List.set_cons_zero,bD]
  omega
 | x::l,i+1,a,b,h=>by
  simp only[EK] at h
  have:=aSY f (b:=b) h
  simp only[List.set_cons_succ,bD]
  omega
theorem a6W{s:Ss}{n:Int}(h:eM s=true)(hf:s.fin= -1)(hn:1≤n):DG (dB s n).1<DG s:=by
 have hc:l9 s n=true:=pT.2 ⟨h,by omega,hf⟩
 have hF:=vH (n:=n) h (by omega)
 have h1:=hF.u1
 have h2:=hF.u2
 rw[DV hc]
 unfold DG
 rw[aH hf]
 split
 · rename_i he
   have hlt:fJ s n≠s.dD:=by
    intro e
    have:(dU s (fJ s n)).2= -1:=he
    rw[e,NM] at this
    have:=aSI (p:=s.p) (cnd:=fun _ l=>l) (q:=s.q) (most:=20) (fuel:=s.dD)
    omega
   have hnu:fJ s n=s.used+n:=by
    unfold fJ at hlt ⊢
    split
    · rfl
    · rename_i hh;rw[aE hh] at hlt;exact absurd rfl hlt
   show(s.dD - fJ s n).toNat+1<_
   omega
 · omega
theorem aQP{s:Ss}:n6 s=true↔s.fin= -1:=by unfold n6;simp
theorem VQ(i:Nat):∀ {ws vs:List Nat} {us bs:List (List Tm)},ws.length=us.length→jK i (ws++vs) (us++bs)=jK i ws us++jK i vs bs
 | [],vs,[],bs,_=>by simp [jK]
 | [],vs,_::_,bs,h=>by simp at h
 | w::ws,vs,[],bs,h=>by simp at h
 | w::ws,vs,a::us,bs,h=>by
  simp only[iB,jK,VQ i (ws:=ws) (vs:=vs) (us:=us) (bs:=bs) (by simpa using h)]
  split<;>simp
theorem aQV(i:Nat):∀(us:List (List Tm)),jK i (List.replicate us.length i) us=us
 | []=>rfl
 | a::us=>by
  simp only[aX,Q1,jK,aH,aQV i us]
theorem aQU{i j:Nat}(h:j≠i):∀(us:List (List Tm)),jK i (List.replicate us.length j) us= []
 | []=>rfl
 | a::us=>by
  simp only[aX,Q1,jK,aE h,aQU h us]
structure kR (L:List Ss) (x:iW):Prop where
 len:x.l.length=L.length
 ok:∀s∈x.l,eM s=true
 wl:x.w.length=x.a.length
 wr:∀i∈x.w,i<L.length
 bd:x.a.length+20*iN x.l≤20*iN L
 kp:∀(i:Nat) s s0,x.l[i]?=some s→L[i]?=some s0→s.p=s0.p∧s.q=s0.q∧s.dD=s0.dD∧jK i x.w x.a++(dU s s.dD).1.drop s.sent.toNat=(dU s0 s0.dD).1.drop s0.sent.toNat
theorem kR.start{L:List Ss}(h:∀s∈L,eM s=true):kR L ⟨L,[],[]⟩:=
 ⟨rfl,h,rfl,by simp,by simp,fun i s s0 h1 h2=>by
  simp only at h1
  rw[h1] at h2
  cases h2
  exact⟨rfl,rfl,rfl,by simp [jK]⟩⟩
theorem kR.LH{L:List Ss}{x:iW}{n:Int}(h:kR L x)(hn:1≤n)(i:Nat):kR L (sL n x i)∧iN (sL n x i).l≤iN x.l∧(∀s,x.l[i]?=some s→s.fin= -1→iN (sL n x i).l<iN x.l):=by
 cases hi:x.l[i]? with
 | none=>rw[QA hi];exact⟨h,cY _,fun s e=>by cases e⟩
 | some s=>
  by_cases hf:s.fin= -1
  case neg=>rw[HG hi hf];exact⟨h,cY _,fun s' e hf'=>by cases e;exact absurd hf' hf⟩
  have hok:=h.ok s (cM hi)
  have hm:=a6W hok hf hn
  have hs:=aSY DG (b:=(dB s n).1) hi
  have hlen:=O5 (n:=n) hok
  have hil:i<x.l.length:=(fL.1 hi).1
  have hlt:iN (x.l.set i (dB s n).1)<iN x.l:=by unfold iN;omega
  rw[LG hi hf]
  refine⟨⟨?_,fun s' hs'=>?_,?_,fun j hj=>?_,?_,fun j s' s0 h1 h2=>?_⟩,Nat.le_of_lt hlt,fun _ _ _=>hlt⟩
  · simp only[List.length_set];exact h.len
  · rcases List.mem_or_eq_of_mem_set hs' with hs' | rfl
    · exact h.ok s' hs'
    · exact KS hok
  · simp only[dQ,List.length_replicate,h.wl]
  · rcases d6.1 hj with hj | hj
    · exact h.wr j hj
    · rw[(List.mem_replicate.1 hj).2,←h.len];exact hil
  · have:=h.bd
    simp only[dQ]
    omega
  · simp only at h1 ⊢
    rw[VQ j h.wl]
    by_cases hij:i=j
    · subst hij
      rw[List.getElem?_set_self hil] at h1
      cases h1
      obtain⟨k1,k2,k3,k4⟩:=h.kp i s s0 hi h2
      obtain⟨e1,e2,e3⟩:=w6 s n
      have hfo:dU (dB s n).1 (dB s n).1.dD=dU s s.dD:=by unfold dU;rw[e1,e2,e3]
      refine⟨e1.trans k1,e2.trans k2,e3.trans k3,?_⟩
      rw[aQV,hfo,lX,aSD hok]
      exact k4
    · rw[List.getElem?_set_ne hij] at h1
      rw[aQU hij,gF]
      exact h.kp j s' s0 h1 h2
theorem kR.turns{L:List Ss}{x:iW}{n:Int}(h:kR L x)(hn:1≤n):∀k,kR L (kH n x k)∧iN (kH n x k).l≤iN x.l∧(runs (x.l.take k)=true→iN (kH n x k).l<iN x.l)
 | 0=>⟨h,cY _,by simp [runs]⟩
 | k+1=>by
  obtain⟨h1,h2,h3⟩:=kR.turns h hn k
  obtain⟨g1,g2,g3⟩:=h1.LH hn k
  rw[HH]
  refine⟨g1,by omega,fun hr=>?_⟩
  by_cases hk:runs (x.l.take k)=true
  · have:=h3 hk;omega
  · unfold runs at hk hr
    rw[eD,List.any_append] at hr
    rw[show(x.l.take k).any n6=false by simpa using hk,qD] at hr
    cases hx:x.l[k]? with
    | none=>rw[hx] at hr;simp at hr
    | some s=>
     rw[hx] at hr
     simp at hr
     have:=g3 s (by rw[QB n x k (cY _)];exact hx) (aQP.1 hr)
     omega
theorem kR.round{L:List Ss}{x:iW}{n:Int}(h:kR L x)(hn:1≤n):kR L (oY n x)∧(runs x.l=true→iN (oY n x).l<iN x.l):=by
 obtain⟨h1,_,h3⟩:=h.turns hn x.l.length
 rw[dZ] at h3
 exact⟨h1,h3⟩
theorem KP{n:Int}{x:iW}(h:runs x.l=false):∀k,rounds n k x=x
 | 0=>rfl
 | k+1=>by unfold rounds;rw[h];try rfl
theorem aRX{n:Int}(hn:1≤n){L:List Ss}:∀(k:Nat) (x:iW) (j:Nat),kR L x→iN x.l≤k→iN x.l≤j→rounds n k x=rounds n j x
 | k,x,j,hI,hk,hj=>by
  by_cases hr:runs x.l=true
  case neg=>rw[KP (by simpa using hr),KP (by simpa using hr)]
  obtain⟨h1,h2⟩:=hI.round hn
  have h3:=h2 hr
  match k,j,hk,hj with
  | 0,_,hk,_=>omega
  | _,0,_,hj=>omega
  | k+1,j+1,hk,hj=>
   unfold rounds
   rw[aH hr,aH hr]
   exact aRX hn k _ j h1 (by omega) (by omega)
theorem aRY{n:Int}(hn:1≤n){L:List Ss}{x:iW}(hI:kR L x)(hr:runs x.l=true):rounds n (iN (oY n x).l) (oY n x)=rounds n (iN x.l) x:=by
 obtain⟨h1,h2⟩:=hI.round hn
 have h3:=h2 hr
 obtain⟨m,hm⟩:∃m,iN x.l=m+1:=⟨iN x.l - 1,by omega⟩
 rw[hm]
 conv=>rhs;unfold rounds
 rw[aH hr]
 exact aRX hn _ _ _ h1 (cY _) (by omega)
theorem aRW{n:Int}(hn:1≤n){L:List Ss}:∀(k:Nat) (x:iW),kR L x→iN x.l≤k→kR L (rounds n k x)∧runs (rounds n k x).l=false
 | k,x,hI,hk=>by
  by_cases hr:runs x.l=true
  case neg=>rw[KP (by simpa using hr)];exact⟨hI,by simpa using hr⟩
  obtain⟨h1,h2⟩:=hI.round hn
  have h3:=h2 hr
  match k,hk with
  | 0,hk=>omega
  | k+1,hk=>
   unfold rounds
   rw[aH hr]
   exact aRW hn k _ h1 (by omega)
theorem OI:∀ {L:List Ss},(∀s∈L,eM s=true)→iN L≤301*L.length
 | [],_=>by simp [iN,bD]
 | s::L,h=>by
  have h1:=OI (L:=L) fun x hx=>h x (by simp [hx])
  have h2:DG s≤301:=by
   have h3:=h s (by simp)
   have hF:=vH (n:=0) h3 (by omega)
   have:=hF.u0
   have:=hF.q1
   unfold DG
   split<;>omega
  unfold iN at h1 ⊢
  simp only[bD,aX]
  omega
noncomputable def mU(L:List Ss)(n:Int):Bool:=decide (1≤n)&&(decide (L.length≤8)&&L.all eM)
noncomputable def fY(L:List Ss)(n:Int):List Nat×List (List Tm)×List Int:=
 if mU L n=true then((gW n L).w,(gW n L).a,(gW n L).l.map Ss.fin) else([],[],[])
theorem KQ{L:List Ss}{n:Int}:mU L n=true↔1≤n∧L.length≤8∧∀s∈L,eM s=true:=by
 simp only[mU,cF,bK,eH]
theorem O1{L:List Ss}{n:Int}(h:mU L n=true):kR L (gW n L)∧runs (gW n L).l=false∧(gW n L).l.map Ss.fin=L.map (fun s=>(dU s s.dD).2)∧∀(i:Nat) s,L[i]?=some s→jK i (gW n L).w (gW n L).a=(dU s s.dD).1.drop s.sent.toNat:=by
 obtain⟨h1,h2,h3⟩:=KQ.1 h
 obtain⟨g1,g2⟩:=aRW h1 (iN L) ⟨L,[],[]⟩ (kR.start h3) (cY _)
 have fX:∀s∈(gW n L).l,s.fin≠-1:=fun s hs hf=>by
  have:runs (gW n L).l=true:=B1.2 ⟨s,hs,aQP.2 hf⟩
  have h9:runs (gW n L).l=false:=g2
  rw[h9] at this
  cases this
 have hg:kR L (gW n L):=g1
 refine⟨g1,g2,EJ fun i=>?_,fun i s hi=>?_⟩
 · rw[lY,lY]
   cases hi:L[i]? with
   | none=>
    have:(gW n L).l[i]?=none:=xI (by rw[hg.len];exact List.getElem?_eq_none_iff.1 hi)
    rw[this];try rfl
   | some s0=>
    obtain⟨s,hs⟩:∃s,(gW n L).l[i]?=some s:=⟨_,eA (by rw[hg.len];exact(fL.1 hi).1)⟩
    obtain⟨k1,k2,k3,_⟩:=hg.kp i s s0 hs hi
    have hm:=cM hs
    obtain⟨_,he⟩:=FI (hg.ok s hm) (fX s hm)
    rw[hs]
    simp only[pA,Option.some.injEq]
    rw[←he]
    unfold dU
    rw[k1,k2,k3]
 · obtain⟨s',hs⟩:∃s,(gW n L).l[i]?=some s:=⟨_,eA (by rw[hg.len];exact(fL.1 hi).1)⟩
   obtain⟨_,_,_,k4⟩:=hg.kp i s' s hs hi
   have hm:=cM hs
   rw[(FI (hg.ok s' hm) (fX s' hm)).1,gF] at k4
   exact k4
end Go.AW
namespace Go.AW
open Go.Proofs.Tryz
abbrev XS:=zi tI_3 (zi zI_3 (zi aY (zi tI_31 (zi zI_31 (zi aQ (zi bS (zi bT (zi cI (zi tI_66 (zi zI_66 (zi bZ (zi b9 (zi cA (zi cB bY))))))))))))))
theorem SH(l:List Tm)(hl:l.length≤1048576)(h:∀x∈l,∀st,aD prog 312 [Tm.av x] st (fun r st'=>r=Tm.av x∧st'=st))(st:aA):aD prog 247 [.slice (l.map Tm.av)] st (fun r st'=>r=.slice (l.map Tm.av)∧st'=st):=by
 refine aD.done ?_
 refine wF [1000000] 1 func247 ntmps247 rfl rfl ?_
 intro _
 simp -implicitDefEqProofs only[aF,aB,seval,XS]
 refine rK (σ:=Unit) [1000000] [2,7,8] (l) 4 3 (fun i _=>(((l).take i).map (fun y=>y)).map Tm.av) (fun i _=>True) (fun i _=>[(9,.int .i64 i)]) (fun _ _=>st) (fun i _ _ e he=>by simp only[cH] at he;obtain⟨t,_,rfl⟩:=he;exact⟨cU t,aO t⟩) (by decide +kernel) ⟨(),0,trivial,fun h=>absurd rfl h,aM.mk (by simp -implicitDefEqProofs only[iY,jR,a7,aB,↓aU,seval])⟩ (fun i x s b hx hlt bL hdr hinv hb=>?_) (fun s b hge hinv=>?_)
 case refine_1=>
  have hw:=bE (n:=(i:Int)+1)
  have c8:((((l).take i).map (fun y=>y)).map Tm.av).length=i:=by simp only[aF,dE];omega
  have htk:((((l).take i).map (fun y=>y)).map Tm.av)++ [Tm.av ((fun y=>y) x)]=(((l).take (i+1)).map (fun y=>y)).map Tm.av:=by rw[eD,hx];simp
  have hat:=bP (av:=Tm.av) aQ hx (aO x)
  simp -implicitDefEqProofs only[bL,hat,bG,aO,cP,cU,aB,↓aU,seval,XS]
  refine(h x (cM hx) _).to ?_
  simp -implicitDefEqProofs only[bG,aO,cU,aB,seval,XS]
  refine eQ aQ bS bT rfl rfl (f9 (aO _) (cP _)) (by intro e he;simp only[cH] at he;obtain⟨t,_,rfl⟩:=he;exact aO t) hb (by simp only[c8,aX,a8];omega) (by simp only[c8,aX,a8];omega) (fun b' hb'=>?_)
  rw[htk] at hb' ⊢
  simp -implicitDefEqProofs only[aB,seval]
  exact⟨(),b',hb',aM.mk (by simp -implicitDefEqProofs only[hw,aB,seval])⟩
 simp -implicitDefEqProofs only[hge,fS,jW,oL,lU,dZ,aB,seval]
 exact⟨by rw[HQ];simp only[AV.soft],aL.refl _⟩
abbrev aTJ:=zi tI_31 (zi zI_31 (zi aQ (zi bS (zi bT (zi cI (zi tI_66 (zi zI_66 (zi bZ (zi b9 (zi cA (zi cB bY)))))))))))
theorem MP:∀(t:Tm) (st:aA),t.small=true→aD prog 312 [t.av] st (fun r st'=>r=t.av∧st'=st)
 | .mk k n s ts,st,hsm=>by
  obtain⟨hlen,qY⟩:=Tm.rG hsm
  have IH:=fun st=>SH ts hlen (fun x hx st=>MP x st (qY x hx)) st
  refine aD.oK ?_
  simp only[bA]
  refine wF [1000000,1] 1 func312 ntmps312 rfl rfl ?_
  intro _
  simp -implicitDefEqProofs only[aB,seval,aTJ]
  intro b1 h1 b2 h2
  have h21:b2≠b1:=by rintro rfl;rw[aA.aJ] at h2;cases h2
  rw[aA.aG _ _ h21] at h2
  have e1:∀X Y:AO,((st.aC b1 X).aC b2 Y) b1=some X:=fun X Y=>by rw[aA.aG _ _ h21.symm,aA.aJ]
  have e2:∀X Y Z:AO,(((st.aC b1 X).aC b2 Y).aC b1 Z) b2=some Y:=fun X Y Z=>by rw[aA.aG _ _ h21,aA.aJ]
  simp -implicitDefEqProofs only[e1,aB,seval]
  refine(IH _).to ?_
  simp -implicitDefEqProofs only[aK,e1,e2,aA.aJ,aB,seval,aTJ]
  exact(((aL.refl _).aC h1).aC h2).aC h1 |>.aC h2
termination_by t=>SizeOf.sizeOf t
decreasing_by have:=List.sizeOf_lt_of_mem hx;simp only[Tm.mk.sizeOf_spec];omega
abbrev XT:=zi tI_31 (zi zI_31 (zi aQ (zi bS (zi bT (zi cI (zi tI_66 (zi zI_66 (zi bZ (zi b9 (zi cA (zi cB (zi bY (zi tI_84 (zi zI_84 (zi mA (zi mB l8))))))))))))))))
theorem aYP(cl:Cl)(hs:IY cl)(st:aA):aD prog 311 [bR cl] st (fun r st'=>r=bR cl∧st'=st):=by
 obtain⟨⟨k,n,s,ks⟩,ts⟩:=cl
 obtain⟨s1,s2,s3⟩:=hs
 have hB:=fun st=>MP (.mk k n s ks) st s1
 have hC:=fun st=>SH ts s2 (fun x hx st=>MP x st (s3 x hx)) st
 refine aD.oK ?_
 simp only[iL,bA] at hB ⊢
 refine wF [1000000,1] 1 func311 ntmps311 rfl rfl ?_
 intro _
 simp -implicitDefEqProofs only[aB,seval,XT]
 intro b1 h1 b2 h2
 have h21:b2≠b1:=by rintro rfl;rw[aA.aJ] at h2;cases h2
 rw[aA.aG _ _ h21] at h2
 have e1:∀X Y:AO,((st.aC b1 X).aC b2 Y) b1=some X:=fun X Y=>by rw[aA.aG _ _ h21.symm,aA.aJ]
 have e2:∀X Y Z:AO,(((st.aC b1 X).aC b2 Y).aC b1 Z) b2=some Y:=fun X Y Z=>by rw[aA.aG _ _ h21,aA.aJ]
 simp -implicitDefEqProofs only[e1,aB,seval]
 refine(hB _).to ?_
 simp -implicitDefEqProofs only[aK,e1,aA.aJ,aB,seval,XT]
 refine(hC _).to ?_
 simp -implicitDefEqProofs only[aK,e2,aA.aJ,dS,aB,seval,XT]
 exact(((aL.refl _).aC h1).aC h2).aC h1 |>.aC h2
abbrev XR:=zi tI_3 (zi zI_3 (zi aY (zi tI_29 (zi zI_29 (zi fN (zi iG (zi iI (zi jN (zi tI_84 (zi zI_84 (zi mA (zi mB l8))))))))))))
theorem aYQ(l:List Cl)(hl:l.length≤1048576)(h:∀x∈l,∀st,aD prog 311 [bR x] st (fun r st'=>r=bR x∧st'=st))(st:aA):aD prog 246 [.slice (l.map bR)] st (fun r st'=>r=.slice (l.map bR)∧st'=st):=by
 refine aD.done ?_
 refine wF [1000000] 1 func246 ntmps246 rfl rfl ?_
 intro _
 simp -implicitDefEqProofs only[aF,aB,seval,XR]
 refine rK (σ:=Unit) [1000000] [2,7,8] (l) 5 3 (fun i _=>(((l).take i).map (fun y=>y)).map bR) (fun i _=>True) (fun i _=>[(9,.int .i64 i)]) (fun _ _=>st) (fun i _ _ e he=>by simp only[cH] at he;obtain⟨t,_,rfl⟩:=he;exact⟨CL t,kA t⟩) (by decide +kernel) ⟨(),0,trivial,fun h=>absurd rfl h,aM.mk (by simp -implicitDefEqProofs only[iY,jR,a7,aB,↓aU,seval])⟩ (fun i x s b hx hlt bL hdr hinv hb=>?_) (fun s b hge hinv=>?_)
 case refine_1=>
  have hw:=bE (n:=(i:Int)+1)
  have c8:((((l).take i).map (fun y=>y)).map bR).length=i:=by simp only[aF,dE];omega
  have htk:((((l).take i).map (fun y=>y)).map bR)++ [bR ((fun y=>y) x)]=(((l).take (i+1)).map (fun y=>y)).map bR:=by rw[eD,hx];simp
  have hat:=bP (av:=bR) fN hx (kA x)
  simp -implicitDefEqProofs only[bL,hat,uM,kA,FC,CL,aB,↓aU,seval,XR]
  refine(h x (cM hx) _).to ?_
  simp -implicitDefEqProofs only[uM,kA,CL,aB,seval,XR]
  refine eQ fN iG iI rfl rfl (f9 (kA _) (FC _)) (by intro e he;simp only[cH] at he;obtain⟨t,_,rfl⟩:=he;exact kA t) hb (by simp only[c8,aX,a8];omega) (by simp only[c8,aX,a8];omega) (fun b' hb'=>?_)
  rw[htk] at hb' ⊢
  simp -implicitDefEqProofs only[aB,seval]
  exact⟨(),b',hb',aM.mk (by simp -implicitDefEqProofs only[hw,aB,seval])⟩
 simp -implicitDefEqProofs only[hge,fS,jW,oL,lU,dZ,aB,seval]
 exact⟨by rw[HQ];simp only[AV.soft],aL.refl _⟩
abbrev XQ:=zi tI_29 (zi zI_29 (zi fN (zi iG (zi iI (zi jN (zi tI_31 (zi zI_31 (zi aQ (zi bS (zi bT (zi cI (zi tI_62 (zi zI_62 (zi lE (zi lF (zi lG (zi lH (zi lI (zi lJ lA)))))))))))))))))))
theorem aYT(s:Ss)(hp:s.p.length≤1048576)(hps:∀c∈s.p,IY c)(hq:s.q.length≤1048576)(hqs:∀t∈s.q,t.small=true)(st:aA):aD prog 166 [aS s] st (fun r st'=>r=aS s∧st'=st):=by
 obtain⟨ps,qs,i0,i1,i2,i3⟩:=s
 simp only at hp hps hq hqs
 have hB:=fun st=>aYQ ps hp (fun x hx st=>aYP x (hps x hx) st) st
 have hC:=fun st=>SH qs hq (fun x hx st=>MP x st (hqs x hx)) st
 refine aD.oK ?_
 simp only[aS]
 refine wF [1000000,1] 1 func166 ntmps166 rfl rfl ?_
 intro _
 simp -implicitDefEqProofs only[aB,seval,XQ]
 intro b1 h1 b2 h2
 have h21:b2≠b1:=by rintro rfl;rw[aA.aJ] at h2;cases h2
 rw[aA.aG _ _ h21] at h2
 have e1:∀X Y:AO,((st.aC b1 X).aC b2 Y) b1=some X:=fun X Y=>by rw[aA.aG _ _ h21.symm,aA.aJ]
 have e2:∀X Y Z:AO,(((st.aC b1 X).aC b2 Y).aC b1 Z) b2=some Y:=fun X Y Z=>by rw[aA.aG _ _ h21,aA.aJ]
 simp -implicitDefEqProofs only[e1,aB,seval]
 refine(hB _).to ?_
 simp -implicitDefEqProofs only[aK,e1,aA.aJ,aB,seval,XQ]
 refine(hC _).to ?_
 simp -implicitDefEqProofs only[aK,e2,aA.aJ,dS,aB,seval,XQ]
 exact(((aL.refl _).aC h1).aC h2).aC h1 |>.aC h2
abbrev PC (s:Ss):Prop:=s.p.length≤1048576∧(∀c∈s.p,IY c)∧s.q.length≤1048576∧∀t∈s.q,t.small=true
abbrev XU:=zi tI_3 (zi zI_3 (zi aY (zi tI_49 (zi zI_49 (zi lD (zi qQ (zi qS (zi vQ (zi tI_62 (zi zI_62 (zi lE (zi lF (zi lG (zi lH (zi lI (zi lJ lA))))))))))))))))
theorem aYS(l:List Ss)(hl:l.length≤1048576)(h:∀x∈l,∀st,aD prog 166 [aS x] st (fun r st'=>r=aS x∧st'=st))(st:aA):aD prog 83 [.slice (l.map aS)] st (fun r st'=>r=.slice (l.map aS)∧st'=st):=by
 refine aD.done ?_
 refine wF [1000000] 1 func83 ntmps83 rfl rfl ?_
 intro _
 simp -implicitDefEqProofs only[aF,aB,seval,XU]
 refine rK (σ:=Unit) [1000000] [2,7,8] (l) 6 3 (fun i _=>(((l).take i).map (fun y=>y)).map aS) (fun i _=>True) (fun i _=>[(9,.int .i64 i)]) (fun _ _=>st) (fun i _ _ e he=>by simp only[cH] at he;obtain⟨t,_,rfl⟩:=he;exact⟨XA t,oA t⟩) (by decide +kernel) ⟨(),0,trivial,fun h=>absurd rfl h,aM.mk (by simp -implicitDefEqProofs only[iY,jR,a7,aB,↓aU,seval])⟩ (fun i x s b hx hlt bL hdr hinv hb=>?_) (fun s b hge hinv=>?_)
 case refine_1=>
  have hw:=bE (n:=(i:Int)+1)
  have c8:((((l).take i).map (fun y=>y)).map aS).length=i:=by simp only[aF,dE];omega
  have htk:((((l).take i).map (fun y=>y)).map aS)++ [aS ((fun y=>y) x)]=(((l).take (i+1)).map (fun y=>y)).map aS:=by rw[eD,hx];simp
  have hat:=bP (av:=aS) lD hx (oA x)
  simp -implicitDefEqProofs only[bL,hat,O8,oA,O9,XA,aB,↓aU,seval,XU]
  refine(h x (cM hx) _).to ?_
  simp -implicitDefEqProofs only[O8,oA,XA,aB,seval,XU]
  refine eQ lD qQ qS rfl rfl (f9 (oA _) (O9 _)) (by intro e he;simp only[cH] at he;obtain⟨t,_,rfl⟩:=he;exact oA t) hb (by simp only[c8,aX,a8];omega) (by simp only[c8,aX,a8];omega) (fun b' hb'=>?_)
  rw[htk] at hb' ⊢
  simp -implicitDefEqProofs only[aB,seval]
  exact⟨(),b',hb',aM.mk (by simp -implicitDefEqProofs only[hw,aB,seval])⟩
 simp -implicitDefEqProofs only[hge,fS,jW,oL,lU,dZ,aB,seval]
 exact⟨by rw[HQ];simp only[AV.soft],aL.refl _⟩
theorem aYR(l:List Ss)(hl:l.length≤1048576)(h:∀s∈l,PC s)(st:aA):aD prog 83 [.slice (l.map aS)] st (fun r st'=>r=.slice (l.map aS)∧st'=st):=
 aYS l hl (fun s hs st=>aYT s (h s hs).1 (h s hs).2.1 (h s hs).2.2.1 (h s hs).2.2.2 st) st
structure gS (st0 st:aA) (qw qa:AV) (W:List Nat) (A:List AV):Prop where
 w:gE st 1 qw (W.map nv)
 a:gE st 1 qa A
 d:∀b∈aT qw,b∉aT qa
 n:∀b,b∈aT qw∨b∈aT qa→st0 b=none
 k:∀b o,st0 b=some o→st b=some o
theorem gS.fresh{st0 st:aA}{qw qa:AV}{W:List Nat}{A:List AV}(h:gS st0 st qw qa W A){b:Nat}(hb:st b=none):st0 b=none∧b∉aT qw∧b∉aT qa:=by
 refine⟨?_,fun hq=>?_,fun hq=>?_⟩
 · cases hs:st0 b with
   | none=>rfl
   | some o=>rw[h.k b o hs] at hb;cases hb
 · obtain⟨cs,e⟩:=h.w.some b hq;rw[hb] at e;cases e
 · obtain⟨cs,e⟩:=h.a.some b hq;rw[hb] at e;cases e
theorem gS.aC{st0 st:aA}{qw qa:AV}{W:List Nat}{A:List AV}(h:gS st0 st qw qa W A){b:Nat}{o:AO}(h0:st0 b=none)(hw:b∉aT qw)(ha:b∉aT qa):gS st0 (st.aC b o) qw qa W A:=by
 refine⟨h.w.aV fun x hx=>?_,h.a.aV fun x hx=>?_,h.d,h.n,fun x p hx=>?_⟩
 · exact aA.aG _ _ (by rintro rfl;exact hw hx)
 · exact aA.aG _ _ (by rintro rfl;exact ha hx)
 · rw[aA.aG _ _ (by rintro rfl;rw[h0] at hx;cases hx)];exact h.k x p hx
theorem gS.WL{st0 st st':aA}{qw qa q':AV}{W:List Nat}{A:List AV}{i:Nat}(h:gS st0 st qw qa W A)(gM:gE st' 1 q' (W.map nv++ [nv i]))(hf:∀y,y∉aT qw→y∉aT q'→st' y=st y)(hn:∀y∈aT q',y∈aT qw∨st y=none):gS st0 st' q' qa (W++ [i]) A:=by
 have hd:∀b∈aT q',b∉aT qa:=fun b hb=>by
  rcases hn b hb with h' | h'
  · exact h.d b h'
  · exact(h.fresh h').2.2
 refine⟨by simpa using gM,h.a.aV fun b hb=>hf b (fun h'=>h.d b h' hb) (fun h'=>hd b h' hb),hd,fun b hb=>?_,fun b o hb=>?_⟩
 · rcases hb with hb | hb
   · rcases hn b hb with h' | h'
     · exact h.n b (.inl h')
     · exact(h.fresh h').1
   · exact h.n b (.inr hb)
 · have h1:b∉aT qw:=fun h'=>by rw[h.n b (.inl h')] at hb;cases hb
   have h2:b∉aT q':=fun h'=>by
    rcases hn b h' with h'' | h''
    · exact h1 h''
    · rw[(h.fresh h'').1] at hb;cases hb
   rw[hf b h1 h2]
   exact h.k b o hb
theorem gS.OT{st0 st st':aA}{qw qa q':AV}{W:List Nat}{A:List AV}{x:AV}(h:gS st0 st qw qa W A)(gM:gE st' 1 q' (A++ [x]))(hf:∀y,y∉aT qa→y∉aT q'→st' y=st y)(hn:∀y∈aT q',y∈aT qa∨st y=none):gS st0 st' qw q' W (A++ [x]):=by
 have hd:∀b∈aT qw,b∉aT q':=fun b hb hq=>by
  rcases hn b hq with h' | h'
  · exact h.d b hb h'
  · exact(h.fresh h').2.1 hb
 refine⟨h.w.aV fun b hb=>hf b (fun h'=>h.d b hb h') (fun h'=>hd b hb h'),gM,hd,fun b hb=>?_,fun b o hb=>?_⟩
 · rcases hb with hb | hb
   · exact h.n b (.inl hb)
   · rcases hn b hb with h' | h'
     · exact h.n b (.inr h')
     · exact(h.fresh h').1
 · have h1:b∉aT qa:=fun h'=>by rw[h.n b (.inr h')] at hb;cases hb
   have h2:b∉aT q':=fun h'=>by
    rcases hn b h' with h'' | h''
    · exact h1 h''
    · rw[(h.fresh h'').1] at hb;cases hb
   rw[hf b h1 h2]
   exact h.k b o hb
def gS.trim(st0 st:aA)(qw qa:AV):aA:=fun y=>if y∈aT qw∨y∈aT qa then st y else st0 y
theorem gS.uP{st0 st:aA}{qw qa:AV}{W:List Nat}{A:List AV}(h:gS st0 st qw qa W A):aL st (gS.trim st0 st qw qa)∧gS st0 (gS.trim st0 st qw qa) qw qa W A:=by
 unfold gS.trim
 refine⟨fun y=>?_,h.w.aV fun b hb=>aH (.inl hb),h.a.aV fun b hb=>aH (.inr hb),h.d,h.n,fun b o hb=>?_⟩
 · dsimp only
   split
   · exact⟨fun e=>e,fun o e=>e⟩
   · exact⟨fun e=>(h.fresh e).1,fun o e=>h.k y o e⟩
 · show(if _ then st b else st0 b)=_
   split
   · exact h.k b o hb
   · exact hb
theorem DJ{S:aA}{q q':AV}{b:Nat}{o:AO}(hn:∀y∈aT q',y∈aT q∨S y=none)(h:b∉aT q)(hb:S b=some o):b∉aT q':=fun hm=>by
 rcases hn b hm with h' | h'
 · exact h h'
 · rw[hb] at h';cases h'
theorem aSP(l:List Ss):∀e∈l.map aS,e.width=6:=by intro e he;simp only[cH] at he;obtain⟨t,_,rfl⟩:=he;rfl
theorem aSO(l:List Ss):∀e∈l.map aS,e.cE=false:=by intro e he;simp only[cH] at he;obtain⟨t,_,rfl⟩:=he;rfl
theorem WY{α:Type}{av:α→AV}{w:Nat}(hw:∀a,(av a).width=w):∀ {L:List α} {i:Nat} (z:α),i<L.length→aK ((L.map av).flatMap AV.cells) (i*w) (av z).cells=((L.set i z).map av).flatMap AV.cells:=fun {L i} z hi=>by
 have hz:(av z).cells.length=w:=by rw[s8,hw]
 have hA:((L.take i).map av).flatMap AV.cells=((L.map av).flatMap AV.cells).take (i*w)∧((L.drop (i+1)).map av).flatMap AV.cells=((L.map av).flatMap AV.cells).drop (i*w+w):=by
  have hl1:(((L.take i).map av).flatMap AV.cells).length=i*w:=by
   rw[nI (n:=w) (es:=(L.take i).map av) (fun e he=>by simp only[cH] at he;obtain⟨t,_,rfl⟩:=he;exact hw t),aF,dE,lQ (by omega)]
  have hl2:(((L.take (i+1)).map av).flatMap AV.cells).length=i*w+w:=by
   rw[nI (n:=w) (es:=(L.take (i+1)).map av) (fun e he=>by simp only[cH] at he;obtain⟨t,_,rfl⟩:=he;exact hw t),aF,dE,lQ (by omega),uB,Nat.one_mul]
  constructor
  · conv=>rhs;rw[←qG i L,nU,t8,HV hl1]
  · conv=>rhs;rw[←qG (i+1) L,nU,t8,List.drop_left' hl2]
 unfold aK
 rw[hz,←hA.1,←hA.2,Y0,aH hi]
 simp
def Fz(st0 st:aA)(qw qa q:AV)(l:List AV):Prop:=q=.slice l∨∃b w,q=.mslice b 0 l.length w∧st b=some (.cells (l.flatMap AV.cells))∧st0 b=none∧b∉aT qw∧b∉aT qa∧(∀e∈l,e.cE=false)∧∀e∈l,e.width=w
theorem Fz.seen{st0 st s2:aA}{qw qa q:AV}{l:List AV}{h:bQ}{c:Value}(S:cS h st)(D:aL st s2)(hs2:∀b,b∉aT qw→b∉aT qa→s2 b=st0 b)(hz:Fz st0 st qw qa q l)(x:VC h st q [c]):VC h s2 (.slice l) [c]:=by
 rcases hz with rfl | ⟨b,w,rfl,hb,hb0,hbw,hba,hj,hw⟩
 · exact VC.mono (D.step h) _ _ x
 · obtain⟨f1,f2⟩:=frozen S hb hj
   have hs:s2 b=none:=(hs2 b hbw hba).trans hb0
   have D2:aL (st.erase b) s2:=fun x=>by
    unfold aA.erase
    by_cases hx:x=b
    · subst hx;rw[aH rfl];exact⟨fun _=>hs,fun o e=>by rw[hs] at e;cases e⟩
    · rw[aE hx];exact D x
   have hE:=dI.mono (D2.step h) b rfl _ _ f2
   unfold VC at x
   obtain⟨cap,hv,l1,l2,_⟩:=x
   unfold VC
   exact .inr ⟨b,0,cap,hv,l1,l2,hs,f1,⟨w,hw⟩,hE⟩
theorem aD.bAW{P:Program}{g:FuncId}{args:List AV}{st0 st:aA}{W:List Nat}{A LV EV:List AV}(x:aD P g args st (fun r st'=>∃qw qa q1 q4,r=.agg [q1,qw,qa,q4]∧gS st0 st' qw qa W A∧Fz st0 st' qw qa q1 LV∧Fz st0 st' qw qa q4 EV)) :
 aD P g args st (fun r st'=>∃qw qa,r=.agg [.slice LV,qw,qa,.slice EV]∧gS st0 st' qw qa W A):=by
 refine x.mE fun r st' ⟨qw,qa,q1,q4,hr,hT,h1,h4⟩=>?_
 obtain⟨D,hT2⟩:=hT.uP
 refine⟨_,_,D.rJ,fun h v S y=>?_,qw,qa,rfl,hT2⟩
 subst hr
 have hs2:∀b,b∉aT qw→b∉aT qa→gS.trim st0 st' qw qa b=st0 b:=fun b b1 b2=>by unfold gS.trim;rw[aE (by rintro(h | h);exact b1 h;exact b2 h)]
 obtain⟨y0,y1⟩:=y
 refine⟨y0,?_⟩
 unfold VC at y1 ⊢
 simp only[bB] at y1 ⊢
 obtain⟨c1,r1,e1,z1,c2,r2,rfl,z2,c3,r3,rfl,z3,c4,r4,rfl,z4,rfl⟩:=y1
 exact⟨c1,_,e1,Fz.seen S D hs2 h1 z1,c2,_,rfl,VC.mono (D.step h) _ _ z2,c3,_,rfl,VC.mono (D.step h) _ _ z3,c4,_,rfl,Fz.seen S D hs2 h4 z4,rfl⟩
abbrev tS:=zi tI_3 (zi zI_3 (zi aY (zi tI_26 (zi zI_26 (zi fZ (zi jF (zi jG (zi mZ (zi tI_46 (zi zI_46 (zi cZ (zi eG (zi eE (zi eT (zi tI_49 (zi zI_49 (zi lD (zi qQ (zi qS (zi vQ (zi tI_59 (zi zI_59 (zi yE (zi xX (zi tI_62 (zi zI_62 (zi lE (zi lF (zi lG (zi lH (zi lI (zi lJ (zi lA (zi tI_108 (zi zI_108 (zi aNJ (zi aNK (zi aNL (zi aNM aAJ)))))))))))))))))))))))))))))))))))))))
set_option maxHeartbeats 4000000 in
theorem aYM(L:List Ss)(E:List Int)(i:Nat)(s:Ss)(hs:L[i]?=some s)(hok:eM s=true)(n:Int)(hn:0≤n)(hL:L.length≤8)(hE:E.length=L.length)(st0 st:aA)(qw qa:AV)(W:List Nat)(A:List (List Tm))(hWl:W.length≤100000)(hAl:A.length≤100000)(h:gS st0 st qw qa W (A.map bO)) :
 aD prog 85 [.agg [.slice (L.map aS),qw,qa,.slice (E.map iv)],nv i,.int .i64 n] st (fun r st'=>∃qw' qa',r=.agg [.slice ((L.set i (k9 s n)).map aS),qw',qa',.slice ((if(k9 s n).fin≠-1 then E.set i (k9 s n).fin else E).map iv)]∧gS st0 st' qw' qa' (W++List.replicate (oP s n).length i) ((A++oP s n).map bO)):=by
 have hsl:=aBI s n hok hn
 have UB:=(vH hok hn).l
 have UB:(oP s n).length≤20:=by unfold oP;rw[mI];omega
 have hil:i<L.length:=(fL.1 hs).1
 obtain⟨w1,w2,w3,w4,w5⟩:=h.w.shape
 obtain⟨a1,a2,a3,a4,a5⟩:=h.a.shape
 have hat:=bP (av:=aS) (P:=prog) lD hs (oA s)
 refine aD.bAW ?_
 refine wF [1000000,3] 3 func85 ntmps85 rfl rfl ?_
 intro _
 simp -implicitDefEqProofs only[nv,aB,seval,tS]
 intro b3 h3 b6 h6
 have h63:b6≠b3:=by rintro rfl;rw[aA.aJ] at h6;cases h6
 rw[aA.aG _ _ h63] at h6
 obtain⟨z3,w3',a3'⟩:=h.fresh h3
 obtain⟨z6,w6',a6'⟩:=h.fresh h6
 have e3:∀X Y:AO,((st.aC b3 X).aC b6 Y) b3=some X:=fun X Y=>by rw[aA.aG _ _ h63.symm,aA.aJ]
 rw[aS] at hat
 simp only[aS] at hsl
 simp -implicitDefEqProofs only[e3,hat,aB,seval,tS]
 refine(hsl _).to ?_
 simp -implicitDefEqProofs only[e3,aB,↓aU,seval,tS]
 generalize k9 s n=z at *
 generalize oP s n=M at *
 have UA:L.map aS≠[]:=by intro e;have:=gH List.length e;simp at this;subst this;simp at hil
 have hT0:=(h.aC (o:=.cells [.slice (L.map aS),qw,qa,.slice (E.map iv)]) z3 w3' a3').aC (o:=.cells [.fslice [],.fslice [],.fslice [],.fslice []]) z6 w6' a6'
 have g3:=e3 (.cells [.slice (L.map aS),qw,qa,.slice (E.map iv)]) (.cells [.fslice [],.fslice [],.fslice [],.fslice []])
 have g6:((st.aC b3 (.cells [.slice (L.map aS),qw,qa,.slice (E.map iv)])).aC b6 (.cells [.fslice [],.fslice [],.fslice [],.fslice []])) b6=some (.cells [.fslice [],.fslice [],.fslice [],.fslice []]):=aA.aJ _ _ _
 clear e3
 generalize (st.aC b3 (.cells [.slice (L.map aS),qw,qa,.slice (E.map iv)])).aC b6 (.cells [.fslice [],.fslice [],.fslice [],.fslice []])=S0 at *
 change jT prog 49 (aZ S0 0 []) (bU 6 0 []) (.slice (L.map aS)) _
 refine eQ lD qQ qS rfl rfl (by intro e he;simp only[cH] at he;obtain⟨t,_,rfl⟩:=he;exact⟨oA t,O9 t⟩) (by simp) (fun h=>absurd rfl h) (by simp only[a8,aF];omega) (by simp only[a8,aF];omega) (fun bl hbl=>?_)
 rw[fF] at hbl ⊢
 replace hbl:=hbl UA
 rw[qK UA,jU UA,aF]
 have hl6:bl≠b6:=by rintro rfl;rw[g6] at hbl;cases hbl
 have hl3:bl≠b3:=by rintro rfl;rw[g3] at hbl;cases hbl
 obtain⟨zl,wl',al'⟩:=hT0.fresh hbl
 have a3A:=qV (P:=prog) (b:=bl) (w:=6) (i:=i) (len:=L.length) lD hil
 have nJ:=WY (av:=aS) (w:=6) oA (L:=L) (i:=i) z hil
 have hln:i*6+6≤((L.map aS).flatMap AV.cells).length:=by
  rw[nI (n:=6) (es:=L.map aS) (fun e he=>by simp only[cH] at he;obtain⟨t,_,rfl⟩:=he;exact oA t),aF]
  omega
 generalize hFL:(L.map aS).flatMap AV.cells=FL at *
 have f3:∀V:AO,(S0.aC bl V) b3=some (.cells [.slice (L.map aS),qw,qa,.slice (E.map iv)]):=fun V=>by rw[aA.aG _ _ hl3.symm,g3]
 have fl:∀V U:AO,((S0.aC bl V).aC b3 U) bl=some V:=fun V U=>by rw[aA.aG _ _ hl3,aA.aJ]
 simp -implicitDefEqProofs only[f3,fl,a3A,aK,aA.aJ,aB,seval,tS]
 refine⟨hln,?_⟩
 have aPX:List.take (i*6) FL++ [.slice (z.p.map bR),.slice (z.q.map Tm.av),.int .i64 z.dD,.int .i64 z.used,.int .i64 z.sent,.int .i64 z.fin]++List.drop (i*6+6) FL=((L.set i z).map aS).flatMap AV.cells:=nJ
 rw[aPX,aA.m7 _ _ _ hl3,dS]
 have hT1:=(hT0.aC (o:=.cells [.mslice bl 0 L.length 6,qw,qa,.slice (E.map iv)]) z3 w3' a3').aC (o:=.cells (((L.set i z).map aS).flatMap AV.cells)) zl wl' al'
 have u3:((S0.aC b3 (.cells [.mslice bl 0 L.length 6,qw,qa,.slice (E.map iv)])).aC bl (.cells (((L.set i z).map aS).flatMap AV.cells))) b3=some (.cells [.mslice bl 0 L.length 6,qw,qa,.slice (E.map iv)]):=by rw[aA.aG _ _ hl3.symm,aA.aJ]
 have ul:((S0.aC b3 (.cells [.mslice bl 0 L.length 6,qw,qa,.slice (E.map iv)])).aC bl (.cells (((L.set i z).map aS).flatMap AV.cells))) bl=some (.cells (((L.set i z).map aS).flatMap AV.cells)):=aA.aJ _ _ _
 have u6:((S0.aC b3 (.cells [.mslice bl 0 L.length 6,qw,qa,.slice (E.map iv)])).aC bl (.cells (((L.set i z).map aS).flatMap AV.cells))) b6=some (.cells [.fslice [],.fslice [],.fslice [],.fslice []]):=by rw[aA.aG _ _ hl6.symm,aA.aG _ _ h63,g6]
 generalize (S0.aC b3 (.cells [.mslice bl 0 L.length 6,qw,qa,.slice (E.map iv)])).aC bl (.cells (((L.set i z).map aS).flatMap AV.cells))=T1 at *
 generalize aOR:((L.set i z).map aS).flatMap AV.cells=FL2 at *
 clear g3 g6 f3 hT0 nJ aPX hln hbl hFL
 have hML:M.length≤20:=UB
 refine d8 (σ:=aA×AV×AV) [1000000] [1,3,6,7,8] M
  (fun k x=>gS st0 x.1 x.2.1 x.2.2 (W++List.replicate k i) ((A++M.take k).map bO)∧x.1 b3=some (.cells [.mslice bl 0 L.length 6,x.2.1,x.2.2,.slice (E.map iv)])∧x.1 bl=some (.cells FL2)∧x.1 b6=some (.cells [.fslice [],.fslice [],.fslice [],.fslice []])∧(b3∉aT x.2.1∧b3∉aT x.2.2)∧(bl∉aT x.2.1∧bl∉aT x.2.2)∧(b6∉aT x.2.1∧b6∉aT x.2.2))
  (fun k x=>[(9,.int .i64 k)]) (fun k x=>x.1) (by decide +kernel) ⟨(T1,qw,qa),⟨by simpa using hT1,u3,ul,u6,⟨w3',a3'⟩,⟨wl',al'⟩,⟨w6',a6'⟩⟩,aM.mk (by simp -implicitDefEqProofs only[aB,↓aU,seval])⟩ (fun k x T hx hlt bL hdr hinv=>?_) (fun T hge hinv=>?_)
 · obtain⟨T,pw,pa⟩:=T
   obtain⟨i1,i2,i3,i4,⟨i5,i5'⟩,⟨i6,i6'⟩,⟨i7,i7'⟩⟩:=hinv
   simp only at i1 i2 i3 i4 i5 i5' i6 i6' i7 i7'
   obtain⟨w1,w2,w3,w4,w5⟩:=i1.w.shape
   obtain⟨a1,a2,a3,a4,a5⟩:=i1.a.shape
   have hw:=bE (n:=(k:Int)+1)
   have r0:=bP (av:=bO) (P:=prog) fZ hx rfl
   simp -implicitDefEqProofs only[bL,i2,aF,w1,aB,seval,tS]
   refine gE.append cZ eG eE rfl (by decide) i1.w rfl rfl (by simp only[aF,dQ,List.length_replicate];omega) (fun q' T2 gM hf hn=>?_)
   have j3:=DJ hn i5 i2
   have jl:=DJ hn i6 i3
   have j6:=DJ hn i7 i4
   have m2:=(hf b3 i5 j3).trans i2
   have m3:=(hf bl i6 jl).trans i3
   have m4:=(hf b6 i7 j6).trans i4
   obtain⟨y1,y2,y3,y4,y5⟩:=gM.shape
   have hTT:=(i1.WL (i:=i) gM hf hn).aC (o:=.cells [.mslice bl 0 L.length 6,q',pa,.slice (E.map iv)]) z3 j3 i5'
   simp -implicitDefEqProofs only[m2,aK,y4,y5,aB,seval,tS]
   have v2:(T2.aC b3 (.cells [.mslice bl 0 L.length 6,q',pa,.slice (E.map iv)])) b3=some (.cells [.mslice bl 0 L.length 6,q',pa,.slice (E.map iv)]):=aA.aJ _ _ _
   have v3:(T2.aC b3 (.cells [.mslice bl 0 L.length 6,q',pa,.slice (E.map iv)])) bl=some (.cells FL2):=by rw[aA.aG _ _ hl3,m3]
   have v4:(T2.aC b3 (.cells [.mslice bl 0 L.length 6,q',pa,.slice (E.map iv)])) b6=some (.cells [.fslice [],.fslice [],.fslice [],.fslice []]):=by rw[aA.aG _ _ h63,m4]
   generalize T2.aC b3 (.cells [.mslice bl 0 L.length 6,q',pa,.slice (E.map iv)])=T3 at *
   refine vU [(0,1),(1,1),(2,1),(3,1),(4,1),(5,1),(6,1),(7,0),(8,1),(9,2)] [0,1,2,3,4,5,6,8] (d9.aC b3 (.cells [.mslice bl 0 L.length 6,q',pa,.slice (E.map iv)])) mixed (by decide +kernel) (by decide +kernel) (by decide +kernel) rfl (fR v2) ?_
   simp -implicitDefEqProofs only[r0,a1,aA.aJ,aB,seval,tS]
   refine gE.append fZ jF jG rfl (by decide) hTT.a rfl rfl (by simp only[aF,dQ,dE];omega) (fun q2 T4 JP hf2 hn2=>?_)
   have k3:=DJ hn2 i5' v2
   have kl:=DJ hn2 i6' v3
   have k6:=DJ hn2 i7' v4
   have n2:=(hf2 b3 i5' k3).trans v2
   have n3:=(hf2 bl i6' kl).trans v3
   have n4:=(hf2 b6 i7' k6).trans v4
   obtain⟨x1,x2,x3,x4,x5⟩:=JP.shape
   have hT4:=(hTT.OT (x:=bO x) JP hf2 hn2).aC (o:=.cells [.mslice bl 0 L.length 6,q',q2,.slice (E.map iv)]) z3 j3 k3
   simp -implicitDefEqProofs only[n2,aK,x4,x5,aB,seval,tS]
   refine⟨fR n2,⟨(T4.aC b3 (.cells [.mslice bl 0 L.length 6,q',q2,.slice (E.map iv)]),q',q2),⟨?_,aA.aJ _ _ _,(aA.aG _ _ hl3).trans n3,(aA.aG _ _ h63).trans n4,⟨j3,k3⟩,⟨jl,kl⟩,⟨j6,k6⟩⟩,aM.mk (by simp -implicitDefEqProofs only[hw,aB,seval])⟩⟩
   have e1:W++List.replicate k i++ [i]=W++List.replicate (k+1) i:=by rw[lX,List.replicate_succ']
   have e2:(A++M.take k).map bO++ [bO x]=(A++M.take (k+1)).map bO:=by rw[eD,hx];simp
   rw[e1,e2] at hT4
   exact hT4
 · obtain⟨T,pw,pa⟩:=T
   obtain⟨i1,i2,i3,i4,⟨i5,i5'⟩,⟨i6,i6'⟩,⟨i7,i7'⟩⟩:=hinv
   simp only at i1 i2 i3 i4 i5 i5' i6 i6' i7 i7'
   rw[dZ] at i1
   obtain⟨w1,w2,w3,w4,w5⟩:=i1.w.shape
   obtain⟨a1,a2,a3,a4,a5⟩:=i1.a.shape
   simp -implicitDefEqProofs only[hge,aF,aB,seval,tS]
   refine aP (fun hc=>?_) (fun hc=>?_)
   case refine_2=>
    have hc':z.fin= -1:=by simpa using hc
    simp -implicitDefEqProofs only[i2,i4,aK,w5,a5,aA.aJ,aB,seval,tS]
    refine⟨pw,pa,_,_,rfl,i1.aC z6 i7 i7',.inr ⟨bl,6,by rw[aF,List.length_set],by rw[aA.aG _ _ hl6,i3,aOR],zl,i6,i6',aSO _,aSP _⟩,.inl ?_⟩
    rw[aE (by rw[hc'];simp)]
   have hc':z.fin≠-1:=by simpa using hc
   have T9:E.map iv≠[]:=by intro e;have:=gH List.length e;simp at this;subst this;simp at hE;omega
   simp -implicitDefEqProofs only[i2,aB,seval,tS]
   change jT prog 46 (aZ T 0 []) (bU 1 0 []) (.slice (E.map iv)) _
   refine eQ cZ eG eE rfl rfl (by intro e he;simp only[cH] at he;obtain⟨t,_,rfl⟩:=he;exact⟨rfl,rfl⟩) (by simp) (fun h=>absurd rfl h) (by simp only[a8,aF];omega) (by simp only[a8,aF];omega) (fun be hbe=>?_)
   rw[fF] at hbe ⊢
   replace hbe:=hbe T9
   rw[qK T9,jU T9,aF]
   have he6:be≠b6:=by rintro rfl;rw[i4] at hbe;cases hbe
   have he3:be≠b3:=by rintro rfl;rw[i2] at hbe;cases hbe
   have hel:be≠bl:=by rintro rfl;rw[i3] at hbe;cases hbe
   obtain⟨ze,we',ae'⟩:=i1.fresh hbe
   have JQ:=qV (P:=prog) (b:=be) (w:=1) (i:=i) (len:=E.length) cZ (by omega)
   have nJ:=WY (av:=iv) (w:=1) (fun _=>rfl) (L:=E) (i:=i) z.fin (by omega)
   have hln:i*1+1≤((E.map iv).flatMap AV.cells).length:=by
    rw[nI (n:=1) (es:=E.map iv) (fun e he=>by simp only[cH] at he;obtain⟨t,_,rfl⟩:=he;rfl),aF]
    omega
   generalize hFE:(E.map iv).flatMap AV.cells=FE at *
   have g3:∀V:AO,(T.aC be V) b3=some (.cells [.mslice bl 0 L.length 6,pw,pa,.slice (E.map iv)]):=fun V=>by rw[aA.aG _ _ he3.symm,i2]
   have ge:∀V U:AO,((T.aC be V).aC b3 U) be=some V:=fun V U=>by rw[aA.aG _ _ he3,aA.aJ]
   have g3':∀V U X:AO,(((T.aC be V).aC b3 U).aC be X) b3=some U:=fun V U X=>by rw[aA.aG _ _ he3.symm,aA.aJ]
   have g6':∀V U X:AO,(((T.aC be V).aC b3 U).aC be X) b6=some (.cells [.fslice [],.fslice [],.fslice [],.fslice []]):=fun V U X=>by rw[aA.aG _ _ he6.symm,aA.aG _ _ h63,aA.aG _ _ he6.symm,i4]
   simp -implicitDefEqProofs only[g3,ge,g3',g6',JQ,aK,w5,a5,aA.aJ,aB,seval,tS]
   refine⟨hln,pw,pa,_,_,rfl,(((i1.aC ze we' ae').aC z3 i5 i5').aC ze we' ae').aC z6 i7 i7',.inr ⟨bl,6,by rw[aF,List.length_set],?_,zl,i6,i6',aSO _,aSP _⟩,.inr ⟨be,1,?_,?_,ze,we',ae',?_,?_⟩⟩
   · rw[aA.aG _ _ hl6,aA.aG _ _ hel.symm,aA.aG _ _ hl3,aA.aG _ _ hel.symm,i3,aOR]
   · rw[aH hc',aF,List.length_set]
   · rw[aA.aG _ _ he6,aA.aJ,aH hc']
     exact gH (fun x=>some (AO.cells x)) nJ
   · intro e he;simp only[cH] at he;obtain⟨t,_,rfl⟩:=he;rfl
   · intro e he;simp only[cH] at he;obtain⟨t,_,rfl⟩:=he;rfl
theorem gE.seen{h:bQ}{st s2:aA}{w:Nat}{q:AV}{l:List AV}{c:Value}(S:cS h st)(D:aL st s2)(hA:gE st w q l)(hs2:∀b∈aT q,s2 b=none)(hj:∀e∈l,e.cE=false)(hw:∀e∈l,e.width=w)(x:VC h st q [c]):VC h s2 (.slice l) [c]:=by
 rcases hA with ⟨rfl,rfl⟩ | ⟨b,cs,rfl,hb,hcs,hcl⟩
 · unfold VC at x ⊢
   rcases x with x | ⟨b,off,e,l1,_⟩
   · exact .inl x
   · exact .inl ⟨⟨_,by simpa using e⟩,rfl⟩
 · have S1:=aSA (l.length*w) hb S
   rw[hcs] at S1
   obtain⟨f1,f2⟩:=frozen S1 (aA.aJ _ _ _) hj
   have hs:s2 b=none:=hs2 b (by simp [aT])
   have D2:aL ((st.aC b (.cells (l.flatMap AV.cells))).erase b) s2:=fun x=>by
    unfold aA.erase
    by_cases hx:x=b
    · subst hx;rw[aH rfl];exact⟨fun _=>hs,fun o e=>by rw[hs] at e;cases e⟩
    · rw[aE hx,aA.aG _ _ hx];exact D x
   have hE:=dI.mono (D2.step h) b rfl _ _ f2
   unfold VC at x
   obtain⟨cap,hv,l1,l2,_⟩:=x
   unfold VC
   exact .inr ⟨b,0,cap,hv,l1,l2,hs,f1,⟨w,hw⟩,hE⟩
theorem a67(l:List Nat):∀e∈l.map nv,e.cE=false:=by intro e h;simp only[cH] at h;obtain⟨t,_,rfl⟩:=h;rfl
theorem aQ2(l:List Nat):∀e∈l.map nv,e.width=1:=by intro e h;simp only[cH] at h;obtain⟨t,_,rfl⟩:=h;rfl
theorem aD.bAX{P:Program}{g:FuncId}{args:List AV}{st:aA}{W:List Nat}{A:List (List Tm)}{EV:List AV}(x:aD P g args st (fun r st'=>∃qw qa q3,r=.tup [qw,qa,q3]∧(q3=.slice EV∨q3=.fslice EV)∧gS st st' qw qa W (A.map bO))) :
 aD P g args st (fun r st'=>r=.tup [.slice (W.map nv),.slice (A.map bO),.slice EV]∧st'=st):=by
 refine x.mE fun r st' ⟨qw,qa,q3,hr,hq3,hT⟩=>?_
 have D:aL st' st:=fun y=>⟨fun e=>(hT.fresh e).1,fun o e=>hT.k y o e⟩
 have aPR:∀h v,(q3.isAgg=kI v∧VC h st' q3 v.cells.toList)→((AV.slice EV).isAgg=kI v∧VC h st' (.slice EV) v.cells.toList):=fun h v y=>by
  rcases hq3 with rfl | rfl
  · exact y
  · exact⟨y.1,VC.soft (.fslice EV) _ y.2⟩
 refine⟨_,st,D.rJ,fun h v S y=>?_,rfl,rfl⟩
 subst hr
 obtain⟨y0,y1⟩:=y
 refine⟨y0,?_⟩
 unfold VC at y1 ⊢
 obtain⟨vs,e,y2⟩:=y1
 simp only[dX] at y2 ⊢
 obtain⟨v1,r1,rfl,⟨ya,ya'⟩,v2,r2,rfl,⟨yb,yb'⟩,v3,r3,rfl,yc,rfl⟩:=y2
 have one:∀ {q:AV} {v:Value},q.isAgg=false→q.isAgg=kI v→v.cells.toList= [v]:=fun {q v} h1 h2=>by
  rw[h1] at h2
  cases v<;>first | rfl | (simp [kI] at h2)
 have o1:=one hT.w.shape.1 ya
 have o2:=one hT.a.shape.1 yb
 rw[o1] at ya'
 rw[o2] at yb'
 refine⟨_,e,v1,_,rfl,⟨by rw[←ya,hT.w.shape.1];try rfl,?_⟩,v2,_,rfl,⟨by rw[←yb,hT.a.shape.1];try rfl,?_⟩,v3,_,rfl,⟨(aPR h v3 yc).1,VC.mono (D.step h) _ _ (aPR h v3 yc).2⟩,rfl⟩
 · rw[o1];exact gE.seen S D hT.w (fun b hb=>hT.n b (.inl hb)) (a67 _) (aQ2 _) ya'
 · rw[o2];exact gE.seen S D hT.a (fun b hb=>hT.n b (.inr hb)) (aAB _) (xV _) yb'
theorem gS.under{st T:aA}{qw qa:AV}{W:List Nat}{A:List AV}{b:Nat}{X:AO}(h:gS st T qw qa W A)(hb:T b=some X)(h0:st b=none)(hw:b∉aT qw)(ha:b∉aT qa):gS (st.aC b X) T qw qa W A:=by
 refine⟨h.w,h.a,h.d,fun x hx=>?_,fun x o hx=>?_⟩
 · rw[aA.aG _ _ (by rintro rfl;rcases hx with h' | h';exact hw h';exact ha h')];exact h.n x hx
 · by_cases hxb:x=b
   · subst hxb;rw[aA.aJ] at hx;rw[hb,hx]
   · rw[aA.aG _ _ hxb] at hx;exact h.k x o hx
theorem gS.over{st T:aA}{qw qa:AV}{W:List Nat}{A:List AV}{b:Nat}{X:AO}(h:gS (st.aC b X) T qw qa W A)(h0:st b=none):gS st T qw qa W A∧T b=some X∧b∉aT qw∧b∉aT qa:=by
 have hn:∀y,y∈aT qw∨y∈aT qa→y≠b:=fun y hy e=>by have:=h.n y hy;rw[e,aA.aJ] at this;cases this
 refine⟨⟨h.w,h.a,h.d,fun x hx=>?_,fun x o hx=>?_⟩,h.k b X (aA.aJ _ _ _),fun hm=>hn b (.inl hm) rfl,fun hm=>hn b (.inr hm) rfl⟩
 · have:=h.n x hx;rwa [aA.aG _ _ (hn x hx)] at this
 · exact h.k x o (by rw[aA.aG _ _ (by rintro rfl;rw[h0] at hx;cases hx)];exact hx)
theorem a6C{φ:AF}{T T2:aA}{b:Nat}{cs cs':List AV}(hb:T b=some (.cells cs))(h2:T2 b=some (.cells cs'))(hl:cs'.length=cs.length)(D:∀x,x≠b→(T x=none→T2 x=none)∧∀o,T2 x=some o→T x=some o)
 (hv:∀h vs,cS h T→aL T (fun x=>if x=b then some (.cells cs) else T2 x)→cC h T h T2→cC h (fun x=>if x=b then some (.cells cs) else T2 x) h T2→bB h T cs vs→bB h T2 cs' vs):gJ φ T φ T2:=fun h tmps S F=>by
 have D2:aL T (fun x=>if x=b then some (.cells cs) else T2 x):=fun x=>by
  by_cases hx:x=b
  · subst hx
    exact⟨fun e=>(by rw[hb] at e;cases e),fun o e=>(by simp only[aH] at e;rw[hb,e])⟩
  · simp only[aE hx]
    exact D x hx
 have step:cC h T h T2:=cC.of fun x hx=>by
  have:x≠b:=by rintro rfl;rw[hb] at hx;cases hx
  exact(D x this).1 hx
 refine⟨fun y0 o hx=>?_,step,fun d=>(F d).mono step⟩
 by_cases e:y0=b
 · subst e
   rw[h2] at hx
   cases hx
   obtain⟨hlt,c0,t,e1,e2,vs,e3,e4⟩:=S y0 _ hb
   exact⟨hlt,c0,t,e1,by rw[hl];exact e2,vs,e3,hv h vs S D2 step (cC.of fun x hx=>by
    by_cases hxb:x=y0
    · subst hxb;simp at hx
    · simpa [hxb] using hx) e4⟩
 · obtain⟨hlt,y⟩:=S y0 o ((D y0 e).2 o hx)
   exact⟨hlt,l7.mono step rfl y⟩
theorem a2J{L:List Ss}{i:Nat}{s z:Ss}(hs:L[i]?=some s)(hf:s.fin= -1):(if z.fin≠-1 then(L.map Ss.fin).set i z.fin else L.map Ss.fin)=(L.set i z).map Ss.fin:=by
 rw[List.map_set]
 by_cases h:z.fin= -1
 · rw[aE (by simp [h]),h]
   refine(EJ fun j=>?_).symm
   by_cases hij:i=j
   · subst hij
     have hi:i<(L.map Ss.fin).length:=by rw[aF];exact(fL.1 hs).1
     rw[List.getElem?_set_self hi,lY,hs,pA,hf]
   · rw[List.getElem?_set_ne hij]
 · rw[aH h]
abbrev oW:=zi tI_3 (zi zI_3 (zi aY (zi tI_4 (zi zI_4 (zi cJ (zi tI_26 (zi zI_26 (zi fZ (zi jF (zi jG (zi mZ (zi tI_46 (zi zI_46 (zi cZ (zi eG (zi eE (zi eT (zi tI_49 (zi zI_49 (zi lD (zi qQ (zi qS (zi vQ (zi tI_62 (zi zI_62 (zi lE (zi lF (zi lG (zi lH (zi lI (zi lJ (zi lA (zi tI_108 (zi zI_108 (zi aNJ (zi aNK (zi aNL (zi aNM aAJ))))))))))))))))))))))))))))))))))))))
set_option maxHeartbeats 4000000 in
theorem aCG(L:List Ss)(n:Int)(hL:L.length≤1048576)(hs:∀s∈L,PC s)(st:aA):aD prog 32 [.slice (L.map aS),.int .i64 n] st (fun r st'=>r=.tup [.slice ((fY L n).1.map nv),.slice ((fY L n).2.1.map bO),.slice ((fY L n).2.2.map iv)]∧st'=st):=by
 have how:=aYR L hL hs
 have hv:=fun s=>aCH s
 refine aD.bAX ?_
 have jI:mU L n=false→∀T:aA,(∀b o,st b=some o→T b=some o)→∃qw qa q3,AV.tup [.fslice [],.fslice [],.fslice []]=.tup [qw,qa,q3]∧(q3=.slice ((fY L n).2.2.map iv)∨q3=.fslice ((fY L n).2.2.map iv))∧gS st T qw qa (fY L n).1 ((fY L n).2.1.map bO):=fun h T hk=>by
  unfold fY
  rw[h,aE (by decide)]
  exact⟨_,_,_,rfl,.inr rfl,⟨.inl ⟨rfl,rfl⟩,.inl ⟨rfl,rfl⟩,by simp [aT],by simp [aT],hk⟩⟩
 have F3:∀(b:Nat) (o:AO),st b=none→∀x p,st x=some p→(st.aC b o) x=some p:=fun b o h x p hx=>by rw[aA.aG _ _ (by rintro rfl;rw[h] at hx;cases hx)];exact hx
 refine wF [1000000,7] 2 func32 ntmps32 rfl rfl ?_
 intro _
 simp -implicitDefEqProofs only[aB,seval]
 refine(how _).to ?_
 simp -implicitDefEqProofs only[aK,aB,↓aU,seval,oW]
 intro b7 h7
 refine cX (fun h1=>?_) (fun h1=>?_)
 case refine_2=>
  simp -implicitDefEqProofs only[h1,aB,seval,oW]
  exact jI (by simp at h1;unfold mU;rw[fP (by omega)];try rfl) _ (F3 b7 _ h7)
 have h1':1≤n:=by simp at h1;omega
 simp -implicitDefEqProofs only[h1,aF,aB,seval,oW]
 refine aP (fun h2=>?_) (fun h2=>?_)
 · simp -implicitDefEqProofs only[aB,seval,oW]
   exact jI (by simp at h2;unfold mU;rw[fP (show ¬L.length≤8 by omega)];simp) _ (F3 b7 _ h7)
 have h2':L.length≤8:=by simp at h2;omega
 simp -implicitDefEqProofs only[aB,seval]
 have u7:(st.aC b7 (.cells [.slice (L.map aS),.fslice [],.fslice [],.fslice []])) b7=some (.cells [.slice (L.map aS),.fslice [],.fslice [],.fslice []]):=aA.aJ _ _ _
 have k7:=F3 b7 (.cells [.slice (L.map aS),.fslice [],.fslice [],.fslice []]) h7
 generalize st.aC b7 (.cells [.slice (L.map aS),.fslice [],.fslice [],.fslice []])=T0 at *
 refine d8 (σ:=aA×AV) [1000000,7] [0,1,7] L
  (fun k x=>gS st x.1 (.fslice []) x.2 [] ((L.take k).map fun s=>iv s.fin)∧x.1 b7=some (.cells [.slice (L.map aS),.fslice [],.fslice [],x.2])∧b7∉aT x.2∧∀s∈L.take k,eM s=true)
  (fun k x=>[(4,.fslice []),(5,.fslice []),(6,.fslice []),(8,.int .i64 k)]) (fun k x=>x.1) (by decide +kernel) ⟨(T0,.fslice []),⟨⟨.inl ⟨rfl,rfl⟩,.inl ⟨rfl,rfl⟩,by simp [aT],by simp [aT],k7⟩,u7,by simp [aT],by simp⟩,aM.mk (by simp -implicitDefEqProofs only[aB,↓aU,seval])⟩ (fun k s T hx hlt bL hdr hinv=>?_) (fun T hge hinv=>?_)
 · obtain⟨T,q⟩:=T
   obtain⟨i1,i2,i3,i4⟩:=hinv
   simp only at i1 i2 i3
   obtain⟨a1,a2,a3,a4,a5⟩:=i1.a.shape
   have hw:=bE (n:=(k:Int)+1)
   have r0:=bP (av:=aS) (P:=prog) lD hx (oA s)
   have hvs:=hv s
   rw[aS] at r0 hvs
   simp -implicitDefEqProofs only[bL,r0,aF,aB,seval,oW]
   refine(hvs _).to ?_
   cases hok:eM s with
   | false=>
    simp -implicitDefEqProofs only[aB,seval,oW]
    exact jI (by
     unfold mU
     have:L.all eM=false:=by
      cases hA:L.all eM with
      | false=>rfl
      | true=>have:=eH.1 hA s (cM hx);rw[hok] at this;cases this
     rw[this];simp) _ i1.k
   | true=>
    simp -implicitDefEqProofs only[aB,seval]
    refine vU [(0,1),(1,1),(2,1),(3,1),(4,1),(5,1),(6,1),(7,1),(8,0),(9,1),(10,2)] [0,1,2,3,4,5,6,7,9] (d9.aC b7 (.cells [.slice (L.map aS),.fslice [],.fslice [],q])) mixed (by decide +kernel) (by decide +kernel) (by decide +kernel) rfl (fR i2) ?_
    simp -implicitDefEqProofs only[r0,a1,aA.aJ,aB,seval,oW]
    refine gE.append cZ eG eE rfl (by decide) i1.a rfl rfl (by simp only[aF,dE];omega) (fun q' T2 gM hf hn=>?_)
    have j3:=DJ hn i3 i2
    have m2:=(hf b7 i3 j3).trans i2
    obtain⟨y1,y2,y3,y4,y5⟩:=gM.shape
    have hTT:=(i1.OT (x:=iv s.fin) gM hf hn).aC (o:=.cells [.slice (L.map aS),.fslice [],.fslice [],q']) h7 (by simp [aT]) j3
    simp -implicitDefEqProofs only[hw,m2,aK,y4,y5,aB,seval,oW]
    refine⟨fR m2,⟨(T2.aC b7 (.cells [.slice (L.map aS),.fslice [],.fslice [],q']),q'),⟨?_,aA.aJ _ _ _,j3,fun s' hs'=>?_⟩,aM.mk (by simp -implicitDefEqProofs only[aB,seval])⟩⟩
    · rw[eD,hx]
      simpa using hTT
    · rw[eD,hx] at hs'
      rcases d6.1 hs' with hs' | hs'
      · exact i4 s' hs'
      · simp at hs';rw[hs'];exact hok
 · obtain⟨T,q⟩:=T
   obtain⟨i1,i2,i3,i4⟩:=hinv
   simp only at i1 i2 i3 i4
   rw[dZ] at i1 i4
   have hok:mU L n=true:=KQ.2 ⟨h1',h2',i4⟩
   simp -implicitDefEqProofs only[hge,aF,aB,seval,oW]
   have hI0:=kR.start i4
   have hml:=OI i4
   have u0:(st.aC b7 (.cells [.slice (L.map aS),.fslice [],.fslice [],.slice ((L.map Ss.fin).map iv)])) b7=some (.cells [.slice (L.map aS),.fslice [],.fslice [],.slice ((L.map Ss.fin).map iv)]):=aA.aJ _ _ _
   refine iP (σ:=aA×AV×AV×iW×Bool) [1000000,7] [0,1,4,5,6,7]
    (fun x=>gS st x.1 x.2.1 x.2.2.1 x.2.2.2.1.w (x.2.2.2.1.a.map bO)∧x.1 b7=some (.cells [.slice (x.2.2.2.1.l.map aS),x.2.1,x.2.2.1,.slice ((x.2.2.2.1.l.map Ss.fin).map iv)])∧(b7∉aT x.2.1∧b7∉aT x.2.2.1)∧kR L x.2.2.2.1∧rounds n (iN x.2.2.2.1.l) x.2.2.2.1=gW n L∧(x.2.2.2.2=false→runs x.2.2.2.1.l=false))
    (fun x=>[(9,.bool x.2.2.2.2)]) (fun x=>x.1) (fun x=>iN x.2.2.2.1.l+(if x.2.2.2.2=true then 1 else 0)) (by decide +kernel)
    ⟨(st.aC b7 (.cells [.slice (L.map aS),.fslice [],.fslice [],.slice ((L.map Ss.fin).map iv)]),.fslice [],.fslice [],⟨L,[],[]⟩,true),⟨⟨.inl ⟨rfl,rfl⟩,.inl ⟨rfl,rfl⟩,by simp [aT],by simp [aT],F3 b7 _ h7⟩,u0,⟨by simp [aT],by simp [aT]⟩,hI0,rfl,fun h=>by cases h⟩,?_⟩ ?_
   · refine(a6C i2 u0 rfl (fun x hx=>?_) (fun h vs S D2 step step2 y=>?_)).trans (gJ.kW (by simp -implicitDefEqProofs only[aB,seval]))
     · rw[aA.aG _ _ hx]
       exact⟨fun e=>(i1.fresh e).1,fun o e=>i1.k x o e⟩
     · simp only[bB] at y ⊢
       obtain⟨c1,r1,rfl,z1,c2,r2,rfl,z2,c3,r3,rfl,z3,c4,r4,rfl,z4,rfl⟩:=y
       refine⟨c1,_,rfl,VC.mono step _ _ z1,c2,_,rfl,VC.mono step _ _ z2,c3,_,rfl,VC.mono step _ _ z3,c4,_,rfl,?_,rfl⟩
       have a4X:∀b∈aT q,(fun x=>if x=b7 then some (.cells [.slice (L.map aS),.fslice [],.fslice [],q]) else(st.aC b7 (.cells [.slice (L.map aS),.fslice [],.fslice [],.slice ((L.map Ss.fin).map iv)])) x) b=none:=fun b hb=>by
        have hbb:b≠b7:=by rintro rfl;exact i3 hb
        simp only[aE hbb]
        rw[aA.aG _ _ hbb]
        exact i1.n b (.inr hb)
       have:=gE.seen S D2 i1.a a4X (by intro e he;simp only[cH] at he;obtain⟨t,_,rfl⟩:=he;rfl) (by intro e he;simp only[cH] at he;obtain⟨t,_,rfl⟩:=he;rfl) z4
       rw[show(L.map fun s=>iv s.fin)=(L.map Ss.fin).map iv by rw[uA];try rfl] at this
       exact VC.mono step2 _ _ this
   rintro⟨T,pw,pa,x,more⟩ ⟨i1,i2,⟨i3,i3'⟩,i4,i5,i6⟩
   simp only at i1 i2 i3 i3' i4 i5 i6
   obtain⟨w1,w2,w3,w4,w5⟩:=i1.w.shape
   obtain⟨a1,a2,a3,a4,a5⟩:=i1.a.shape
   simp only
   simp -implicitDefEqProofs only[aB,seval]
   cases more with
   | false=>
    simp -implicitDefEqProofs only[aF,aB,seval,oW]
    have hx:x=gW n L:=by rw[←i5,KP (i6 rfl)]
    have hV:fY L n=((gW n L).w,(gW n L).a,(gW n L).l.map Ss.fin):=by unfold fY;rw[aH hok]
    rw[hV]
    subst hx
    refine aP (fun hc=>?_) (fun hc=>?_)
    · have hL0:(gW n L).l= []:=pQ (by rw[i4.len];simpa using hc)
      simp -implicitDefEqProofs only[i2,aK,aB,seval,oW]
      refine vU [(0,1),(1,1),(2,1),(3,1),(4,1),(5,1),(6,1),(7,1),(8,1)] [0,1,2,3,4,5,6,7,8] (d9.aC b7 (.cells [.slice ((gW n L).l.map aS),pw,pa,.fslice []])) mixed (by decide +kernel) (by decide +kernel) (by decide +kernel) rfl (fR (aA.aJ _ _ _)) ?_
      simp -implicitDefEqProofs only[w1,w3,a1,a3,aA.aJ,aB,seval,oW]
      exact⟨pw,pa,_,rfl,.inr (by rw[hL0];try rfl),i1.aC h7 i3 i3'⟩
    · skip
      simp -implicitDefEqProofs only[aB,seval]
      refine vU [(0,1),(1,1),(2,1),(3,1),(4,1),(5,1),(6,1),(7,1),(8,1)] [0,1,2,3,4,5,6,7,8] (d9.aC b7 (.cells [.slice ((gW n L).l.map aS),pw,pa,.slice (((gW n L).l.map Ss.fin).map iv)])) mixed (by decide +kernel) (by decide +kernel) (by decide +kernel) rfl (fR i2) ?_
      simp -implicitDefEqProofs only[w1,w3,a1,a3,aA.aJ,aB,seval,oW]
      exact⟨pw,pa,_,rfl,.inl rfl,i1⟩
   | true=>
    simp -implicitDefEqProofs only[aB,seval]
    refine d8 (σ:=aA×AV×AV) [1000000,7] [0,1,4,5,6,7,52] L
     (fun k y=>gS st y.1 y.2.1 y.2.2 (kH n x k).w ((kH n x k).a.map bO)∧y.1 b7=some (.cells [.slice ((kH n x k).l.map aS),y.2.1,y.2.2,.slice (((kH n x k).l.map Ss.fin).map iv)])∧(b7∉aT y.2.1∧b7∉aT y.2.2))
     (fun k y=>[(9,.bool (runs (x.l.take k))),(10,.int .i64 k)]) (fun k y=>y.1) (by decide +kernel) ⟨(T,pw,pa),⟨i1,i2,i3,i3'⟩,aM.mk (by simp -implicitDefEqProofs only[jR,runs,List.any_nil,aB,↓aU,seval])⟩ (fun k s0 y hx hlt bL hdr hinv=>?_) (fun y hge hinv=>?_)
    · obtain⟨T2,pw,pa⟩:=y
      obtain⟨j1,j2,j3,j3'⟩:=hinv
      simp only at j1 j2 j3 j3'
      obtain⟨hIk,_,_⟩:=i4.turns h1' k
      have hlen:=QC n x k
      rw[i4.len] at hlen
      obtain⟨s,hsk⟩:∃s,(kH n x k).l[k]?=some s:=⟨_,eA (by rw[hlen];exact hlt)⟩
      have hxk:x.l[k]?=some s:=by rw[←QB n x k (cY _)];exact hsk
      have iM:runs (x.l.take (k+1))=(runs (x.l.take k)||n6 s):=by unfold runs;rw[eD,hxk,List.any_append];simp
      have F4:=hIk.ok s (cM hsk)
      have hsu:=HH n x k
      have hbd:=hIk.bd
      have hwl:=hIk.wl
      generalize kH n x (k+1)=Y' at *
      generalize kH n x k=Y at *
      obtain⟨w1,w2,w3,w4,w5⟩:=j1.w.shape
      obtain⟨a1,a2,a3,a4,a5⟩:=j1.a.shape
      have hw:=bE (n:=(k:Int)+1)
      have r0:=bP (av:=aS) (P:=prog) lD hsk (oA s)
      rw[aS] at r0
      simp -implicitDefEqProofs only[bL,j2,r0,hlen,aF,aB,seval,oW]
      refine aP (fun hf=>?_) (fun hf=>?_)
      case refine_2=>
       have hf':s.fin≠-1:=by simpa using hf
       have hr:n6 s=false:=by unfold n6;simpa using hf'
       rw[hr,BY] at iM
       rw[HG hsk hf'] at hsu
       simp -implicitDefEqProofs only[hw,aB,seval]
       exact⟨(T2,pw,pa),⟨by rw[hsu];exact j1,by rw[hsu];exact j2,j3,j3'⟩,aM.mk (by simp -implicitDefEqProofs only[iM,aB,seval])⟩
      have hf':s.fin= -1:=by simpa using hf
      have hr:n6 s=true:=by unfold n6;simpa using hf'
      rw[hr,xG] at iM
      rw[LG hsk hf',DV (pT.2 ⟨F4,by omega,hf'⟩)] at hsu
      have tF:=aYM Y.l (Y.l.map Ss.fin) k s hsk F4 n (by omega) (by omega) (by rw[aF]) _ T2 pw pa Y.w Y.a (by omega) (by omega) (j1.under j2 h7 j3 j3')
      rw[a2J hsk hf'] at tF
      simp only[nv] at tF
      simp -implicitDefEqProofs only[j2,aB,seval,oW]
      refine tF.mono ?_
      rintro _ T3 ⟨qw,qa,rfl,hT3⟩
      obtain⟨g1,g2,g3,g4⟩:=hT3.over h7
      obtain⟨w1,w2,w3,w4,w5⟩:=g1.w.shape
      obtain⟨a1,a2,a3,a4,a5⟩:=g1.a.shape
      simp -implicitDefEqProofs only[hw,g2,aK,w5,a5,aB,seval,oW]
      exact⟨(T3.aC b7 (.cells [.slice ((Y.l.set k (k9 s n)).map aS),qw,qa,.slice (((Y.l.set k (k9 s n)).map Ss.fin).map iv)]),qw,qa),⟨by rw[hsu];exact g1.aC h7 g3 g4,by rw[hsu];exact aA.aJ _ _ _,g3,g4⟩,aM.mk (by simp -implicitDefEqProofs only[iM,aB,seval])⟩
    · obtain⟨T2,qw,qa⟩:=y
      obtain⟨j1,j2,j3,j3'⟩:=hinv
      simp only at j1 j2 j3 j3'
      have hlen:=QC n x L.length
      rw[i4.len] at hlen
      rw[show kH n x L.length=oY n x by unfold oY;rw[i4.len]] at j1 j2 hlen
      rw[show x.l.take L.length=x.l by rw[←i4.len,dZ]]
      obtain⟨r1,r2⟩:=i4.round h1'
      simp -implicitDefEqProofs only[hge,j2,hlen,aF,aB,seval,oW]
      refine⟨(T2,qw,qa,oY n x,runs x.l),?_,⟨j1,j2,⟨j3,j3'⟩,r1,?_,fun h=>?_⟩,aM.mk (by simp -implicitDefEqProofs only[aB,seval])⟩
      · simp only
        cases hr:runs x.l with
        | true=>have:=r2 hr;simp only[eX];omega
        | false=>
         have:oY n x=x:=D7 hr _
         rw[this]
         simp
      · cases hr:runs x.l with
        | true=>exact(aRY h1' i4 hr).trans i5
        | false=>rw[show oY n x=x from D7 hr _];exact i5
      · rw[show oY n x=x from D7 h _];exact h
theorem a5F{P:Program}{t:TypeId}{ag:Bool}{l:List Int}{i:Nat}{n:Int}(hI:eI P t=some (ag,1))(h:l[i]?=some n):dG P t (.slice (l.map iv)) (.int .i64 (i:Int))=some (.pptr (.int .i64 n)):=by
 simp only[dG,hI,jQ,lY,h,pA]
 rw[aH (by omega)]
 try rfl
noncomputable def tC(s:Ss)(sl:List Int):List (List Tm)×Int:=if eM s=true then drain (sl.take 100) s [] else([],9)
theorem a09{s:Ss}{n:Int}{sl:List Int}{acc:List (List Tm)}(h:s.fin= -1):drain (n::sl) s acc=drain sl (dB s n).1 (acc++(dB s n).2):=by
 rw[drain,aH h]
theorem TD{s:Ss}{sl:List Int}{acc:List (List Tm)}(h:s.fin≠-1):drain sl s acc=(acc,s.fin):=by
 cases sl<;>rw[drain,aE h]
theorem aC9{s:Ss}{acc:List (List Tm)}(h:s.fin= -1):drain [] s acc=(acc++(dB s 300).2,(dB s 300).1.fin):=by
 rw[drain,aH h]
theorem aW.app{s:aA}:∀ {xs os ys os':List AV} {bs bs':List Nat},aW s xs os bs→aW s ys os' bs'→aW s (xs++ys) (os++os') (bs++bs')
 | [],os,ys,os',bs,bs',h,h'=>by
  simp only[aW] at h
  rw[h.1,h.2]
  exact h'
 | a::xs,os,ys,os',bs,bs',h,h'=>by
  simp only[aW] at h
  obtain⟨o,os1,b1,b2,rfl,rfl,h1,h2⟩:=h
  simp only[iB,aW]
  exact⟨o,os1++os',b1,b2++bs',rfl,by rw[lX],h1,aW.app h2 h'⟩
theorem aW.drop{s:aA}:∀ {xs os:List AV} {bs:List Nat} (k:Nat),aW s xs os bs→∃bs',aW s (xs.drop k) (os.drop k) bs'∧bs'.Sublist bs
 | xs,os,bs,0,h=>⟨bs,h,List.Sublist.refl _⟩
 | [],os,bs,k+1,h=>by
  simp only[aW] at h
  rw[h.1,h.2]
  exact⟨[],by simp only[List.drop_nil,aW,xU],List.Sublist.refl _⟩
 | a::xs,os,bs,k+1,h=>by
  simp only[aW] at h
  obtain⟨o,os1,b1,b2,rfl,rfl,h1,h2⟩:=h
  obtain⟨bs',h3,h4⟩:=aW.drop k h2
  exact⟨bs',h3,h4.trans (List.sublist_append_right _ _)⟩
def Y8(st:aA)(s:Ss)(n:Int)(r:AV)(st':aA):Prop:=
 ∃os bs,r=.tup [aS (dB s n).1,.slice os]∧bs.Nodup∧(∀b∈bs,st b=none)∧aW st' ((dB s n).2.map bO) os bs∧∀b,b∉bs→st' b=st b
theorem aD.a88{P:Program}{g:FuncId}{args:List AV}{st:aA}{s:Ss}{n:Int}(x:aD P g args st (H1 st s n)):aD P g args st (Y8 st s n):=by
 refine x.mE fun r st' h=>?_
 obtain⟨o1,q,o2,L,k,rfl,⟨os,bs,he,h1,h2,h3,h4⟩,hT,hk,hd,_⟩:=h
 cases he
 obtain⟨p1,p2,b1,b2,e1,rfl,h5,h6⟩:=WA.1 h3
 cases e1
 have ha:=(PE hT).1
 have J2:∀(bs':List Nat),(∀b∈bs',b∈b2)→aL st' (fun x=>if x∈bs' then st' x else st x):=fun bs' kX b=>by
  dsimp only
  by_cases hb:b∈bs'
  · rw[aH hb];exact⟨fun h=>h,fun o h=>h⟩
  · rw[aE hb]
    refine⟨fun e=>?_,fun o e=>?_⟩
    · by_cases hb2:b∈b1++b2
      · exact h2 b hb2
      · rw[←h4 b hb2];exact e
    · by_cases hb2:b∈b1++b2
      · rw[h2 b hb2] at e;cases e
      · rw[h4 b hb2];exact e
 have hn:=mJ.1 h1
 have hn1:∀(bs':List Nat),(∀b∈bs',b∈b2)→∀b∈b1,(fun x=>if x∈bs' then st' x else st x) b=none:=fun bs' kX b hb=>by
  dsimp only
  rw[aE fun h=>hn.2.2 b hb b (kX b h) rfl]
  exact h2 b (by simp [hb])
 have J0:∀(bs':List Nat) (os':List AV),(∀b∈bs',b∈b2)→bs'.Nodup→aW st' ((dB s n).2.map bO) os' bs'→(∀h v,cS h st'→VC h st' o2 v→VC h (fun x=>if x∈bs' then st' x else st x) (.slice os') v)→∃r2 s2,H4 st' s2∧CA st' (.tup [o1,o2]) s2 r2∧Y8 st s n r2 s2:=fun bs' os' kX hnd hO hv=>by
  have D:=J2 bs' kX
  refine⟨.tup [aS (dB s n).1,.slice os'],_,D.rJ,fun h v S y=>?_,os',bs',rfl,hnd,fun b hb=>h2 b (by simp [kX b hb]),aW.aV _ _ _ (fun b hb=>aH hb) hO,fun b hb=>aE hb⟩
  obtain⟨y0,y1⟩:=y
  refine⟨y0,?_⟩
  unfold VC at y1 ⊢
  obtain⟨vs,e,y2⟩:=y1
  simp only[dX] at y2 ⊢
  obtain⟨v1,r1,rfl,ya,v2,r2,rfl,yb,rfl⟩:=y2
  have z1:aR h (fun x=>if x∈bs' then st' x else st x) (aS (dB s n).1) v1:=h5.aUZ S D (hn1 bs' kX) (aR.KG ya)
  have z2:aR h (fun x=>if x∈bs' then st' x else st x) (.slice os') v2:=by
   have y:=aR.KG yb
   have hy:VC h st' o2 v2.cells.toList∧o2.isAgg=kI v2:=by rcases hT with ⟨_,b,w,_,rfl⟩ | ⟨_,rfl⟩<;>exact⟨y.2,y.1⟩
   exact⟨by rw[←hy.2,ha];try rfl,hv h _ S hy.1⟩
  exact⟨_,e,v1,_,rfl,z1,v2,[],rfl,z2,rfl⟩
 rcases hT with ⟨hk',b,w,rfl,rfl⟩ | ⟨hk',rfl⟩
 · simp only[bM] at h6
   rcases h6 with ⟨_,hq,_⟩ | ⟨b',bs',os,w',e1,rfl,e2,h7,e3⟩
   · cases hq
   cases e1
   obtain⟨bd,h8,h9⟩:=aW.drop k h7
   rw[←zS,hd] at h8
   have kX:∀x∈bd,x∈b::bs':=fun x hx=>LW _ (h9.subset hx)
   have hbd:b∉bd:=fun hx=>(B5.1 hn.2.1).1 (h9.subset hx)
   refine J0 bd (os.drop k) kX (h9.nodup (B5.1 hn.2.1).2) h8 fun h v S y=>?_
   have hj:=aW.O4 (h:=h) (s0:=st') h7
   have hw:=aW.BU h7 e3
   obtain⟨f1,f2⟩:=frozen S e2 hj
   have hE:=dI.drop k hw f2
   rw[iE] at hE
   have hlen:(os.drop k).length=(L.map bO).length - k:=by rw[mI,aW.length h7]
   have hb0:(fun x=>if x∈bd then st' x else st x) b=none:=by
    dsimp only
    rw[aE hbd]
    exact h2 b (by simp)
   have D2:aL (st'.erase b) (fun x=>if x∈bd then st' x else st x):=fun x=>by
    unfold aA.erase
    by_cases hx:x=b
    · subst hx;rw[aH rfl];exact⟨fun _=>hb0,fun o e=>by rw[hb0] at e;cases e⟩
    · rw[aE hx];exact J2 bd kX x
   simp only[VC] at y
   obtain⟨cap,e,l1,l2,_⟩:=y
   unfold VC
   exact .inr ⟨b,k*w,cap,by rw[hlen];exact e,by rw[hlen];exact l1,l2,hb0,f1,⟨w,fun e he=>hw e (LX he)⟩,dI.mono (D2.step h) b rfl _ _ hE⟩
 · have hL:(dB s n).2= []:=by rw[←hd];rw[aF] at hk';subst hk';exact kK
   refine J0 [] [] (by simp) lZ (by rw[hL];simp only[a7,aW,xU]) fun h v S y=>?_
   unfold VC at y ⊢
   rcases y with y | ⟨b,off,e,_⟩
   · exact .inl y
   · exact .inl ⟨⟨_,e⟩,rfl⟩
structure xH (st:aA) (b2:Nat) (es os:List AV) (bs:List Nat) (T:aA):Prop where
 own:aW T es os bs
 nd:bs.Nodup
 new:∀b∈bs,st b=none
 old:∀b,b∉bs→T b=st b
 fr:T b2=none
theorem xH.start{st:aA}{b2:Nat}(h:st b2=none):xH st b2 [] [] [] st:=⟨by simp only[aW,xU],lZ,by simp,fun _ _=>rfl,h⟩
theorem xH.more{st:aA}{b2 bo:Nat}{es os es2 os2:List AV}{bs bs2:List Nat}{T U':aA}{c:AO}(h:xH st b2 es os bs T)(hbo:os≠[]→(T.aC b2 c) bo=none)(h1:aW U' es2 os2 bs2)(h2:bs2.Nodup)(h3:∀b∈bs2,aZ (T.aC b2 c) bo os b=none)(h4:∀b,b∉bs2→U' b=aZ (T.aC b2 c) bo os b) :
 ∃T',U'=aZ (T'.aC b2 c) bo os∧xH st b2 (es++es2) (os++os2) (bs++bs2) T'∧(os≠[]→(T'.aC b2 c) bo=none):=by
 have FU:os≠[]→b2≠bo:=fun h0 e=>by have:=hbo h0;rw[←e,aA.aJ] at this;cases this
 have hne:∀x∈bs2,x≠b2∧(os≠[]→x≠bo)∧T x=none:=fun x hx=>by
  have h5:=h3 x hx
  have h6:x≠b2:=by
   rintro rfl
   rw[rR FU,aA.aJ] at h5;cases h5
  have h7:os≠[]→x≠bo:=fun h0 e=>by rw[e,jU h0,aA.aJ] at h5;cases h5
  rw[rR h7,aA.aG _ _ h6] at h5
  exact⟨h6,h7,h5⟩
 have C3:os≠[]→bo∉bs2:=fun h0 hb=>(hne bo hb).2.1 h0 rfl
 refine⟨fun x=>if x∈bs2 then U' x else T x,funext fun x=>?_,⟨aW.app (aW.aV _ _ _ (fun b hb=>?_) h.own) (aW.aV _ _ _ (fun b hb=>aH hb) h1),mJ.2 ⟨h.nd,h2,fun a ha b hb e=>?_⟩,fun b hb=>?_,fun b hb=>?_,?_⟩,fun h0=>?_⟩
 · by_cases hx:x∈bs2
   · obtain⟨n1,n2,n3⟩:=hne x hx
     rw[rR n2,aA.aG _ _ n1,aH hx]
   · rw[h4 x hx]
     by_cases h0:os= []
     · rw[h0,uJ,uJ]
       by_cases h8:x=b2
       · rw[h8,aA.aJ,aA.aJ]
       · rw[aA.aG _ _ h8,aA.aG _ _ h8,aE hx]
     · rw[jU h0,jU h0]
       by_cases h9:x=bo
       · rw[h9,aA.aJ,aA.aJ]
       · rw[aA.aG _ _ h9,aA.aG _ _ h9]
         by_cases h8:x=b2
         · rw[h8,aA.aJ,aA.aJ]
         · rw[aA.aG _ _ h8,aA.aG _ _ h8,aE hx]
 · obtain⟨cs,e,_⟩:=(aW.gY _ _ _ h.own).2 b hb
   exact aE fun hx=>by rw[(hne b hx).2.2] at e;cases e
 · subst e
   obtain⟨cs,e,_⟩:=(aW.gY _ _ _ h.own).2 a ha
   rw[(hne a hb).2.2] at e;cases e
 · rcases d6.1 hb with hb | hb
   · exact h.new b hb
   · have h5:=(hne b hb).2.2
     by_cases h6:b∈bs
     · exact h.new b h6
     · rw[←h.old b h6];exact h5
 · simp only[d6,nO] at hb
   show(if b∈bs2 then U' b else T b)=st b
   rw[aE hb.2,h.old b hb.1]
 · show(if b2∈bs2 then U' b2 else T b2)=none
   rw[aE fun hx=>(hne b2 hx).1 rfl,h.fr]
 · have h5:=hbo h0
   rw[aA.aG _ _ (FU h0).symm] at h5 ⊢
   show(if bo∈bs2 then U' bo else T bo)=none
   rw[aE (C3 h0),h5]
theorem xH.done{st:aA}{b2 bo w:Nat}{es os:List AV}{bs:List Nat}{T:aA}{c:AO}(h:xH st b2 es os bs T)(hbo:os≠[]→(T.aC b2 c) bo=none)(hw:∀e∈es,e.width=w):∃s2,aL (aZ (T.aC b2 c) bo os) s2∧Made st (.slice es) (bU w bo os) s2:=by
 have FU:os≠[]→b2≠bo:=fun h0 e=>by have:=hbo h0;rw[←e,aA.aJ] at this;cases this
 have A4:=aW.gY _ _ _ h.own
 have hTo:os≠[]→T bo=none:=fun h0=>by have:=hbo h0;rwa [aA.aG _ _ (FU h0).symm] at this
 have hnb:∀b∈bs,os≠[]→b≠bo:=fun b hb h0 e=>by
  obtain⟨cs,e2,_⟩:=A4.2 b hb
  rw[e,hTo h0] at e2;cases e2
 refine⟨aZ T bo os,?_,uI bo os++bs,?_,fun b hb=>?_,aRG (aW.aV _ _ _ (fun b hb=>rR (hnb b hb)) h.own) hw,fun b hb=>?_⟩
 · rw[←mP FU]
   exact(aL.refl _).aC (by rw[rR FU];exact h.fr)
 · rw[mJ]
   refine⟨by cases os<;>simp [uI],h.nd,fun x hx y hy e=>?_⟩
   obtain⟨rfl,hne⟩:=GF.1 hx
   exact hnb y hy hne e.symm
 · rcases d6.1 hb with hb | hb
   · obtain⟨rfl,hne⟩:=GF.1 hb
     have h5:=hTo hne
     by_cases h6:b∈bs
     · exact h.new b h6
     · rw[←h.old b h6];exact h5
   · exact h.new b hb
 · simp only[d6,GF,nO,not_and] at hb
   rw[rR fun h0 e=>hb.1 e h0,h.old b hb.2]
theorem aQF{z:Ss}(h:eM z=true)(hf:z.fin= -1):(dB z 300).1.fin≠-1:=by
 rw[(VK h hf).1,NM]
 have:=aSI (p:=z.p) (cnd:=fun _ l=>l) (q:=z.q) (most:=20) (fuel:=z.dD)
 omega
theorem N1{T:aA}:∀ {L:List (List Tm)} {os:List AV} {bs:List Nat},aW T (L.map bO) os bs→wB 1 os
 | [],os,bs,h=>by simp only[a7,aW] at h;rw[h.1];intro e he;cases he
 | l::L,os,bs,h=>by
  simp only[bH,aW] at h
  obtain⟨o,os',b1,b2,rfl,rfl,h1,h2⟩:=h
  obtain⟨q,rfl,h3⟩:=WB.1 h1
  obtain⟨hqc,hqs,hqa,hqw,hqj⟩:=bM.oQ h3
  intro e he
  rcases c7.1 he with rfl | he
  · exact⟨rfl,by simp only[AV.cells,kJ,HO,hqs,Bool.and_self]⟩
  · exact N1 h2 e he
abbrev pL:=zi tI_3 (zi zI_3 (zi aY (zi tI_4 (zi zI_4 (zi cJ (zi tI_26 (zi zI_26 (zi fZ (zi jF (zi jG (zi mZ (zi tI_46 (zi zI_46 (zi cZ (zi eG (zi eE (zi eT (zi tI_62 (zi zI_62 (zi lE (zi lF (zi lG (zi lH (zi lI (zi lJ lA)))))))))))))))))))))))))
set_option maxHeartbeats 4000000 in
theorem aYB(s:Ss)(sl:List Int)(hp:s.p.length≤1048576)(hps:∀c∈s.p,FD c)(hq:s.q.length≤1048576)(hqs:∀t∈s.q,t.small=true)(st:aA):aD prog 42 [aS s,.slice (sl.map iv)] st (fun r st'=>∃o,r=.tup [o,.int .i64 (tC s sl).2]∧Made st (.slice ((tC s sl).1.map bO)) o st'):=by
 have hv:=SE s
 have hsp:=fun(s':Ss) (n:Int) (h1:s'.p=s.p) (h2:s'.q=s.q) (st:aA)=>(aYF s' n (by rw[h1];exact hp) (by rw[h1];exact hps) (by rw[h2];exact hq) (by rw[h2];exact hqs) st).a88
 simp only[aS] at hv hsp ⊢
 refine aD.nG ?_
 refine wF [1000000,2] 2 func42 ntmps42 rfl rfl ?_
 intro _
 simp -implicitDefEqProofs only[aB,seval,pL]
 intro b2 h2
 refine(hv _).to ?_
 simp -implicitDefEqProofs only[aB,seval]
 cases hok:eM s with
 | false=>
  have hd:tC s sl=([],9):=by unfold tC;rw[hok];try rfl
  simp -implicitDefEqProofs only[aB,seval]
  exact⟨st,(aL.refl _).aC h2,.fslice [],by rw[hd],by rw[hd];exact⟨[],lZ,by simp,.inl ⟨rfl,rfl,rfl⟩,fun _ _=>rfl⟩⟩
 | true=>
  have hd:tC s sl=drain (sl.take 100) s []:=by unfold tC;rw[hok];try rfl
  simp -implicitDefEqProofs only[aB,seval]
  refine iP (σ:=Nat×Nat×List (List Tm)×Ss×List AV×List Nat×aA) [1000000] [1,2,4,5]
   (fun x=>x.1≤101∧(x.2.2.2.1.fin= -1→x.1≤sl.length∧x.1≤100)∧(x.2.2.2.2.1≠[]→(x.2.2.2.2.2.2.aC b2 (.cells (oB x.2.2.2.1))) x.2.1=none)∧(eM x.2.2.2.1=true∧x.2.2.2.1.p=s.p∧x.2.2.2.1.q=s.q)∧x.2.2.1.length≤20*x.1∧drain ((sl.take 100).drop x.1) x.2.2.2.1 x.2.2.1=drain (sl.take 100) s []∧xH st b2 (x.2.2.1.map bO) x.2.2.2.2.1 x.2.2.2.2.2.1 x.2.2.2.2.2.2)
   (fun x=>[(6,bU 1 x.2.1 x.2.2.2.2.1),(7,.int .i64 x.1)]) (fun x=>aZ (x.2.2.2.2.2.2.aC b2 (.cells (oB x.2.2.2.1))) x.2.1 x.2.2.2.2.1) (fun x=>if x.2.2.2.1.fin= -1 then 1+(101 - x.1) else 0) (by decide +kernel)
   ⟨(0,0,[],s,[],[],st),⟨by simp only;omega,fun _=>⟨jE _,by simp only;omega⟩,fun h=>absurd rfl h,⟨hok,rfl,rfl⟩,by simp,by simp,xH.start h2⟩,aM.mk (by simp -implicitDefEqProofs only[iY,aB,↓aU,seval])⟩ ?_
  rintro⟨i,bo,acc,z,os,bs,T⟩ ⟨i0,i1,i2,⟨i3,kp,kq⟩,i4,i5,i6⟩
  simp only at i0 i1 i2 i3 kp kq i4 i5 i6
  have hb2:os≠[]→b2≠bo:=fun h e=>by have:=i2 h;rw[←e,aA.aJ] at this;cases this
  have gA:aZ (T.aC b2 (.cells (oB z))) bo os b2=some (.cells (oB z)):=by rw[rR hb2,aA.aJ]
  unfold oB at gA
  simp -implicitDefEqProofs only[oB,gA,aB,seval,pL]
  by_cases c3:z.fin= -1
  case neg=>
   have c3':=cK c3
   simp -implicitDefEqProofs only[c3',bX,aB,seval]
   refine vU [(0,1),(1,1),(2,1),(3,1),(4,1)] [0,1,2,3,4] (d9.aC b2 (.cells [.slice (z.p.map bR),.slice (z.q.map Tm.av),.int .i64 z.dD,.int .i64 z.used,.int .i64 z.sent,.int .i64 z.fin])) mixed (by decide +kernel) (by decide +kernel) (by decide +kernel) rfl (fR gA) ?_
   simp -implicitDefEqProofs only[nF,aB,seval,pL]
   have hD:tC s sl=(acc,z.fin):=by rw[hd,←i5,TD c3]
   obtain⟨s2,D,hM⟩:=i6.done (c:=.cells (oB z)) i2 (xV acc)
   exact⟨s2,D,_,by rw[hD],by rw[hD];exact hM⟩
  have c3':=dC c3
  obtain⟨i7,i8⟩:=i1 c3
  simp -implicitDefEqProofs only[c3',bV,aF,aB,seval,pL]
  have hw5:=bE (n:=(i:Int)+1)
  by_cases c1:i<sl.length
  case neg=>
   have c1':((i:Int)<(sl.length:Int))=False:=cK (by omega)
   have hdr:(sl.take 100).drop i= []:=by rw[List.drop_eq_nil_iff,dE];omega
   rw[hdr,aC9 c3] at i5
   have fX:=aQF i3 c3
   have i9:drain ((sl.take 100).drop (i+1)) (dB z 300).1 (acc++(dB z 300).2)=drain (sl.take 100) s []:=by rw[TD fX];exact i5
   simp -implicitDefEqProofs only[c1',bX,gA,aB,seval,pL]
   have hI:(dB z 300).1.fin= -1→i+1≤sl.length∧i+1≤100:=fun h=>absurd h fX
   refine(hsp z (300) kp kq _).mono ?_
   rintro _ U ⟨os2,bs2,rfl,g1,g2,g3,g4⟩
   have hf2:=N1 g3
   have hl2:=aW.length g3
   have hw1:=aW.BU i6.own (xV acc)
   have hl1:=aW.length i6.own
   rw[aF] at hl1 hl2
   have hsl:=O5 (n:=300) i3
   obtain⟨T2,hU,hH,C3⟩:=i6.more i2 g3 g1 g2 g4
   subst hU
   simp only[aS]
   simp -implicitDefEqProofs only[aB,↓aU,seval,pL]
   refine wX [(0,1),(1,1),(2,1),(3,0),(4,0),(5,1)] [0,1,2,5] d9 mixed rfl eK ?_
   simp -implicitDefEqProofs only[aB,seval,pL]
   refine eQ fZ jF jG rfl rfl hf2 hw1 C3 (by omega) (by omega) (fun b3 hb3=>?_)
   have hne:os++os2≠[]→b2≠b3:=fun h e=>by have:=hb3 h;rw[←e,aA.aJ] at this;cases this
   have e2:aZ (T2.aC b2 (.cells (oB z))) b3 (os++os2) b2=some (.cells [.slice (z.p.map bR),.slice (z.q.map Tm.av),.int .i64 z.dD,.int .i64 z.used,.int .i64 z.sent,.int .i64 z.fin]):=by rw[rR hne,aA.aJ];try rfl
   simp -implicitDefEqProofs only[aK,e2,hw5,aB,seval,pL]
   refine⟨eK,?_⟩
   rw[mP hne,dS]
   rw[←nU] at hH
   refine⟨eK,?_⟩
   refine⟨(i+1,b3,acc++(dB z (300)).2,(dB z (300)).1,os++os2,bs++bs2,T2),?_,⟨by simp only;omega,hI,fun h=>?_,⟨KS i3,(w6 z (300)).1.trans kp,(w6 z (300)).2.1.trans kq⟩,by simp only[dQ];omega,i9,hH⟩,aM.mk (by simp -implicitDefEqProofs only[aB,seval])⟩
   · simp only
     try rw[aH c3]
     split<;>omega
   · have:=hb3 h
     rw[aA.aG _ _ (hne h).symm] at this ⊢
     exact this
  have c1':((i:Int)<(sl.length:Int))=True:=dC (by omega)
  by_cases c2:i<100
  case neg=>
   have c2':((i:Int)<100)=False:=cK (by omega)
   have hdr:(sl.take 100).drop i= []:=by rw[List.drop_eq_nil_iff,dE];omega
   rw[hdr,aC9 c3] at i5
   have fX:=aQF i3 c3
   have i9:drain ((sl.take 100).drop (i+1)) (dB z 300).1 (acc++(dB z 300).2)=drain (sl.take 100) s []:=by rw[TD fX];exact i5
   simp -implicitDefEqProofs only[c1',c2',bV,bX,gA,aB,seval,pL]
   have hI:(dB z 300).1.fin= -1→i+1≤sl.length∧i+1≤100:=fun h=>absurd h fX
   refine(hsp z (300) kp kq _).mono ?_
   rintro _ U ⟨os2,bs2,rfl,g1,g2,g3,g4⟩
   have hf2:=N1 g3
   have hl2:=aW.length g3
   have hw1:=aW.BU i6.own (xV acc)
   have hl1:=aW.length i6.own
   rw[aF] at hl1 hl2
   have hsl:=O5 (n:=300) i3
   obtain⟨T2,hU,hH,C3⟩:=i6.more i2 g3 g1 g2 g4
   subst hU
   simp only[aS]
   simp -implicitDefEqProofs only[aB,↓aU,seval,pL]
   refine wX [(0,1),(1,1),(2,1),(3,0),(4,0),(5,1)] [0,1,2,5] d9 mixed rfl eK ?_
   simp -implicitDefEqProofs only[aB,seval,pL]
   refine eQ fZ jF jG rfl rfl hf2 hw1 C3 (by omega) (by omega) (fun b3 hb3=>?_)
   have hne:os++os2≠[]→b2≠b3:=fun h e=>by have:=hb3 h;rw[←e,aA.aJ] at this;cases this
   have e2:aZ (T2.aC b2 (.cells (oB z))) b3 (os++os2) b2=some (.cells [.slice (z.p.map bR),.slice (z.q.map Tm.av),.int .i64 z.dD,.int .i64 z.used,.int .i64 z.sent,.int .i64 z.fin]):=by rw[rR hne,aA.aJ];try rfl
   simp -implicitDefEqProofs only[aK,e2,hw5,aB,seval,pL]
   refine⟨eK,?_⟩
   rw[mP hne,dS]
   rw[←nU] at hH
   refine⟨eK,?_⟩
   refine⟨(i+1,b3,acc++(dB z (300)).2,(dB z (300)).1,os++os2,bs++bs2,T2),?_,⟨by simp only;omega,hI,fun h=>?_,⟨KS i3,(w6 z (300)).1.trans kp,(w6 z (300)).2.1.trans kq⟩,by simp only[dQ];omega,i9,hH⟩,aM.mk (by simp -implicitDefEqProofs only[aB,seval])⟩
   · simp only
     try rw[aH c3]
     split<;>omega
   · have:=hb3 h
     rw[aA.aG _ _ (hne h).symm] at this ⊢
     exact this
  have c2':((i:Int)<100)=True:=dC (by omega)
  obtain⟨n,hn⟩:∃n,sl[i]?=some n:=⟨_,eA c1⟩
  have hat:=a5F (P:=prog) (t:=46) cZ hn
  have hdr:(sl.take 100).drop i=n::(sl.take 100).drop (i+1):=by
   rw[qF (by rw[dE];omega),List.getElem_take]
   rw[eA c1] at hn
   rw[nC hn]
  rw[hdr,a09 c3] at i5
  have i9:=i5
  simp -implicitDefEqProofs only[bV,gA,c1',c2',hat,aB,seval,pL]
  have hI:(dB z n).1.fin= -1→i+1≤sl.length∧i+1≤100:=fun _=>⟨by omega,by omega⟩
  refine(hsp z (n) kp kq _).mono ?_
  rintro _ U ⟨os2,bs2,rfl,g1,g2,g3,g4⟩
  have hf2:=N1 g3
  have hl2:=aW.length g3
  have hw1:=aW.BU i6.own (xV acc)
  have hl1:=aW.length i6.own
  rw[aF] at hl1 hl2
  have hsl:=O5 (n:=n) i3
  obtain⟨T2,hU,hH,C3⟩:=i6.more i2 g3 g1 g2 g4
  subst hU
  simp only[aS]
  simp -implicitDefEqProofs only[aB,↓aU,seval,pL]
  refine wX [(0,1),(1,1),(2,1),(3,0),(4,0),(5,1)] [0,1,2,5] d9 mixed rfl eK ?_
  simp -implicitDefEqProofs only[aB,seval,pL]
  refine eQ fZ jF jG rfl rfl hf2 hw1 C3 (by omega) (by omega) (fun b3 hb3=>?_)
  have hne:os++os2≠[]→b2≠b3:=fun h e=>by have:=hb3 h;rw[←e,aA.aJ] at this;cases this
  have e2:aZ (T2.aC b2 (.cells (oB z))) b3 (os++os2) b2=some (.cells [.slice (z.p.map bR),.slice (z.q.map Tm.av),.int .i64 z.dD,.int .i64 z.used,.int .i64 z.sent,.int .i64 z.fin]):=by rw[rR hne,aA.aJ];try rfl
  simp -implicitDefEqProofs only[aK,e2,hw5,aB,seval,pL]
  refine⟨eK,?_⟩
  rw[mP hne,dS]
  rw[←nU] at hH
  refine⟨eK,?_⟩
  refine⟨(i+1,b3,acc++(dB z (n)).2,(dB z (n)).1,os++os2,bs++bs2,T2),?_,⟨by simp only;omega,hI,fun h=>?_,⟨KS i3,(w6 z (n)).1.trans kp,(w6 z (n)).2.1.trans kq⟩,by simp only[dQ];omega,i9,hH⟩,aM.mk (by simp -implicitDefEqProofs only[aB,seval])⟩
  · simp only
    try rw[aH c3]
    split<;>omega
  · have:=hb3 h
    rw[aA.aG _ _ (hne h).symm] at this ⊢
    exact this
def kO(st:aA)(w:Nat)(q:AV)(l:List AV):Prop:=
 (q=.fslice []∧l= [])∨∃b,q=.mslice b 0 l.length w∧st b=Option.some (.cells (l.flatMap AV.cells))∧(l.flatMap AV.cells).length=l.length*w
theorem kO.shape{st:aA}{w:Nat}{q:AV}{l:List AV}(h:kO st w q l):q.isAgg=false∧q.width=1∧q.cE=false∧q.cells= [q]∧q.storable=true:=by
 rcases h with ⟨rfl,_⟩ | ⟨b',rfl,_⟩<;>exact⟨rfl,rfl,rfl,rfl,rfl⟩
theorem kO.aV{st st':aA}{w:Nat}{q:AV}{l:List AV}(h:kO st w q l)(hk:∀b∈aT q,st' b=st b):kO st' w q l:=by
 rcases h with h | ⟨b,rfl,hb,h2⟩
 · exact .inl h
 · exact .inr ⟨b,rfl,by rw[hk b (by simp [aT])];exact hb,h2⟩
theorem kO.some{st:aA}{w:Nat}{q:AV}{l:List AV}(h:kO st w q l):∀b∈aT q,∃cs,st b=Option.some (.cells cs):=by
 intro b hb
 rcases h with ⟨rfl,_⟩ | ⟨b',rfl,hb',_⟩
 · simp [aT] at hb
 · simp only[aT,c7,dT,d4] at hb;subst hb;exact⟨_,hb'⟩
theorem kO.append{P:Program}{t:TypeId}{ag:Bool}{bytes w:Nat}{zs:List AV}{st:aA}{q:AV}{l:List AV}{x:AV}{K:AV→aA→Prop}(hI:eI P t=Option.some (ag,w))(hB:eB P t=Option.some bytes)(hZ:eZ P t=Option.some zs)(hz:zs.length=w)(hb8:bytes≤4096)
 (h:kO st w q l) (hx:x.width=w) (hxs:x.cells.all AV.storable=true) (hl:l.length≤1073741824)
 (hK:∀q' st',kO st' w q' (l++ [x])→(∀y,y∉aT q→y∉aT q'→st' y=st y)→(∀y∈aT q',y∈aT q∨st y=none)→K q' st'):jT P t st q (.fslice [x]) K:=by
 have fB:wB w [x]:=by intro e he;simp only[c7,dT,d4] at he;subst he;exact⟨hx,hxs⟩
 have AZ:(l.length+1)*bytes≤140737488355328:=by
  have:=LY (show l.length+1≤1073741825 by omega) hb8
  omega
 have hxc:x.cells.length=w:=by rw[s8,hx]
 unfold jT
 simp only[hI,hB,hZ,zZ]
 refine⟨hz,fB,?_⟩
 rcases h with ⟨rfl,rfl⟩ | ⟨b,rfl,hb,hcl⟩
 · simp only[a8,aX,iE] at AZ ⊢
   refine⟨by omega,by omega,by simp,fun h=>by simp at h,fun _ b hb=>?_⟩
   refine hK _ _ (.inr ⟨b,rfl,by simp [aA.aJ],by simp [hxc]⟩) (fun y _ hy=>?_) (fun y hy=>?_)
   · simp only[aT,c7,dT,d4] at hy
     rw[aA.aG _ _ hy]
   · simp only[aT,c7,dT,d4] at hy
     subst hy;exact .inr hb
 · simp only[aX,a8,iE,hb]
   have jJ:(l.flatMap AV.cells).take (l.length*w)++ [x].flatMap AV.cells=(l++ [x]).flatMap AV.cells:=by rw[←hcl,dZ];simp
   have hlen:((l++ [x]).flatMap AV.cells).length=(l++ [x]).length*w:=by
    rw[t8,dQ,hcl]
    simp only[rN,List.flatMap_nil,gF,hxc,dQ,aX,a8]
    rw[uB];omega
   refine⟨trivial,AZ,by omega,by omega,?_,fun b' hb'=>?_⟩
   · rw[jJ]
     refine hK _ _ (.inr ⟨b,by simp,aA.aJ _ _ _,hlen⟩) (fun y hy _=>?_) (fun y hy=>.inl hy)
     simp only[aT,c7,dT,d4] at hy
     rw[aA.aG _ _ hy]
   · rw[jJ]
     refine hK _ _ (.inr ⟨b',by simp,aA.aJ _ _ _,hlen⟩) (fun y hy hy'=>?_) (fun y hy=>?_)
     · simp only[aT,c7,dT,d4] at hy hy'
       rw[aA.aG _ _ hy']
       simp [aA.erase,hy]
     · simp only[aT,c7,dT,d4] at hy
       subst hy;exact .inr hb'
theorem kO.own{st:aA}{w:Nat}{q:AV}{l os:List AV}{bs:List Nat}(h:kO st w q os)(ho:aW st l os bs)(hw:∀e∈l,e.width=w)(hne:l= []→bs= []):bM st (.slice l) q (aT q++bs):=by
 have hl:=ho.length
 rcases h with ⟨rfl,rfl⟩ | ⟨b,rfl,hb,_⟩
 · have:l= []:=pQ (by simpa using hl.symm)
   subst this
   rw[hne rfl]
   simp only[bM]
   exact .inl ⟨trivial,trivial,rfl⟩
 · simp only[bM]
   exact .inr ⟨b,bs,os,w,by rw[hl],rfl,hb,ho,hw⟩
theorem VW{S:aA}{q q':AV}{b:Nat}(hn:∀y∈aT q',y∈aT q∨S y=none)(h:b∉aT q)(hb:S b≠none):b∉aT q':=fun hm=>by
 rcases hn b hm with h' | h'
 · exact h h'
 · exact hb h'
structure k8 (st0 T:aA) (qw qa:AV) (ba:Nat) (bs:List Nat) (W:List Nat) (osx A os LV:List AV):Prop where
 w:kO T 1 qw (W.map nv)
 a:kO T 1 qa osx
 o:aW T A os bs
 l:LV≠[]→T ba=some (.cells (LV.flatMap AV.cells))
 d1:∀b∈aT qw,b∉aT qa∧b∉bs∧(LV≠[]→b≠ba)
 d2:∀b∈aT qa,b∉bs∧(LV≠[]→b≠ba)
 d3:LV≠[]→ba∉bs
 nd:bs.Nodup
 n1:∀b∈aT qw,st0 b=none
 n2:∀b∈aT qa,st0 b=none
 n3:∀b∈bs,st0 b=none
 n4:LV≠[]→st0 ba=none
 k:∀b o,st0 b=some o→T b=some o
section
variable {st0 T T':aA} {qw qa q':AV} {ba:Nat} {bs:List Nat} {W:List Nat} {osx A os LV:List AV}
theorem k8.aSJ(h:k8 st0 T qw qa ba bs W osx A os LV){b:Nat}(hb:b∈bs):T b≠none:=by
 obtain⟨cs,e,_⟩:=(aW.gY _ _ _ h.o).2 b hb
 rw[e];simp
theorem k8.fresh(h:k8 st0 T qw qa ba bs W osx A os LV){b:Nat}(hb:T b=none):st0 b=none∧b∉aT qw∧b∉aT qa∧b∉bs∧(LV≠[]→b≠ba):=by
 refine⟨?_,fun hq=>?_,fun hq=>?_,fun hq=>h.aSJ hq hb,fun hL e=>?_⟩
 · cases hs:st0 b with
   | none=>rfl
   | some o=>rw[h.k b o hs] at hb;cases hb
 · obtain⟨cs,e⟩:=h.w.some b hq;rw[hb] at e;cases e
 · obtain⟨cs,e⟩:=h.a.some b hq;rw[hb] at e;cases e
 · rw[e,h.l hL] at hb;cases hb
theorem k8.WL{i:Nat}(h:k8 st0 T qw qa ba bs W osx A os LV)(gM:kO T' 1 q' (W.map nv++ [nv i]))(hf:∀y,y∉aT qw→y∉aT q'→T' y=T y)(hn:∀y∈aT q',y∈aT qw∨T y=none):k8 st0 T' q' qa ba bs (W++ [i]) osx A os LV:=by
 have hd:∀b∈aT q',b∉aT qa∧b∉bs∧(LV≠[]→b≠ba):=fun b hb=>by
  rcases hn b hb with h' | h'
  · exact h.d1 b h'
  · exact(h.fresh h').2.2
 have hk:∀b,b∉aT qw→T b≠none→T' b=T b:=fun b h1 h2=>hf b h1 (VW hn h1 h2)
 have ha:∀b∈aT qa,T' b=T b:=fun b hb=>hf b (fun h'=>(h.d1 b h').1 hb) (fun h'=>(hd b h').1 hb)
 have hb':∀b∈bs,T' b=T b:=fun b hb=>hf b (fun h'=>(h.d1 b h').2.1 hb) (fun h'=>(hd b h').2.1 hb)
 refine⟨by simpa using gM,h.a.aV ha,aW.aV _ _ _ hb' h.o,fun hL=>?_,hd,h.d2,h.d3,h.nd,fun b hb=>?_,h.n2,h.n3,h.n4,fun b o hb=>?_⟩
 · rw[hf ba (fun h'=>(h.d1 ba h').2.2 hL rfl) (fun h'=>(hd ba h').2.2 hL rfl)];exact h.l hL
 · rcases hn b hb with h' | h'
   · exact h.n1 b h'
   · exact(h.fresh h').1
 · have h1:b∉aT qw:=fun h'=>by rw[h.n1 b h'] at hb;cases hb
   have h2:=h.k b o hb
   rw[hk b h1 (by rw[h2];simp)];exact h2
theorem k8.OT{x:AV}(h:k8 st0 T qw qa ba bs W osx A os LV)(gM:kO T' 1 q' (osx++ [x]))(hf:∀y,y∉aT qa→y∉aT q'→T' y=T y)(hn:∀y∈aT q',y∈aT qa∨T y=none):k8 st0 T' qw q' ba bs W (osx++ [x]) A os LV:=by
 have hd:∀b∈aT q',b∉bs∧(LV≠[]→b≠ba):=fun b hb=>by
  rcases hn b hb with h' | h'
  · exact h.d2 b h'
  · exact(h.fresh h').2.2.2
 have hdw:∀b∈aT qw,b∉aT q':=fun b hb hq=>by
  rcases hn b hq with h' | h'
  · exact(h.d1 b hb).1 h'
  · exact(h.fresh h').2.1 hb
 refine⟨h.w.aV fun b hb=>hf b (h.d1 b hb).1 (hdw b hb),gM,aW.aV _ _ _ (fun b hb=>hf b (fun h'=>(h.d2 b h').1 hb) (fun h'=>(hd b h').1 hb)) h.o,fun hL=>?_,fun b hb=>⟨hdw b hb,(h.d1 b hb).2⟩,hd,h.d3,h.nd,h.n1,fun b hb=>?_,h.n3,h.n4,fun b o hb=>?_⟩
 · rw[hf ba (fun h'=>(h.d2 ba h').2 hL rfl) (fun h'=>(hd ba h').2 hL rfl)];exact h.l hL
 · rcases hn b hb with h' | h'
   · exact h.n2 b h'
   · exact(h.fresh h').1
 · have h1:b∉aT qa:=fun h'=>by rw[h.n2 b h'] at hb;cases hb
   have h2:=h.k b o hb
   rw[hf b h1 (VW hn h1 (by rw[h2];simp))];exact h2
theorem k8.more{A2 os2:List AV}{bs2:List Nat}(h:k8 st0 T qw qa ba bs W osx A os LV)(ho:aW T' A2 os2 bs2)(hn:bs2.Nodup)(hf:∀b∈bs2,T b=none)(hk:∀b,b∉bs2→T' b=T b):k8 st0 T' qw qa ba (bs++bs2) W osx (A++A2) (os++os2) LV:=by
 have hw:∀b∈aT qw,b∉bs2:=fun b hb h2=>(h.fresh (hf b h2)).2.1 hb
 have ha:∀b∈aT qa,b∉bs2:=fun b hb h2=>(h.fresh (hf b h2)).2.2.1 hb
 have hs:∀b∈bs,b∉bs2:=fun b hb h2=>(h.fresh (hf b h2)).2.2.2.1 hb
 have hl:LV≠[]→ba∉bs2:=fun hL h2=>(h.fresh (hf ba h2)).2.2.2.2 hL rfl
 refine⟨h.w.aV fun b hb=>hk b (hw b hb),h.a.aV fun b hb=>hk b (ha b hb),aW.app (aW.aV _ _ _ (fun b hb=>hk b (hs b hb)) h.o) ho,fun hL=>by rw[hk ba (hl hL)];exact h.l hL,fun b hb=>⟨(h.d1 b hb).1,?_,(h.d1 b hb).2.2⟩,fun b hb=>⟨?_,(h.d2 b hb).2⟩,fun hL=>?_,mJ.2 ⟨h.nd,hn,fun x hx y hy e=>hs x hx (e▸hy)⟩,h.n1,h.n2,fun b hb=>?_,h.n4,fun b o hb=>?_⟩
 · simp only[d6,nO];exact⟨(h.d1 b hb).2.1,hw b hb⟩
 · simp only[d6,nO];exact⟨(h.d2 b hb).1,ha b hb⟩
 · simp only[d6,nO];exact⟨h.d3 hL,hl hL⟩
 · rcases d6.1 hb with hb | hb
   · exact h.n3 b hb
   · exact(h.fresh (hf b hb)).1
 · have h2:=h.k b o hb
   rw[hk b fun h'=>by rw[hf b h'] at h2;cases h2];exact h2
theorem k8.a81{LV':List AV}(h:k8 st0 T qw qa ba bs W osx A os LV)(hL:LV≠[])(hL':LV'≠[]):k8 st0 (T.aC ba (.cells (LV'.flatMap AV.cells))) qw qa ba bs W osx A os LV':=by
 refine⟨h.w.aV fun b hb=>aA.aG _ _ ((h.d1 b hb).2.2 hL),h.a.aV fun b hb=>aA.aG _ _ ((h.d2 b hb).2 hL),aW.aV _ _ _ (fun b hb=>aA.aG _ _ (by rintro rfl;exact h.d3 hL hb)) h.o,fun _=>aA.aJ _ _ _,fun b hb=>⟨(h.d1 b hb).1,(h.d1 b hb).2.1,fun _=>(h.d1 b hb).2.2 hL⟩,fun b hb=>⟨(h.d2 b hb).1,fun _=>(h.d2 b hb).2 hL⟩,fun _=>h.d3 hL,h.nd,h.n1,h.n2,h.n3,fun _=>h.n4 hL,fun b o hb=>?_⟩
 rw[aA.aG _ _ (by rintro rfl;rw[h.n4 hL] at hb;cases hb)];exact h.k b o hb
end
structure EQ (st0 T:aA) (q:AV) (l:List AV):Prop where
 a:kO T 1 q l
 n:∀b∈aT q,st0 b=none
 k:∀b o,st0 b=some o→T b=some o
theorem EQ.push{st0 T T':aA}{q q':AV}{l:List AV}{x:AV}(h:EQ st0 T q l)(gM:kO T' 1 q' (l++ [x]))(hf:∀y,y∉aT q→y∉aT q'→T' y=T y)(hn:∀y∈aT q',y∈aT q∨T y=none):EQ st0 T' q' (l++ [x]):=by
 refine⟨gM,fun b hb=>?_,fun b o hb=>?_⟩
 · rcases hn b hb with h' | h'
   · exact h.n b h'
   · cases hs:st0 b with
     | none=>rfl
     | some o=>rw[h.k b o hs] at h';cases h'
 · have h1:b∉aT q:=fun h'=>by rw[h.n b h'] at hb;cases hb
   have h2:=h.k b o hb
   rw[hf b h1 (VW hn h1 (by rw[h2];simp))];exact h2
theorem k8.final{st0 T T':aA}{qw qa qe:AV}{ba:Nat}{bs:List Nat}{W:List Nat}{A os LV:List AV}{E:List Int}(h:k8 st0 T qw qa ba bs W os A os LV)(hE:EQ T T' qe (E.map iv))(hA:∀e∈A,e.width=1) :
 ∃s2,aL T' s2∧nB st0 [.slice (W.map nv),.slice A,.slice (E.map iv)] (.tup [qw,qa,qe]) s2:=by
 have hko:∀b,T b≠none→T' b=T b:=fun b hb=>by
  cases e:T b with
  | none=>exact absurd e hb
  | some o=>exact hE.k b o e
 have fw:∀b∈aT qw,T b≠none:=fun b hb=>by obtain⟨cs,e⟩:=h.w.some b hb;rw[e];simp
 have fa:∀b∈aT qa,T b≠none:=fun b hb=>by obtain⟨cs,e⟩:=h.a.some b hb;rw[e];simp
 have fb:∀b∈bs,T b≠none:=fun b hb=>h.aSJ hb
 have fe:∀b∈aT qe,T b=none:=hE.n
 have f0:∀b∈aT qe,st0 b=none:=fun b hb=>(h.fresh (fe b hb)).1
 have hAb:A= []→bs= []:=fun e=>by have:=h.o;rw[e] at this;simp only[aW] at this;exact this.2
 obtain⟨B,hB⟩:∃B,B=aT qw++((aT qa++bs)++aT qe):=⟨_,rfl⟩
 have fT:∀b,b∈B↔b∈aT qw∨b∈aT qa∨b∈bs∨b∈aT qe:=fun b=>by rw[hB];simp []
 obtain⟨s2,hs⟩:∃s2:aA,s2=fun b=>if b∈B then T' b else st0 b:=⟨_,rfl⟩
 have hs2:∀b,(b∈aT qw∨b∈aT qa∨b∈bs∨b∈aT qe)→s2 b=T' b:=fun b hb=>by rw[hs];exact aH ((fT b).2 hb)
 have o1:bM s2 (.slice (W.map nv)) qw (aT qw++ []):=
  kO.own (os:=W.map nv) (h.w.aV fun b hb=>(hs2 b (.inl hb)).trans (hko b (fw b hb))) (aW.flat (by simp [nv,AV.flat])) (aQ2 W) (fun _=>rfl)
 have o2:bM s2 (.slice A) qa (aT qa++bs):=
  kO.own (h.a.aV fun b hb=>(hs2 b (.inr (.inl hb))).trans (hko b (fa b hb))) (aW.aV _ _ _ (fun b hb=>(hs2 b (.inr (.inr (.inl hb)))).trans (hko b (fb b hb))) h.o) hA hAb
 have o3:bM s2 (.slice (E.map iv)) qe (aT qe++ []):=
  kO.own (os:=E.map iv) (hE.a.aV fun b hb=>hs2 b (.inr (.inr (.inr hb)))) (aW.flat (by simp [AV.flat])) (by intro e he;simp only[cH] at he;obtain⟨t,_,rfl⟩:=he;rfl) (fun _=>rfl)
 rw[gF] at o1 o3
 refine⟨s2,fun b=>?_,[qw,qa,qe],B,rfl,?_,fun b hb=>?_,?_,fun b hb=>by rw[hs];exact aE hb⟩
 · rw[hs]
   dsimp only
   split
   · exact⟨fun e=>e,fun o e=>e⟩
   · refine⟨fun e=>?_,fun o e=>?_⟩
     · cases hs:st0 b with
       | none=>rfl
       | some o=>rw[hE.k b o (h.k b o hs)] at e;cases e
     · exact hE.k b o (h.k b o e)
 · rw[hB]
   refine mJ.2 ⟨GQ _,mJ.2 ⟨mJ.2 ⟨GQ _,h.nd,fun x hx y hy e=>(h.d2 x hx).1 (e▸hy)⟩,GQ qe,fun x hx y hy e=>?_⟩,fun x hx y hy e=>?_⟩
   · subst e
     have hy':=fe x hy
     rcases d6.1 hx with hx | hx
     · exact fa x hx hy'
     · exact fb x hx hy'
   · subst e
     rcases d6.1 hy with hy | hy
     · rcases d6.1 hy with hy | hy
       · exact(h.d1 x hx).1 hy
       · exact(h.d1 x hx).2.1 hy
     · exact fw x hx (fe x hy)
 · rcases (fT b).1 hb with hb | hb | hb | hb
   · exact h.n1 b hb
   · exact h.n2 b hb
   · exact h.n3 b hb
   · exact f0 b hb
 · simp only[aW]
   exact⟨qw,[qa,qe],aT qw,(aT qa++bs)++aT qe,rfl,hB,o1,qa,[qe],aT qa++bs,aT qe,rfl,rfl,o2,qe,[],aT qe,[],rfl,by rw[gF],o3,rfl,rfl⟩
end Go.AW
