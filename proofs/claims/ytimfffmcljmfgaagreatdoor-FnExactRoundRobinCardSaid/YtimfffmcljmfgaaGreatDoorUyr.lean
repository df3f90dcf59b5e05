/- Sessions: what slices keep, as plain laws. -/
import Derived.Test.YtimfffmcljmfgaaGreatDoorUyq
import Derived.Test.YtimfffmcljmfgaaGreatDoorUyf
import Derived.Test.YtimfffmcljmfgaaGreatDoorUyp
set_option linter.unusedSimpArgs false
set_option linter.unusedVariables false
set_option maxRecDepth 100000
namespace Go.AW
theorem a0M{p:List Cl}{cnd:Tm→List Nat→List Nat}{s:RS}{g:RG}{rest:List RG}{e:Int}(h:iC p cnd s g rest=.stop e):0≤e:=by
 unfold iC at h
 repeat' split at h
 all_goals first | (cases h;done) | (injection h with h;subst h;unfold oK;repeat' split;all_goals omega) | (injection h with h;omega)
theorem a0I(p:List Cl)(cnd:Tm→List Nat→List Nat)(vars:List Int):∀(n most f:Nat) (s:RS),most+f≤n→0≤(iA p cnd vars most f s).2:=by
 intro n
 induction n with
 | zero=>
  intro most f s hn
  obtain rfl:most=0:=by omega
  obtain rfl:f=0:=by omega
  cases hg:s.goals with
  | nil=>rw[sY hg];simp
  | cons g rest=>rw[qC (fuel:=0) hg];simp
 | succ n ih=>
  intro most f s hn
  cases hg:s.goals with
  | nil=>
   rw[sY hg]
   by_cases hm:most=0
   · rw[aH hm];simp
   rw[aG hm]
   cases ha:iJ s.σ vars with
   | none=>simp
   | some a=>
    simp only
    cases hb:fF p s.chs.length s.chs with
    | none=>simp
    | some s'=>exact ih (most - 1) f s' (by omega)
  | cons g rest=>
   by_cases hf:f=0
   · subst hf
     rw[qC (fuel:=0) hg];simp
   rw[qC hg,aG hf]
   cases hst:iC p cnd s g rest with
   | stop e=>exact a0M hst
   | go s'=>exact ih most (f - 1) s' (by omega)
   | fail=>
    simp only
    cases hb:fF p s.chs.length s.chs with
    | none=>simp
    | some s'=>exact ih most (f - 1) s' (by omega)
theorem a1W{p:List Cl}{cnd:Tm→List Nat→List Nat}{q:List Tm}{most fuel:Int}:0≤(gG p cnd q most fuel).2:=by
 unfold gG
 split
 · exact a0I p cnd _ _ _ _ _ (cO _)
 · simp
theorem aVA{s:Ss}{u v:Int}(hok:kI s.p s.q 20 u=true)(huv:u≤v)(hv:v≤s.dO)(hq:s.dO≤300)(h:(dV s u).2≠-1):dV s v=dV s u:=by
 have hf:=(OQ (cnd:=fun _ l=>l) hok huv (by omega)).1
 by_cases h2:(gG s.p (fun _ l=>l) s.q 20 u).2=2
 · have hu:¬u<s.dO:=fun hu=>by
    unfold dV at h
    rw[aH ⟨h2,hu⟩] at h
    exact h rfl
   obtain rfl:v=u:=by omega
   rfl
 · have he:=hf h2
   unfold dV
   rw[he,aG (fun h=>h2 h.1),aG (fun h=>h2 h.1)]
theorem aVB{s:Ss}{u v:Int}(hok:kI s.p s.q 20 u=true)(huv:u≤v)(hv:v≤300):(dV s u).1 <+: (dV s v).1:=(OQ (cnd:=fun _ l=>l) hok huv hv).2
theorem a30{s:Ss}(h:fK s=true)(hf:s.fin≠-1):(gG s.p (fun _ l=>l) s.q 20 s.dO).2=s.fin∧s.sent=((gG s.p (fun _ l=>l) s.q 20 s.dO).1.length:Int):=by
 simp only[fK,cT] at h
 obtain⟨hr,hs⟩:=h
 obtain⟨kp,kq,k1,k2,k3,k4⟩:=K5.1 hr
 simp only[n7,GX,cT,bM] at hs
 rcases hs with ⟨_,_,h3⟩ | ⟨h1,h2⟩
 · exact absurd h3 hf
 have he:(dV s s.used).2≠-1:=by rw[show dV s s.used=tU s from rfl,←h2];exact hf
 have:=aVA (RL hr) k4 (Int.le_refl _) k2 he
 have hq:dV s s.dO=((gG s.p (fun _ l=>l) s.q 20 s.dO).1,(gG s.p (fun _ l=>l) s.q 20 s.dO).2):=by
  unfold dV
  rw[aG (by omega)]
 rw[hq] at this
 have e1:=gI Prod.fst this
 have e2:=gI Prod.snd this
 simp only at e1 e2
 rw[e1,e2]
 exact⟨h2.symm,h1⟩
theorem RF{s:Ss}{n:Int}(h:uY s n=false):kA s n=(s,[]):=by unfold kA;rw[h];try rfl
theorem DD{s:Ss}{n:Int}(h:uY s n=true):kA s n=(m6 s n,oW s n):=by unfold kA;rw[h];try rfl
theorem a1H(s:Ss)(n:Int):(kA s n).1.p=s.p∧(kA s n).1.q=s.q∧(kA s n).1.dO=s.dO:=by
 unfold kA
 split<;>exact⟨rfl,rfl,rfl⟩
theorem a1K{s:Ss}{n:Int}(h:fK s=true):fK (kA s n).1=true:=by
 by_cases hc:uY s n=true
 · rw[DD hc]
   exact(vZ h (BT.1 hc).2.1).nxt
 · rw[RF (by simpa using hc)]
   exact h
theorem OO(s:Ss):dV s s.dO=gG s.p (fun _ l=>l) s.q 20 s.dO:=by
 unfold dV
 rw[aG (by omega)]
theorem a1I{s:Ss}{n:Int}(h:fK s=true):(kA s n).2++(dV s s.dO).1.drop (kA s n).1.sent.toNat=(dV s s.dO).1.drop s.sent.toNat:=by
 by_cases hc:uY s n=true
 · rw[DD hc]
   have hF:=vZ h (BT.1 hc).2.1
   have h0:=hF.s0
   have h1:=hF.s1
   obtain⟨M,hM⟩:=aVB hF.ok hF.u2 hF.q1
   show(dV s (fX s n)).1.drop s.sent.toNat++(dV s s.dO).1.drop ((dV s (fX s n)).1.length:Int).toNat=_
   rw[←hM,jV,A1,TF (by omega)]
 · rw[RF (by simpa using hc)]
   try rfl
theorem W4{s:Ss}(h:fK s=true)(hf:s.fin≠-1):(dV s s.dO).1.drop s.sent.toNat= []∧(dV s s.dO).2=s.fin:=by
 obtain⟨h1,h2⟩:=a30 h hf
 rw[OO]
 exact⟨D0 (by omega),h1⟩
theorem a1J{s:Ss}{n:Int}(h:fK s=true):(kA s n).2.length≤20:=by
 by_cases hc:uY s n=true
 · rw[DD hc]
   have:=(vZ h (BT.1 hc).2.1).l
   simp only[oW,nH]
   omega
 · rw[RF (by simpa using hc)]
   exact nI _
structure gY where
 l:List Ss
 w:List Nat
 a:List (List Tm)
noncomputable def qI(n:Int)(x:gY)(i:Nat):gY:=
 match x.l[i]? with
 | some s=>if s.fin= -1 then⟨x.l.set i (kA s n).1,x.w++List.replicate (kA s n).2.length i,x.a++(kA s n).2⟩ else x
 | none=>x
noncomputable def iW(n:Int)(x:gY)(k:Nat):gY:=(List.range k).foldl (qI n) x
noncomputable def mT(n:Int)(x:gY):gY:=iW n x x.l.length
def l7(s:Ss):Bool:=decide (s.fin= -1)
def runs(l:List Ss):Bool:=l.any l7
noncomputable def rounds(n:Int):Nat→gY→gY
 | 0,x=>x
 | k+1,x=>if runs x.l=true then rounds n k (mT n x) else x
def zN(s:Ss):Nat:=if s.fin= -1 then(s.dO - s.used).toNat+1 else 0
def gR(l:List Ss):Nat:=aL zN l
noncomputable def fY(n:Int)(L:List Ss):gY:=rounds n (gR L) ⟨L,[],[]⟩
def mL(i:Nat):List Nat→List (List Tm)→List (List Tm)
 | w::ws,a::us=>if w=i then a::mL i ws us else mL i ws us
 | _,_=>[]
theorem L7{n:Int}{x:gY}{i:Nat}(h:x.l[i]?=none):qI n x i=x:=by unfold qI;rw[h]
theorem G9{n:Int}{x:gY}{i:Nat}{s:Ss}(h:x.l[i]?=some s)(hf:s.fin= -1):qI n x i=⟨x.l.set i (kA s n).1,x.w++List.replicate (kA s n).2.length i,x.a++(kA s n).2⟩:=by unfold qI;rw[h];exact aH hf
theorem DP{n:Int}{x:gY}{i:Nat}{s:Ss}(h:x.l[i]?=some s)(hf:s.fin≠-1):qI n x i=x:=by unfold qI;rw[h];exact aG hf
theorem a3B(n:Int)(x:gY)(i:Nat):(qI n x i).l.length=x.l.length:=by
 cases h:x.l[i]? with
 | none=>rw[L7 h]
 | some s=>
  by_cases hf:s.fin= -1
  · rw[G9 h hf];simp
  · rw[DP h hf]
theorem a3C(n:Int)(x:gY){i j:Nat}(hij:i≠j):(qI n x i).l[j]?=x.l[j]?:=by
 cases h:x.l[i]? with
 | none=>rw[L7 h]
 | some s=>
  by_cases hf:s.fin= -1
  · rw[G9 h hf];simp [hij]
  · rw[DP h hf]
theorem DQ(n:Int)(x:gY)(k:Nat):iW n x (k+1)=qI n (iW n x k) k:=by
 unfold iW
 rw[List.range_succ,List.foldl_append]
 try rfl
theorem L9(n:Int)(x:gY):∀k,(iW n x k).l.length=x.l.length
 | 0=>rfl
 | k+1=>by rw[DQ,a3B,L9 n x k]
theorem L8(n:Int)(x:gY){j:Nat}:∀k,k≤j→(iW n x k).l[j]?=x.l[j]?
 | 0,_=>rfl
 | k+1,h=>by rw[DQ,a3C n _ (by omega),L8 n x k (by omega)]
theorem AI{n:Int}{x:gY}(h:runs x.l=false):∀k,iW n x k=x
 | 0=>rfl
 | k+1=>by
  rw[DQ,AI h k]
  cases hs:x.l[k]? with
  | none=>exact L7 hs
  | some s=>
   refine DP hs fun hf=>?_
   have:runs x.l=true:=yB.2 ⟨s,cG hs,by unfold l7;simpa using hf⟩
   rw[h] at this
   cases this
theorem aL0{α:Type}(f:α→Nat):∀ {l:List α} {i:Nat} {a b:α},l[i]?=some a→aL f (l.set i b)+f a=aL f l+f b
 | x::l,0,a,b,h=>by
  simp only[A5,Option.some.injEq] at h
  subst h
  simp only[wG,aL]
  omega
 | x::l,i+1,a,b,h=>by
  simp only[A4] at h
  have:=aL0 f (b:=b) h
  simp only[A7,aL]
  omega
theorem aZB{s:Ss}{n:Int}(h:fK s=true)(hf:s.fin= -1)(hn:1≤n):zN (kA s n).1<zN s:=by
 have hc:uY s n=true:=BT.2 ⟨h,by omega,hf⟩
 have hF:=vZ (n:=n) h (by omega)
 have h1:=hF.u1
 have h2:=hF.u2
 rw[DD hc]
 unfold zN
 rw[aH hf]
 split
 · rename_i he
   have hlt:fX s n≠s.dO:=by
    intro e
    have:(dV s (fX s n)).2= -1:=he
    rw[e,OO] at this
    have:=a1W (p:=s.p) (cnd:=fun _ l=>l) (q:=s.q) (most:=20) (fuel:=s.dO)
    omega
   have hnu:fX s n=s.used+n:=by
    unfold fX at hlt ⊢
    split
    · rfl
    · rename_i hh;rw[aG hh] at hlt;exact absurd rfl hlt
   show(s.dO - fX s n).toNat+1<_
   omega
 · omega
theorem aJ1{s:Ss}:l7 s=true↔s.fin= -1:=by unfold l7;simp
theorem aJ3(i:Nat):∀ {ws vs:List Nat} {us bs:List (List Tm)},ws.length=us.length→mL i (ws++vs) (us++bs)=mL i ws us++mL i vs bs
 | [],vs,[],bs,_=>by simp [mL]
 | [],vs,_::_,bs,h=>by simp at h
 | w::ws,vs,[],bs,h=>by simp at h
 | w::ws,vs,a::us,bs,h=>by
  simp only[gH,mL,aJ3 i (ws:=ws) (vs:=vs) (us:=us) (bs:=bs) (by simpa using h)]
  split<;>simp
theorem aJ6(i:Nat):∀(us:List (List Tm)),mL i (List.replicate us.length i) us=us
 | []=>rfl
 | a::us=>by
  simp only[a8,HL,mL,aH,aJ6 i us]
theorem aJ5{i j:Nat}(h:j≠i):∀(us:List (List Tm)),mL i (List.replicate us.length j) us= []
 | []=>rfl
 | a::us=>by
  simp only[a8,HL,mL,aG h,aJ5 h us]
structure jK (L:List Ss) (x:gY):Prop where
 len:x.l.length=L.length
 ok:∀s∈x.l,fK s=true
 wl:x.w.length=x.a.length
 wr:∀i∈x.w,i<L.length
 bd:x.a.length+20*gR x.l≤20*gR L
 kp:∀(i:Nat) s s0,x.l[i]?=some s→L[i]?=some s0→s.p=s0.p∧s.q=s0.q∧s.dO=s0.dO∧mL i x.w x.a++(dV s s.dO).1.drop s.sent.toNat=(dV s0 s0.dO).1.drop s0.sent.toNat
theorem jK.start{L:List Ss}(h:∀s∈L,fK s=true):jK L ⟨L,[],[]⟩:=
 ⟨rfl,h,rfl,by simp,by simp,fun i s s0 h1 h2=>by
  simp only at h1
  rw[h1] at h2
  cases h2
  exact⟨rfl,rfl,rfl,by simp [mL]⟩⟩
theorem jK.HA{L:List Ss}{x:gY}{n:Int}(h:jK L x)(hn:1≤n)(i:Nat):jK L (qI n x i)∧gR (qI n x i).l≤gR x.l∧(∀s,x.l[i]?=some s→s.fin= -1→gR (qI n x i).l<gR x.l):=by
 cases hi:x.l[i]? with
 | none=>rw[L7 hi];exact⟨h,cO _,fun s e=>by cases e⟩
 | some s=>
  by_cases hf:s.fin= -1
  case neg=>rw[DP hi hf];exact⟨h,cO _,fun s' e hf'=>by cases e;exact absurd hf' hf⟩
  have hok:=h.ok s (cG hi)
  have hm:=aZB hok hf hn
  have hs:=aL0 zN (b:=(kA s n).1) hi
  have hlen:=a1J (n:=n) hok
  have hil:i<x.l.length:=(eE.1 hi).1
  have hlt:gR (x.l.set i (kA s n).1)<gR x.l:=by unfold gR;omega
  rw[G9 hi hf]
  refine⟨⟨?_,fun s' hs'=>?_,?_,fun j hj=>?_,?_,fun j s' s0 h1 h2=>?_⟩,Nat.le_of_lt hlt,fun _ _ _=>hlt⟩
  · simp only[List.length_set];exact h.len
  · rcases List.mem_or_eq_of_mem_set hs' with hs' | rfl
    · exact h.ok s' hs'
    · exact a1K hok
  · simp only[dP,List.length_replicate,h.wl]
  · rcases dS.1 hj with hj | hj
    · exact h.wr j hj
    · rw[(List.mem_replicate.1 hj).2,←h.len];exact hil
  · have:=h.bd
    simp only[dP]
    omega
  · simp only at h1 ⊢
    rw[aJ3 j h.wl]
    by_cases hij:i=j
    · subst hij
      rw[List.getElem?_set_self hil] at h1
      cases h1
      obtain⟨k1,k2,k3,k4⟩:=h.kp i s s0 hi h2
      obtain⟨e1,e2,e3⟩:=a1H s n
      have hfo:dV (kA s n).1 (kA s n).1.dO=dV s s.dO:=by unfold dV;rw[e1,e2,e3]
      refine⟨e1.trans k1,e2.trans k2,e3.trans k3,?_⟩
      rw[aJ6,hfo,kK,a1I hok]
      exact k4
    · rw[List.getElem?_set_ne hij] at h1
      rw[aJ5 hij,fA]
      exact h.kp j s' s0 h1 h2
theorem jK.turns{L:List Ss}{x:gY}{n:Int}(h:jK L x)(hn:1≤n):∀k,jK L (iW n x k)∧gR (iW n x k).l≤gR x.l∧(runs (x.l.take k)=true→gR (iW n x k).l<gR x.l)
 | 0=>⟨h,cO _,by simp [runs]⟩
 | k+1=>by
  obtain⟨h1,h2,h3⟩:=jK.turns h hn k
  obtain⟨g1,g2,g3⟩:=h1.HA hn k
  rw[DQ]
  refine⟨g1,by omega,fun hr=>?_⟩
  by_cases hk:runs (x.l.take k)=true
  · have:=h3 hk;omega
  · unfold runs at hk hr
    rw[eH,List.any_append] at hr
    rw[show(x.l.take k).any l7=false by simpa using hk,qL] at hr
    cases hx:x.l[k]? with
    | none=>rw[hx] at hr;simp at hr
    | some s=>
     rw[hx] at hr
     simp at hr
     have:=g3 s (by rw[L8 n x k (cO _)];exact hx) (aJ1.1 hr)
     omega
theorem jK.round{L:List Ss}{x:gY}{n:Int}(h:jK L x)(hn:1≤n):jK L (mT n x)∧(runs x.l=true→gR (mT n x).l<gR x.l):=by
 obtain⟨h1,_,h3⟩:=h.turns hn x.l.length
 rw[dQ] at h3
 exact⟨h1,h3⟩
theorem GP{n:Int}{x:gY}(h:runs x.l=false):∀k,rounds n k x=x
 | 0=>rfl
 | k+1=>by unfold rounds;rw[h];try rfl
theorem aK6{n:Int}(hn:1≤n){L:List Ss}:∀(k:Nat) (x:gY) (j:Nat),jK L x→gR x.l≤k→gR x.l≤j→rounds n k x=rounds n j x
 | k,x,j,hI,hk,hj=>by
  by_cases hr:runs x.l=true
  case neg=>rw[GP (by simpa using hr),GP (by simpa using hr)]
  obtain⟨h1,h2⟩:=hI.round hn
  have h3:=h2 hr
  match k,j,hk,hj with
  | 0,_,hk,_=>omega
  | _,0,_,hj=>omega
  | k+1,j+1,hk,hj=>
   unfold rounds
   rw[aH hr,aH hr]
   exact aK6 hn k _ j h1 (by omega) (by omega)
theorem aK7{n:Int}(hn:1≤n){L:List Ss}{x:gY}(hI:jK L x)(hr:runs x.l=true):rounds n (gR (mT n x).l) (mT n x)=rounds n (gR x.l) x:=by
 obtain⟨h1,h2⟩:=hI.round hn
 have h3:=h2 hr
 obtain⟨m,hm⟩:∃m,gR x.l=m+1:=⟨gR x.l - 1,by omega⟩
 rw[hm]
 conv=>rhs;unfold rounds
 rw[aH hr]
 exact aK6 hn _ _ _ h1 (cO _) (by omega)
theorem aK5{n:Int}(hn:1≤n){L:List Ss}:∀(k:Nat) (x:gY),jK L x→gR x.l≤k→jK L (rounds n k x)∧runs (rounds n k x).l=false
 | k,x,hI,hk=>by
  by_cases hr:runs x.l=true
  case neg=>rw[GP (by simpa using hr)];exact⟨hI,by simpa using hr⟩
  obtain⟨h1,h2⟩:=hI.round hn
  have h3:=h2 hr
  match k,hk with
  | 0,hk=>omega
  | k+1,hk=>
   unfold rounds
   rw[aH hr]
   exact aK5 hn k _ h1 (by omega)
theorem KI:∀ {L:List Ss},(∀s∈L,fK s=true)→gR L≤301*L.length
 | [],_=>by simp [gR,aL]
 | s::L,h=>by
  have h1:=KI (L:=L) fun x hx=>h x (by simp [hx])
  have h2:zN s≤301:=by
   have h3:=h s (by simp)
   have hF:=vZ (n:=0) h3 (by omega)
   have:=hF.u0
   have:=hF.q1
   unfold zN
   split<;>omega
  unfold gR at h1 ⊢
  simp only[aL,a8]
  omega
noncomputable def o7(L:List Ss)(n:Int):Bool:=decide (1≤n)&&(decide (L.length≤8)&&L.all fK)
noncomputable def iV(L:List Ss)(n:Int):List Nat×List (List Tm)×List Int:=
 if o7 L n=true then((fY n L).w,(fY n L).a,(fY n L).l.map Ss.fin) else([],[],[])
theorem KY{L:List Ss}{n:Int}:o7 L n=true↔1≤n∧L.length≤8∧∀s∈L,fK s=true:=by
 simp only[o7,cT,bM,eD]
theorem a04{L:List Ss}{n:Int}(h:o7 L n=true):jK L (fY n L)∧runs (fY n L).l=false∧(fY n L).l.map Ss.fin=L.map (fun s=>(dV s s.dO).2)∧∀(i:Nat) s,L[i]?=some s→mL i (fY n L).w (fY n L).a=(dV s s.dO).1.drop s.sent.toNat:=by
 obtain⟨h1,h2,h3⟩:=KY.1 h
 obtain⟨g1,g2⟩:=aK5 h1 (gR L) ⟨L,[],[]⟩ (jK.start h3) (cO _)
 have gD:∀s∈(fY n L).l,s.fin≠-1:=fun s hs hf=>by
  have:runs (fY n L).l=true:=yB.2 ⟨s,hs,aJ1.2 hf⟩
  have h9:runs (fY n L).l=false:=g2
  rw[h9] at this
  cases this
 have hg:jK L (fY n L):=g1
 refine⟨g1,g2,A3 fun i=>?_,fun i s hi=>?_⟩
 · rw[kS,kS]
   cases hi:L[i]? with
   | none=>
    have:(fY n L).l[i]?=none:=A6 (by rw[hg.len];exact List.getElem?_eq_none_iff.1 hi)
    rw[this];try rfl
   | some s0=>
    obtain⟨s,hs⟩:∃s,(fY n L).l[i]?=some s:=⟨_,dZ (by rw[hg.len];exact(eE.1 hi).1)⟩
    obtain⟨k1,k2,k3,_⟩:=hg.kp i s s0 hs hi
    have hm:=cG hs
    obtain⟨_,he⟩:=W4 (hg.ok s hm) (gD s hm)
    rw[hs]
    simp only[oB,Option.some.injEq]
    rw[←he]
    unfold dV
    rw[k1,k2,k3]
 · obtain⟨s',hs⟩:∃s,(fY n L).l[i]?=some s:=⟨_,dZ (by rw[hg.len];exact(eE.1 hi).1)⟩
   obtain⟨_,_,_,k4⟩:=hg.kp i s' s hs hi
   have hm:=cG hs
   rw[(W4 (hg.ok s' hm) (gD s' hm)).1,fA] at k4
   exact k4
end Go.AW
namespace Go.AW
open Go.Proofs.Tryz
abbrev SE:=zi tI_3 (zi zI_3 (zi a7 (zi tI_31 (zi zI_31 (zi aR (zi bO (zi bP (zi cF (zi tI_66 (zi zI_66 (zi b9 (zi cA (zi cB (zi cC bZ))))))))))))))
theorem NT(l:List Tm)(hl:l.length≤1048576)(h:∀x∈l,∀st,aD prog 312 [Tm.av x] st (fun r st'=>r=Tm.av x∧st'=st))(st:aA):aD prog 247 [.slice (l.map Tm.av)] st (fun r st'=>r=.slice (l.map Tm.av)∧st'=st):=by
 refine aD.done ?_
 refine wF [1000000] 1 func247 ntmps247 rfl rfl ?_
 intro _
 simp -implicitDefEqProofs only[aE,aB,seval,SE]
 refine qJ (σ:=Unit) [1000000] [2,7,8] (l) 4 3 (fun i _=>(((l).take i).map (fun y=>y)).map Tm.av) (fun i _=>True) (fun i _=>[(9,.int .i64 i)]) (fun _ _=>st) (fun i _ _ e he=>by simp only[bY] at he;obtain⟨t,_,rfl⟩:=he;exact⟨Tm.eN t,aO t⟩) (by decide +kernel) ⟨(),0,trivial,fun h=>absurd rfl h,aN.mk (by simp -implicitDefEqProofs only[lJ,jJ,bQ,aB,↓aY,seval])⟩ (fun i x s b hx hlt bB hdr hinv hb=>?_) (fun s b hge hinv=>?_)
 case refine_1=>
  have hw:=bG (n:=(i:Int)+1)
  have c7:((((l).take i).map (fun y=>y)).map Tm.av).length=i:=by simp only[aE,dI];omega
  have htk:((((l).take i).map (fun y=>y)).map Tm.av)++ [Tm.av ((fun y=>y) x)]=(((l).take (i+1)).map (fun y=>y)).map Tm.av:=by rw[eH,hx];simp
  have hat:=bH (av:=Tm.av) aR hx (aO x)
  simp -implicitDefEqProofs only[bB,hat,cE,aO,Tm.d5,Tm.eN,aB,↓aY,seval,SE]
  refine(h x (cG hx) _).to ?_
  simp -implicitDefEqProofs only[cE,aO,Tm.eN,aB,seval,SE]
  refine f9 aR bO bP rfl rfl (g9 (aO _) (Tm.d5 _)) (by intro e he;simp only[bY] at he;obtain⟨t,_,rfl⟩:=he;exact aO t) hb (by simp only[c7,a8,bL];omega) (by simp only[c7,a8,bL];omega) (fun b' hb'=>?_)
  rw[htk] at hb' ⊢
  simp -implicitDefEqProofs only[aB,seval]
  exact⟨(),b',hb',aN.mk (by simp -implicitDefEqProofs only[hw,aB,seval])⟩
 simp -implicitDefEqProofs only[hge,f7,iL,pR,nN,dQ,aB,seval]
 exact⟨by rw[D1];simp only[AV.soft],aM.refl _⟩
abbrev aMP:=zi tI_31 (zi zI_31 (zi aR (zi bO (zi bP (zi cF (zi tI_66 (zi zI_66 (zi b9 (zi cA (zi cB (zi cC bZ)))))))))))
theorem IK:∀(t:Tm) (st:aA),t.small=true→aD prog 312 [t.av] st (fun r st'=>r=t.av∧st'=st)
 | .mk k n s ts,st,hsm=>by
  obtain⟨hlen,oQ⟩:=Tm.o9 hsm
  have IH:=fun st=>NT ts hlen (fun x hx st=>IK x st (oQ x hx)) st
  refine aD.pQ ?_
  simp only[bA]
  refine wF [1000000,1] 1 func312 ntmps312 rfl rfl ?_
  intro _
  simp -implicitDefEqProofs only[aB,seval,aMP]
  intro b1 h1 b2 h2
  have h21:b2≠b1:=by rintro rfl;rw[aA.aJ] at h2;cases h2
  rw[aA.aF _ _ h21] at h2
  have e1:∀X Y:AO,((st.aC b1 X).aC b2 Y) b1=some X:=fun X Y=>by rw[aA.aF _ _ h21.symm,aA.aJ]
  have e2:∀X Y Z:AO,(((st.aC b1 X).aC b2 Y).aC b1 Z) b2=some Y:=fun X Y Z=>by rw[aA.aF _ _ h21,aA.aJ]
  simp -implicitDefEqProofs only[e1,aB,seval]
  refine(IH _).to ?_
  simp -implicitDefEqProofs only[aP,e1,e2,aA.aJ,aB,seval,aMP]
  exact(((aM.refl _).aC h1).aC h2).aC h1 |>.aC h2
termination_by t=>SizeOf.sizeOf t
decreasing_by have:=List.sizeOf_lt_of_mem hx;simp only[Tm.mk.sizeOf_spec];omega
abbrev SF:=zi tI_31 (zi zI_31 (zi aR (zi bO (zi bP (zi cF (zi tI_66 (zi zI_66 (zi b9 (zi cA (zi cB (zi cC (zi bZ (zi tI_84 (zi zI_84 (zi lB (zi lC kV))))))))))))))))
theorem aRL(cl:Cl)(hs:IU cl)(st:aA):aD prog 311 [bK cl] st (fun r st'=>r=bK cl∧st'=st):=by
 obtain⟨⟨k,n,s,ks⟩,ts⟩:=cl
 obtain⟨s1,s2,s3⟩:=hs
 have hB:=fun st=>IK (.mk k n s ks) st s1
 have hC:=fun st=>NT ts s2 (fun x hx st=>IK x st (s3 x hx)) st
 refine aD.pQ ?_
 simp only[m7,bA] at hB ⊢
 refine wF [1000000,1] 1 func311 ntmps311 rfl rfl ?_
 intro _
 simp -implicitDefEqProofs only[aB,seval,SF]
 intro b1 h1 b2 h2
 have h21:b2≠b1:=by rintro rfl;rw[aA.aJ] at h2;cases h2
 rw[aA.aF _ _ h21] at h2
 have e1:∀X Y:AO,((st.aC b1 X).aC b2 Y) b1=some X:=fun X Y=>by rw[aA.aF _ _ h21.symm,aA.aJ]
 have e2:∀X Y Z:AO,(((st.aC b1 X).aC b2 Y).aC b1 Z) b2=some Y:=fun X Y Z=>by rw[aA.aF _ _ h21,aA.aJ]
 simp -implicitDefEqProofs only[e1,aB,seval]
 refine(hB _).to ?_
 simp -implicitDefEqProofs only[aP,e1,aA.aJ,aB,seval,SF]
 refine(hC _).to ?_
 simp -implicitDefEqProofs only[aP,e2,aA.aJ,eA,aB,seval,SF]
 exact(((aM.refl _).aC h1).aC h2).aC h1 |>.aC h2
abbrev SD:=zi tI_3 (zi zI_3 (zi a7 (zi tI_29 (zi zI_29 (zi eP (zi gO (zi gP (zi gV (zi tI_84 (zi zI_84 (zi lB (zi lC kV))))))))))))
theorem aRM(l:List Cl)(hl:l.length≤1048576)(h:∀x∈l,∀st,aD prog 311 [bK x] st (fun r st'=>r=bK x∧st'=st))(st:aA):aD prog 246 [.slice (l.map bK)] st (fun r st'=>r=.slice (l.map bK)∧st'=st):=by
 refine aD.done ?_
 refine wF [1000000] 1 func246 ntmps246 rfl rfl ?_
 intro _
 simp -implicitDefEqProofs only[aE,aB,seval,SD]
 refine qJ (σ:=Unit) [1000000] [2,7,8] (l) 5 3 (fun i _=>(((l).take i).map (fun y=>y)).map bK) (fun i _=>True) (fun i _=>[(9,.int .i64 i)]) (fun _ _=>st) (fun i _ _ e he=>by simp only[bY] at he;obtain⟨t,_,rfl⟩:=he;exact⟨BX t,gA t⟩) (by decide +kernel) ⟨(),0,trivial,fun h=>absurd rfl h,aN.mk (by simp -implicitDefEqProofs only[lJ,jJ,bQ,aB,↓aY,seval])⟩ (fun i x s b hx hlt bB hdr hinv hb=>?_) (fun s b hge hinv=>?_)
 case refine_1=>
  have hw:=bG (n:=(i:Int)+1)
  have c7:((((l).take i).map (fun y=>y)).map bK).length=i:=by simp only[aE,dI];omega
  have htk:((((l).take i).map (fun y=>y)).map bK)++ [bK ((fun y=>y) x)]=(((l).take (i+1)).map (fun y=>y)).map bK:=by rw[eH,hx];simp
  have hat:=bH (av:=bK) eP hx (gA x)
  simp -implicitDefEqProofs only[bB,hat,sJ,gA,IT,BX,aB,↓aY,seval,SD]
  refine(h x (cG hx) _).to ?_
  simp -implicitDefEqProofs only[sJ,gA,BX,aB,seval,SD]
  refine f9 eP gO gP rfl rfl (g9 (gA _) (IT _)) (by intro e he;simp only[bY] at he;obtain⟨t,_,rfl⟩:=he;exact gA t) hb (by simp only[c7,a8,bL];omega) (by simp only[c7,a8,bL];omega) (fun b' hb'=>?_)
  rw[htk] at hb' ⊢
  simp -implicitDefEqProofs only[aB,seval]
  exact⟨(),b',hb',aN.mk (by simp -implicitDefEqProofs only[hw,aB,seval])⟩
 simp -implicitDefEqProofs only[hge,f7,iL,pR,nN,dQ,aB,seval]
 exact⟨by rw[D1];simp only[AV.soft],aM.refl _⟩
abbrev SC:=zi tI_29 (zi zI_29 (zi eP (zi gO (zi gP (zi gV (zi tI_31 (zi zI_31 (zi aR (zi bO (zi bP (zi cF (zi tI_62 (zi zI_62 (zi kX (zi kY (zi kZ (zi k8 (zi k9 (zi lA kU)))))))))))))))))))
theorem aRP(s:Ss)(hp:s.p.length≤1048576)(hps:∀c∈s.p,IU c)(hq:s.q.length≤1048576)(hqs:∀t∈s.q,t.small=true)(st:aA):aD prog 166 [aX s] st (fun r st'=>r=aX s∧st'=st):=by
 obtain⟨ps,qs,i0,i1,i2,i3⟩:=s
 simp only at hp hps hq hqs
 have hB:=fun st=>aRM ps hp (fun x hx st=>aRL x (hps x hx) st) st
 have hC:=fun st=>NT qs hq (fun x hx st=>IK x st (hqs x hx)) st
 refine aD.pQ ?_
 simp only[aX]
 refine wF [1000000,1] 1 func166 ntmps166 rfl rfl ?_
 intro _
 simp -implicitDefEqProofs only[aB,seval,SC]
 intro b1 h1 b2 h2
 have h21:b2≠b1:=by rintro rfl;rw[aA.aJ] at h2;cases h2
 rw[aA.aF _ _ h21] at h2
 have e1:∀X Y:AO,((st.aC b1 X).aC b2 Y) b1=some X:=fun X Y=>by rw[aA.aF _ _ h21.symm,aA.aJ]
 have e2:∀X Y Z:AO,(((st.aC b1 X).aC b2 Y).aC b1 Z) b2=some Y:=fun X Y Z=>by rw[aA.aF _ _ h21,aA.aJ]
 simp -implicitDefEqProofs only[e1,aB,seval]
 refine(hB _).to ?_
 simp -implicitDefEqProofs only[aP,e1,aA.aJ,aB,seval,SC]
 refine(hC _).to ?_
 simp -implicitDefEqProofs only[aP,e2,aA.aJ,eA,aB,seval,SC]
 exact(((aM.refl _).aC h1).aC h2).aC h1 |>.aC h2
abbrev RM (s:Ss):Prop:=s.p.length≤1048576∧(∀c∈s.p,IU c)∧s.q.length≤1048576∧∀t∈s.q,t.small=true
abbrev SG:=zi tI_3 (zi zI_3 (zi a7 (zi tI_49 (zi zI_49 (zi j7 (zi rC (zi rF (zi rV (zi tI_62 (zi zI_62 (zi kX (zi kY (zi kZ (zi k8 (zi k9 (zi lA kU))))))))))))))))
theorem aRO(l:List Ss)(hl:l.length≤1048576)(h:∀x∈l,∀st,aD prog 166 [aX x] st (fun r st'=>r=aX x∧st'=st))(st:aA):aD prog 83 [.slice (l.map aX)] st (fun r st'=>r=.slice (l.map aX)∧st'=st):=by
 refine aD.done ?_
 refine wF [1000000] 1 func83 ntmps83 rfl rfl ?_
 intro _
 simp -implicitDefEqProofs only[aE,aB,seval,SG]
 refine qJ (σ:=Unit) [1000000] [2,7,8] (l) 6 3 (fun i _=>(((l).take i).map (fun y=>y)).map aX) (fun i _=>True) (fun i _=>[(9,.int .i64 i)]) (fun _ _=>st) (fun i _ _ e he=>by simp only[bY] at he;obtain⟨t,_,rfl⟩:=he;exact⟨RK t,iO t⟩) (by decide +kernel) ⟨(),0,trivial,fun h=>absurd rfl h,aN.mk (by simp -implicitDefEqProofs only[lJ,jJ,bQ,aB,↓aY,seval])⟩ (fun i x s b hx hlt bB hdr hinv hb=>?_) (fun s b hge hinv=>?_)
 case refine_1=>
  have hw:=bG (n:=(i:Int)+1)
  have c7:((((l).take i).map (fun y=>y)).map aX).length=i:=by simp only[aE,dI];omega
  have htk:((((l).take i).map (fun y=>y)).map aX)++ [aX ((fun y=>y) x)]=(((l).take (i+1)).map (fun y=>y)).map aX:=by rw[eH,hx];simp
  have hat:=bH (av:=aX) j7 hx (iO x)
  simp -implicitDefEqProofs only[bB,hat,AB,iO,K3,RK,aB,↓aY,seval,SG]
  refine(h x (cG hx) _).to ?_
  simp -implicitDefEqProofs only[AB,iO,RK,aB,seval,SG]
  refine f9 j7 rC rF rfl rfl (g9 (iO _) (K3 _)) (by intro e he;simp only[bY] at he;obtain⟨t,_,rfl⟩:=he;exact iO t) hb (by simp only[c7,a8,bL];omega) (by simp only[c7,a8,bL];omega) (fun b' hb'=>?_)
  rw[htk] at hb' ⊢
  simp -implicitDefEqProofs only[aB,seval]
  exact⟨(),b',hb',aN.mk (by simp -implicitDefEqProofs only[hw,aB,seval])⟩
 simp -implicitDefEqProofs only[hge,f7,iL,pR,nN,dQ,aB,seval]
 exact⟨by rw[D1];simp only[AV.soft],aM.refl _⟩
theorem aRN(l:List Ss)(hl:l.length≤1048576)(h:∀s∈l,RM s)(st:aA):aD prog 83 [.slice (l.map aX)] st (fun r st'=>r=.slice (l.map aX)∧st'=st):=
 aRO l hl (fun s hs st=>aRP s (h s hs).1 (h s hs).2.1 (h s hs).2.2.1 (h s hs).2.2.2 st) st
end Go.AW
namespace Go.AW
section
variable {P:Program}
inductive PT where
 | fin (p:List (Nat×Nat))
 | br (p:List (Nat×Nat)) (i j:Nat) (a b:PT)
end
end Go.AW
namespace Go.AW
open Go.Proofs.Tryz
structure fS (st0 st:aA) (qw qa:AV) (W:List Nat) (A:List AV):Prop where
 w:fH st 1 qw (W.map nv)
 a:fH st 1 qa A
 d:∀b∈aS qw,b∉aS qa
 n:∀b,b∈aS qw∨b∈aS qa→st0 b=none
 k:∀b o,st0 b=some o→st b=some o
theorem fS.fresh{st0 st:aA}{qw qa:AV}{W:List Nat}{A:List AV}(h:fS st0 st qw qa W A){b:Nat}(hb:st b=none):st0 b=none∧b∉aS qw∧b∉aS qa:=by
 refine⟨?_,fun hq=>?_,fun hq=>?_⟩
 · cases hs:st0 b with
   | none=>rfl
   | some o=>rw[h.k b o hs] at hb;cases hb
 · obtain⟨cs,e⟩:=h.w.some b hq;rw[hb] at e;cases e
 · obtain⟨cs,e⟩:=h.a.some b hq;rw[hb] at e;cases e
theorem fS.aC{st0 st:aA}{qw qa:AV}{W:List Nat}{A:List AV}(h:fS st0 st qw qa W A){b:Nat}{o:AO}(h0:st0 b=none)(hw:b∉aS qw)(ha:b∉aS qa):fS st0 (st.aC b o) qw qa W A:=by
 refine⟨h.w.aU fun x hx=>?_,h.a.aU fun x hx=>?_,h.d,h.n,fun x p hx=>?_⟩
 · exact aA.aF _ _ (by rintro rfl;exact hw hx)
 · exact aA.aF _ _ (by rintro rfl;exact ha hx)
 · rw[aA.aF _ _ (by rintro rfl;rw[h0] at hx;cases hx)];exact h.k x p hx
theorem fS.QW{st0 st st':aA}{qw qa q':AV}{W:List Nat}{A:List AV}{i:Nat}(h:fS st0 st qw qa W A)(gK:fH st' 1 q' (W.map nv++ [nv i]))(hf:∀y,y∉aS qw→y∉aS q'→st' y=st y)(hn:∀y∈aS q',y∈aS qw∨st y=none):fS st0 st' q' qa (W++ [i]) A:=by
 have hd:∀b∈aS q',b∉aS qa:=fun b hb=>by
  rcases hn b hb with h' | h'
  · exact h.d b h'
  · exact(h.fresh h').2.2
 refine⟨by simpa using gK,h.a.aU fun b hb=>hf b (fun h'=>h.d b h' hb) (fun h'=>hd b h' hb),hd,fun b hb=>?_,fun b o hb=>?_⟩
 · rcases hb with hb | hb
   · rcases hn b hb with h' | h'
     · exact h.n b (.inl h')
     · exact(h.fresh h').1
   · exact h.n b (.inr hb)
 · have h1:b∉aS qw:=fun h'=>by rw[h.n b (.inl h')] at hb;cases hb
   have h2:b∉aS q':=fun h'=>by
    rcases hn b h' with h'' | h''
    · exact h1 h''
    · rw[(h.fresh h'').1] at hb;cases hb
   rw[hf b h1 h2]
   exact h.k b o hb
theorem fS.KS{st0 st st':aA}{qw qa q':AV}{W:List Nat}{A:List AV}{x:AV}(h:fS st0 st qw qa W A)(gK:fH st' 1 q' (A++ [x]))(hf:∀y,y∉aS qa→y∉aS q'→st' y=st y)(hn:∀y∈aS q',y∈aS qa∨st y=none):fS st0 st' qw q' W (A++ [x]):=by
 have hd:∀b∈aS qw,b∉aS q':=fun b hb hq=>by
  rcases hn b hq with h' | h'
  · exact h.d b hb h'
  · exact(h.fresh h').2.1 hb
 refine⟨h.w.aU fun b hb=>hf b (fun h'=>h.d b hb h') (fun h'=>hd b hb h'),gK,hd,fun b hb=>?_,fun b o hb=>?_⟩
 · rcases hb with hb | hb
   · exact h.n b (.inl hb)
   · rcases hn b hb with h' | h'
     · exact h.n b (.inr h')
     · exact(h.fresh h').1
 · have h1:b∉aS qa:=fun h'=>by rw[h.n b (.inr h')] at hb;cases hb
   have h2:b∉aS q':=fun h'=>by
    rcases hn b h' with h'' | h''
    · exact h1 h''
    · rw[(h.fresh h'').1] at hb;cases hb
   rw[hf b h1 h2]
   exact h.k b o hb
def fS.trim(st0 st:aA)(qw qa:AV):aA:=fun y=>if y∈aS qw∨y∈aS qa then st y else st0 y
theorem fS.sM{st0 st:aA}{qw qa:AV}{W:List Nat}{A:List AV}(h:fS st0 st qw qa W A):aM st (fS.trim st0 st qw qa)∧fS st0 (fS.trim st0 st qw qa) qw qa W A:=by
 unfold fS.trim
 refine⟨fun y=>?_,h.w.aU fun b hb=>aH (.inl hb),h.a.aU fun b hb=>aH (.inr hb),h.d,h.n,fun b o hb=>?_⟩
 · dsimp only
   split
   · exact⟨fun e=>e,fun o e=>e⟩
   · exact⟨fun e=>(h.fresh e).1,fun o e=>h.k y o e⟩
 · show(if _ then st b else st0 b)=_
   split
   · exact h.k b o hb
   · exact hb
theorem zP{S:aA}{q q':AV}{b:Nat}{o:AO}(hn:∀y∈aS q',y∈aS q∨S y=none)(h:b∉aS q)(hb:S b=some o):b∉aS q':=fun hm=>by
 rcases hn b hm with h' | h'
 · exact h h'
 · rw[hb] at h';cases h'
theorem aLT(l:List Ss):∀e∈l.map aX,e.width=6:=by intro e he;simp only[bY] at he;obtain⟨t,_,rfl⟩:=he;rfl
theorem aLS(l:List Ss):∀e∈l.map aX,e.cD=false:=by intro e he;simp only[bY] at he;obtain⟨t,_,rfl⟩:=he;rfl
theorem Q9{α:Type}{av:α→AV}{w:Nat}(hw:∀a,(av a).width=w):∀ {L:List α} {i:Nat} (z:α),i<L.length→aP ((L.map av).flatMap AV.cells) (i*w) (av z).cells=((L.set i z).map av).flatMap AV.cells:=fun {L i} z hi=>by
 have hz:(av z).cells.length=w:=by rw[pN,hw]
 have hA:((L.take i).map av).flatMap AV.cells=((L.map av).flatMap AV.cells).take (i*w)∧((L.drop (i+1)).map av).flatMap AV.cells=((L.map av).flatMap AV.cells).drop (i*w+w):=by
  have hl1:(((L.take i).map av).flatMap AV.cells).length=i*w:=by
   rw[lK (n:=w) (es:=(L.take i).map av) (fun e he=>by simp only[bY] at he;obtain⟨t,_,rfl⟩:=he;exact hw t),aE,dI,jX (by omega)]
  have hl2:(((L.take (i+1)).map av).flatMap AV.cells).length=i*w+w:=by
   rw[lK (n:=w) (es:=(L.take (i+1)).map av) (fun e he=>by simp only[bY] at he;obtain⟨t,_,rfl⟩:=he;exact hw t),aE,dI,jX (by omega),r9,Nat.one_mul]
  constructor
  · conv=>rhs;rw[←n9 i L,mX,r7,D5 hl1]
  · conv=>rhs;rw[←n9 (i+1) L,mX,r7,List.drop_left' hl2]
 unfold aP
 rw[hz,←hA.1,←hA.2,TJ,aH hi]
 simp
def Fz(st0 st:aA)(qw qa q:AV)(l:List AV):Prop:=q=.slice l∨∃b w,q=.mslice b 0 l.length w∧st b=some (.cells (l.flatMap AV.cells))∧st0 b=none∧b∉aS qw∧b∉aS qa∧(∀e∈l,e.cD=false)∧∀e∈l,e.width=w
theorem Fz.seen{st0 st s2:aA}{qw qa q:AV}{l:List AV}{h:bF}{c:Value}(S:cI h st)(D:aM st s2)(hs2:∀b,b∉aS qw→b∉aS qa→s2 b=st0 b)(hz:Fz st0 st qw qa q l)(x:VC h st q [c]):VC h s2 (.slice l) [c]:=by
 rcases hz with rfl | ⟨b,w,rfl,hb,hb0,hbw,hba,hj,hw⟩
 · exact VC.mono (D.step h) _ _ x
 · obtain⟨f1,f2⟩:=frozen S hb hj
   have hs:s2 b=none:=(hs2 b hbw hba).trans hb0
   have D2:aM (st.erase b) s2:=fun x=>by
    unfold aA.erase
    by_cases hx:x=b
    · subst hx;rw[aH rfl];exact⟨fun _=>hs,fun o e=>by rw[hs] at e;cases e⟩
    · rw[aG hx];exact D x
   have hE:=cX.mono (D2.step h) b rfl _ _ f2
   unfold VC at x
   obtain⟨cap,hv,l1,l2,_⟩:=x
   unfold VC
   exact .inr ⟨b,0,cap,hv,l1,l2,hs,f1,⟨w,hw⟩,hE⟩
theorem aD.a3E{P:Program}{g:FuncId}{args:List AV}{st0 st:aA}{W:List Nat}{A LV EV:List AV}(x:aD P g args st (fun r st'=>∃qw qa q1 q4,r=.agg [q1,qw,qa,q4]∧fS st0 st' qw qa W A∧Fz st0 st' qw qa q1 LV∧Fz st0 st' qw qa q4 EV)) :
 aD P g args st (fun r st'=>∃qw qa,r=.agg [.slice LV,qw,qa,.slice EV]∧fS st0 st' qw qa W A):=by
 refine x.kP fun r st' ⟨qw,qa,q1,q4,hr,hT,h1,h4⟩=>?_
 obtain⟨D,hT2⟩:=hT.sM
 refine⟨_,_,D.rX,fun h v S y=>?_,qw,qa,rfl,hT2⟩
 subst hr
 have hs2:∀b,b∉aS qw→b∉aS qa→fS.trim st0 st' qw qa b=st0 b:=fun b b1 b2=>by unfold fS.trim;rw[aG (by rintro(h | h);exact b1 h;exact b2 h)]
 obtain⟨y0,y1⟩:=y
 refine⟨y0,?_⟩
 unfold VC at y1 ⊢
 simp only[aZ] at y1 ⊢
 obtain⟨c1,r1,e1,z1,c2,r2,rfl,z2,c3,r3,rfl,z3,c4,r4,rfl,z4,rfl⟩:=y1
 exact⟨c1,_,e1,Fz.seen S D hs2 h1 z1,c2,_,rfl,VC.mono (D.step h) _ _ z2,c3,_,rfl,VC.mono (D.step h) _ _ z3,c4,_,rfl,Fz.seen S D hs2 h4 z4,rfl⟩
abbrev rR:=zi tI_3 (zi zI_3 (zi a7 (zi tI_26 (zi zI_26 (zi gC (zi kM (zi kN (zi mA (zi tI_46 (zi zI_46 (zi cW (zi eJ (zi eF (zi eY (zi tI_49 (zi zI_49 (zi j7 (zi rC (zi rF (zi rV (zi tI_59 (zi zI_59 (zi tT (zi tK (zi tI_62 (zi zI_62 (zi kX (zi kY (zi kZ (zi k8 (zi k9 (zi lA (zi kU (zi tI_108 (zi zI_108 (zi aG3 (zi aG4 (zi aG5 (zi aG6 UR)))))))))))))))))))))))))))))))))))))))
set_option maxHeartbeats 4000000 in
theorem aRK(L:List Ss)(E:List Int)(i:Nat)(s:Ss)(hs:L[i]?=some s)(hok:fK s=true)(n:Int)(hn:0≤n)(hL:L.length≤8)(hE:E.length=L.length)(st0 st:aA)(qw qa:AV)(W:List Nat)(A:List (List Tm))(hWl:W.length≤100000)(hAl:A.length≤100000)(h:fS st0 st qw qa W (A.map bJ)) :
 aD prog 85 [.agg [.slice (L.map aX),qw,qa,.slice (E.map iv)],nv i,.int .i64 n] st (fun r st'=>∃qw' qa',r=.agg [.slice ((L.set i (m6 s n)).map aX),qw',qa',.slice ((if(m6 s n).fin≠-1 then E.set i (m6 s n).fin else E).map iv)]∧fS st0 st' qw' qa' (W++List.replicate (oW s n).length i) ((A++oW s n).map bJ)):=by
 have hsl:=aRJ s n hok hn
 have OY:=(vZ hok hn).l
 have OY:(oW s n).length≤20:=by unfold oW;rw[nH];omega
 have hil:i<L.length:=(eE.1 hs).1
 obtain⟨w1,w2,w3,w4,w5⟩:=h.w.shape
 obtain⟨a1,a2,a3,a4,a5⟩:=h.a.shape
 have hat:=bH (av:=aX) (P:=prog) j7 hs (iO s)
 refine aD.a3E ?_
 refine wF [1000000,3] 3 func85 ntmps85 rfl rfl ?_
 intro _
 simp -implicitDefEqProofs only[nv,aB,seval,rR]
 intro b3 h3 b6 h6
 have h63:b6≠b3:=by rintro rfl;rw[aA.aJ] at h6;cases h6
 rw[aA.aF _ _ h63] at h6
 obtain⟨z3,w3',a3'⟩:=h.fresh h3
 obtain⟨z6,w6',a6'⟩:=h.fresh h6
 have e3:∀X Y:AO,((st.aC b3 X).aC b6 Y) b3=some X:=fun X Y=>by rw[aA.aF _ _ h63.symm,aA.aJ]
 rw[aX] at hat
 simp only[aX] at hsl
 simp -implicitDefEqProofs only[e3,hat,aB,seval,rR]
 refine(hsl _).to ?_
 simp -implicitDefEqProofs only[e3,aB,↓aY,seval,rR]
 generalize m6 s n=z at *
 generalize oW s n=M at *
 have OX:L.map aX≠[]:=by intro e;have:=gI List.length e;simp at this;subst this;simp at hil
 have hT0:=(h.aC (o:=.cells [.slice (L.map aX),qw,qa,.slice (E.map iv)]) z3 w3' a3').aC (o:=.cells [.fslice [],.fslice [],.fslice [],.fslice []]) z6 w6' a6'
 have g3:=e3 (.cells [.slice (L.map aX),qw,qa,.slice (E.map iv)]) (.cells [.fslice [],.fslice [],.fslice [],.fslice []])
 have g6:((st.aC b3 (.cells [.slice (L.map aX),qw,qa,.slice (E.map iv)])).aC b6 (.cells [.fslice [],.fslice [],.fslice [],.fslice []])) b6=some (.cells [.fslice [],.fslice [],.fslice [],.fslice []]):=aA.aJ _ _ _
 clear e3
 generalize (st.aC b3 (.cells [.slice (L.map aX),qw,qa,.slice (E.map iv)])).aC b6 (.cells [.fslice [],.fslice [],.fslice [],.fslice []])=S0 at *
 change iZ prog 49 (bV S0 0 []) (bS 6 0 []) (.slice (L.map aX)) _
 refine f9 j7 rC rF rfl rfl (by intro e he;simp only[bY] at he;obtain⟨t,_,rfl⟩:=he;exact⟨iO t,K3 t⟩) (by simp) (fun h=>absurd rfl h) (by simp only[bL,aE];omega) (by simp only[bL,aE];omega) (fun bl hbl=>?_)
 rw[eU] at hbl ⊢
 replace hbl:=hbl OX
 rw[oF OX,j4 OX,aE]
 have hl6:bl≠b6:=by rintro rfl;rw[g6] at hbl;cases hbl
 have hl3:bl≠b3:=by rintro rfl;rw[g3] at hbl;cases hbl
 obtain⟨zl,wl',al'⟩:=hT0.fresh hbl
 have aVT:=kE (P:=prog) (b:=bl) (w:=6) (i:=i) (len:=L.length) j7 hil
 have mJ:=Q9 (av:=aX) (w:=6) iO (L:=L) (i:=i) z hil
 have hln:i*6+6≤((L.map aX).flatMap AV.cells).length:=by
  rw[lK (n:=6) (es:=L.map aX) (fun e he=>by simp only[bY] at he;obtain⟨t,_,rfl⟩:=he;exact iO t),aE]
  omega
 generalize hFL:(L.map aX).flatMap AV.cells=FL at *
 have f3:∀V:AO,(S0.aC bl V) b3=some (.cells [.slice (L.map aX),qw,qa,.slice (E.map iv)]):=fun V=>by rw[aA.aF _ _ hl3.symm,g3]
 have fl:∀V U:AO,((S0.aC bl V).aC b3 U) bl=some V:=fun V U=>by rw[aA.aF _ _ hl3,aA.aJ]
 simp -implicitDefEqProofs only[f3,fl,aVT,aP,aA.aJ,aB,seval,rR]
 refine⟨hln,?_⟩
 have aI7:List.take (i*6) FL++ [.slice (z.p.map bK),.slice (z.q.map Tm.av),.int .i64 z.dO,.int .i64 z.used,.int .i64 z.sent,.int .i64 z.fin]++List.drop (i*6+6) FL=((L.set i z).map aX).flatMap AV.cells:=mJ
 rw[aI7,aA.nZ _ _ _ hl3,eA]
 have hT1:=(hT0.aC (o:=.cells [.mslice bl 0 L.length 6,qw,qa,.slice (E.map iv)]) z3 w3' a3').aC (o:=.cells (((L.set i z).map aX).flatMap AV.cells)) zl wl' al'
 have u3:((S0.aC b3 (.cells [.mslice bl 0 L.length 6,qw,qa,.slice (E.map iv)])).aC bl (.cells (((L.set i z).map aX).flatMap AV.cells))) b3=some (.cells [.mslice bl 0 L.length 6,qw,qa,.slice (E.map iv)]):=by rw[aA.aF _ _ hl3.symm,aA.aJ]
 have ul:((S0.aC b3 (.cells [.mslice bl 0 L.length 6,qw,qa,.slice (E.map iv)])).aC bl (.cells (((L.set i z).map aX).flatMap AV.cells))) bl=some (.cells (((L.set i z).map aX).flatMap AV.cells)):=aA.aJ _ _ _
 have u6:((S0.aC b3 (.cells [.mslice bl 0 L.length 6,qw,qa,.slice (E.map iv)])).aC bl (.cells (((L.set i z).map aX).flatMap AV.cells))) b6=some (.cells [.fslice [],.fslice [],.fslice [],.fslice []]):=by rw[aA.aF _ _ hl6.symm,aA.aF _ _ h63,g6]
 generalize (S0.aC b3 (.cells [.mslice bl 0 L.length 6,qw,qa,.slice (E.map iv)])).aC bl (.cells (((L.set i z).map aX).flatMap AV.cells))=T1 at *
 generalize aH3:((L.set i z).map aX).flatMap AV.cells=FL2 at *
 clear g3 g6 f3 hT0 mJ aI7 hln hbl hFL
 have hML:M.length≤20:=OY
 refine dL (σ:=aA×AV×AV) [1000000] [1,3,6,7,8] M
  (fun k x=>fS st0 x.1 x.2.1 x.2.2 (W++List.replicate k i) ((A++M.take k).map bJ)∧x.1 b3=some (.cells [.mslice bl 0 L.length 6,x.2.1,x.2.2,.slice (E.map iv)])∧x.1 bl=some (.cells FL2)∧x.1 b6=some (.cells [.fslice [],.fslice [],.fslice [],.fslice []])∧(b3∉aS x.2.1∧b3∉aS x.2.2)∧(bl∉aS x.2.1∧bl∉aS x.2.2)∧(b6∉aS x.2.1∧b6∉aS x.2.2))
  (fun k x=>[(9,.int .i64 k)]) (fun k x=>x.1) (by decide +kernel) ⟨(T1,qw,qa),⟨by simpa using hT1,u3,ul,u6,⟨w3',a3'⟩,⟨wl',al'⟩,⟨w6',a6'⟩⟩,aN.mk (by simp -implicitDefEqProofs only[aB,↓aY,seval])⟩ (fun k x T hx hlt bB hdr hinv=>?_) (fun T hge hinv=>?_)
 · obtain⟨T,pw,pa⟩:=T
   obtain⟨i1,i2,i3,i4,⟨i5,i5'⟩,⟨i6,i6'⟩,⟨i7,i7'⟩⟩:=hinv
   simp only at i1 i2 i3 i4 i5 i5' i6 i6' i7 i7'
   obtain⟨w1,w2,w3,w4,w5⟩:=i1.w.shape
   obtain⟨a1,a2,a3,a4,a5⟩:=i1.a.shape
   have hw:=bG (n:=(k:Int)+1)
   have pW:=bH (av:=bJ) (P:=prog) gC hx rfl
   simp -implicitDefEqProofs only[bB,i2,aE,w1,aB,seval,rR]
   refine fH.append cW eJ eF rfl (by decide) i1.w rfl rfl (by simp only[aE,dP,List.length_replicate];omega) (fun q' T2 gK hf hn=>?_)
   have j3:=zP hn i5 i2
   have jl:=zP hn i6 i3
   have j6:=zP hn i7 i4
   have m2:=(hf b3 i5 j3).trans i2
   have m3:=(hf bl i6 jl).trans i3
   have m4:=(hf b6 i7 j6).trans i4
   obtain⟨y1,y2,y3,y4,y5⟩:=gK.shape
   have hTT:=(i1.QW (i:=i) gK hf hn).aC (o:=.cells [.mslice bl 0 L.length 6,q',pa,.slice (E.map iv)]) z3 j3 i5'
   simp -implicitDefEqProofs only[m2,aP,y4,y5,aB,seval,rR]
   have v2:(T2.aC b3 (.cells [.mslice bl 0 L.length 6,q',pa,.slice (E.map iv)])) b3=some (.cells [.mslice bl 0 L.length 6,q',pa,.slice (E.map iv)]):=aA.aJ _ _ _
   have v3:(T2.aC b3 (.cells [.mslice bl 0 L.length 6,q',pa,.slice (E.map iv)])) bl=some (.cells FL2):=by rw[aA.aF _ _ hl3,m3]
   have v4:(T2.aC b3 (.cells [.mslice bl 0 L.length 6,q',pa,.slice (E.map iv)])) b6=some (.cells [.fslice [],.fslice [],.fslice [],.fslice []]):=by rw[aA.aF _ _ h63,m4]
   generalize T2.aC b3 (.cells [.mslice bl 0 L.length 6,q',pa,.slice (E.map iv)])=T3 at *
   refine xZ [(0,1),(1,1),(2,1),(3,1),(4,1),(5,1),(6,1),(7,0),(8,1),(9,2)] [0,1,2,3,4,5,6,8] (dH.aC b3 (.cells [.mslice bl 0 L.length 6,q',pa,.slice (E.map iv)])) mixed (by decide +kernel) (by decide +kernel) (by decide +kernel) rfl (g8 v2) ?_
   simp -implicitDefEqProofs only[pW,a1,aA.aJ,aB,seval,rR]
   refine fH.append gC kM kN rfl (by decide) hTT.a rfl rfl (by simp only[aE,dP,dI];omega) (fun q2 T4 FQ hf2 hn2=>?_)
   have k3:=zP hn2 i5' v2
   have kl:=zP hn2 i6' v3
   have k6:=zP hn2 i7' v4
   have n2:=(hf2 b3 i5' k3).trans v2
   have n3:=(hf2 bl i6' kl).trans v3
   have n4:=(hf2 b6 i7' k6).trans v4
   obtain⟨x1,x2,x3,x4,x5⟩:=FQ.shape
   have hT4:=(hTT.KS (x:=bJ x) FQ hf2 hn2).aC (o:=.cells [.mslice bl 0 L.length 6,q',q2,.slice (E.map iv)]) z3 j3 k3
   simp -implicitDefEqProofs only[n2,aP,x4,x5,aB,seval,rR]
   refine⟨g8 n2,⟨(T4.aC b3 (.cells [.mslice bl 0 L.length 6,q',q2,.slice (E.map iv)]),q',q2),⟨?_,aA.aJ _ _ _,(aA.aF _ _ hl3).trans n3,(aA.aF _ _ h63).trans n4,⟨j3,k3⟩,⟨jl,kl⟩,⟨j6,k6⟩⟩,aN.mk (by simp -implicitDefEqProofs only[hw,aB,seval])⟩⟩
   have e1:W++List.replicate k i++ [i]=W++List.replicate (k+1) i:=by rw[kK,List.replicate_succ']
   have e2:(A++M.take k).map bJ++ [bJ x]=(A++M.take (k+1)).map bJ:=by rw[eH,hx];simp
   rw[e1,e2] at hT4
   exact hT4
 · obtain⟨T,pw,pa⟩:=T
   obtain⟨i1,i2,i3,i4,⟨i5,i5'⟩,⟨i6,i6'⟩,⟨i7,i7'⟩⟩:=hinv
   simp only at i1 i2 i3 i4 i5 i5' i6 i6' i7 i7'
   rw[dQ] at i1
   obtain⟨w1,w2,w3,w4,w5⟩:=i1.w.shape
   obtain⟨a1,a2,a3,a4,a5⟩:=i1.a.shape
   simp -implicitDefEqProofs only[hge,aE,aB,seval,rR]
   refine aT (fun hc=>?_) (fun hc=>?_)
   case refine_2=>
    have hc':z.fin= -1:=by simpa using hc
    simp -implicitDefEqProofs only[i2,i4,aP,w5,a5,aA.aJ,aB,seval,rR]
    refine⟨pw,pa,_,_,rfl,i1.aC z6 i7 i7',.inr ⟨bl,6,by rw[aE,List.length_set],by rw[aA.aF _ _ hl6,i3,aH3],zl,i6,i6',aLS _,aLT _⟩,.inl ?_⟩
    rw[aG (by rw[hc'];simp)]
   have hc':z.fin≠-1:=by simpa using hc
   have OW:E.map iv≠[]:=by intro e;have:=gI List.length e;simp at this;subst this;simp at hE;omega
   simp -implicitDefEqProofs only[i2,aB,seval,rR]
   change iZ prog 46 (bV T 0 []) (bS 1 0 []) (.slice (E.map iv)) _
   refine f9 cW eJ eF rfl rfl (by intro e he;simp only[bY] at he;obtain⟨t,_,rfl⟩:=he;exact⟨rfl,rfl⟩) (by simp) (fun h=>absurd rfl h) (by simp only[bL,aE];omega) (by simp only[bL,aE];omega) (fun be hbe=>?_)
   rw[eU] at hbe ⊢
   replace hbe:=hbe OW
   rw[oF OW,j4 OW,aE]
   have he6:be≠b6:=by rintro rfl;rw[i4] at hbe;cases hbe
   have he3:be≠b3:=by rintro rfl;rw[i2] at hbe;cases hbe
   have hel:be≠bl:=by rintro rfl;rw[i3] at hbe;cases hbe
   obtain⟨ze,we',ae'⟩:=i1.fresh hbe
   have O4:=kE (P:=prog) (b:=be) (w:=1) (i:=i) (len:=E.length) cW (by omega)
   have mJ:=Q9 (av:=iv) (w:=1) (fun _=>rfl) (L:=E) (i:=i) z.fin (by omega)
   have hln:i*1+1≤((E.map iv).flatMap AV.cells).length:=by
    rw[lK (n:=1) (es:=E.map iv) (fun e he=>by simp only[bY] at he;obtain⟨t,_,rfl⟩:=he;rfl),aE]
    omega
   generalize hFE:(E.map iv).flatMap AV.cells=FE at *
   have g3:∀V:AO,(T.aC be V) b3=some (.cells [.mslice bl 0 L.length 6,pw,pa,.slice (E.map iv)]):=fun V=>by rw[aA.aF _ _ he3.symm,i2]
   have ge:∀V U:AO,((T.aC be V).aC b3 U) be=some V:=fun V U=>by rw[aA.aF _ _ he3,aA.aJ]
   have g3':∀V U X:AO,(((T.aC be V).aC b3 U).aC be X) b3=some U:=fun V U X=>by rw[aA.aF _ _ he3.symm,aA.aJ]
   have g6':∀V U X:AO,(((T.aC be V).aC b3 U).aC be X) b6=some (.cells [.fslice [],.fslice [],.fslice [],.fslice []]):=fun V U X=>by rw[aA.aF _ _ he6.symm,aA.aF _ _ h63,aA.aF _ _ he6.symm,i4]
   simp -implicitDefEqProofs only[g3,ge,g3',g6',O4,aP,w5,a5,aA.aJ,aB,seval,rR]
   refine⟨hln,pw,pa,_,_,rfl,(((i1.aC ze we' ae').aC z3 i5 i5').aC ze we' ae').aC z6 i7 i7',.inr ⟨bl,6,by rw[aE,List.length_set],?_,zl,i6,i6',aLS _,aLT _⟩,.inr ⟨be,1,?_,?_,ze,we',ae',?_,?_⟩⟩
   · rw[aA.aF _ _ hl6,aA.aF _ _ hel.symm,aA.aF _ _ hl3,aA.aF _ _ hel.symm,i3,aH3]
   · rw[aH hc',aE,List.length_set]
   · rw[aA.aF _ _ he6,aA.aJ,aH hc']
     exact gI (fun x=>some (AO.cells x)) mJ
   · intro e he;simp only[bY] at he;obtain⟨t,_,rfl⟩:=he;rfl
   · intro e he;simp only[bY] at he;obtain⟨t,_,rfl⟩:=he;rfl
theorem fH.seen{h:bF}{st s2:aA}{w:Nat}{q:AV}{l:List AV}{c:Value}(S:cI h st)(D:aM st s2)(hA:fH st w q l)(hs2:∀b∈aS q,s2 b=none)(hj:∀e∈l,e.cD=false)(hw:∀e∈l,e.width=w)(x:VC h st q [c]):VC h s2 (.slice l) [c]:=by
 rcases hA with ⟨rfl,rfl⟩ | ⟨b,cs,rfl,hb,hcs,hcl⟩
 · unfold VC at x ⊢
   rcases x with x | ⟨b,off,e,l1,_⟩
   · exact .inl x
   · exact .inl ⟨⟨_,by simpa using e⟩,rfl⟩
 · have S1:=aLJ (l.length*w) hb S
   rw[hcs] at S1
   obtain⟨f1,f2⟩:=frozen S1 (aA.aJ _ _ _) hj
   have hs:s2 b=none:=hs2 b (by simp [aS])
   have D2:aM ((st.aC b (.cells (l.flatMap AV.cells))).erase b) s2:=fun x=>by
    unfold aA.erase
    by_cases hx:x=b
    · subst hx;rw[aH rfl];exact⟨fun _=>hs,fun o e=>by rw[hs] at e;cases e⟩
    · rw[aG hx,aA.aF _ _ hx];exact D x
   have hE:=cX.mono (D2.step h) b rfl _ _ f2
   unfold VC at x
   obtain⟨cap,hv,l1,l2,_⟩:=x
   unfold VC
   exact .inr ⟨b,0,cap,hv,l1,l2,hs,f1,⟨w,hw⟩,hE⟩
theorem aZM(l:List Nat):∀e∈l.map nv,e.cD=false:=by intro e h;simp only[bY] at h;obtain⟨t,_,rfl⟩:=h;rfl
theorem aKB(l:List Nat):∀e∈l.map nv,e.width=1:=by intro e h;simp only[bY] at h;obtain⟨t,_,rfl⟩:=h;rfl
theorem aD.a3F{P:Program}{g:FuncId}{args:List AV}{st:aA}{W:List Nat}{A:List (List Tm)}{EV:List AV}(x:aD P g args st (fun r st'=>∃qw qa q3,r=.tup [qw,qa,q3]∧(q3=.slice EV∨q3=.fslice EV)∧fS st st' qw qa W (A.map bJ))) :
 aD P g args st (fun r st'=>r=.tup [.slice (W.map nv),.slice (A.map bJ),.slice EV]∧st'=st):=by
 refine x.kP fun r st' ⟨qw,qa,q3,hr,hq3,hT⟩=>?_
 have D:aM st' st:=fun y=>⟨fun e=>(hT.fresh e).1,fun o e=>hT.k y o e⟩
 have aI3:∀h v,(q3.isAgg=iX v∧VC h st' q3 v.cells.toList)→((AV.slice EV).isAgg=iX v∧VC h st' (.slice EV) v.cells.toList):=fun h v y=>by
  rcases hq3 with rfl | rfl
  · exact y
  · exact⟨y.1,VC.soft (.fslice EV) _ y.2⟩
 refine⟨_,st,D.rX,fun h v S y=>?_,rfl,rfl⟩
 subst hr
 obtain⟨y0,y1⟩:=y
 refine⟨y0,?_⟩
 unfold VC at y1 ⊢
 obtain⟨vs,e,y2⟩:=y1
 simp only[dJ] at y2 ⊢
 obtain⟨v1,r1,rfl,⟨ya,ya'⟩,v2,r2,rfl,⟨yb,yb'⟩,v3,r3,rfl,yc,rfl⟩:=y2
 have one:∀ {q:AV} {v:Value},q.isAgg=false→q.isAgg=iX v→v.cells.toList= [v]:=fun {q v} h1 h2=>by
  rw[h1] at h2
  cases v<;>first | rfl | (simp [iX] at h2)
 have o1:=one hT.w.shape.1 ya
 have o2:=one hT.a.shape.1 yb
 rw[o1] at ya'
 rw[o2] at yb'
 refine⟨_,e,v1,_,rfl,⟨by rw[←ya,hT.w.shape.1];try rfl,?_⟩,v2,_,rfl,⟨by rw[←yb,hT.a.shape.1];try rfl,?_⟩,v3,_,rfl,⟨(aI3 h v3 yc).1,VC.mono (D.step h) _ _ (aI3 h v3 yc).2⟩,rfl⟩
 · rw[o1];exact fH.seen S D hT.w (fun b hb=>hT.n b (.inl hb)) (aZM _) (aKB _) ya'
 · rw[o2];exact fH.seen S D hT.a (fun b hb=>hT.n b (.inr hb)) (aO8 _) (NF _) yb'
theorem fS.under{st T:aA}{qw qa:AV}{W:List Nat}{A:List AV}{b:Nat}{X:AO}(h:fS st T qw qa W A)(hb:T b=some X)(h0:st b=none)(hw:b∉aS qw)(ha:b∉aS qa):fS (st.aC b X) T qw qa W A:=by
 refine⟨h.w,h.a,h.d,fun x hx=>?_,fun x o hx=>?_⟩
 · rw[aA.aF _ _ (by rintro rfl;rcases hx with h' | h';exact hw h';exact ha h')];exact h.n x hx
 · by_cases hxb:x=b
   · subst hxb;rw[aA.aJ] at hx;rw[hb,hx]
   · rw[aA.aF _ _ hxb] at hx;exact h.k x o hx
theorem fS.over{st T:aA}{qw qa:AV}{W:List Nat}{A:List AV}{b:Nat}{X:AO}(h:fS (st.aC b X) T qw qa W A)(h0:st b=none):fS st T qw qa W A∧T b=some X∧b∉aS qw∧b∉aS qa:=by
 have hn:∀y,y∈aS qw∨y∈aS qa→y≠b:=fun y hy e=>by have:=h.n y hy;rw[e,aA.aJ] at this;cases this
 refine⟨⟨h.w,h.a,h.d,fun x hx=>?_,fun x o hx=>?_⟩,h.k b X (aA.aJ _ _ _),fun hm=>hn b (.inl hm) rfl,fun hm=>hn b (.inr hm) rfl⟩
 · have:=h.n x hx;rwa [aA.aF _ _ (hn x hx)] at this
 · exact h.k x o (by rw[aA.aF _ _ (by rintro rfl;rw[h0] at hx;cases hx)];exact hx)
theorem aYQ{φ:AF}{T T2:aA}{b:Nat}{cs cs':List AV}(hb:T b=some (.cells cs))(h2:T2 b=some (.cells cs'))(hl:cs'.length=cs.length)(D:∀x,x≠b→(T x=none→T2 x=none)∧∀o,T2 x=some o→T x=some o)
 (hv:∀h vs,cI h T→aM T (fun x=>if x=b then some (.cells cs) else T2 x)→bU h T h T2→bU h (fun x=>if x=b then some (.cells cs) else T2 x) h T2→aZ h T cs vs→aZ h T2 cs' vs):fL φ T φ T2:=fun h tmps S F=>by
 have D2:aM T (fun x=>if x=b then some (.cells cs) else T2 x):=fun x=>by
  by_cases hx:x=b
  · subst hx
    exact⟨fun e=>(by rw[hb] at e;cases e),fun o e=>(by simp only[aH] at e;rw[hb,e])⟩
  · simp only[aG hx]
    exact D x hx
 have step:bU h T h T2:=bU.of fun x hx=>by
  have:x≠b:=by rintro rfl;rw[hb] at hx;cases hx
  exact(D x this).1 hx
 refine⟨fun y0 o hx=>?_,step,fun d=>(F d).mono step⟩
 by_cases e:y0=b
 · subst e
   rw[h2] at hx
   cases hx
   obtain⟨hlt,c0,t,e1,e2,vs,e3,e4⟩:=S y0 _ hb
   exact⟨hlt,c0,t,e1,by rw[hl];exact e2,vs,e3,hv h vs S D2 step (bU.of fun x hx=>by
    by_cases hxb:x=y0
    · subst hxb;simp at hx
    · simpa [hxb] using hx) e4⟩
 · obtain⟨hlt,y⟩:=S y0 o ((D y0 e).2 o hx)
   exact⟨hlt,kL.mono step rfl y⟩
theorem aU5{L:List Ss}{i:Nat}{s z:Ss}(hs:L[i]?=some s)(hf:s.fin= -1):(if z.fin≠-1 then(L.map Ss.fin).set i z.fin else L.map Ss.fin)=(L.set i z).map Ss.fin:=by
 rw[List.map_set]
 by_cases h:z.fin= -1
 · rw[aG (by simp [h]),h]
   refine(A3 fun j=>?_).symm
   by_cases hij:i=j
   · subst hij
     have hi:i<(L.map Ss.fin).length:=by rw[aE];exact(eE.1 hs).1
     rw[List.getElem?_set_self hi,kS,hs,oB,hf]
   · rw[List.getElem?_set_ne hij]
 · rw[aH h]
abbrev mR:=zi tI_3 (zi zI_3 (zi a7 (zi tI_4 (zi zI_4 (zi cL (zi tI_26 (zi zI_26 (zi gC (zi kM (zi kN (zi mA (zi tI_46 (zi zI_46 (zi cW (zi eJ (zi eF (zi eY (zi tI_49 (zi zI_49 (zi j7 (zi rC (zi rF (zi rV (zi tI_62 (zi zI_62 (zi kX (zi kY (zi kZ (zi k8 (zi k9 (zi lA (zi kU (zi tI_108 (zi zI_108 (zi aG3 (zi aG4 (zi aG5 (zi aG6 UR))))))))))))))))))))))))))))))))))))))
set_option maxHeartbeats 4000000 in
theorem aSW(L:List Ss)(n:Int)(hL:L.length≤1048576)(hs:∀s∈L,RM s)(st:aA):aD prog 32 [.slice (L.map aX),.int .i64 n] st (fun r st'=>r=.tup [.slice ((iV L n).1.map nv),.slice ((iV L n).2.1.map bJ),.slice ((iV L n).2.2.map iv)]∧st'=st):=by
 have how:=aRN L hL hs
 have hv:=fun s=>aSX s
 refine aD.a3F ?_
 have nQ:o7 L n=false→∀T:aA,(∀b o,st b=some o→T b=some o)→∃qw qa q3,AV.tup [.fslice [],.fslice [],.fslice []]=.tup [qw,qa,q3]∧(q3=.slice ((iV L n).2.2.map iv)∨q3=.fslice ((iV L n).2.2.map iv))∧fS st T qw qa (iV L n).1 ((iV L n).2.1.map bJ):=fun h T hk=>by
  unfold iV
  rw[h,aG (by decide)]
  exact⟨_,_,_,rfl,.inr rfl,⟨.inl ⟨rfl,rfl⟩,.inl ⟨rfl,rfl⟩,by simp [aS],by simp [aS],hk⟩⟩
 have CL:∀(b:Nat) (o:AO),st b=none→∀x p,st x=some p→(st.aC b o) x=some p:=fun b o h x p hx=>by rw[aA.aF _ _ (by rintro rfl;rw[h] at hx;cases hx)];exact hx
 refine wF [1000000,7] 2 func32 ntmps32 rfl rfl ?_
 intro _
 simp -implicitDefEqProofs only[aB,seval]
 refine(how _).to ?_
 simp -implicitDefEqProofs only[aP,aB,↓aY,seval,mR]
 intro b7 h7
 refine cU (fun h1=>?_) (fun h1=>?_)
 case refine_2=>
  simp -implicitDefEqProofs only[h1,aB,seval,mR]
  exact nQ (by simp at h1;unfold o7;rw[rB (by omega)];try rfl) _ (CL b7 _ h7)
 have h1':1≤n:=by simp at h1;omega
 simp -implicitDefEqProofs only[h1,aE,aB,seval,mR]
 refine aT (fun h2=>?_) (fun h2=>?_)
 · simp -implicitDefEqProofs only[aB,seval,mR]
   exact nQ (by simp at h2;unfold o7;rw[rB (show ¬L.length≤8 by omega)];simp) _ (CL b7 _ h7)
 have h2':L.length≤8:=by simp at h2;omega
 simp -implicitDefEqProofs only[aB,seval]
 have u7:(st.aC b7 (.cells [.slice (L.map aX),.fslice [],.fslice [],.fslice []])) b7=some (.cells [.slice (L.map aX),.fslice [],.fslice [],.fslice []]):=aA.aJ _ _ _
 have k7:=CL b7 (.cells [.slice (L.map aX),.fslice [],.fslice [],.fslice []]) h7
 generalize st.aC b7 (.cells [.slice (L.map aX),.fslice [],.fslice [],.fslice []])=T0 at *
 refine dL (σ:=aA×AV) [1000000,7] [0,1,7] L
  (fun k x=>fS st x.1 (.fslice []) x.2 [] ((L.take k).map fun s=>iv s.fin)∧x.1 b7=some (.cells [.slice (L.map aX),.fslice [],.fslice [],x.2])∧b7∉aS x.2∧∀s∈L.take k,fK s=true)
  (fun k x=>[(4,.fslice []),(5,.fslice []),(6,.fslice []),(8,.int .i64 k)]) (fun k x=>x.1) (by decide +kernel) ⟨(T0,.fslice []),⟨⟨.inl ⟨rfl,rfl⟩,.inl ⟨rfl,rfl⟩,by simp [aS],by simp [aS],k7⟩,u7,by simp [aS],by simp⟩,aN.mk (by simp -implicitDefEqProofs only[aB,↓aY,seval])⟩ (fun k s T hx hlt bB hdr hinv=>?_) (fun T hge hinv=>?_)
 · obtain⟨T,q⟩:=T
   obtain⟨i1,i2,i3,i4⟩:=hinv
   simp only at i1 i2 i3
   obtain⟨a1,a2,a3,a4,a5⟩:=i1.a.shape
   have hw:=bG (n:=(k:Int)+1)
   have pW:=bH (av:=aX) (P:=prog) j7 hx (iO s)
   have hvs:=hv s
   rw[aX] at pW hvs
   simp -implicitDefEqProofs only[bB,pW,aE,aB,seval,mR]
   refine(hvs _).to ?_
   cases hok:fK s with
   | false=>
    simp -implicitDefEqProofs only[aB,seval,mR]
    exact nQ (by
     unfold o7
     have:L.all fK=false:=by
      cases hA:L.all fK with
      | false=>rfl
      | true=>have:=eD.1 hA s (cG hx);rw[hok] at this;cases this
     rw[this];simp) _ i1.k
   | true=>
    simp -implicitDefEqProofs only[aB,seval]
    refine xZ [(0,1),(1,1),(2,1),(3,1),(4,1),(5,1),(6,1),(7,1),(8,0),(9,1),(10,2)] [0,1,2,3,4,5,6,7,9] (dH.aC b7 (.cells [.slice (L.map aX),.fslice [],.fslice [],q])) mixed (by decide +kernel) (by decide +kernel) (by decide +kernel) rfl (g8 i2) ?_
    simp -implicitDefEqProofs only[pW,a1,aA.aJ,aB,seval,mR]
    refine fH.append cW eJ eF rfl (by decide) i1.a rfl rfl (by simp only[aE,dI];omega) (fun q' T2 gK hf hn=>?_)
    have j3:=zP hn i3 i2
    have m2:=(hf b7 i3 j3).trans i2
    obtain⟨y1,y2,y3,y4,y5⟩:=gK.shape
    have hTT:=(i1.KS (x:=iv s.fin) gK hf hn).aC (o:=.cells [.slice (L.map aX),.fslice [],.fslice [],q']) h7 (by simp [aS]) j3
    simp -implicitDefEqProofs only[hw,m2,aP,y4,y5,aB,seval,mR]
    refine⟨g8 m2,⟨(T2.aC b7 (.cells [.slice (L.map aX),.fslice [],.fslice [],q']),q'),⟨?_,aA.aJ _ _ _,j3,fun s' hs'=>?_⟩,aN.mk (by simp -implicitDefEqProofs only[aB,seval])⟩⟩
    · rw[eH,hx]
      simpa using hTT
    · rw[eH,hx] at hs'
      rcases dS.1 hs' with hs' | hs'
      · exact i4 s' hs'
      · simp at hs';rw[hs'];exact hok
 · obtain⟨T,q⟩:=T
   obtain⟨i1,i2,i3,i4⟩:=hinv
   simp only at i1 i2 i3 i4
   rw[dQ] at i1 i4
   have hok:o7 L n=true:=KY.2 ⟨h1',h2',i4⟩
   simp -implicitDefEqProofs only[hge,aE,aB,seval,mR]
   have hI0:=jK.start i4
   have hml:=KI i4
   have u0:(st.aC b7 (.cells [.slice (L.map aX),.fslice [],.fslice [],.slice ((L.map Ss.fin).map iv)])) b7=some (.cells [.slice (L.map aX),.fslice [],.fslice [],.slice ((L.map Ss.fin).map iv)]):=aA.aJ _ _ _
   refine pC (σ:=aA×AV×AV×gY×Bool) [1000000,7] [0,1,4,5,6,7]
    (fun x=>fS st x.1 x.2.1 x.2.2.1 x.2.2.2.1.w (x.2.2.2.1.a.map bJ)∧x.1 b7=some (.cells [.slice (x.2.2.2.1.l.map aX),x.2.1,x.2.2.1,.slice ((x.2.2.2.1.l.map Ss.fin).map iv)])∧(b7∉aS x.2.1∧b7∉aS x.2.2.1)∧jK L x.2.2.2.1∧rounds n (gR x.2.2.2.1.l) x.2.2.2.1=fY n L∧(x.2.2.2.2=false→runs x.2.2.2.1.l=false))
    (fun x=>[(9,.bool x.2.2.2.2)]) (fun x=>x.1) (fun x=>gR x.2.2.2.1.l+(if x.2.2.2.2=true then 1 else 0)) (by decide +kernel)
    ⟨(st.aC b7 (.cells [.slice (L.map aX),.fslice [],.fslice [],.slice ((L.map Ss.fin).map iv)]),.fslice [],.fslice [],⟨L,[],[]⟩,true),⟨⟨.inl ⟨rfl,rfl⟩,.inl ⟨rfl,rfl⟩,by simp [aS],by simp [aS],CL b7 _ h7⟩,u0,⟨by simp [aS],by simp [aS]⟩,hI0,rfl,fun h=>by cases h⟩,?_⟩ ?_
   · refine(aYQ i2 u0 rfl (fun x hx=>?_) (fun h vs S D2 step step2 y=>?_)).trans (fL.jQ (by simp -implicitDefEqProofs only[aB,seval]))
     · rw[aA.aF _ _ hx]
       exact⟨fun e=>(i1.fresh e).1,fun o e=>i1.k x o e⟩
     · simp only[aZ] at y ⊢
       obtain⟨c1,r1,rfl,z1,c2,r2,rfl,z2,c3,r3,rfl,z3,c4,r4,rfl,z4,rfl⟩:=y
       refine⟨c1,_,rfl,VC.mono step _ _ z1,c2,_,rfl,VC.mono step _ _ z2,c3,_,rfl,VC.mono step _ _ z3,c4,_,rfl,?_,rfl⟩
       have aXC:∀b∈aS q,(fun x=>if x=b7 then some (.cells [.slice (L.map aX),.fslice [],.fslice [],q]) else(st.aC b7 (.cells [.slice (L.map aX),.fslice [],.fslice [],.slice ((L.map Ss.fin).map iv)])) x) b=none:=fun b hb=>by
        have hbb:b≠b7:=by rintro rfl;exact i3 hb
        simp only[aG hbb]
        rw[aA.aF _ _ hbb]
        exact i1.n b (.inr hb)
       have:=fH.seen S D2 i1.a aXC (by intro e he;simp only[bY] at he;obtain⟨t,_,rfl⟩:=he;rfl) (by intro e he;simp only[bY] at he;obtain⟨t,_,rfl⟩:=he;rfl) z4
       rw[show(L.map fun s=>iv s.fin)=(L.map Ss.fin).map iv by rw[r8];try rfl] at this
       exact VC.mono step2 _ _ this
   rintro⟨T,pw,pa,x,more⟩ ⟨i1,i2,⟨i3,i3'⟩,i4,i5,i6⟩
   simp only at i1 i2 i3 i3' i4 i5 i6
   obtain⟨w1,w2,w3,w4,w5⟩:=i1.w.shape
   obtain⟨a1,a2,a3,a4,a5⟩:=i1.a.shape
   simp only
   simp -implicitDefEqProofs only[aB,seval]
   cases more with
   | false=>
    simp -implicitDefEqProofs only[aE,aB,seval,mR]
    have hx:x=fY n L:=by rw[←i5,GP (i6 rfl)]
    have hV:iV L n=((fY n L).w,(fY n L).a,(fY n L).l.map Ss.fin):=by unfold iV;rw[aH hok]
    rw[hV]
    subst hx
    refine aT (fun hc=>?_) (fun hc=>?_)
    · have hL0:(fY n L).l= []:=nG (by rw[i4.len];simpa using hc)
      simp -implicitDefEqProofs only[i2,aP,aB,seval,mR]
      refine xZ [(0,1),(1,1),(2,1),(3,1),(4,1),(5,1),(6,1),(7,1),(8,1)] [0,1,2,3,4,5,6,7,8] (dH.aC b7 (.cells [.slice ((fY n L).l.map aX),pw,pa,.fslice []])) mixed (by decide +kernel) (by decide +kernel) (by decide +kernel) rfl (g8 (aA.aJ _ _ _)) ?_
      simp -implicitDefEqProofs only[w1,w3,a1,a3,aA.aJ,aB,seval,mR]
      exact⟨pw,pa,_,rfl,.inr (by rw[hL0];try rfl),i1.aC h7 i3 i3'⟩
    · skip
      simp -implicitDefEqProofs only[aB,seval]
      refine xZ [(0,1),(1,1),(2,1),(3,1),(4,1),(5,1),(6,1),(7,1),(8,1)] [0,1,2,3,4,5,6,7,8] (dH.aC b7 (.cells [.slice ((fY n L).l.map aX),pw,pa,.slice (((fY n L).l.map Ss.fin).map iv)])) mixed (by decide +kernel) (by decide +kernel) (by decide +kernel) rfl (g8 i2) ?_
      simp -implicitDefEqProofs only[w1,w3,a1,a3,aA.aJ,aB,seval,mR]
      exact⟨pw,pa,_,rfl,.inl rfl,i1⟩
   | true=>
    simp -implicitDefEqProofs only[aB,seval]
    refine dL (σ:=aA×AV×AV) [1000000,7] [0,1,4,5,6,7,52] L
     (fun k y=>fS st y.1 y.2.1 y.2.2 (iW n x k).w ((iW n x k).a.map bJ)∧y.1 b7=some (.cells [.slice ((iW n x k).l.map aX),y.2.1,y.2.2,.slice (((iW n x k).l.map Ss.fin).map iv)])∧(b7∉aS y.2.1∧b7∉aS y.2.2))
     (fun k y=>[(9,.bool (runs (x.l.take k))),(10,.int .i64 k)]) (fun k y=>y.1) (by decide +kernel) ⟨(T,pw,pa),⟨i1,i2,i3,i3'⟩,aN.mk (by simp -implicitDefEqProofs only[jJ,runs,List.any_nil,aB,↓aY,seval])⟩ (fun k s0 y hx hlt bB hdr hinv=>?_) (fun y hge hinv=>?_)
    · obtain⟨T2,pw,pa⟩:=y
      obtain⟨j1,j2,j3,j3'⟩:=hinv
      simp only at j1 j2 j3 j3'
      obtain⟨hIk,_,_⟩:=i4.turns h1' k
      have hlen:=L9 n x k
      rw[i4.len] at hlen
      obtain⟨s,hsk⟩:∃s,(iW n x k).l[k]?=some s:=⟨_,dZ (by rw[hlen];exact hlt)⟩
      have hxk:x.l[k]?=some s:=by rw[←L8 n x k (cO _)];exact hsk
      have gQ:runs (x.l.take (k+1))=(runs (x.l.take k)||l7 s):=by unfold runs;rw[eH,hxk,List.any_append];simp
      have CM:=hIk.ok s (cG hsk)
      have hsu:=DQ n x k
      have hbd:=hIk.bd
      have hwl:=hIk.wl
      generalize iW n x (k+1)=Y' at *
      generalize iW n x k=Y at *
      obtain⟨w1,w2,w3,w4,w5⟩:=j1.w.shape
      obtain⟨a1,a2,a3,a4,a5⟩:=j1.a.shape
      have hw:=bG (n:=(k:Int)+1)
      have pW:=bH (av:=aX) (P:=prog) j7 hsk (iO s)
      rw[aX] at pW
      simp -implicitDefEqProofs only[bB,j2,pW,hlen,aE,aB,seval,mR]
      refine aT (fun hf=>?_) (fun hf=>?_)
      case refine_2=>
       have hf':s.fin≠-1:=by simpa using hf
       have hr:l7 s=false:=by unfold l7;simpa using hf'
       rw[hr,AU] at gQ
       rw[DP hsk hf'] at hsu
       simp -implicitDefEqProofs only[hw,aB,seval]
       exact⟨(T2,pw,pa),⟨by rw[hsu];exact j1,by rw[hsu];exact j2,j3,j3'⟩,aN.mk (by simp -implicitDefEqProofs only[gQ,aB,seval])⟩
      have hf':s.fin= -1:=by simpa using hf
      have hr:l7 s=true:=by unfold l7;simpa using hf'
      rw[hr,DX] at gQ
      rw[G9 hsk hf',DD (BT.2 ⟨CM,by omega,hf'⟩)] at hsu
      have rG:=aRK Y.l (Y.l.map Ss.fin) k s hsk CM n (by omega) (by omega) (by rw[aE]) _ T2 pw pa Y.w Y.a (by omega) (by omega) (j1.under j2 h7 j3 j3')
      rw[aU5 hsk hf'] at rG
      simp only[nv] at rG
      simp -implicitDefEqProofs only[j2,aB,seval,mR]
      refine rG.mono ?_
      rintro _ T3 ⟨qw,qa,rfl,hT3⟩
      obtain⟨g1,g2,g3,g4⟩:=hT3.over h7
      obtain⟨w1,w2,w3,w4,w5⟩:=g1.w.shape
      obtain⟨a1,a2,a3,a4,a5⟩:=g1.a.shape
      simp -implicitDefEqProofs only[hw,g2,aP,w5,a5,aB,seval,mR]
      exact⟨(T3.aC b7 (.cells [.slice ((Y.l.set k (m6 s n)).map aX),qw,qa,.slice (((Y.l.set k (m6 s n)).map Ss.fin).map iv)]),qw,qa),⟨by rw[hsu];exact g1.aC h7 g3 g4,by rw[hsu];exact aA.aJ _ _ _,g3,g4⟩,aN.mk (by simp -implicitDefEqProofs only[gQ,aB,seval])⟩
    · obtain⟨T2,qw,qa⟩:=y
      obtain⟨j1,j2,j3,j3'⟩:=hinv
      simp only at j1 j2 j3 j3'
      have hlen:=L9 n x L.length
      rw[i4.len] at hlen
      rw[show iW n x L.length=mT n x by unfold mT;rw[i4.len]] at j1 j2 hlen
      rw[show x.l.take L.length=x.l by rw[←i4.len,dQ]]
      obtain⟨r1,r2⟩:=i4.round h1'
      simp -implicitDefEqProofs only[hge,j2,hlen,aE,aB,seval,mR]
      refine⟨(T2,qw,qa,mT n x,runs x.l),?_,⟨j1,j2,⟨j3,j3'⟩,r1,?_,fun h=>?_⟩,aN.mk (by simp -implicitDefEqProofs only[aB,seval])⟩
      · simp only
        cases hr:runs x.l with
        | true=>have:=r2 hr;simp only[dX];omega
        | false=>
         have:mT n x=x:=AI hr _
         rw[this]
         simp
      · cases hr:runs x.l with
        | true=>exact(aK7 h1' i4 hr).trans i5
        | false=>rw[show mT n x=x from AI hr _];exact i5
      · rw[show mT n x=x from AI h _];exact h
end Go.AW
namespace Go.AW
section
variable {h:bF} {st:aA}
end
def MY(n k:Nat)(q o:AV):Prop:=(k≤n∧∃b w,q=.mslice b 0 n w∧o=.mslice b (k*w) (n - k) w)∨(k=n∧o=.fslice [])
def eR(st s0:aA)(os us:List AV):Prop:=∀h vs,cI h st→cV h st os vs→cV h s0 us vs
theorem eR.nil{st s0:aA}:eR st s0 [] []:=fun _ _ _ y=>y
theorem eR.cons{st s0:aA}{o a:AV}{os us:List AV}(x:∀h v,cI h st→aQ h st o v→aQ h s0 a v)(h:eR st s0 os us):eR st s0 (o::os) (a::us):=fun hp vs S y=>by
 simp only[cV] at y ⊢
 obtain⟨v,r,rfl,y1,y2⟩:=y
 exact⟨v,r,rfl,x hp v S y1,h hp r S y2⟩
theorem eR.same{st:aA}{x:AV}{os us:List AV}(h:eR st dH os us):eR st dH (x::os) (x::us):=
 eR.cons (fun hp v S y=>y.mono ((aM.dH st).step hp)) h
theorem eR.own{st:aA}{a o:AV}{bs:List Nat}{os us:List AV}(hO:aV st a o bs)(h:eR st dH os us):eR st dH (o::os) (a::us):=
 eR.cons (fun hp v S y=>hO.S6 S (aM.dH st) (fun _ _=>rfl) y) h
theorem aL2{n k:Nat}{q o:AV}(h:MY n k q o):o.isAgg=false∧o.cD=false∧o.width=1∧o.cells= [o]∧o.storable=true:=by
 rcases h with ⟨_,b,w,_,rfl⟩ | ⟨_,rfl⟩<;>exact⟨rfl,rfl,rfl,rfl,rfl⟩
theorem aD.qD{P:Program}{g:FuncId}{args args':List AV}{st:aA}{r:AV}(x:∀s,aD P g args s (fun r' s'=>r'=r∧s'=s))(hv:eR st dH args' args)(hs:r.fZ=true):aD P g args' st (fun r' s'=>r'=r∧s'=st):=
 aD.OP hs (x dH) hv

end Go.AW
namespace Go.AW
open Go.Proofs.Tryz
theorem Made.aZY{st S:aA}{a r:AV}{bs:List Nat}(hnd:bs.Nodup)(hH:∀b∈bs,st b=none)(hO:aV S a r bs)(hk:∀x o,st x=some o→S x=some o):∃s2,aM S s2∧Made st a r s2:=by
 refine⟨fun x=>if x∈bs then S x else st x,fun x=>?_,bs,hnd,hH,aV.aU _ _ _ (fun b hb=>aH hb) hO,fun b hb=>aG hb⟩
 dsimp only
 by_cases hx:x∈bs
 · rw[aH hx]
   exact⟨fun h=>h,fun o h=>h⟩
 · rw[aG hx]
   refine⟨fun h=>?_,fun o h=>hk x o h⟩
   cases hs:st x with
   | none=>rfl
   | some o=>rw[hk x o hs] at h;cases h
def TL(st:aA)(L:List AV)(k:Nat)(o:AV)(st':aA):Prop:=∃q,Made st (.slice L) q st'∧MY L.length k q o
def G6(b n k:Nat):AV:=if k<n then .mslice b (k*1) (n - k) 1 else .eslice
theorem aOU{P:Program}{t:TypeId}{ag:Bool}{φ:AF}{y:Operand}{b n k:Nat}(hI:eI P t=some (ag,1))(hk:k≤n)(hn:0<n)(h:φ.eval y=.int .i64 (k:Int)):fD P φ t (.mslice b 0 n 1) (some y) none none=some (G6 b n k):=by
 have h1:dB φ none n n=some n:=rfl
 have h3:dB φ (some y) 0 n=some k:=by
  simp only[dB,h]
  rw[aH ⟨by omega,by omega⟩]
  rw[jV]
 unfold fD mF
 rw[aG (by simp [nT])]
 simp only[hI,h1,h3]
 rw[aH trivial]
 unfold G6
 by_cases h0:k=0
 · subst h0
   rw[aH rfl,aH hn]
   simp
 · rw[aG h0]
   by_cases hlt:k<n
   · rw[aH hlt,aH hlt,gU]
   · rw[aG hlt,aG hlt]
theorem aOT{P:Program}{t:TypeId}{ag:Bool}{w:Nat}{φ:AF}{y:Operand}(hI:eI P t=some (ag,w))(h:φ.eval y=.int .i64 0):fD P φ t (.fslice []) (some y) none none=some (.fslice []):=by
 have h1:dB φ none 0 0=some 0:=rfl
 have h3:dB φ (some y) 0 0=some 0:=by
  simp only[dB,h]
  rw[aH ⟨by omega,by omega⟩]
  try rfl
 unfold fD
 rw[aH ⟨rfl,rfl⟩]
 simp only[hI,h1,h3]
theorem aUB{P:Program}{t:TypeId}:jZ P t .eslice=match P.underlying t with | some (.slice _)=>some (.int .i64 ((0:Nat):Int)) | _=>none:=rfl
abbrev SL:=zi tI_26 (zi zI_26 (zi gC (zi kM (zi kN mA))))
theorem aOQ{P:Program}{t:TypeId}{ag:Bool}{φ:AF}{y z:Operand}{b n off:Nat}(hI:eI P t=some (ag,1))(h:φ.eval y=.int .i64 (n:Int))(h':φ.eval z=.int .i64 (n:Int)):fD P φ t (.mslice b off n 1) none (some y) (some z)=some (.mslice b off n 1):=by
 have h3:∀y,φ.eval y=.int .i64 (n:Int)→dB φ (some y) n n=some n:=fun y h=>by
  simp only[dB,h]
  rw[aH ⟨by omega,by omega⟩]
  rw[jV]
 unfold fD mF
 rw[aG (by simp [nT])]
 simp only[hI,h3 y h,h3 z h']
 rw[aH trivial]
theorem aOR{P:Program}{t:TypeId}{ag:Bool}{w:Nat}{φ:AF}{y z:Operand}(hI:eI P t=some (ag,w))(h:φ.eval y=.int .i64 0)(h':φ.eval z=.int .i64 0):fD P φ t .eslice none (some y) (some z)=some (.fslice []):=by
 have h3:∀y,φ.eval y=.int .i64 0→dB φ (some y) 0 0=some 0:=fun y h=>by
  simp only[dB,h]
  rw[aH ⟨by omega,by omega⟩]
  try rfl
 unfold fD mF
 rw[aG (by simp [nT])]
 simp only[hI,h3 y h,h3 z h']
theorem aOS{P:Program}{t:TypeId}{ag:Bool}{w:Nat}{φ:AF}{y z:Operand}(hI:eI P t=some (ag,w))(h:φ.eval y=.int .i64 0)(h':φ.eval z=.int .i64 0):fD P φ t (.fslice []) none (some y) (some z)=some (.fslice []):=by
 have h3:∀y,φ.eval y=.int .i64 0→dB φ (some y) 0 0=some 0:=fun y h=>by
  simp only[dB,h]
  rw[aH ⟨by omega,by omega⟩]
  try rfl
 have h4:dB φ none 0 0=some 0:=rfl
 unfold fD mF
 rw[aG (by simp [nT])]
 simp only[hI,bL,h3 y h,h3 z h',h4]
 simp [uH]
theorem aQP(b off n:Nat)(st:aA):aD prog 172 [.mslice b off n 1] st (fun r st'=>r=.mslice b off n 1∧st'=st):=by
 refine wF [1000000] 1 func172 ntmps172 rfl rfl ?_
 intro _
 have hcl:=fun(φ:AF) (y z:Operand) (h:φ.eval y=.int .i64 (n:Int)) (h':φ.eval z=.int .i64 (n:Int))=>aOQ (P:=prog) (t:=26) (b:=b) (off:=off) gC h h'
 simp -implicitDefEqProofs only[hcl,aB,seval,SL]
theorem aQN(st:aA):aD prog 172 [.eslice] st (fun r st'=>r=.fslice []∧st'=st):=by
 refine wF [1000000] 1 func172 ntmps172 rfl rfl ?_
 intro _
 have hcl:=fun(φ:AF) (y z:Operand) (h:φ.eval y=.int .i64 0) (h':φ.eval z=.int .i64 0)=>aOR (P:=prog) (t:=26) gC h h'
 simp -implicitDefEqProofs only[hcl,aUB,aB,↓aY,seval,SL]
theorem aQO(st:aA):aD prog 172 [.fslice []] st (fun r st'=>r=.fslice []∧st'=st):=by
 refine wF [1000000] 1 func172 ntmps172 rfl rfl ?_
 intro _
 have hcl:=fun(φ:AF) (y z:Operand) (h:φ.eval y=.int .i64 0) (h':φ.eval z=.int .i64 0)=>aOS (P:=prog) (t:=26) gC h h'
 simp -implicitDefEqProofs only[hcl,bL,aB,seval,SL]
abbrev a6O:=zi tI_29 (zi zI_29 (zi eP (zi gO (zi gP (zi gV (zi tI_31 (zi zI_31 (zi aR (zi bO (zi bP (zi cF (zi tI_62 (zi zI_62 (zi kX (zi kY (zi kZ (zi k8 (zi k9 (zi lA kU)))))))))))))))))))
theorem a19{st:aA}{L:List (List Tm)}{o:AV}{bs:List Nat}{k:Nat}(hO:aV st (.slice (L.map bJ)) o bs)(hN:L.map bJ= []→o=.fslice [])(hk:k≤L.length) :
 ∃o1 o2,(∀(φ:AF) (y:Operand),φ.eval y=.int .i64 (k:Int)→fD prog φ 26 o (some y) none none=some o1)∧jZ prog 26 o=some (.int .i64 (L.length:Int)) ∧
  (∀s,aD prog 172 [o1] s (fun r s'=>r=o2∧s'=s))∧MY (L.map bJ).length k o o2∧(o1.isAgg=false∧o1.cD=false∧o1.width=1∧o1.cells= [o1]):=by
 have hun:prog.underlying 26=some (.slice 59):=by kernel_rfl
 by_cases hL:L= []
 · subst hL
   obtain rfl:=hN rfl
   obtain rfl:k=0:=by simpa using hk
   exact⟨.fslice [],.fslice [],fun φ y h=>aOT gC h,by simp only[jZ,hun];rfl,fun s=>aQO s,.inr ⟨rfl,rfl⟩,rfl,rfl,rfl,rfl⟩
 have hl:0<L.length:=List.length_pos_iff.2 hL
 simp only[aV] at hO
 rcases hO with ⟨h,_,_⟩ | ⟨b,bs',os,w,rfl,_,_,_,hw⟩
 · exact absurd (by simpa using h) hL
 · obtain⟨x,l,rfl⟩:∃x l,L=x::l:=by cases L with | nil=>exact absurd rfl hL | cons x l=>exact⟨x,l,rfl⟩
   obtain rfl:w=1:=(hw (bJ x) (by simp)).symm
   generalize hLL:x::l=L at *
   rw[aE]
   refine⟨G6 b L.length k,if k<L.length then .mslice b (k*1) (L.length - k) 1 else .fslice [],fun φ y h=>aOU gC hk hl h,by simp only[jZ,hun],fun s=>?_,?_,?_⟩
   · unfold G6
     by_cases h:k<L.length
     · rw[aH h,aH h];exact aQP _ _ _ s
     · rw[aG h,aG h];exact aQN s
   · by_cases h:k<L.length
     · rw[aH h];exact .inl ⟨hk,b,1,rfl,rfl⟩
     · rw[aG h];exact .inr ⟨by omega,rfl⟩
   · unfold G6
     split<;>exact⟨rfl,rfl,rfl,rfl⟩
abbrev G4:=zi tI_3 (zi zI_3 (zi a7 (zi tI_26 (zi zI_26 (zi gC (zi kM (zi kN (zi mA (zi tI_62 (zi zI_62 (zi kX (zi kY (zi kZ (zi k8 (zi k9 (zi lA kU))))))))))))))))
set_option maxHeartbeats 2000000 in
theorem aSQ(s:Ss)(n:Int)(h:fK s=true)(hn:0≤n)(st:aA):aD prog 91 [aX s,.int .i64 n] st (fun r st'=>∃o,r=.tup [aX (m6 s n),o]∧TL st ((dV s (fX s n)).1.map bJ) s.sent.toNat o st'):=by
 have hF:=vZ h hn
 have hs0:=hF.s0
 have hs1:=hF.s1
 have hfl:=hF.l
 have hu0:=hF.u0
 have hu1:=hF.u1
 have hu2:=hF.u2
 have hq1:=hF.q1
 have hf:=VB ⟨s.p,s.q,s.dO,fX s n,s.sent,s.fin⟩ (fX s n)
 rw[show dV ⟨s.p,s.q,s.dO,fX s n,s.sent,s.fin⟩ (fX s n)=dV s (fX s n) from rfl] at hf
 unfold m6
 generalize dV s (fX s n)=T at *
 obtain⟨L,e⟩:=T
 simp only at hf hs1 hfl ⊢
 have hnu:fX s n=if n<s.dO - s.used then s.used+n else s.dO:=rfl
 generalize fX s n=u at *
 obtain⟨p,q,i0,i1,i2,i3⟩:=s
 simp only[aX] at *
 obtain⟨k,rfl⟩:=AZ hs0
 obtain⟨m,hm,hmu⟩:∃m,(if i0 - i1<n then i0 - i1 else n)=m∧i1+m=u:=by
  refine⟨_,rfl,?_⟩
  rw[hnu]
  split<;>split<;>omega
 have hw0:=bG (n:=i0 - i1)
 have hw1:=bG (n:=i1+m)
 rw[hmu] at hw1
 refine aD.oJ ?_
 refine wF [1000000,2] 2 func91 ntmps91 rfl rfl ?_
 intro _
 simp -implicitDefEqProofs only[aB,seval,G4]
 intro b2 h2 b4 h4
 have h42:b4≠b2:=by rintro rfl;rw[aA.aJ] at h4;cases h4
 have h4':st b4=none:=by rwa [aA.aF _ _ h42] at h4
 simp -implicitDefEqProofs only[aP,h42.symm,hw0,hm,hmu,hw1,aB,seval,G4]
 refine(hf _).mono ?_
 rintro r s1 ⟨o,rfl,⟨bs,m1,m2,m3,m4⟩,hN⟩
 have hb2:b2∉bs:=fun hq=>by have:=m2 b2 hq;simp [d8] at this
 have hb4:b4∉bs:=fun hq=>by have:=m2 b4 hq;simp [d8,h42] at this
 have e2:=m4 b2 hb2
 have e4:=m4 b4 hb4
 simp only[d8,h42,h42.symm,dX,cS] at e2 e4
 obtain⟨hqc,hqs,hqa,hqw,hqj⟩:=aV.oY m3
 obtain⟨o1,o2,hsl,hlen,hcl,hT,ho1,ho2,ho3,ho4⟩:=a19 (k:=k) m3 hN (by omega)
 obtain⟨ht1,ht2,ht3,ht4,ht5⟩:=aL2 hT
 simp -implicitDefEqProofs only[aP,e2,d8,hsl,hlen,eA,aB,seval,G4]
 refine xZ [(0,1),(1,1),(2,0),(3,0),(4,1)] [0,1,4] (dH.aC b2 (.cells [.slice (p.map bK),.slice (q.map Tm.av),.int .i64 i0,.int .i64 u,.int .i64 (L.length:Int),.int .i64 e])) mixed (by decide +kernel) (by decide +kernel) (by decide +kernel) rfl (g8 (by simp only[d8,dX])) ?_
 simp -implicitDefEqProofs only[d8,aB,seval,G4]
 refine(hcl _).to ?_
 simp -implicitDefEqProofs only[aP,h42,e4,d8,ht2,aB,seval,G4]
 refine⟨g8 (by simp only[d8,dX]),g8 (by simp only[d8,h42.symm,dX,cS]),?_⟩
 generalize hS:aA.aC (aA.aC s1 b2 _) b4 _=S
 have hSx:∀x,x≠b2→x≠b4→S x=s1 x:=fun x h2 h4=>by rw[←hS,aA.aF _ _ h4,aA.aF _ _ h2]
 have hne:∀x,st x≠none→x≠b2∧x≠b4:=fun x h=>⟨fun e=>h (e▸h2),fun e=>h (e▸h4')⟩
 have hin:∀x∈bs,x≠b2∧x≠b4:=fun x hx=>⟨fun e=>hb2 (e▸hx),fun e=>hb4 (e▸hx)⟩
 have hH:∀x∈bs,st x=none:=fun x hx=>by
  have:=m2 x hx
  rwa [aA.aF _ _ (hin x hx).1,aA.aF _ _ (hin x hx).2,aA.aF _ _ (hin x hx).1] at this
 obtain⟨s2,hd,hm2⟩:=Made.aZY (st:=st) (S:=S) m1 hH (aV.aU _ _ _ (fun x hx=>hSx x (hin x hx).1 (hin x hx).2) m3) (fun x o hx=>by
  have hx0:st x≠none:=by rw[hx];exact fun e=>nomatch e
  have hxb:x∉bs:=fun hq=>hx0 (hH x hq)
  rw[hSx x (hne x hx0).1 (hne x hx0).2,m4 x hxb,aA.aF _ _ (hne x hx0).1,aA.aF _ _ (hne x hx0).2,aA.aF _ _ (hne x hx0).1,hx])
 exact⟨s2,hd,_,rfl,o,hm2,by rw[jV];exact hT⟩
theorem EL(l:List Tm):(bJ l).width=1:=rfl
abbrev a24:=zi tI_4 (zi zI_4 (zi cL (zi tI_31 (zi zI_31 (zi aR (zi bO (zi bP (zi cF (zi tI_59 (zi zI_59 (zi tT tK)))))))))))
theorem aQT(l l':List Tm)(st:aA):aD prog 76 [bJ l,bJ l'] st (fun r st'=>r=.bool (g7 Tm.same l l')∧st'=st):=by
 refine wF [1000000] 2 func76 ntmps76 rfl rfl ?_
 intro _
 simp -implicitDefEqProofs only[bJ,aB,seval,a24]
 refine(II l l' _ fun x _ y st=>ER x y st).to ?_
 simp -implicitDefEqProofs only[aB,seval]
 refine aT (fun h=>?_) (fun h=>?_)
 · simp -implicitDefEqProofs only[aB,seval]
   simp at h;simp [h]
 · simp -implicitDefEqProofs only[aB,seval]
   simp at h;simp [h]
abbrev SK:=zi tI_3 (zi zI_3 (zi a7 (zi tI_4 (zi zI_4 (zi cL (zi tI_26 (zi zI_26 (zi gC (zi kM (zi kN (zi mA (zi tI_59 (zi zI_59 (zi tT tK))))))))))))))
theorem aQU(l l':List (List Tm))(st:aA)(hc:∀x∈l,∀(y:(List Tm)) (st:aA),aD prog 76 [bJ x,bJ y] st (fun r st'=>r=.bool ((g7 Tm.same) x y)∧st'=st)) :
 aD prog 21 [.slice (l.map bJ),.slice (l'.map bJ)] st (fun r st'=>r=.bool (g7 (g7 Tm.same) l l')∧st'=st):=by
 refine wF [] 2 func21 ntmps21 rfl rfl ?_
 simp only[dK,AV.fits,dT,aE]
 intro ⟨⟨hl,_⟩,⟨hl',_⟩⟩
 simp -implicitDefEqProofs only[aE,aB,seval,SK]
 refine⟨fun h4=>?_,fun h4=>?_⟩
 · simp -implicitDefEqProofs only[aB,seval]
   simp only[gW,cM] at h4
   rw[B8 _ (show l.length≠l'.length by omega)]
 simp -implicitDefEqProofs only[aB,seval]
 simp only[kJ,bM] at h4
 have h4':l.length=l'.length:=by omega
 refine n6 (α:=Nat) [] (fun i=>i≤l.length∧∀(j:Nat) (x y:(List Tm)),j<i→l[j]?=some x→l'[j]?=some y→(g7 Tm.same) x y=true)
  (fun i=>[(0,.slice (l.map bJ)),(1,.slice (l'.map bJ)),(5,.int .i64 i)]) (fun _=>st) (fun i=>l.length - i) (by decide +kernel)
  ⟨0,⟨by omega,by intro j x y h;omega⟩,aN.mk (by simp -implicitDefEqProofs only[aB,↓aY,seval])⟩ ?_
 intro i ⟨hi,dC⟩
 simp -implicitDefEqProofs only[aE,aB,seval,SK]
 refine⟨fun h5=>?_,fun h5=>?_⟩
 case refine_2=>
  simp -implicitDefEqProofs only[aB,seval]
  simp only[cM,gX] at h5
  rw[B5 _ h4' (fun j x y h6 h7=>dC j x y (by have:=(eE.1 h6).1;omega) h6 h7)]
 simp only[bM,gX] at h5
 obtain⟨x,hx⟩:∃x,l[i]?=some x:=⟨_,dZ h5⟩
 obtain⟨y,hy⟩:∃y,l'[i]?=some y:=⟨_,dZ (h4'▸h5)⟩
 simp -implicitDefEqProofs only[aB,seval]
 refine EN mixed (by decide +kernel) (by decide +kernel) ?_
 simp -implicitDefEqProofs only[bH (av:=bJ) gC hx (EL x),bH (av:=bJ) gC hy (EL y),aB,seval,SK]
 refine(hc x (cG hx) y st).to ?_
 simp -implicitDefEqProofs only[aB,seval]
 refine⟨fun h6=>?_,fun h6=>?_⟩
 · simp -implicitDefEqProofs only[aB,seval]
   have h7:(g7 Tm.same) x y=false:=by simpa using h6
   rw[B6 _ i x y hx hy h7]
 have h7:(g7 Tm.same) x y=true:=by simpa using h6
 simp -implicitDefEqProofs only[aB,seval]
 refine⟨i+1,by omega,⟨by omega,fun j u v hj hu hv=>?_⟩,aN.mk ?_⟩
 · rcases lI j i with h8 | h8
   · exact dC j u v h8 hu hv
   · obtain rfl:j=i:=by omega
     rw[hx] at hu;rw[hy] at hv;cases hu;cases hv;exact h7
 · have:=bG (n:=(i:Int)+1)
   simp -implicitDefEqProofs only[this,aB,seval]
theorem aQV(l:List (List Tm))(st:aA):aD prog 21 [.slice (l.map bJ),.slice (l.map bJ)] st (fun r st'=>r=.bool true∧st'=st):=by
 refine(aQU l l st fun x _ y st=>aQT x y st).mono ?_
 rintro _ _ ⟨rfl,rfl⟩
 refine⟨?_,rfl⟩
 rw[(B7 (fun x _ y=>B7 (fun x _ y=>Tm.zZ x y))).2 rfl]
def iI(l:List Tm):Nat:=aL Tm.dG l
def sG(l:List Tm)(j:Int):List Tm:=fW Tm.mark Tm.dG l j
abbrev a23:=zi tI_3 (zi zI_3 (zi a7 (zi tI_26 (zi zI_26 (zi gC (zi kM (zi kN (zi mA (zi tI_31 (zi zI_31 (zi aR (zi bO (zi bP (zi cF (zi tI_59 (zi zI_59 (zi tT tK)))))))))))))))))
theorem aSE(l:List (List Tm))(j:Int)(o:AV)(bs:List Nat)(st:aA)(hO:aV st (.slice (l.map bJ)) o bs)(hnd:bs.Nodup)(hj0:0≤j)(hj1:j+aL iI l≤1099511627776) :
 aD prog 26 [o,.int .i64 j] st (HN st (.slice ((fW sG iI l j).map bJ)) o bs (j+aL iI l)):=by
 obtain⟨hlen,haL⟩:=hO.len
 rw[aE] at hlen
 have haL:=haL prog 26 _ mA
 rw[aE] at haL
 refine wF [1000000] 2 func26 ntmps26 rfl rfl ?_
 simp only[dK]
 intro ⟨hf,_⟩
 have hl:=hlen hf
 clear hf hlen
 simp -implicitDefEqProofs only[aB,seval]
 refine dL (σ:=List (List Tm)×Int×aA) [1000000] [0,4] l
  (fun i p=>p.1.length=i∧p.1++fW sG iI (l.drop i) p.2.1=fW sG iI l j∧0≤p.2.1∧p.2.1+aL iI (l.drop i)=j+aL iI l∧aV p.2.2 (.slice ((p.1++l.drop i).map bJ)) o bs∧∀q,q∉bs→p.2.2 q=st q)
  (fun i p=>[(1,.int .i64 p.2.1),(5,.int .i64 i)]) (fun _ p=>p.2.2) (by decide +kernel)
  ⟨([],j,st),⟨rfl,rfl,hj0,rfl,hO,fun _ _=>rfl⟩,aN.mk (by simp -implicitDefEqProofs only[aB,↓aY,seval])⟩ (fun i x p hx hlt bB hdr hinv=>?_) (fun p hge hinv=>?_)
 case refine_2=>
  obtain⟨done,k,s⟩:=p
  obtain⟨i1,i2,i3,i4,i5,i6⟩:=hinv
  simp only at i1 i2 i3 i4 i5 i6
  simp -implicitDefEqProofs only[haL,hge,aB,seval]
  simp only[gT,fW,fA,aL] at i2 i4 i5
  exact⟨by rw[←i4];simp,by rw[←i2];exact i5,i6⟩
 obtain⟨done,k,s⟩:=p
 obtain⟨i1,i2,i3,i4,i5,i6⟩:=hinv
 simp only at i1 i2 i3 i4 i5 i6
 rw[hdr] at i2 i4 i5
 simp only[aL] at i4
 rw[show iI x=aL Tm.dG x from rfl] at i4
 have lZ:=GB (av:=bJ) (done:=done) (x:=x) (rest:=l.drop (i+1))
 obtain⟨b,bs',w,A,oe,bo,B,rfl,hbs,hsb,hA,hoe,hbo,hbn,jR,hw,hi,oO⟩:=i5.focus hnd lZ
 rw[EL] at hw
 subst hw
 rw[i1] at hA
 obtain⟨q,rfl,hq⟩:=KO.1 hoe
 have vI:((done++(x:List Tm)::l.drop (i+1)).map bJ).length=l.length:=by
  rw[aE,dP,a8,nH,i1];omega
 rw[vI] at haL oO ⊢
 have hat:=kE (P:=prog) (b:=b) (len:=l.length) (w:=1) (i:=i) gC hlt
 have hw4:=bG (n:=(i:Int)+1)
 obtain⟨e1,e2,e3,e4,e5,e6⟩:=xK (B:=B) hA
 have hqa:q.isAgg=false:=(aV.shape hq).1
 simp -implicitDefEqProofs only[haL,bB,hat,hsb,e6,hqa,oA,aB,seval,a23]
 refine(EU x k q bo _ hq hbo (by omega) (by omega)).mono ?_
 rintro _ s2 ⟨rfl,hq2,hk2⟩
 simp -implicitDefEqProofs only[hw4,aB,seval]
 refine⟨(done++ [sG x k],k+(aL Tm.dG x:Int),s2),⟨?_,?_,?_,?_,?_,?_⟩,aN.mk (by simp -implicitDefEqProofs only[aB,seval])⟩
 · simp [i1]
 · simp only[fW] at i2
   rw[←i2]
   simp [iI]
 · simp only;omega
 · simp only;omega
 · have:=oO s2 (bJ (sG x k)) (.agg [q]) (EL _)
    (fun x hx hxb hxo=>hk2 x hxo)
    (by rw[hk2 b hbn,hsb])
    (KO.2 ⟨q,rfl,hq2⟩)
   rw[GC] at this
   exact this
 · intro y hx
   show s2 y=st y
   rw[hk2 y (fun h=>hx (jR y h)),i6 y hx]
abbrev aMZ:=zi tI_3 (zi zI_3 (zi a7 (zi tI_26 (zi zI_26 (zi gC (zi kM (zi kN (zi mA (zi tI_31 (zi zI_31 (zi aR (zi bO (zi bP (zi cF (zi tI_59 (zi zI_59 (zi tT tK)))))))))))))))))
theorem VF(l:List (List Tm))(j:Int)(st:aA)(h0:0≤j)(h1:j+aL iI l≤1099511627776) :
 aD prog 27 [.slice ((fW sG iI l j).map bJ),.int .i64 j] st (fun r st'=>r=.int .i64 (j+aL iI l)∧st'=st):=by
 refine wF [1000000] 2 func27 ntmps27 rfl rfl ?_
 simp only[dK,AV.fits,dT,aE,GA]
 intro ⟨hl,_⟩
 have hML:(fW sG iI l j).length=l.length:=GA _ _ _ _
 simp -implicitDefEqProofs only[aB,seval]
 refine dL (σ:=Unit) [1000000] [0] (fW sG iI l j) (fun i _=>True) (fun i _=>[(1,.int .i64 (j+aL iI (l.take i))),(4,.int .i64 0),(5,.int .i64 i)]) (fun _ _=>st) (by decide +kernel) ⟨(),trivial,aN.mk (by simp -implicitDefEqProofs only[aL,jJ,Int.add_zero,aB,↓aY,seval])⟩ (fun i x _ hx hlt bB hdr _=>?_) (fun _ hge _=>?_)
 case refine_2=>
  rw[hML] at hge
  simp -implicitDefEqProofs only[hge,dQ,aE,hML,aB,seval,aMZ]
 rw[hML] at hlt bB
 obtain⟨y,hy⟩:∃y,l[i]?=some y:=⟨_,dZ hlt⟩
 have hxy:x=sG y (j+aL iI (l.take i)):=by
  have:=QA sG iI l j i
  rw[hdr,pE hlt,fW,(eE.1 hy).2] at this
  exact(uK this).1
 have hs:=uD iI hy
 rw[show iI y=aL Tm.dG y from rfl] at hs
 have hat:=bH (av:=bJ) gC hx (EL x)
 rw[hxy,sG,bJ] at hat
 obtain⟨hs1,hs2⟩:=hs
 generalize hk:j+(aL iI (l.take i):Int)=m at *
 have hw:=bG (n:=(i:Int)+1)
 simp -implicitDefEqProofs only[bB,f6,aE,hML,hat,aB,seval,aMZ]
 refine(VG y m _ (by omega) (by omega)).to ?_
 have p5:¬(m+(aL Tm.dG y:Int)<0):=by omega
 simp -implicitDefEqProofs only[p5,gB,aB,seval]
 refine⟨(),aN.mk ?_⟩
 have e:j+(aL iI (l.take (i+1)):Int)=m+(aL Tm.dG y:Int):=by omega
 simp -implicitDefEqProofs only[hw,e,aB,seval]
end Go.AW
namespace Go.AW
theorem aD.a09{P:Program}{g:FuncId}{args args':List AV}{st:aA}{xs:List AV}(x:∀s,aD P g args s (qN s xs))(hv:eR st dH args' args):aD P g args' st (qN st xs):=by
 refine aD.frame (aM.dH st) ((x dH).mono ?_) hv
 rintro r s1 ⟨os,bs,hr,h1,_,h3,h4⟩ hfr
 have hso:=aW.fZ _ _ _ h3
 have hbs:∀b∈bs,st b=none:=fun b hb=>hfr b rfl (by
  obtain⟨cs,e,_⟩:=hso.2 b hb
  rw[e];simp)
 have hfb:∀b∈bs,(st.frame dH s1) b=s1 b:=fun b hb=>by simp only[aA.frame,hbs b hb];split<;>simp_all
 refine⟨by rw[hr];unfold AV.fZ;exact hso.1.1,fun b o e=>?_,os,bs,hr,h1,hbs,aW.aU _ _ _ hfb h3,fun b hb=>?_⟩
 · by_cases hb:b∈bs
   · obtain⟨cs,e2,hs⟩:=hso.2 b hb
     rw[e] at e2;cases e2;exact hs
   · rw[h4 b hb] at e;cases e
 · have:=h4 b hb
   simp only[aA.frame,dH] at this ⊢
   cases hst:st b with
   | none=>exact this
   | some o=>rfl
end Go.AW
namespace Go.AW
open Go.Proofs.Tryz


theorem RP:∀t:Tm,t.sz≤1048576→t.small=true:=by
 intro t
 induction t using Tm.ind with
 | h k n s ts ih=>
  intro h
  rw[Tm.K7] at h
  simp only[Tm.small,G7,cT,bM,eD]
  exact⟨by omega,fun x hx=>ih x hx (by have:=qF (f:=Tm.sz) hx;omega)⟩
theorem a12{s:Ss}(h:lE s≤1048576):s.p.length≤1048576∧(∀c∈s.p,WT c)∧s.q.length≤1048576∧∀t∈s.q,t.small=true:=by
 unfold lE v6 rN at h
 refine⟨by omega,fun c hc=>?_,by omega,fun t ht=>RP t (by have:=qF (f:=Tm.sz) ht;omega)⟩
 have h1:=qF (f:=lY) hc
 have h2:lY c=c.1.sz+(c.2.length+aL Tm.sz c.2):=rfl
 exact⟨RP _ (by omega),by omega,fun x hx=>RP x (by have:=qF (f:=Tm.sz) hx;omega)⟩
theorem a11(s:Ss):K4 s≤3*lE s:=by
 have h1:=WS s.p
 have h2:=aJ8 s.q
 unfold K4 lE
 omega

theorem aW.app{s:aA}:∀ {xs os ys os':List AV} {bs bs':List Nat},aW s xs os bs→aW s ys os' bs'→aW s (xs++ys) (os++os') (bs++bs')
 | [],os,ys,os',bs,bs',h,h'=>by
  simp only[aW] at h
  rw[h.1,h.2]
  exact h'
 | a::xs,os,ys,os',bs,bs',h,h'=>by
  simp only[aW] at h
  obtain⟨o,os1,b1,b2,rfl,rfl,h1,h2⟩:=h
  simp only[gH,aW]
  exact⟨o,os1++os',b1,b2++bs',rfl,by rw[kK],h1,aW.app h2 h'⟩
theorem aW.drop{s:aA}:∀ {xs os:List AV} {bs:List Nat} (k:Nat),aW s xs os bs→∃bs',aW s (xs.drop k) (os.drop k) bs'∧bs'.Sublist bs
 | xs,os,bs,0,h=>⟨bs,h,List.Sublist.refl _⟩
 | [],os,bs,k+1,h=>by
  simp only[aW] at h
  rw[h.1,h.2]
  exact⟨[],by simp only[List.drop_nil,aW,and_self],List.Sublist.refl _⟩
 | a::xs,os,bs,k+1,h=>by
  simp only[aW] at h
  obtain⟨o,os1,b1,b2,rfl,rfl,h1,h2⟩:=h
  obtain⟨bs',h3,h4⟩:=aW.drop k h2
  exact⟨bs',h3,h4.trans (List.sublist_append_right _ _)⟩
structure a4I (st:aA) (b2:Nat) (es os:List AV) (bs:List Nat) (T:aA):Prop where
 own:aW T es os bs
 nd:bs.Nodup
 new:∀b∈bs,st b=none
 old:∀b,b∉bs→T b=st b
 fr:T b2=none
end Go.AW
