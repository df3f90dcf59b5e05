import Derived.Test.YtimfffmcljmfgaaGreatDoorUxi
import Derived.Test.YtimfffmcljmfgaaGreatDoorUxh
import Derived.Test.YtimfffmcljmfgaaGreatDoorUxl
import Derived.Test.YtimfffmcljmfgaaGreatDoorUxf
set_option linter.unusedSimpArgs false
set_option linter.unusedVariables false
set_option maxRecDepth 100000
namespace Go.AW
open Go.Proofs.Tryz
abbrev aTU:=zi tI_3 (zi zI_3 (zi aY (zi tI_46 (zi zI_46 (zi cZ (zi eG (zi eE eT)))))))
theorem aA4(l:List Int)(v:Int)(st:aA):aD prog 128 [.slice (l.map iv),.int .i64 v] st (fun r st'=>r=.int .i64 (fE v l 0)∧st'=st):=by
 refine wF [] 2 func128 ntmps128 rfl rfl ?_
 simp only[eW,AV.fits,fC,aF]
 intro ⟨hl,_⟩
 simp -implicitDefEqProofs only[aF,aB,seval,aTU]
 refine d8 (σ:=Unit) [] [0,1,7] l (fun i _=>fE v l 0=fE v (l.drop i) i) (fun i _=>[(8,.int .i64 i)]) (fun _ _=>st) (by decide +kernel) ⟨(),rfl,aM.mk (by simp -implicitDefEqProofs only[aB,↓aU,seval])⟩ (fun i x _ hx hlt bL hdr hinv=>?_) (fun _ hge hinv=>?_)
 case refine_2=>
  simp -implicitDefEqProofs only[hge,aB,seval]
  rw[hinv,kK]
  try rfl
 rw[hdr,fE] at hinv
 have hw:=bE (n:=(i:Int)+1)
 simp -implicitDefEqProofs only[bL,bP (av:=iv) cZ hx rfl,aB,seval,aTU]
 refine aP (fun h=>?_) (fun h=>?_)
 · simp only[bK] at h
   rw[aH h] at hinv
   simp -implicitDefEqProofs only[hinv,aB,seval]
 · simp only[dJ] at h
   rw[aE h] at hinv
   simp -implicitDefEqProofs only[aB,seval]
   exact⟨(),by rw[hinv],aM.mk (by simp -implicitDefEqProofs only[hw,aB,seval])⟩
theorem aXG(l:List Int)(v:Int)(st:aA):aD prog 272 [.slice (l.map iv),.int .i64 v] st (fun r st'=>r=.bool (decide (v∈l))∧st'=st):=by
 refine wF [] 2 func272 ntmps272 rfl rfl ?_
 intro _
 simp -implicitDefEqProofs only[aB,seval]
 refine(aA4 l v st).to ?_
 simp -implicitDefEqProofs only[aP8 v l 0 (Int.le_refl 0),aB,seval]
theorem a8Z{st:aA}{b:Nat}{l:List Int}{os xs:List AV}(h:Seen (aZ st b (l.map iv)) d9 os xs):Seen (aZ st b (l.map iv)) d9 (bU 1 b (l.map iv)::os) (.slice (l.map iv)::xs):=
 Seen.own (aRG (aW.flat (by simp [AV.flat])) (by intro e h;simp only[cH] at h;obtain⟨t,_,rfl⟩:=h;rfl)) h
def Grown(st:aA)(l:List Int)(r:AV)(st':aA):Prop:=∃b',r=bU 1 b' (l.map iv)∧st'=aZ st b' (l.map iv)∧(l.map iv≠[]→st b'=none)
abbrev tT:=zi tI_3 (zi zI_3 (zi aY (zi tI_4 (zi zI_4 (zi cJ (zi tI_31 (zi zI_31 (zi aQ (zi bS (zi bT (zi cI (zi tI_46 (zi zI_46 (zi cZ (zi eG (zi eE (zi eT (zi tI_66 (zi zI_66 (zi bZ (zi b9 (zi cA (zi cB bY)))))))))))))))))))))))
theorem aA6:∀(t:Tm) (l:List Int) (b:Nat) (st:aA),(l.map iv≠[]→st b=none)→l.length+t.nodes≤1099511627776→aD prog 209 [t.av,bU 1 b (l.map iv)] (aZ st b (l.map iv)) (Grown st (t.vars l))
 | .mk k n s ts,l,b,st,hb,hsz=>by
  have IH:=fun(x:Tm) (hx:x∈ts)=>aA6 x
  simp only[Tm.vars]
  rw[Tm.iD] at hsz
  refine wF [] 2 func209 ntmps209 rfl rfl ?_
  simp only[bA,eW,AV.fits,fC,aF]
  intro ⟨⟨_,_,_,hl,_⟩,_⟩
  simp -implicitDefEqProofs only[aB,seval,tT]
  refine cX (fun h=>?_) (fun h=>?_)
  · simp only[bK] at h
    subst h
    simp -implicitDefEqProofs only[aB,seval,tT]
    refine(aD.see (fun s=>aXG l n s) (a8Z (Seen.same .nil)) rfl).to ?_
    simp -implicitDefEqProofs only[aB,seval]
    refine aP (fun h=>?_) (fun h=>?_)
    · simp only[mG,dJ] at h
      rw[aH h]
      simp -implicitDefEqProofs only[aB,seval,tT]
      refine eQ cZ eG eE rfl rfl (f9 rfl rfl) (by intro e h;simp only[cH] at h;obtain⟨t,_,rfl⟩:=h;rfl) hb (by simp;omega) (by simp;omega) (fun b' hb'=>?_)
      rw[show l.map iv++ [AV.int .i64 n]=(l++ [n]).map iv by simp] at hb' ⊢
      simp -implicitDefEqProofs only[aB,seval,tT]
      refine d8 (σ:=List Int×Nat) [] [4,23,24] ts (fun i p=>cG (ts.drop i) p.1=cG ts (l++ [n])∧p.1.length+bD Tm.nodes (ts.drop i)≤1099511627776∧(p.1.map iv≠[]→st p.2=none)) (fun i p=>[(1,bU 1 p.2 (p.1.map iv)),(25,.int .i64 i)]) (fun _ p=>aZ st p.2 (p.1.map iv)) (by decide +kernel)
       ⟨(l++ [n],b'),⟨rfl,by simp;omega,hb'⟩,aM.mk (by simp -implicitDefEqProofs only[aF,aB,↓aU,seval])⟩ (fun i x p hx hlt bL hdr hinv=>?_) (fun p hge hinv=>?_)
      case refine_2=>
       simp -implicitDefEqProofs only[aF,hge,aB,seval]
       rw[←hinv.1,kK]
       exact⟨p.2,rfl,rfl,hinv.2.2⟩
      obtain⟨acc,b⟩:=p
      rw[hdr] at hinv
      obtain⟨i1,i2,i3⟩:=hinv
      simp only[bD] at i2
      have hw:=bE (n:=(i:Int)+1)
      simp -implicitDefEqProofs only[aF,bL,bP (av:=Tm.av) aQ hx (aO x),bG,aO,aB,seval,tT]
      intro b2 hb2
      obtain⟨hn2,hne⟩:=IE hb2
      have hc2: [AV.int IntKind.i64 0,AV.int IntKind.i64 0,AV.str ⟨#[]⟩,AV.fslice []].length=4:=rfl
      try simp -implicitDefEqProofs only[dS,BE (x:=x.av.cells) (cL x) hc2,cL,cP,gI (cL x),gG (bG x),cY,aB,↓aU,seval,tT]
      rw[mP hne]
      refine(IH x (cM hx) acc b _ (fun h=>by rw[aA.aG _ _ (dH (hne h))];exact i3 h) (by omega)).mono ?_
      rintro _ _ ⟨b',rfl,rfl,hb'⟩
      simp -implicitDefEqProofs only[hw,aB,seval]
      obtain⟨hd,CZ⟩:=MB (o:=.cells x.av.cells) hn2 hb'
      have hvl:=Tm.HL x acc
      refine⟨(x.vars acc,b'),⟨i1,by simp only;omega,CZ⟩,aM.drop hd (by simp -implicitDefEqProofs only[aB,seval])⟩
    · simp only[rM,bK] at h
      rw[aE (by simp [h])]
      simp -implicitDefEqProofs only[aB,seval,tT]
      refine d8 (σ:=List Int×Nat) [] [4,23,24] ts (fun i p=>cG (ts.drop i) p.1=cG ts (l)∧p.1.length+bD Tm.nodes (ts.drop i)≤1099511627776∧(p.1.map iv≠[]→st p.2=none)) (fun i p=>[(1,bU 1 p.2 (p.1.map iv)),(25,.int .i64 i)]) (fun _ p=>aZ st p.2 (p.1.map iv)) (by decide +kernel)
       ⟨(l,b),⟨rfl,by simp;omega,hb⟩,aM.mk (by simp -implicitDefEqProofs only[aF,aB,↓aU,seval])⟩ (fun i x p hx hlt bL hdr hinv=>?_) (fun p hge hinv=>?_)
      case refine_2=>
       simp -implicitDefEqProofs only[aF,hge,aB,seval]
       rw[←hinv.1,kK]
       exact⟨p.2,rfl,rfl,hinv.2.2⟩
      obtain⟨acc,b⟩:=p
      rw[hdr] at hinv
      obtain⟨i1,i2,i3⟩:=hinv
      simp only[bD] at i2
      have hw:=bE (n:=(i:Int)+1)
      simp -implicitDefEqProofs only[aF,bL,bP (av:=Tm.av) aQ hx (aO x),bG,aO,aB,seval,tT]
      intro b2 hb2
      obtain⟨hn2,hne⟩:=IE hb2
      have hc2: [AV.int IntKind.i64 0,AV.int IntKind.i64 0,AV.str ⟨#[]⟩,AV.fslice []].length=4:=rfl
      try simp -implicitDefEqProofs only[dS,BE (x:=x.av.cells) (cL x) hc2,cL,cP,gI (cL x),gG (bG x),cY,aB,↓aU,seval,tT]
      rw[mP hne]
      refine(IH x (cM hx) acc b _ (fun h=>by rw[aA.aG _ _ (dH (hne h))];exact i3 h) (by omega)).mono ?_
      rintro _ _ ⟨b',rfl,rfl,hb'⟩
      simp -implicitDefEqProofs only[hw,aB,seval]
      obtain⟨hd,CZ⟩:=MB (o:=.cells x.av.cells) hn2 hb'
      have hvl:=Tm.HL x acc
      refine⟨(x.vars acc,b'),⟨i1,by simp only;omega,CZ⟩,aM.drop hd (by simp -implicitDefEqProofs only[aB,seval])⟩
  · simp only[kP,dJ] at h
    rw[aE (by simp [h])]
    simp -implicitDefEqProofs only[h,aB,seval,tT]
    refine d8 (σ:=List Int×Nat) [] [4,23,24] ts (fun i p=>cG (ts.drop i) p.1=cG ts (l)∧p.1.length+bD Tm.nodes (ts.drop i)≤1099511627776∧(p.1.map iv≠[]→st p.2=none)) (fun i p=>[(1,bU 1 p.2 (p.1.map iv)),(25,.int .i64 i)]) (fun _ p=>aZ st p.2 (p.1.map iv)) (by decide +kernel)
     ⟨(l,b),⟨rfl,by simp;omega,hb⟩,aM.mk (by simp -implicitDefEqProofs only[aF,aB,↓aU,seval])⟩ (fun i x p hx hlt bL hdr hinv=>?_) (fun p hge hinv=>?_)
    case refine_2=>
     simp -implicitDefEqProofs only[aF,hge,aB,seval]
     rw[←hinv.1,kK]
     exact⟨p.2,rfl,rfl,hinv.2.2⟩
    obtain⟨acc,b⟩:=p
    rw[hdr] at hinv
    obtain⟨i1,i2,i3⟩:=hinv
    simp only[bD] at i2
    have hw:=bE (n:=(i:Int)+1)
    simp -implicitDefEqProofs only[aF,bL,bP (av:=Tm.av) aQ hx (aO x),bG,aO,aB,seval,tT]
    intro b2 hb2
    obtain⟨hn2,hne⟩:=IE hb2
    have hc2: [AV.int IntKind.i64 0,AV.int IntKind.i64 0,AV.str ⟨#[]⟩,AV.fslice []].length=4:=rfl
    try simp -implicitDefEqProofs only[dS,BE (x:=x.av.cells) (cL x) hc2,cL,cP,gI (cL x),gG (bG x),cY,aB,↓aU,seval,tT]
    rw[mP hne]
    refine(IH x (cM hx) acc b _ (fun h=>by rw[aA.aG _ _ (dH (hne h))];exact i3 h) (by omega)).mono ?_
    rintro _ _ ⟨b',rfl,rfl,hb'⟩
    simp -implicitDefEqProofs only[hw,aB,seval]
    obtain⟨hd,CZ⟩:=MB (o:=.cells x.av.cells) hn2 hb'
    have hvl:=Tm.HL x acc
    refine⟨(x.vars acc,b'),⟨i1,by simp only;omega,CZ⟩,aM.drop hd (by simp -implicitDefEqProofs only[aB,seval])⟩
termination_by t=>SizeOf.sizeOf t
decreasing_by have:=List.sizeOf_lt_of_mem hx;simp only[Tm.mk.sizeOf_spec];omega
abbrev XY:=zi tI_3 (zi zI_3 (zi aY (zi tI_31 (zi zI_31 (zi aQ (zi bS (zi bT (zi cI (zi tI_46 (zi zI_46 (zi cZ (zi eG (zi eE (zi eT (zi tI_66 (zi zI_66 (zi bZ (zi b9 (zi cA (zi cB bY))))))))))))))))))))
theorem SW(l:List Tm)(st:aA)(hsz:bD Tm.nodes l≤1099511627776):aD prog 126 [.slice (l.map Tm.av)] st (fun r st'=>r=.slice ((cG l []).map iv)∧st'=st):=by
 refine aD.fin ?_
 refine wF [] 1 func126 ntmps126 rfl rfl ?_
 simp only[eW,AV.fits,fC,aF]
 intro ⟨hl,_⟩
 simp -implicitDefEqProofs only[aF,aB,seval,XY]
 refine d8 (σ:=List Int×Nat) [] [2,6,7] l (fun i p=>cG (l.drop i) p.1=cG l ([])∧p.1.length+bD Tm.nodes (l.drop i)≤1099511627776∧(p.1.map iv≠[]→st p.2=none)) (fun i p=>[(3,bU 1 p.2 (p.1.map iv)),(8,.int .i64 i)]) (fun _ p=>aZ st p.2 (p.1.map iv)) (by decide +kernel)
  ⟨([],0),⟨rfl,by simp;omega,by simp⟩,aM.mk (by simp -implicitDefEqProofs only[a7,iY,aB,↓aU,seval])⟩ (fun i x p hx hlt bL hdr hinv=>?_) (fun p hge hinv=>?_)
 case refine_2=>
  simp -implicitDefEqProofs only[hge,aB,seval]
  rw[←hinv.1,kK]
  exact⟨p.2,p.1.map iv,st,rfl,hinv.2.2,by simp [AV.cE],⟨1,aQB p.1⟩,oH,rfl⟩
 obtain⟨acc,b⟩:=p
 rw[hdr] at hinv
 obtain⟨i1,i2,i3⟩:=hinv
 simp only[bD] at i2
 have hw:=bE (n:=(i:Int)+1)
 simp -implicitDefEqProofs only[bL,bP (av:=Tm.av) aQ hx (aO x),bG,aO,aB,seval,XY]
 intro b2 hb2
 obtain⟨hn2,hne⟩:=IE hb2
 have nJ:∀zs:List AV,zs.length=4→aK zs 0 x.av.cells=x.av.cells:=fun zs h=>BE (cL x) h
 try simp -implicitDefEqProofs only[dS,nJ,cL,cP,gI (cL x),gG (bG x),cY,aB,↓aU,seval,XY]
 rw[mP hne]
 refine(aA6 x acc b _ (fun h=>by rw[aA.aG _ _ (dH (hne h))];exact i3 h) (by omega)).mono ?_
 rintro _ _ ⟨b',rfl,rfl,hb'⟩
 simp -implicitDefEqProofs only[hw,aB,seval]
 obtain⟨hd,CZ⟩:=MB (o:=.cells x.av.cells) hn2 hb'
 have hvl:=Tm.HL x acc
 exact⟨(x.vars acc,b'),⟨i1,by simp only;omega,CZ⟩,aM.drop hd (by simp -implicitDefEqProofs only[aB,seval])⟩
abbrev K6:=zi tI_3 (zi zI_3 (zi aY (zi tI_31 (zi zI_31 (zi aQ (zi bS (zi bT (zi cI (zi tI_46 (zi zI_46 (zi cZ (zi eG (zi eE (zi eT (zi tI_66 (zi zI_66 (zi bZ (zi b9 (zi cA (zi cB bY))))))))))))))))))))
theorem IR:∀(t:Tm) (l:List Int) (b:Nat) (st:aA),t.wf=true→(l.map iv≠[]→st b=none)→l.length+t.nodes≤1099511627776→aD prog 236 [bU 1 b (l.map iv),t.av] (aZ st b (l.map iv)) (Grown st (t.vars l))
 | .mk k n s ts,l,b,st,hwf,hb,hsz=>by
  obtain⟨hk,a5A⟩:=Tm.YL hwf
  have IH:=fun(x:Tm) (hx:x∈ts) l b st=>IR x l b st (a5A x hx)
  have haL:=CG (w:=1) (b:=b) (l:=l.map iv) eT
  simp only[Tm.vars]
  rw[Tm.iD] at hsz
  refine wF [] 2 func236 ntmps236 rfl rfl ?_
  simp only[bA,eW,AV.fits,fC,aF]
  intro ⟨_,⟨_,_,_,hl,_⟩⟩
  simp -implicitDefEqProofs only[aB,seval,K6]
  refine aP (fun h=>?_) (fun h=>?_)
  · simp only[bK] at h
    obtain rfl:=hk h
    subst h
    simp -implicitDefEqProofs only[aB,seval]
    have hnn:l.length≤1099511627776:=by omega
    refine d8 (σ:=Unit) [] [0,3] l (fun i _=>∀y∈l.take i,y≠n) (fun i _=>[(5,.int .i64 i)]) (fun _ _=>aZ st b (l.map iv)) (by decide +kernel) ⟨(),by simp,aM.mk (by simp -implicitDefEqProofs only[aB,↓aU,seval])⟩ (fun i x _ hx hlt bL hdr hinv=>?_) (fun _ hge hinv=>?_)
    case refine_2=>
     rw[dZ] at hinv
     have fT:n∉l:=fun h=>hinv n h rfl
     simp -implicitDefEqProofs only[haL,aF,hge,aB,seval,K6]
     refine eQ cZ eG eE rfl rfl (f9 rfl rfl) (aQB l) hb (by simp;omega) (by simp;omega) (fun b' hb'=>?_)
     rw[show l.map iv++ [AV.int .i64 n]=(l++ [n]).map iv by simp] at hb' ⊢
     simp -implicitDefEqProofs only[aB,seval]
     exact⟨b',by simp [cG,fT],by simp [cG,fT],by simp only[cG,fT,KE,eX];exact hb'⟩
    have hat:=Z4 (b:=b) (l:=l.map iv) (i:=i) (x:=iv x) cZ (by rw[lY,hx];try rfl)
    obtain⟨gN,A1⟩:=Z5 (st:=st) (b:=b) hx
    have hw:=bE (n:=(i:Int)+1)
    simp -implicitDefEqProofs only[haL,aF,bL,aB,seval]
    refine E5 mixed (by decide +kernel) (by decide +kernel) ?_
    simp -implicitDefEqProofs only[hat,gN,A1,xL,aB,seval,K6]
    refine aP (fun h=>?_) (fun h=>?_)
    · simp only[bK] at h
      subst h
      have fT:=cM hx
      simp -implicitDefEqProofs only[aB,seval]
      exact⟨b,by simp [cG,fT],by simp [cG,fT],by simp only[cG,fT,OK,dY];exact hb⟩
    · simp only[dJ] at h
      simp -implicitDefEqProofs only[aB,seval]
      refine⟨(),?_,aM.mk (by simp -implicitDefEqProofs only[hw,aB,seval])⟩
      intro y hy
      rw[eD,hx] at hy
      rcases d6.1 hy with hy | hy
      · exact hinv y hy
      · simp at hy;subst hy;exact h
  · simp only[dJ] at h
    rw[aE (by simp [h])]
    simp -implicitDefEqProofs only[aB,seval]
    refine d8 (σ:=List Int×Nat) [] [3,4] ts (fun i p=>cG (ts.drop i) p.1=cG ts l∧p.1.length+bD Tm.nodes (ts.drop i)≤1099511627776∧(p.1.map iv≠[]→st p.2=none)) (fun i p=>[(0,bU 1 p.2 (p.1.map iv)),(6,.int .i64 i)]) (fun _ p=>aZ st p.2 (p.1.map iv)) (by decide +kernel)
     ⟨(l,b),⟨rfl,by simp;omega,hb⟩,aM.mk (by simp -implicitDefEqProofs only[aB,↓aU,seval])⟩ (fun i x p hx hlt bL hdr hinv=>?_) (fun p hge hinv=>?_)
    case refine_2=>
     simp -implicitDefEqProofs only[aF,hge,aB,seval,K6]
     rw[←hinv.1,kK]
     exact⟨p.2,rfl,rfl,hinv.2.2⟩
    obtain⟨acc,b⟩:=p
    rw[hdr] at hinv
    obtain⟨i1,i2,i3⟩:=hinv
    simp only[bD] at i2
    have hw:=bE (n:=(i:Int)+1)
    simp -implicitDefEqProofs only[aF,bL,bP (av:=Tm.av) aQ hx (aO x),bG,aO,aB,seval,K6]
    refine(IH x (cM hx) acc b st i3 (by omega)).mono ?_
    rintro _ _ ⟨b',rfl,rfl,hb'⟩
    have hvl:=Tm.HL x acc
    simp -implicitDefEqProofs only[hw,aB,seval]
    exact⟨(x.vars acc,b'),⟨i1,by simp only;omega,hb'⟩,aM.mk (by simp -implicitDefEqProofs only[aB,seval])⟩
termination_by t=>SizeOf.sizeOf t
decreasing_by have:=List.sizeOf_lt_of_mem hx;simp only[Tm.mk.sizeOf_spec];omega
theorem aAI{A C B:List AV}{n:Nat}(hA:A.length=n)(hC:C.length=4) :
 (n+4≤(A++C++B).length)∧List.take 4 (List.drop n (A++C++B))=C∧(A++C++B)[n+0]?=C[0]?:=by
 refine⟨by simp only[dQ];omega,?_,(VP (A:=A) (B:=B) hA).2.2.1 C 0 (by omega)⟩
 rw[←hA,lX,EI,←hC,HU]
abbrev OkN (t:Tm):Prop:=t.kN=true∧t.nodes≤120
end Go.AW
namespace Go.AW
def pG(n:Int):Tm:=.mk 2 n ⟨#[]⟩ []
theorem a50{n:Int}(h:kQ n):(pG n).valid=true:=by
 have ho:(pG n).kN=true:=by
  unfold pG
  rw[Tm.DL]
  simp [eO,h.1,h.2]
 rw[Tm.aUU ho]
 simp [pG,Tm.iD,bD,Tm.yG]
def jA(b:Bool):Int:=if b=true then 0 else 1
def M1(s:ByteArray)(a b:Int):Bool:=
 if s=⟨#[60]⟩ then decide (a<b) else if s=⟨#[62]⟩ then decide (b<a) else if s=⟨#[61,60]⟩ then decide (a≤b) else if s=⟨#[62,61]⟩ then decide (b≤a) else decide (a=b)
def vI(s:ByteArray)(x:Tm):Bool:=
 if s=⟨#[118,97,114]⟩ then decide (x.k=1) else if s=⟨#[110,111,110,118,97,114]⟩ then !decide (x.k=1) else if s=⟨#[97,116,111,109]⟩ then decide (x.k=3)&&decide ((x.ts.length:Int)=0) else decide (x.k=2)
def AI(s:ByteArray)(x y:Tm):Int:=(both (fun a b=>(0,jA (M1 s a b))) x.ev y.ev).2
def oI(x y:Tm):Option Tm:=if 1≤x.n∧x.n≤y.ts.length then y.ts[(x.n - 1).toNat]? else none
structure bBZ (σ:Sub):Prop where
 iC:cT σ
 kN:c9 (fun t=>t.kN=true) σ
 okN:c9 OkN σ
theorem aAE{x y u:Tm}(h:oI x y=some u):u∈y.ts:=by
 unfold oI at h
 split at h
 · exact cM h
 · cases h
theorem aAU{s:ByteArray}{n:Nat}(h:isBuiltin s (n:Int)=true) :
 (n=2∧(gO tA s=true∨s=⟨#[61]⟩∨s=⟨#[92,61]⟩∨s=⟨#[61,61]⟩∨s=⟨#[105,115]⟩))∨(n=0∧(s=⟨#[116,114,117,101]⟩∨s=⟨#[102,97,105,108]⟩)) ∨
 (n=1∧(s=⟨#[118,97,114]⟩∨s=⟨#[110,111,110,118,97,114]⟩∨s=⟨#[97,116,111,109]⟩∨s=⟨#[105,110,116]⟩))∨(n=3∧s=⟨#[97,114,103]⟩):=by
 unfold isBuiltin at h
 simp only[cond_eq_ite] at h
 split at h
 · rename_i h1
   left
   refine⟨by simp at h;omega,?_⟩
   simp only[pP,bK] at h1
   simp only[gO,tA,B0,List.any_nil,pP,bK,iK,d4]
   rcases h1 with (((((((h1 | h1) | h1) | h1) | h1) | h1) | h1) | h1) | h1<;>simp [h1]
 split at h
 · rename_i h1
   right;left
   refine⟨by simp at h;omega,?_⟩
   simpa using h1
 split at h
 · rename_i h1
   right;right;left
   refine⟨by simp at h;omega,?_⟩
   simp only[pP,bK] at h1
   rcases h1 with ((h1 | h1) | h1) | h1<;>simp [h1]
 split at h
 · rename_i h1
   right;right;right
   exact⟨by simp at h;omega,by simpa using h1⟩
 · cases h
def dV:AV→List Nat
 | .mslice b _ _ _=>[b]
 | _=>[]
def Trail(st:aA)(q:AV)(tr:List Int):Prop:=
 (q=.fslice []∧tr= [])∨∃b cs,q=.mslice b 0 tr.length 1∧st b=some (.cells cs)∧cs.take tr.length=tr.map iv
structure gR (st:aA) (c m:Nat) (q:AV) (σ:Sub) (tr:List Int):Prop where
 sub:jS st c m q σ
 fK:Trail st q tr
 apart:c∉dV q
structure nZ (c m:Nat) (st:aA) (q:AV) (st':aA) (q':AV):Prop where
 frame:∀b o,st b=some o→b≠c→b≠m→b∉dV q→st' b=some o
 fresh:∀b∈dV q',b∈dV q∨st b=none
def xM(c m:Nat)(st:aA)(q:AV)(σ':Sub)(tr':List Int)(st':aA):Prop:=∃q',gR st' c m q' σ' tr'∧nZ c m st q st' q'
theorem nZ.refl(c m:Nat)(st:aA)(q:AV):nZ c m st q st q:=⟨fun _ _ h _ _ _=>h,fun _ h=>.inl h⟩
theorem nZ.trans{c m:Nat}{st st' BH:aA}{q q' q'':AV}{σ:Sub}{tr:List Int}(x:nZ c m st q st' q')(hS:gR st' c m q' σ tr)(y:nZ c m st' q' BH q''):nZ c m st q BH q'':=by
 refine⟨fun b o h h1 h2 h3=>?_,fun b hb=>?_⟩
 · refine y.frame b o (x.frame b o h h1 h2 h3) h1 h2 fun h4=>?_
   rcases x.fresh b h4 with h5 | h5
   · exact h3 h5
   · rw[h5] at h;cases h
 · rcases y.fresh b hb with h | h
   · exact x.fresh b h
   · by_cases h1:b∈dV q
     · exact .inl h1
     · refine .inr ?_
       cases hst:st b with
       | none=>rfl
       | some o=>
        exfalso
        by_cases hc:b=c
        · subst hc;rw[hS.sub.cells] at h;cases h
        · by_cases hm:b=m
          · subst hm;rw[hS.sub.map] at h;cases h
          · rw[x.frame b o hst hc hm h1] at h;cases h
theorem gR.KY{st:aA}{c m:Nat}{q:AV}{σ:Sub}{tr:List Int}(h:gR st c m q σ tr):∀b∈dV q,∃cs,st b=some (.cells cs):=by
 intro b hb
 rcases h.fK with ⟨rfl,_⟩ | ⟨b',cs,rfl,hb',_⟩
 · simp [dV] at hb
 · simp only[dV,c7,dT,d4] at hb;subst hb;exact⟨cs,hb'⟩
theorem gR.OH{st:aA}{c m:Nat}{q:AV}{σ:Sub}{tr:List Int}(h:gR st c m q σ tr):m∉dV q:=fun hb=>by
 obtain⟨cs,e⟩:=h.KY m hb
 rw[h.sub.map] at e;cases e
theorem gR.aC{st:aA}{c m b:Nat}{q:AV}{σ:Sub}{tr:List Int}{o:AO}(h:gR st c m q σ tr)(h1:b≠c)(h2:b≠m)(h3:b∉dV q):gR (st.aC b o) c m q σ tr:=by
 refine⟨h.sub.QM h1 h2,?_,h.apart⟩
 rcases h.fK with h4 | ⟨b',cs,e1,e2,e3⟩
 · exact .inl h4
 · refine .inr ⟨b',cs,e1,?_,e3⟩
   rw[aA.aG _ _ (by rintro rfl;exact h3 (by rw[e1];simp [dV]))]
   exact e2
theorem gR.HK{st:aA}{c m b:Nat}{q:AV}{σ:Sub}{tr:List Int}{o:AO}(h:gR st c m q σ tr)(hb:st b=none):gR (st.aC b o) c m q σ tr:=
 h.aC (h.sub.ne hb).1 (h.sub.ne hb).2 fun h3=>by obtain⟨cs,e⟩:=h.KY b h3;rw[hb] at e;cases e
theorem nZ.HK{c m b:Nat}{st:aA}{q:AV}{o:AO}(hb:st b=none):nZ c m st q (st.aC b o) q:=
 ⟨fun x p h _ _ _=>by rw[aA.aG _ _ (by rintro rfl;rw[hb] at h;cases h)];exact h,fun _ h=>.inl h⟩
theorem gR.shape{st:aA}{c m:Nat}{q:AV}{σ:Sub}{tr:List Int}(h:gR st c m q σ tr):q.isAgg=false∧q.width=1∧q.cE=false∧q.cells= [q]∧q.storable=true:=by
 rcases h.fK with ⟨rfl,_⟩ | ⟨b',cs,rfl,_⟩<;>exact⟨rfl,rfl,rfl,rfl,rfl⟩
theorem xM.from{c m:Nat}{st s0 st':aA}{q q0:AV}{σ σ':Sub}{tr tr':List Int}(h:xM c m s0 q0 σ' tr' st')(x:nZ c m st q s0 q0)(hS:gR s0 c m q0 σ tr):xM c m st q σ' tr' st':=by
 obtain⟨q',h1,h2⟩:=h
 exact⟨q',h1,x.trans hS h2⟩
theorem bAS{P:Program}{t:TypeId}{ag:Bool}{bytes:Nat}{zs:List AV}{st:aA}{c m:Nat}{q:AV}{σ:Sub}{tr:List Int}{n:Int}{K:AV→aA→Prop}(hI:eI P t=some (ag,1))(hB:eB P t=some bytes)(hZ:eZ P t=some zs)(hz:zs.length=1)(hb8:bytes≤16)
 (h:gR st c m q σ tr) (hl:tr.length+1≤1099511627776)
 (hK:∀q' st',Trail st' q' (tr++ [n])→c∉dV q'→m∉dV q'→(∀x,x∉dV q→x∉dV q'→st' x=st x)→(∀x∈dV q',x∈dV q∨st x=none)→K q' st'):jT P t st q (.fslice [.int .i64 n]) K:=by
 have fB:wB 1 [AV.int .i64 n]:=by intro e he;simp only[c7,dT,d4] at he;subst he;exact⟨rfl,rfl⟩
 have AZ:(tr.length+1)*bytes≤140737488355328:=by
  have:=LY hl hb8
  omega
 unfold jT
 simp only[hI,hB,hZ,zZ]
 refine⟨hz,fB,?_⟩
 have hcm:∀x,st x=none→x≠c∧x≠m:=fun x hx=>h.sub.ne hx
 rcases h.fK with ⟨rfl,rfl⟩ | ⟨b,cs,rfl,hb,hcs⟩
 · simp only[a8,aX,iE] at AZ ⊢
   refine⟨by omega,by omega,by simp,fun h=>by simp at h,fun _ b hb=>?_⟩
   refine hK _ _ (.inr ⟨b,[.int .i64 n],rfl,aA.aJ _ _ _,rfl⟩) (by simp only[dV,c7,dT,d4];exact dH (hcm b hb).1) (by simp only[dV,c7,dT,d4];exact dH (hcm b hb).2) (fun x _ hx=>?_) (fun x hx=>?_)
   · simp only[dV,c7,dT,d4] at hx
     rw[aA.aG _ _ hx]
   · simp only[dV,c7,dT,d4] at hx
     subst hx;exact .inr hb
 · simp only[aX,a8,iE,hb]
   have hlen:tr.length≤cs.length:=by
    have:=gH List.length hcs
    simp only[dE,aF] at this
    omega
   have hca:c≠b:=fun e=>h.apart (by simp [dV,e])
   have hma:m≠b:=fun e=>h.OH (by simp [dV,e])
   have jJ:cs.take (tr.length*1)++ [AV.int .i64 n].flatMap AV.cells=(tr++ [n]).map iv:=by rw[xL,hcs];simp [AV.cells]
   refine⟨trivial,AZ,by omega,by omega,?_,fun b' hb'=>?_⟩
   · rw[jJ]
     refine hK _ _ (.inr ⟨b,_,by simp,aA.aJ _ _ _,by rw[nA (by simp)]⟩) (by simpa [dV] using hca) (by simpa [dV] using hma) (fun x hx _=>?_) (fun x hx=>.inl hx)
     simp only[dV,c7,dT,d4] at hx
     rw[aA.aG _ _ hx]
   · rw[jJ]
     obtain⟨hc',hm'⟩:=hcm b' hb'
     refine hK _ _ (.inr ⟨b',_,by simp,aA.aJ _ _ _,by rw[nA (by simp)]⟩) (by simpa [dV] using dH hc') (by simpa [dV] using dH hm') (fun x hx hx'=>?_) (fun x hx=>?_)
     · simp only[dV,c7,dT,d4] at hx hx'
       rw[aA.aG _ _ hx']
       simp [aA.erase,hx]
     · simp only[dV,c7,dT,d4] at hx
       subst hx;exact .inr hb'
end Go.AW
namespace Go.AW
open Go.Proofs.Tryz
abbrev D0:=zi tI_3 (zi zI_3 (zi aY (zi tI_4 (zi zI_4 (zi cJ (zi tI_66 (zi zI_66 (zi bZ (zi b9 (zi cA (zi cB (zi bY (zi tI_141 (zi zI_141 (zi D8 (zi tI_227 (zi zI_227 (zi tI_304 (zi zI_304 (zi FJ (zi FK E6)))))))))))))))))))))
theorem MV{σ:Sub}{f:Nat}{t u:Tm}(hw:gK σ f t u)(c m:Nat)(q:AV)(st:aA)(hS:jS st c m q σ):aD prog 380 [.ptr c 0,t.av] st (fun r st'=>r=u.av∧st'=st):=by
 refine aD.done ?_
 refine wF [1000000,3] 2 func380 ntmps380 rfl rfl ?_
 intro _
 simp -implicitDefEqProofs only[aB,seval,D0]
 intro b3 h3 b4 h4
 have hne:b4≠b3:=by rintro rfl;rw[aA.aJ] at h4;cases h4
 have hn4:st b4=none:=by rw[aA.aG st _ hne] at h4;exact h4
 have hD:∀o o',aL ((st.aC b3 o).aC b4 o') st:=fun o o'=>((aL.refl _).aC h3).aC hn4
 have hS':∀o o',jS ((st.aC b3 o).aC b4 o') c m q σ:=fun o o'=>(hS.aC h3).aC (by rw[aA.aG _ _ hne];exact hn4)
 obtain⟨a4O,bDJ⟩:=hS.ne h3
 obtain⟨a4P,bDK⟩:=hS.ne hn4
 refine iP (σ:=Nat×Tm) [1000000,3] [0,3,4] (fun p=>gK σ p.1 p.2 u) (fun p=>[]) (fun p=>(st.aC b3 (.cells p.2.av.cells)).aC b4 (.cells [.int .i64 0,.int .i64 0,.str ⟨#[]⟩,.fslice []])) (fun p=>p.1) (by decide +kernel) ⟨(f,t),hw,aM.mk (by simp -implicitDefEqProofs only[aB,seval])⟩ ?_
 rintro⟨g,t⟩ hw
 obtain⟨k,n,s,ts⟩:=t
 simp only at hw
 simp only[bA]
 simp -implicitDefEqProofs only[hne.symm,aB,seval,D0]
 refine aP (fun h=>?_) (fun h=>?_)
 case refine_2=>
  simp only[dJ] at h
  cases hw with
  | go h1=>exact absurd h1 h
  | stop=>
   simp -implicitDefEqProofs only[aK,hne.symm,aB,seval,D0]
   exact⟨by rw[←bA,Tm.soft],hD _ _⟩
 simp only[bK] at h
 simp -implicitDefEqProofs only[aB,seval]
 refine wP [(0,1),(1,1),(2,1),(4,1),(3,2),(5,2),(6,2),(7,1),(8,1),(9,1),(10,0),(11,0),(12,1)] [0,1,2,4,3,5,6,7,8,9,12] mixed ?_
 have hl:=fun(st':aA) (hm:st' m=some (AO.map (mapOf σ)))=>a6L (P:=prog) (n:=n) hm D8 aY bBR
 simp -implicitDefEqProofs only[hne.symm,hS.cells,a4O.symm,a4P.symm,aB,seval,D0]
 rw[hl _ (hS' _ _).map]
 cases hw with
 | stop hs=>
  rw[show σ n=none from hs h]
  simp -implicitDefEqProofs only[found,aK,aB,seval,D0]
  intro b5 h5
  have h53:b5≠b3:=by rintro rfl;simp [aA.aG,aA.aJ,hne.symm] at h5
  have h54:b5≠b4:=by rintro rfl;simp [aA.aJ] at h5
  have hn5:st b5=none:=by rw[aA.aG _ _ h54,aA.aG _ _ h53] at h5;exact h5
  simp -implicitDefEqProofs only[aK,hne.symm,h53.symm,h54.symm,aB,seval,D0]
  exact⟨by rw[←bA,Tm.soft],((((aL.refl _).aC h3).aC hn4).aC hn5).aC hn4⟩
 | go _ h2 h3'=>
  rw[show σ n=some _ from h2]
  simp -implicitDefEqProofs only[found,aK,aB,seval,D0]
  intro b5 h5
  have h53:b5≠b3:=by rintro rfl;simp [aA.aG,aA.aJ,hne.symm] at h5
  have h54:b5≠b4:=by rintro rfl;simp [aA.aJ] at h5
  have hn5:st b5=none:=by rw[aA.aG _ _ h54,aA.aG _ _ h53] at h5;exact h5
  simp -implicitDefEqProofs only[hne.symm,h53.symm,aB,seval]
  refine⟨(_,_),Nat.lt_succ_self _,h3',aM.drop (fun x=>?_) (by simp -implicitDefEqProofs only[aB,seval])⟩
  by_cases e3:x=b3<;>by_cases e4:x=b4<;>by_cases e5:x=b5<;>simp_all [aA.aC]
abbrev aTL:=zi tI_3 (zi zI_3 (zi aY (zi tI_31 (zi zI_31 (zi aQ (zi bS (zi bT (zi cI (zi tI_66 (zi zI_66 (zi bZ (zi b9 (zi cA (zi cB bY))))))))))))))
theorem aXO(l:List Tm)(g:FuncId)(dL:List AV)(p:Tm→Bool)(J E:aA→Prop)(hc:∀x∈l,∀s,J s→aD prog g ([Tm.av x]++dL) s (fun r s'=>r=.bool (p x)∧(p x=true→E s')∧(p x=false→J s')))(st:aA)(h0:J st) :
 aD prog 218 [.slice (l.map Tm.av),.func g dL] st (fun r st'=>r=.int .i64 (pZ p l 0)∧(l.any p=true→E st')∧(l.any p=false→J st')):=by
 refine wF [1000000] 2 func218 ntmps218 rfl rfl ?_
 simp only[eW,AV.fits,fC,aF]
 intro ⟨hl,_⟩
 simp -implicitDefEqProofs only[aF,aB,seval,aTL]
 refine d8 (σ:=aA) [1000000] [0,1,7] l (fun i s=>J s∧pZ p (l.drop i) i=pZ p l 0∧(l.drop i).any p=l.any p) (fun i _=>[(8,.int .i64 i)]) (fun _ s=>s) (by decide +kernel) ⟨st,⟨h0,rfl,rfl⟩,aM.mk (by simp -implicitDefEqProofs only[aB,↓aU,seval])⟩ (fun i x s hx hlt bL hdr hinv=>?_) (fun s hge hinv=>?_)
 case refine_2=>
  obtain⟨i1,i2,i3⟩:=hinv
  rw[kK] at i2 i3
  simp -implicitDefEqProofs only[hge,aB,seval]
  exact⟨by rw[←i2];try rfl,fun h=>(by rw[←i3] at h;cases h),fun _=>i1⟩
 obtain⟨i1,i2,i3⟩:=hinv
 rw[hdr,pZ] at i2
 rw[hdr,B0] at i3
 have hw:=bE (n:=(i:Int)+1)
 simp -implicitDefEqProofs only[bL,bP (av:=Tm.av) aQ hx (aO x),bG,aO,aB,seval,aTL]
 refine(hc x (cM hx) s i1).mono ?_
 rintro _ s2 ⟨rfl,hE,hJ⟩
 simp -implicitDefEqProofs only[aB,seval]
 refine aP (fun h=>?_) (fun h=>?_)
 · rw[aH h] at i2
   rw[h,zO] at i3
   simp -implicitDefEqProofs only[aB,seval]
   exact⟨by rw[i2],fun _=>hE h,fun h'=>(by rw[←i3] at h';cases h')⟩
 · rw[aE (by simp [h])] at i2
   rw[h,qD] at i3
   simp -implicitDefEqProofs only[aB,seval]
   exact⟨s2,⟨hJ h,i2,i3⟩,aM.mk (by simp -implicitDefEqProofs only[hw,aB,seval])⟩
theorem aXF(l:List Tm)(g:FuncId)(dL:List AV)(p:Tm→Bool)(J E:aA→Prop)(hc:∀x∈l,∀s,J s→aD prog g ([Tm.av x]++dL) s (fun r s'=>r=.bool (p x)∧(p x=true→E s')∧(p x=false→J s')))(st:aA)(h0:J st) :
 aD prog 147 [.slice (l.map Tm.av),.func g dL] st (fun r st'=>r=.bool (l.any p)∧(l.any p=true→E st')∧(l.any p=false→J st')):=by
 refine wF [1000000] 2 func147 ntmps147 rfl rfl ?_
 intro _
 simp -implicitDefEqProofs only[aB,seval]
 refine(aXO l g dL p J E hc st h0).mono ?_
 rintro _ s2 ⟨rfl,hE,hJ⟩
 simp -implicitDefEqProofs only[a5O,aB,seval]
 exact⟨hE,hJ⟩
def Occ(R:Int→Tm)(n:Int)(t:Tm)(st:aA)(mm:Nat)(M:List Int)(r:AV)(st':aA):Prop:=
 r=.bool (decide (n∈(t.aN R).vl))∧∃M',st'=st.aC mm (.map (nN M'))∧(n∉(t.aN R).vl→∀v∈M',v∈M∨n∉(R v).vl)
abbrev bAH:=zi tI_3 (zi zI_3 (zi aY (zi tI_4 (zi zI_4 (zi cJ (zi tI_66 (zi zI_66 (zi bZ (zi b9 (zi cA (zi cB (zi bY (zi tI_227 (zi zI_227 (zi tI_390 (zi zI_390 LK))))))))))))))))
theorem aZ7{c mm:Nat}{n:Int}{t:Tm}{st:aA}{Q:AV→aA→Prop}(hc:aD prog 398 [.ptr c 0,.int .i64 n,t.av,.map mm] st Q) :
 aD prog 406 [t.av,.pptr (.ptr c 0),.pptr (.int .i64 n),.pptr (.map mm)] st Q:=by
 refine wF [1000000] 4 func406 ntmps406 rfl rfl ?_
 intro _
 simp -implicitDefEqProofs only[aB,seval,bAH]
 refine hc.mono ?_
 intro r s h
 simp -implicitDefEqProofs only[aB,seval]
 exact h
abbrev BL:=zi tI_3 (zi zI_3 (zi aY (zi tI_4 (zi zI_4 (zi cJ (zi tI_31 (zi zI_31 (zi aQ (zi bS (zi bT (zi cI (zi tI_66 (zi zI_66 (zi bZ (zi b9 (zi cA (zi cB (zi bY (zi tI_227 (zi zI_227 (zi tI_390 (zi zI_390 (zi LK (zi tI_406 (zi zI_406 bA4)))))))))))))))))))))))))
theorem SN{σ:Sub}{R:Int→Tm}{rk:Int→Nat}{B:Nat}(G:Good σ R rk B){n:Int}(hn:σ n=none)(c m mm:Nat)(q:AV)(hmm:mm≠c∧mm≠m) :
 ∀(K:Nat) (t:Tm) (M:List Int) (st:aA),jS st c m q σ→st mm=some (.map (nN M))→(∀w∈t.vl,rk w<K)→(∀v∈M,n∉(R v).vl∨∀w∈t.vl,rk w<rk v) →
 aD prog 398 [.ptr c 0,.int .i64 n,t.av,.map mm] st (Occ R n t st mm M)
 | K,.mk k x s ts,M,st,hS,hM,hK,N6=>by
  have IH1:=fun(K':Nat) (hK':K'<K) t M st=>SN G hn c m mm q hmm K' t M st
  have IH2:=fun(y:Tm) (hy:y∈ts) M st=>SN G hn c m mm q hmm K y M st
  have hlk:=a6K (P:=prog) (n:=x) hM LK aY bBQ
  simp only[bA]
  refine wF [1000000] 4 func398 ntmps398 rfl rfl ?_
  intro _
  simp -implicitDefEqProofs only[aB,seval,BL]
  refine aP (fun h=>?_) (fun h=>?_)
  · simp only[bK] at h
    have hvl:(Tm.mk k x s ts).vl= [x]:=Tm.o0 h
    have hmv:(Tm.mk k x s ts).aN R=R x:=Tm.oO R h
    have hKx:rk x<K:=hK x (by rw[hvl];simp)
    simp -implicitDefEqProofs only[hlk,aB,seval,BL]
    refine aP (fun h2=>?_) (fun h2=>?_)
    · simp only[bK] at h2
      simp -implicitDefEqProofs only[aB,seval]
      have hno:n∉(R x).vl:=by
       rcases N6 x h2 with h | h
       · exact h
       · exact absurd (h x (by rw[hvl];simp)) (Nat.lt_irrefl _)
      refine⟨by rw[hmv];simp [hno],M,?_,fun _ v hv=>.inl hv⟩
      funext y
      simp only[aA.aC]
      split
      · rename_i e;rw[e,hM]
      · rfl
    · simp only[dJ] at h2
      simp -implicitDefEqProofs only[aB,seval,BL]
      refine bBF hM LK aY ?_
      simp -implicitDefEqProofs only[aB,seval,BL]
      obtain⟨f,hwk⟩:=G.wk (Tm.mk k x s ts)
      generalize hu:wk σ (Tm.mk k x s ts)=u at *
      have hS':=hS.QM (o:=.map (nN (x::M))) hmm.1 hmm.2
      have hcw:=MV hwk c m q _ hS'
      rw[bA] at hcw
      refine hcw.to ?_
      have UY:u.aN R=R x:=by rw[hwk.aN G.yU,hmv]
      have wN:=hwk.end
      have hrk:=hwk.KK G
      obtain⟨k',x',s',ts'⟩:=u
      simp only[bA]
      simp -implicitDefEqProofs only[aB,↓aU,seval,BL]
      refine aP (fun h3=>?_) (fun h3=>?_)
      · simp only[bK] at h3
        simp -implicitDefEqProofs only[aB,seval,BL]
        have r9:R x'=vr x':=G.free (wN h3)
        rw[Tm.oO R h3,r9] at UY
        refine⟨?_,x::M,rfl,fun hno v hv=>?_⟩
        · rw[hmv,←UY,BT]
          simp [eq_comm]
        · rcases c7.1 hv with rfl | hv
          · exact .inr (by rw[hmv] at hno;exact hno)
          · exact .inl hv
      · simp only[dJ] at h3
        simp -implicitDefEqProofs only[aB,seval,BL]
        have hf0:f≠0:=by
         rintro rfl
         cases hwk with
         | stop _=>exact h3 h
        have hr':∀w∈(Tm.mk k' x' s' ts').vl,rk w<rk x:=fun w hw=>by
         obtain⟨v,hv,_,hlt⟩:=hrk w hw
         rw[hvl] at hv
         simp only[c7,dT,d4] at hv
         subst hv
         exact hlt hf0
        have:=IH1 (rk x) hKx (Tm.mk k' x' s' ts') (x::M) _ hS' (aA.aJ _ _ _) hr' (fun v hv=>by
         rcases c7.1 hv with rfl | hv
         · exact .inr hr'
         · rcases N6 v hv with h5 | h5
           · exact .inl h5
           · refine .inr fun w hw=>Nat.lt_trans (hr' w hw) ?_
             exact h5 x (by rw[hvl];simp))
        rw[bA] at this
        refine this.mono ?_
        rintro _ _ ⟨rfl,M',rfl,hM'⟩
        simp -implicitDefEqProofs only[aB,seval]
        rw[UY] at hM' ⊢
        refine⟨by rw[hmv],M',rfl,fun hno v hv=>?_⟩
        rw[hmv] at hno
        rcases hM' hno v hv with h5 | h5
        · rcases c7.1 h5 with rfl | h5
          · exact .inr hno
          · exact .inl h5
        · exact .inr h5
  · simp only[dJ] at h
    simp -implicitDefEqProofs only[aB,seval,BL]
    have hmv:=Tm.nM R (n:=x) (s:=s) (ts:=ts) h
    have a26:ts.any (fun y=>decide (n∈(y.aN R).vl))=decide (n∈((Tm.mk k x s ts).aN R).vl):=by
     rw[hmv,xF]
     simp only[B1,bK]
     rw[Tm.m8 h]
     constructor
     · rintro⟨y,hy,h2⟩;exact⟨_,cH.2 ⟨y,hy,rfl⟩,h2⟩
     · rintro⟨z,hz,h2⟩
       obtain⟨y,hy,rfl⟩:=cH.1 hz
       exact⟨y,hy,h2⟩
    refine(aXF ts _ _ (fun y=>decide (n∈(y.aN R).vl)) (fun s1=>∃M',s1=st.aC mm (.map (nN M'))∧∀v∈M',v∈M∨n∉(R v).vl) (fun s1=>∃M',s1=st.aC mm (.map (nN M'))) ?_ st ⟨M,?_,fun v hv=>.inl hv⟩).mono ?_
    · rintro y hy s1 ⟨M',rfl,hM'⟩
      simp only[iB,fF]
      have hc:=IH2 y hy M' (st.aC mm (.map (nN M'))) (hS.QM hmm.1 hmm.2) (aA.aJ _ _ _) (fun w hw=>hK w ((Tm.m8 h).2 ⟨y,hy,hw⟩)) (fun v hv=>by
       rcases hM' v hv with h5 | h5
       · rcases N6 v h5 with h6 | h6
         · exact .inl h6
         · exact .inr fun w hw=>h6 w ((Tm.m8 h).2 ⟨y,hy,hw⟩)
       · exact .inl h5)
      refine(aZ7 hc).mono ?_
      rintro _ _ ⟨rfl,M2,rfl,hM2⟩
      rw[dS]
      refine⟨rfl,fun _=>⟨M2,rfl⟩,fun hno=>⟨M2,rfl,fun v hv=>?_⟩⟩
      simp only[dJ] at hno
      rcases hM2 hno v hv with h5 | h5
      · exact hM' v h5
      · exact .inr h5
    · funext y
      simp only[aA.aC]
      split
      · rename_i e;rw[e,hM]
      · rfl
    · rintro _ s2 ⟨rfl,hE,hJ⟩
      rw[a26] at hE hJ ⊢
      simp -implicitDefEqProofs only[aB,seval]
      by_cases hno:n∈((Tm.mk k x s ts).aN R).vl
      · obtain⟨M2,rfl⟩:=hE (by simp [hno])
        exact⟨rfl,M2,rfl,fun h=>absurd hno h⟩
      · obtain⟨M2,rfl,h5⟩:=hJ (by simp [hno])
        exact⟨rfl,M2,rfl,fun _=>h5⟩
termination_by K t=>(K,SizeOf.sizeOf t)
decreasing_by
 · exact Prod.Lex.left _ _ hK'
 · have:=List.sizeOf_lt_of_mem hy
   exact Prod.Lex.right _ (by simp only[Tm.mk.sizeOf_spec];omega)
abbrev PL:=zi tI_3 (zi zI_3 (zi aY (zi tI_4 (zi zI_4 (zi cJ (zi tI_46 (zi zI_46 (zi cZ (zi eG (zi eE (zi eT (zi tI_66 (zi zI_66 (zi bZ (zi b9 (zi cA (zi cB (zi bY (zi tI_141 (zi zI_141 (zi D8 (zi tI_227 (zi zI_227 (zi tI_304 (zi zI_304 (zi FJ (zi FK (zi E6 (zi tI_390 (zi zI_390 LK))))))))))))))))))))))))))))))
theorem aA7{σ:Sub}(hg:cT σ){n:Int}(hn:σ n=none){t:Tm}{r:Bool}{σ':Sub}{add:List Int}(hb:kV σ n t=(r,σ',add))(c m:Nat)(q:AV)(tr:List Int)(st:aA)(hS:gR st c m q σ tr)(hl:tr.length+add.length≤1099511627776) :
 aD prog 382 [.ptr c 0,.int .i64 n,t.av] st (fun r' st'=>r'=.bool r∧xM c m st q σ' (tr++add) st'):=by
 obtain⟨rk,B,G⟩:=hg.rs
 refine wF [1000000] 3 func382 ntmps382 rfl rfl ?_
 intro _
 simp -implicitDefEqProofs only[aB,seval,PL]
 intro mm hmm
 obtain⟨hmc,a4L⟩:=hS.sub.ne hmm
 rw[←a6X]
 have hS1:=hS.HK (o:=.map (nN [])) hmm
 refine(SN G hn c m mm q ⟨hmc,a4L⟩ B t [] _ hS1.sub (aA.aJ _ _ _) (fun w _=>G.bd w) (fun v hv=>absurd hv (dT))).mono ?_
 rintro _ _ ⟨rfl,M',rfl,_⟩
 have hS2:=hS.HK (o:=.map (nN M')) hmm
 have hQ2:nZ c m st q (st.aC mm (.map (nN M'))) q:=nZ.HK hmm
 rw[dS]
 generalize st.aC mm (.map (nN M'))=s2 at *
 obtain⟨hqa,hqw,hqj,hqc,hqs⟩:=hS2.shape
 simp -implicitDefEqProofs only[aB,seval]
 unfold kV at hb
 refine aP (fun h=>?_) (fun h=>?_)
 · simp only[bK] at h
   rw[aH h] at hb
   obtain⟨rfl,rfl,rfl⟩:false=r∧σ=σ'∧[]=add:=by simpa using hb
   simp -implicitDefEqProofs only[aB,seval]
   exact⟨q,hS2,hQ2⟩
 · simp only[dJ] at h
   rw[aE h] at hb
   obtain⟨rfl,rfl,rfl⟩:true=r∧σ.set n t=σ'∧[n]=add:=by simpa using hb
   simp -implicitDefEqProofs only[aB,seval]
   refine wP [(0,1),(1,1),(2,1),(4,1),(3,2),(5,2),(6,0)] [0,1,2,4,3,5] mixed ?_
   simp -implicitDefEqProofs only[hS2.sub.cells,aB,seval,PL]
   refine bBH hS2.sub.map D8 aY ?_
   have hcm:=hS2.sub.cm
   have hS3:gR (s2.aC m (.map (mapOf (σ.set n t)))) c m q (σ.set n t) tr:=by
    refine⟨⟨by rw[aA.aG _ _ hcm];exact hS2.sub.cells,aA.aJ _ _ _⟩,?_,hS2.apart⟩
    rcases hS2.fK with h4 | ⟨b',cs,e1,e2,e3⟩
    · exact .inl h4
    · refine .inr ⟨b',cs,e1,?_,e3⟩
      rw[aA.aG _ _ (by rintro rfl;exact hS2.OH (by rw[e1];simp [dV]))]
      exact e2
   have hQ3:nZ c m st q (s2.aC m (.map (mapOf (σ.set n t)))) q:=⟨fun b o h h1 h2 h3=>by rw[aA.aG _ _ h2];exact hQ2.frame b o h h1 h2 h3,fun _ h=>.inl h⟩
   generalize s2.aC m (.map (mapOf (σ.set n t)))=s3 at *
   simp -implicitDefEqProofs only[hS3.sub.cells,hqa,aB,seval,PL]
   refine bAS cZ eG eE rfl (by omega) hS3 (by simpa using hl) (fun q' s4 ht hc' hm' hk hf=>?_)
   have h4c:s4 c=some (.cells [.map m,q]):=by rw[hk c hS3.apart hc'];exact hS3.sub.cells
   have h4m:s4 m=some (.map (mapOf (σ.set n t))):=by rw[hk m hS3.OH hm'];exact hS3.sub.map
   have aPU:q'.cells= [q']∧q'.storable=true:=by
    rcases ht with ⟨rfl,_⟩ | ⟨b',cs,rfl,_⟩<;>exact⟨rfl,rfl⟩
   simp -implicitDefEqProofs only[aK,h4c,aPU.1,aPU.2,aB,seval,PL]
   refine⟨q',⟨⟨aA.aJ _ _ _,by rw[aA.aG _ _ (dH hcm)];exact h4m⟩,?_,hc'⟩,⟨fun b o h h1 h2 h3=>?_,fun b hb=>?_⟩⟩
   · rcases ht with h4 | ⟨b',cs,e1,e2,e3⟩
     · exact .inl h4
     · refine .inr ⟨b',cs,e1,?_,e3⟩
       rw[aA.aG _ _ (by rintro rfl;exact hc' (by rw[e1];simp [dV]))]
       exact e2
   · rw[aA.aG _ _ h1,hk b h3 (fun h4=>?_)]
     · exact hQ3.frame b o h h1 h2 h3
     · rcases hf b h4 with h5 | h5
       · exact h3 h5
       · rw[hQ3.frame b o h h1 h2 h3] at h5;cases h5
   · rcases hf b hb with h5 | h5
     · exact .inl h5
     · by_cases h6:b∈dV q
       · exact .inl h6
       · refine .inr ?_
         cases hst:st b with
         | none=>rfl
         | some o=>
          exfalso
          have h1:b≠c:=by rintro rfl;rw[hS3.sub.cells] at h5;cases h5
          have h2:b≠m:=by rintro rfl;rw[hS3.sub.map] at h5;cases h5
          rw[hQ3.frame b o hst h1 h2 h6] at h5;cases h5
abbrev Sm (t:Tm):Prop:=t.small=true
theorem a9G:∀t:Tm,t.k≠1→Sm t→∀x∈t.ts,Sm x:=fun t _ h x hx=>by
 cases t
 exact(Tm.rG h).2 x hx
abbrev sJ:=zi tI_3 (zi zI_3 (zi aY (zi tI_4 (zi zI_4 (zi cJ (zi tI_9 (zi zI_9 (zi cV (zi tI_31 (zi zI_31 (zi aQ (zi bS (zi bT (zi cI (zi tI_66 (zi zI_66 (zi bZ (zi b9 (zi cA (zi cB (zi bY (zi tI_227 zI_227))))))))))))))))))))))
theorem aCL:∀(g:Nat) (σ:Sub) (a b:Tm) (r:Bool) (σ':Sub) (add:List Int),cT σ→c9 Sm σ→Sm a→Sm b→dP g σ a b=some (r,σ',add)→∀(c m:Nat) (q:AV) (tr:List Int) (st:aA),gR st c m q σ tr→tr.length+add.length≤1099511627776 →
 aD prog 360 [.ptr c 0,a.av,b.av] st (fun r' st'=>r'=.bool r∧xM c m st q σ' (tr++add) st')
 | 0,σ,a,b,r,σ',add,hg,hsm,ha0,hb0,h,c,m,q,tr,st,hS,hl=>by simp only[dP] at h;cases h
 | g+1,σ,a,b,r,σ',add,hg,hsm,ha0,hb0,h,c,m,q,tr,st,hS,hl=>by
  have IH:=aCL g
  obtain⟨rk,B,G⟩:=hg.rs
  obtain⟨fa,wa⟩:=G.wk a
  obtain⟨fb,wb⟩:=G.wk b
  have hca:=fun st (hS:jS st c m q σ)=>MV wa c m q st hS
  have hcb:=fun st (hS:jS st c m q σ)=>MV wb c m q st hS
  have ea:=wa.end
  have eb:=wb.end
  have hsa:=wa.all (p:=Sm) hsm ha0
  have hsb:=wb.all (p:=Sm) hsm hb0
  replace h:=QJ h
  generalize wk σ a=a1 at *
  generalize wk σ b=b1 at *
  clear wa wb
  refine wF [1000000,4,5] 3 func360 ntmps360 rfl rfl ?_
  intro fB
  simp -implicitDefEqProofs only[aB,seval]
  intro b4 h4 b5 h5
  have h54:b5≠b4:=by rintro rfl;rw[aA.aJ] at h5;cases h5
  have hn5:st b5=none:=by rw[aA.aG st _ h54] at h5;exact h5
  have hS':∀o o',gR ((st.aC b4 o).aC b5 o') c m q σ tr:=fun o o'=>(hS.HK h4).HK (by rw[aA.aG _ _ h54];exact hn5)
  refine wP [(0,1),(3,1),(1,2),(2,2),(4,2),(5,2),(6,0),(7,0)] [0,3,1,2,4,5] mixed ?_
  simp -implicitDefEqProofs only[h54.symm,aB,seval,sJ]
  refine jC (hca _ (hS' _ _).sub) ?_
  simp -implicitDefEqProofs only[aB,seval,sJ]
  refine jC (hcb _ (hS' _ _).sub) ?_
  obtain⟨ka,na,sa,tsa⟩:=a1
  obtain⟨kb,nb,sb',tsb⟩:=b1
  obtain⟨hla,aPG⟩:=Tm.rG hsa
  obtain⟨hlb,aPH⟩:=Tm.rG hsb
  simp only[bA]
  simp only[Tm.k,Tm.n,Tm.ts] at h ea eb
  have hl4:∀q',q'=q→b4∉dV q:=fun _ _ hb=>by obtain⟨cs,e⟩:=hS.KY b4 hb;rw[h4] at e;cases e
  have hl5:b5∉dV q:=fun hb=>by obtain⟨cs,e⟩:=hS.KY b5 hb;rw[hn5] at e;cases e
  obtain⟨h4c,h4m⟩:=hS.sub.ne h4
  obtain⟨h5c,h5m⟩:=hS.sub.ne hn5
  have hQ:∀o o',nZ c m st q ((st.aC b4 o).aC b5 o') q:=fun o o'=>⟨fun x p h _ _ _=>by
   rw[aA.aG _ _ (by rintro rfl;rw[hn5] at h;cases h),aA.aG _ _ (by rintro rfl;rw[h4] at h;cases h)];exact h,fun _ h=>.inl h⟩
  simp -implicitDefEqProofs only[aK,h54,h54.symm,aB,seval,sJ]
  rw[aA.BR h54,aA.BR h54.symm]
  have fX:∀o o',xM c m st q σ tr ((st.aC b4 o).aC b5 o'):=fun o o'=>⟨q,hS' _ _,hQ _ _⟩
  rcases h with ⟨h1,h2,h3,rfl,rfl,rfl⟩ | ⟨h1,h2,h3⟩ | ⟨h1,h2,h3⟩ | ⟨h1,h2,h3,h4⟩ | ⟨h1,h2,h3,rfl,rfl,rfl⟩
  · subst h1 h2 h3
    simp -implicitDefEqProofs only[bV,h54.symm,aB,seval,sJ]
    exact fX _ _
  · subst h1
    have hcb:=aA7 hg (ea rfl) h3 c m q tr _ (hS' (.cells [.int .i64 1,.int .i64 na,.str sa,.slice (tsa.map Tm.av)]) (.cells [.int .i64 kb,.int .i64 nb,.str sb',.slice (tsb.map Tm.av)])) hl
    rw[bA] at hcb
    by_cases h5:kb=1
    · subst h5
      have h6:¬na=nb:=fun e=>h2 ⟨rfl,e⟩
      simp -implicitDefEqProofs only[bV,h6,bX,h54.symm,aB,seval,sJ]
      refine hcb.mono ?_
      rintro _ s2 ⟨rfl,hp⟩
      simp -implicitDefEqProofs only[aB,seval]
      exact hp.from (hQ _ _) (hS' _ _)
    · simp -implicitDefEqProofs only[bV,h5,bX,h54.symm,aB,seval,sJ]
      refine hcb.mono ?_
      rintro _ s2 ⟨rfl,hp⟩
      simp -implicitDefEqProofs only[aB,seval]
      exact hp.from (hQ _ _) (hS' _ _)
  · subst h2
    have hcb:=aA7 hg (eb rfl) h3 c m q tr _ (hS' (.cells [.int .i64 ka,.int .i64 na,.str sa,.slice (tsa.map Tm.av)]) (.cells [.int .i64 1,.int .i64 nb,.str sb',.slice (tsb.map Tm.av)])) hl
    rw[bA] at hcb
    simp -implicitDefEqProofs only[bV,h1,bX,h54.symm,aB,seval,sJ]
    refine hcb.mono ?_
    rintro _ s2 ⟨rfl,hp⟩
    simp -implicitDefEqProofs only[aB,seval]
    exact hp.from (hQ _ _) (hS' _ _)
  · rw[uW] at h3
    simp only[Tm.k,Tm.n,Tm.s,Tm.ts] at h3
    obtain⟨rfl,rfl,rfl,hlen⟩:=h3
    have c8:decide ((tsa.length:Int)=(tsb.length:Int))=true:=by simp [hlen]
    simp -implicitDefEqProofs only[bV,bX,c8,h54.symm,aF,h1,aB,seval,sJ]
    have hS0:=hS' (.cells [.int .i64 ka,.int .i64 na,.str sa,.slice (tsa.map Tm.av)]) (.cells [.int .i64 ka,.int .i64 na,.str sa,.slice (tsb.map Tm.av)])
    have hQ0:=hQ (.cells [.int .i64 ka,.int .i64 na,.str sa,.slice (tsa.map Tm.av)]) (.cells [.int .i64 ka,.int .i64 na,.str sa,.slice (tsb.map Tm.av)])
    have e4:((st.aC b4 (.cells [.int .i64 ka,.int .i64 na,.str sa,.slice (tsa.map Tm.av)])).aC b5 (.cells [.int .i64 ka,.int .i64 na,.str sa,.slice (tsb.map Tm.av)])) b4=some (.cells [.int .i64 ka,.int .i64 na,.str sa,.slice (tsa.map Tm.av)]):=by rw[aA.aG _ _ h54.symm,aA.aJ]
    have e5:((st.aC b4 (.cells [.int .i64 ka,.int .i64 na,.str sa,.slice (tsa.map Tm.av)])).aC b5 (.cells [.int .i64 ka,.int .i64 na,.str sa,.slice (tsb.map Tm.av)])) b5=some (.cells [.int .i64 ka,.int .i64 na,.str sa,.slice (tsb.map Tm.av)]):=aA.aJ _ _ _
    generalize (st.aC b4 (.cells [.int .i64 ka,.int .i64 na,.str sa,.slice (tsa.map Tm.av)])).aC b5 (.cells [.int .i64 ka,.int .i64 na,.str sa,.slice (tsb.map Tm.av)])=s0 at *
    refine d8 (σ:=Sub×List Int×List Int×AV×aA) [1000000,4,5] [0,4,5,79] tsa
     (fun i p=>cT p.1∧c9 Sm p.1∧gR p.2.2.2.2 c m p.2.2.2.1 p.1 (tr++p.2.1)∧nZ c m s0 q p.2.2.2.2 p.2.2.2.1∧eF g p.1 (tsa.drop i) (tsb.drop i)=some (r,σ',p.2.2.1)∧p.2.1++p.2.2.1=add)
     (fun i _=>[(6,.bool false),(80,.int .i64 i)]) (fun _ p=>p.2.2.2.2) (by decide +kernel)
     ⟨(σ,[],add,q,s0),⟨hg,hsm,by rw[gF];exact hS0,nZ.refl _ _ _ _,h4,rfl⟩,aM.mk (by simp -implicitDefEqProofs only[aB,↓aU,seval])⟩ (fun i x p hx hlt bL hdr hinv=>?_) (fun p hge hinv=>?_)
    case refine_2=>
     obtain⟨σi,ai,rest,qi,si⟩:=p
     obtain⟨i1,i2,i3,i4,i5,i6⟩:=hinv
     simp only at i1 i2 i3 i4 i5 i6
     rw[kK,hlen,kK] at i5
     simp only[eF,Option.some.injEq,Prod.mk.injEq] at i5
     obtain⟨rfl,rfl,rfl⟩:=i5
     rw[gF] at i6
     subst i6
     simp -implicitDefEqProofs only[hge,aB,seval]
     exact⟨qi,i3,hQ0.trans hS0 i4⟩
    obtain⟨σi,ai,rest,qi,si⟩:=p
    obtain⟨i1,i2,i3,i4,i5,i6⟩:=hinv
    simp only at i1 i2 i3 i4 i5 i6
    obtain⟨y,hy⟩:∃y,tsb[i]?=some y:=⟨_,eA (by omega)⟩
    have F0:tsb.drop i=y::tsb.drop (i+1):=by
     obtain⟨h1,h2⟩:=fL.1 hy
     rw[qF h1,h2]
    rw[hdr,F0,eF] at i5
    have f4:=i4.frame b4 _ e4 h4c h4m (hl4 q rfl)
    have f5:=i4.frame b5 _ e5 h5c h5m hl5
    have hw:=bE (n:=(i:Int)+1)
    simp -implicitDefEqProofs only[bL,aB,seval]
    refine wP [(0,1),(1,1),(3,1),(6,1),(8,1),(2,2),(4,1),(5,2),(7,2),(9,1),(10,2),(11,0),(12,1)] [0,1,3,6,8,2,4,5,7,9,10,12] mixed ?_
    simp -implicitDefEqProofs only[f4,f5,bP (av:=Tm.av) aQ hx (aO x),bP (av:=Tm.av) aQ hy (aO y),aB,seval,sJ]
    cases hu:dP g σi x y with
    | none=>rw[hu] at i5;cases i5
    | some p1=>
     obtain⟨r1,σ1,tr1⟩:=p1
     rw[hu] at i5
     have hx1:Sm x:=aPG x (cM hx)
     have hy1:Sm y:=aPH y (cM hy)
     have hU:=zJ i1 hu
     have hA:=(QL a9G g).1 σi x y r1 σ1 tr1 i1 hu i2 hx1 hy1
     have kX:tr1.length≤rest.length:=by
      cases r1 with
      | false=>simp only[Option.some.injEq,Prod.mk.injEq] at i5;rw[i5.2.2];exact cY _
      | true=>
       simp only at i5
       cases hu2:eF g σ1 (tsa.drop (i+1)) (tsb.drop (i+1)) with
       | none=>rw[hu2] at i5;cases i5
       | some p2=>
        obtain⟨r2,σ2,tr2⟩:=p2
        rw[hu2] at i5
        simp only[Option.some.injEq,Prod.mk.injEq] at i5
        rw[←i5.2.2,dQ];omega
     have a25:add.length=ai.length+rest.length:=by rw[←i6,dQ]
     refine(IH σi x y r1 σ1 tr1 i1 i2 hx1 hy1 hu c m qi (tr++ai) si i3 (by rw[dQ];omega)).mono ?_
     rintro _ s2 ⟨rfl,q2,hS2,hQ2⟩
     cases r1 with
     | false=>
      simp only[Option.some.injEq,Prod.mk.injEq] at i5
      obtain⟨rfl,rfl,rfl⟩:=i5
      simp -implicitDefEqProofs only[aB,seval]
      rw[←i6,←lX]
      exact⟨q2,hS2,hQ0.trans hS0 (i4.trans i3 hQ2)⟩
     | true=>
      simp only at i5
      cases hu2:eF g σ1 (tsa.drop (i+1)) (tsb.drop (i+1)) with
      | none=>rw[hu2] at i5;cases i5
      | some p2=>
       obtain⟨r2,σ2,tr2⟩:=p2
       rw[hu2] at i5
       simp only[Option.some.injEq,Prod.mk.injEq] at i5
       obtain⟨rfl,rfl,rfl⟩:=i5
       simp -implicitDefEqProofs only[aB,seval]
       exact⟨(σ1,ai++tr1,tr2,q2,s2),⟨hU.iC,hA,by rw[←lX];exact hS2,i4.trans i3 hQ2,hu2,by rw[lX];exact i6⟩,aM.mk (by simp -implicitDefEqProofs only[hw,aB,seval])⟩
  · have hd:ka=kb→na=nb→sa=sb'→¬(tsa.length:Int)=(tsb.length:Int):=by
     intro e1 e2 e3 e4
     have:wM (Tm.mk ka na sa tsa) (Tm.mk kb nb sb' tsb)=true:=uW.2 ⟨e1,e2,e3,by simp only[Tm.ts];omega⟩
     rw[h3] at this;cases this
    by_cases e1:ka=kb
    · by_cases e2:na=nb
      · by_cases e3:sa=sb'
        · have e4:=hd e1 e2 e3
          subst e1 e2 e3
          simp -implicitDefEqProofs only[bX,bV,h54.symm,h1,aF,e4,aB,seval,sJ]
          exact fX _ _
        · subst e1 e2
          simp -implicitDefEqProofs only[bX,bV,h54.symm,h1,e3,aB,seval,sJ]
          exact fX _ _
      · subst e1
        simp -implicitDefEqProofs only[bX,bV,h54.symm,h1,e2,aB,seval,sJ]
        exact fX _ _
    · clear hd
      simp -implicitDefEqProofs only[bX,h54.symm,h1,h2,e1,aB,seval,sJ]
      exact fX _ _
theorem a6S(σ:Sub)(l:List Int)(n:Int):pI (mapOf (σ.out l)) n none=mapOf (σ.out (l++ [n])):=by
 funext x
 unfold pI mapOf Sub.out
 by_cases h:x=n
 · simp [h]
 · simp only[h,dY,d6,HS,d4]
theorem a05{P:Program}{st:aA}{m:Nat}{σ:Sub}{l:List Int}{t kt et:TypeId}{n:Int}{K:AV→aA→Prop}(hm:st m=some (.map (mapOf (σ.out l))))(hu:P.underlying t=some (.map kt et))(hk:P.underlying kt=some (.int .i64))
 (h:K (.tup []) (st.aC m (.map (mapOf (σ.out (l++ [n])))))):CC P t st (.map m) (.int .i64 n) K:=by
 unfold CC
 simp only[hu,hm,hk]
 rw[a6S]
 exact h
theorem Sub.V9(σ:Sub):σ.out []=σ:=by funext n;simp [Sub.out]
theorem a9A{φ:AF}{d b n k:Nat}(h:φ d=.int .i64 (k:Int))(hk:k=0∨k<n):fH prog φ 46 (.mslice b 0 n 1) (some (.tmp d)) none none=some (.mslice b k (n - k) 1):=by
 have h1:dK φ none n n=some n:=rfl
 have h2:dK φ (some (.tmp d)) 0 n=some k:=by
  unfold dK
  simp only[show φ.eval (.tmp d)=φ d from rfl,h]
  rw[aH (by omega)]
  simp
 unfold fH nE
 rw[aE (by simp [oN])]
 simp only[cZ,h1,h2]
 by_cases h3:k=0
 · subst h3;simp
 · have h4:k<n:=by omega
   simp [h3,h4]
theorem a9D{φ:AF}{d b n:Nat}(h:φ d=.int .i64 (n:Int))(hn:n≠0):fH prog φ 46 (.mslice b 0 n 1) (some (.tmp d)) none none=some .eslice:=by
 have h1:dK φ none n n=some n:=rfl
 have h2:dK φ (some (.tmp d)) 0 n=some n:=by
  unfold dK
  simp only[show φ.eval (.tmp d)=φ d from rfl,h]
  rw[aH (by omega)]
  simp
 unfold fH nE
 rw[aE (by simp [oN])]
 simp only[cZ,h1,h2]
 simp [hn]
theorem W6{φ:AF}{t:TypeId}{ag:Bool}{w d b n k:Nat}(hI:eI prog t=some (ag,w))(h:φ d=.int .i64 (k:Int))(hk:k≤n):fH prog φ t (.mslice b 0 n w) none (some (.tmp d)) none=some (.mslice b 0 k w):=by
 have h1:dK φ (some (.tmp d)) n n=some k:=by
  unfold dK
  simp only[show φ.eval (.tmp d)=φ d from rfl,h]
  rw[aH (by omega)]
  simp
 have h2:dK φ none 0 k=some 0:=rfl
 unfold fH nE
 rw[aE (by simp [oN])]
 simp only[hI,h1,h2]
 simp
theorem aSF{φ:AF}{t:TypeId}{ag:Bool}{w d:Nat}(hI:eI prog t=some (ag,w))(h:φ d=.int .i64 0):fH prog φ t (.fslice []) none (some (.tmp d)) none=some (.fslice []):=by
 have h1:dK φ (some (.tmp d)) 0 0=some 0:=by
  unfold dK
  simp only[show φ.eval (.tmp d)=φ d from rfl,h]
  simp
 have h2:dK φ none 0 0=some 0:=rfl
 unfold fH
 rw[aH ⟨rfl,rfl⟩]
 simp only[hI,h1,h2]
theorem a9B{φ:AF}{d:Nat}(h:φ d=.int .i64 0):fH prog φ 46 (.fslice []) (some (.tmp d)) none none=some (.fslice []):=by
 have h1:dK φ none 0 0=some 0:=rfl
 have h2:dK φ (some (.tmp d)) 0 0=some 0:=by
  unfold dK
  simp only[show φ.eval (.tmp d)=φ d from rfl,h]
  simp
 unfold fH
 rw[aH ⟨rfl,rfl⟩]
 simp only[cZ,h1,h2]
theorem a3Y{P:Program}{t:TypeId}{ag:Bool}{b o len w i:Nat}(hI:eI P t=some (ag,w))(hi:i<len):dG P t (.mslice b o len w) (.int .i64 (i:Int))=some (.ptr b (o+i*w)):=by
 unfold dG
 simp only[hI]
 rw[aH ⟨by omega,by omega,trivial⟩]
 simp
abbrev DX:=zi tI_3 (zi zI_3 (zi aY (zi tI_46 (zi zI_46 (zi cZ (zi eG (zi eE (zi eT (zi tI_141 (zi zI_141 (zi D8 (zi tI_227 (zi zI_227 (zi tI_304 (zi zI_304 (zi FJ (zi FK E6)))))))))))))))))
theorem SU(σ:Sub)(tr:List Int)(mark:Nat)(hm:mark≤tr.length)(c m:Nat)(q:AV)(st:aA)(hS:gR st c m q σ tr)(hl:tr.length≤1099511627776) :
 aD prog 299 [.ptr c 0,.int .i64 (mark:Int)] st (fun r st'=>r=.tup []∧∃q',gR st' c m q' (σ.out (tr.drop mark)) (tr.take mark)∧(∀b∈dV q',b∈dV q)∧∀x o,st x=some o→x≠c→x≠m→st' x=some o):=by
 have hcm:=hS.sub.cm
 rcases hS.fK with ⟨rfl,rfl⟩ | ⟨b,cs,rfl,hb,hcs⟩
 · obtain rfl:mark=0:=by simpa using hm
   have e1:=hS.sub.cells
   have hsl:=fun(φ:AF) (d:Nat) (h:φ d=.int .i64 0)=>a9B h
   have hsh:=fun(φ:AF) (d:Nat) (h:φ d=.int .i64 0)=>aSF cZ h
   simp only[Int.ofNat_zero]
   refine wF [1000000] 2 func299 ntmps299 rfl rfl ?_
   intro _
   simp -implicitDefEqProofs only[e1,hsl,aB,seval,DX]
   refine d8 (σ:=Unit) [1000000] [0,1,11,12] ([]:List Int) (fun i _=>True) (fun i _=>[(13,.int .i64 i)]) (fun _ _=>st) (by decide +kernel) ⟨(),trivial,aM.mk (by simp -implicitDefEqProofs only[aB,↓aU,seval])⟩ (fun i x _ hx hlt bL hdr hinv=>?_) (fun _ hge hinv=>?_)
   · simp at hlt
   · simp -implicitDefEqProofs only[a8,aK,e1,hsh,aB,seval,DX]
     rw[Sub.V9]
     refine⟨.fslice [],⟨⟨aA.aJ _ _ _,?_⟩,.inl ⟨rfl,rfl⟩,by simp [dV]⟩,fun _ h=>h,fun x o h h1 h2=>by rw[aA.aG _ _ h1];exact h⟩
     rw[aA.aG _ _ hcm.symm,hS.sub.map]
 · have e1:=hS.sub.cells
   have hbc:b≠c:=fun e=>hS.apart (by simp [dV,e])
   have hbm:b≠m:=fun e=>hS.OH (by simp [dV,e])
   have hc':∀o,(st.aC m o) c=some (.cells [.map m,.mslice b 0 tr.length 1]):=fun o=>by rw[aA.aG _ _ hcm];exact e1
   have hb':∀o,(st.aC m o) b=some (.cells cs):=fun o=>by rw[aA.aG _ _ hbm];exact hb
   have hm0:st.aC m (.map (mapOf σ))=st:=by
    funext x
    unfold aA.aC
    split
    · rename_i h;rw[h,hS.sub.map]
    · rfl
   have fX:∀st',st'=(st.aC m (.map (mapOf (σ.out (tr.drop mark))))).aC c (.cells [.map m,.mslice b 0 mark 1])→∃q',gR st' c m q' (σ.out (tr.drop mark)) (tr.take mark)∧(∀x∈dV q',x∈dV (.mslice b 0 tr.length 1))∧∀x o,st x=some o→x≠c→x≠m→st' x=some o:=by
    rintro _ rfl
    have hlt:(tr.take mark).length=mark:=by rw[dE];omega
    refine⟨.mslice b 0 mark 1,⟨⟨aA.aJ _ _ _,by rw[aA.aG _ _ hcm.symm,aA.aJ]⟩,.inr ⟨b,cs,by rw[hlt],by rw[aA.aG _ _ hbc];exact hb' _,?_⟩,by simpa [dV] using dH hbc⟩,fun x h=>h,fun x o h h1 h2=>by rw[aA.aG _ _ h1,aA.aG _ _ h2];exact h⟩
    rw[hlt,HR,←hcs,zT,lQ hm]
   have hsh:=fun(φ:AF) (d:Nat) (h:φ d=.int .i64 (mark:Int))=>W6 (b:=b) cZ h hm
   by_cases hk:mark=0∨mark<tr.length
   · have hsl:=fun(φ:AF) (d:Nat) (h:φ d=.int .i64 (mark:Int))=>a9A (b:=b) h hk
     refine wF [1000000] 2 func299 ntmps299 rfl rfl ?_
     intro _
     simp -implicitDefEqProofs only[e1,hsl,aB,seval,DX]
     refine d8 (σ:=Unit) [1000000] [0,1,11,12] (tr.drop mark) (fun i _=>True) (fun i _=>[(13,.int .i64 i)]) (fun i _=>st.aC m (.map (mapOf (σ.out ((tr.drop mark).take i))))) (by decide +kernel) ⟨(),trivial,by rw[jR,Sub.V9,hm0];exact aM.mk (by simp -implicitDefEqProofs only[aB,↓aU,seval])⟩ (fun i x _ hx hlt bL hdr hinv=>?_) (fun _ hge hinv=>?_)
     · have hw:=wrap64 (n:=(i:Int)+1) (by omega) (by rw[mI] at hlt;omega)
       have htk:(tr.drop mark).take (i+1)=(tr.drop mark).take i++ [x]:=by rw[eD,hx];simp
       rw[mI] at hlt bL
       have bDH:decide ((i:Int)<((tr.length - mark:Nat):Int))=true:=by simp;omega
       have hxt:tr[mark+i]?=some x:=by rw[QX] at hx;exact hx
       have a3O:cs=(tr.take (mark+i)).map iv++ [iv x]++((tr.drop (mark+i+1)).map iv++cs.drop tr.length):=by
        have h1:cs=tr.map iv++cs.drop tr.length:=by rw[←hcs];exact(qG _ _).symm
        have h2:tr.map iv=(tr.take (mark+i)).map iv++iv x::(tr.drop (mark+i+1)).map iv:=by
         have h3:tr.drop (mark+i)=x::tr.drop (mark+i+1):=by
          obtain⟨g1,g2⟩:=fL.1 hxt
          rw[qF g1,g2]
         rw[←bH (f:=iv),←h3,←nU,qG]
        rw[h2] at h1
        exact h1.trans (by simp)
       have hA:((tr.take (mark+i)).map iv).length=mark+i:=by simp only[aF,dE];omega
       have hat:=a3Y (P:=prog) (b:=b) (o:=mark) (len:=tr.length - mark) (w:=1) (i:=i) cZ hlt
       have hcb:=hb' (.map (mapOf (σ.out ((tr.drop mark).take i))))
       rw[a3O] at hcb
       have UL:=hc' (.map (mapOf (σ.out ((tr.drop mark).take i))))
       obtain⟨e1',e2,e3,e4,e5,e6⟩:=VP (B:=(tr.drop (mark+i+1)).map iv++cs.drop tr.length) hA
       simp -implicitDefEqProofs only[e6,hat,hcb,UL,bL,xL,aB,seval,DX]
       refine a05 (aA.aJ _ _ _) D8 aY ?_
       rw[dS,←htk]
       simp -implicitDefEqProofs only[hw,aB,seval]
       exact⟨(),aM.mk (by simp -implicitDefEqProofs only[aB,seval])⟩
     · rw[dZ]
       rw[mI] at hge
       have UL:=hc' (.map (mapOf (σ.out (tr.drop mark))))
       have bDF:decide (((tr.length - mark:Nat):Int)<((tr.length - mark:Nat):Int))=false:=by simp
       simp -implicitDefEqProofs only[UL,hge,mI,aK,hsh,aB,seval,DX]
       exact fX _ rfl
   · obtain rfl:mark=tr.length:=by omega
     have hn0:tr.length≠0:=by omega
     have hsl:=fun(φ:AF) (d:Nat) (h:φ d=.int .i64 (tr.length:Int))=>a9D (b:=b) h hn0
     refine wF [1000000] 2 func299 ntmps299 rfl rfl ?_
     intro _
     simp -implicitDefEqProofs only[e1,hsl,mN,eT,aB,↓aU,seval,DX]
     refine d8 (σ:=Unit) [1000000] [0,1,11,12] ([]:List Int) (fun i _=>True) (fun i _=>[(13,.int .i64 i)]) (fun _ _=>st) (by decide +kernel) ⟨(),trivial,aM.mk (by simp -implicitDefEqProofs only[aB,↓aU,seval])⟩ (fun i x _ hx hlt bL hdr hinv=>?_) (fun _ hge hinv=>?_)
     · simp at hlt
     · simp -implicitDefEqProofs only[a8,aK,e1,hsh,aB,seval,DX]
       refine fX _ ?_
       rw[kK,Sub.V9,hm0]
def Y4(v:Tm)(D:Nat)(cnt cb:Nat)(st:aA)(r:AV)(st':aA):Prop:=
 ∃pB:Nat,pB≤121∧st'=st.aC cb (.cells [.int .i64 pB]) ∧
  if v.flat D=true∧cnt+v.nodes≤120 then r=.tup [v.av,.bool true]∧pB=cnt+v.nodes else r=.tup [Tm.zero.av,.bool false]
theorem G4{α:Type}(f:α→Nat):∀l m:List α,bD f (l++m)=bD f l+bD f m
 | [],m=>by simp [bD]
 | x::l,m=>by simp only[iB,bD,G4 f l m];omega
abbrev Cv (t:Tm):Prop:=t.cv=true
theorem aOO{σ:Sub}{R:Int→Tm}{rk:Int→Nat}{B f:Nat}(G:Good σ R rk B){t:Tm}{k n:Int}{s:ByteArray}{ts:List Tm}(hw:gK σ f t (.mk k n s ts))(hc:Cv (.mk k n s ts)):t.aN R=.mk k n s (ts.map (Tm.aN R)):=by
 rw[←hw.aN G.yU]
 by_cases hk:k=1
 · rw[Tm.oO R hk,G.free (show σ n=none from hw.end hk)]
   obtain⟨h1,_⟩:=Tm.pU.1 hc
   obtain⟨rfl,rfl⟩:=h1 hk
   rw[hk];try rfl
 · rw[Tm.nM R hk]
abbrev vL:=zi tI_3 (zi zI_3 (zi aY (zi tI_4 (zi zI_4 (zi cJ (zi tI_9 (zi zI_9 (zi cV (zi tI_31 (zi zI_31 (zi aQ (zi bS (zi bT (zi cI (zi tI_66 (zi zI_66 (zi bZ (zi b9 (zi cA (zi cB (zi bY (zi tI_202 (zi zI_202 (zi tI_227 zI_227))))))))))))))))))))))))
theorem aCA{σ:Sub}{R:Int→Tm}{rk:Int→Nat}{B:Nat}(G:Good σ R rk B)(hcv:c9 Cv σ)(hsm:c9 Sm σ)(c m cb:Nat)(q:AV)(hcb:cb≠c∧cb≠m) :
 ∀(D:Nat) (t:Tm) (cnt:Nat) (st:aA),D≤31→Cv t→Sm t→cnt≤120→jS st c m q σ→st cb=some (.cells [.int .i64 cnt]) →
 aD prog 356 [.ptr c 0,t.av,.int .i64 (31 - D:Int),.ptr cb 0] st (Y4 (t.aN R) D cnt cb st)
 | D,t,cnt,st,hD,hct,hst,aO7,hS,hC=>by
  have IH:=fun(D':Nat) (hlt:D'<D) (x:Tm) cnt st=>aCA G hcv hsm c m cb q hcb D' x cnt st
  obtain⟨f,hw⟩:=G.wk t
  generalize wk σ t=u at *
  have hcu:=hw.all (p:=Cv) hcv hct
  have hsu:=hw.all (p:=Sm) hsm hst
  have hcw:=fun st (hS:jS st c m q σ)=>MV hw c m q st hS
  obtain⟨k,n,s,ts⟩:=u
  have hv:=aOO G hw hcu
  rw[hv]
  obtain⟨hlen,qY⟩:=Tm.rG hsu
  obtain⟨_,a3Q⟩:=Tm.pU.1 hcu
  refine aD.nG (aD.fin ?_)
  refine wF [1000000,5,10] 4 func356 ntmps356 rfl rfl ?_
  intro _
  simp -implicitDefEqProofs only[aB,seval,vL]
  intro b5 h5 b8 h8
  have h85:b8≠b5:=by rintro rfl;rw[aA.aJ] at h8;cases h8
  have hn8:st b8=none:=by rw[aA.aG st _ h85] at h8;exact h8
  have hS':∀o o',jS ((st.aC b5 o).aC b8 o') c m q σ:=fun o o'=>(hS.aC h5).aC (by rw[aA.aG _ _ h85];exact hn8)
  have hb5:cb≠b5:=by rintro rfl;rw[hC] at h5;cases h5
  have hb8:cb≠b8:=by rintro rfl;rw[hC] at hn8;cases hn8
  have hwc:IntKind.i64.wrap ((cnt:Int)+1)=(cnt:Int)+1:=wrap64 (by omega) (by omega)
  simp -implicitDefEqProofs only[h85.symm,aB,seval]
  refine(hcw _ (hS' _ _)).to ?_
  simp only[bA]
  simp -implicitDefEqProofs only[aK,h85.symm,hb5,hb8,hC,hwc,aB,seval,vL]
  have UQ:∀(st':aA) (pB:Nat),pB≤121→aL st' (st.aC cb (.cells [.int .i64 pB]))→¬((Tm.mk k n s (ts.map (Tm.aN R))).flat D=true∧cnt+(Tm.mk k n s (ts.map (Tm.aN R))).nodes≤120) →
   ∃b l s0,st'=aZ s0 b l∧(l≠[]→s0 b=none)∧(∀e∈l,e.cE=false)∧iV l∧∃s2,aL s0 s2∧Y4 (Tm.mk k n s (ts.map (Tm.aN R))) D cnt cb st (AV.fin b l (.tup [.agg [.int .i64 0,.int .i64 0,.str ⟨#[]⟩,.fslice []],.bool false])) s2:=fun st' pB h1 h2 h3=>by
   refine⟨0,[],st',rfl,by simp,by simp,⟨4,by simp⟩,_,h2,pB,h1,rfl,?_⟩
   rw[aE h3]
   simp only[Tm.zero,bA,jH,kC,fS,rU,pE,oL,bH,a7]
  have hdr:∀o5 o8 o5' o8' pB,aL (((((st.aC b5 o5).aC b8 o8).aC b5 o5').aC cb (.cells [.int .i64 pB])).aC b8 o8') (st.aC cb (.cells [.int .i64 pB])):=fun o5 o8 o5' o8' pB x=>by
   by_cases e5:x=b5<;>by_cases e8:x=b8<;>by_cases ec:x=cb<;>simp_all [aA.aC]
  refine cX (fun h=>?_) (fun h=>?_)
  case refine_2=>
   simp -implicitDefEqProofs only[h,aK,h85,hb8.symm,aB,seval,vL]
   refine UQ _ (cnt+1) (by omega) (hdr _ _ _ _ _) ?_
   simp at h
   rw[Tm.iD]
   omega
  simp -implicitDefEqProofs only[h,aB,seval]
  simp at h
  refine aP (fun h2=>?_) (fun h2=>?_)
  · simp only[bK] at h2
    obtain rfl:D=0:=by omega
    simp -implicitDefEqProofs only[aK,h85,hb8.symm,aB,↓aU,seval,vL]
    exact UQ _ (cnt+1) (by omega) (hdr _ _ _ _ _) (by rw[Tm.JK];simp)
  simp only[dJ] at h2
  obtain⟨D',rfl⟩:∃D',D=D'+1:=⟨D - 1,by omega⟩
  have a3R:IntKind.i64.wrap (31 - ((D':Int)+1)+1)=31 - (D':Int):=by rw[wrap64 (by omega) (by omega)];omega
  simp -implicitDefEqProofs only[aK,hb5.symm,aB,↓aU,seval,vL]
  intro b10 h10
  have TY:b10≠b5:=by rintro rfl;simp [aA.aC,hb5.symm] at h10
  have FP:b10≠b8:=by rintro rfl;simp [aA.aC,h85,hb8.symm] at h10
  have TZ:b10≠cb:=by rintro rfl;simp [aA.aC] at h10
  have a4M:st b10=none:=by rw[aA.aG _ _ TZ,aA.aG _ _ TY,aA.aG _ _ FP,aA.aG _ _ TY] at h10;exact h10
  simp -implicitDefEqProofs only[hb5.symm,TY.symm,aF,aB,seval,vL]
  rw[aA.BR h85]
  have hWS:jS ((st.aC b8 (.cells [.int .i64 0,.int .i64 0,.str ⟨#[]⟩,.fslice []])).aC b5 (.cells [.int .i64 k,.int .i64 n,.str s,.slice (ts.map Tm.av)])) c m q σ:=(hS.aC hn8).aC (by rw[aA.aG _ _ h85.symm];exact h5)
  have hW8:((st.aC b8 (.cells [.int .i64 0,.int .i64 0,.str ⟨#[]⟩,.fslice []])).aC b5 (.cells [.int .i64 k,.int .i64 n,.str s,.slice (ts.map Tm.av)])) b8=some (.cells [.int .i64 0,.int .i64 0,.str ⟨#[]⟩,.fslice []]):=by rw[aA.aG _ _ h85,aA.aJ]
  have hWd:∀X Y Z,aL (((((st.aC b8 (.cells [.int .i64 0,.int .i64 0,.str ⟨#[]⟩,.fslice []])).aC b5 (.cells [.int .i64 k,.int .i64 n,.str s,.slice (ts.map Tm.av)])).aC cb X).aC b8 Y).aC b10 Z) (st.aC cb X):=fun X Y Z x=>by
   by_cases e5:x=b5<;>by_cases e8:x=b8<;>by_cases ec:x=cb<;>by_cases e10:x=b10<;>simp_all [aA.aC]
  generalize ((st.aC b8 (.cells [.int .i64 0,.int .i64 0,.str ⟨#[]⟩,.fslice []])).aC b5 (.cells [.int .i64 k,.int .i64 n,.str s,.slice (ts.map Tm.av)]))=W at *
  obtain⟨a2X,a2Y⟩:=hS.ne a4M
  refine d8 (σ:=Nat) [1000000,5,10] [0,2,3,8,10,40,41] ts
   (fun i b=>(((ts.take i).map (Tm.aN R)).map Tm.av≠[]→(aA.aC (W.aC cb (.cells [.int .i64 ((cnt+1+bD Tm.nodes ((ts.take i).map (Tm.aN R)):Nat):Int)])) b10 (.cells ([.int .i64 k,.int .i64 n,.str s]++ [bU 4 b (((ts.take i).map (Tm.aN R)).map Tm.av)]))) b=none) ∧
    cnt+1+bD Tm.nodes ((ts.take i).map (Tm.aN R))≤120∧((ts.take i).map (Tm.aN R)).all (fun x=>x.flat D')=true)
   (fun i b=>[(9,.bool false),(42,.int .i64 i)])
   (fun i b=>mC (W.aC cb (.cells [.int .i64 ((cnt+1+bD Tm.nodes ((ts.take i).map (Tm.aN R)):Nat):Int)])) b10 b [.int .i64 k,.int .i64 n,.str s] (((ts.take i).map (Tm.aN R)).map Tm.av)) (by decide +kernel)
   ⟨0,⟨fun h=>absurd rfl h,by simp [bD];omega,by simp⟩,aM.mk (by simp -implicitDefEqProofs only[aB,↓aU,seval])⟩ (fun i x b hx hlt bL F0 hinv=>?_) (fun b hge hinv=>?_)
  · obtain⟨i1,i2,i3⟩:=hinv
    have htk:(ts.take (i+1)).map (Tm.aN R)=(ts.take i).map (Tm.aN R)++ [x.aN R]:=by rw[eD,hx];simp
    have c8:(((ts.take i).map (Tm.aN R)).map Tm.av).length=i:=by simp only[aF,dE];omega
    have hw:=bE (n:=(i:Int)+1)
    have fT:=cM hx
    generalize hl0:(ts.take i).map (Tm.aN R)=l0 at *
    generalize hc0:cnt+1+bD Tm.nodes l0=c0 at *
    have hWc:(W.aC cb (.cells [.int .i64 (c0:Int)])) cb≠none:=by rw[aA.aJ];simp
    have hs1:=pH i1 hWc TZ.symm
    have hsS:jS (mC (W.aC cb (.cells [.int .i64 (c0:Int)])) b10 b [.int .i64 k,.int .i64 n,.str s] (l0.map Tm.av)) c m q σ:=by
     have h1:=(hWS.QM (o:=.cells [.int .i64 (c0:Int)]) hcb.1 hcb.2)
     exact⟨by rw[pH i1 (by rw[h1.cells];simp) a2X.symm];exact h1.cells,by rw[pH i1 (by rw[h1.map];simp) a2Y.symm];exact h1.map⟩
    rw[aA.aJ] at hs1
    simp -implicitDefEqProofs only[bL,a3R,bP (av:=Tm.av) aQ hx (aO x),bG,aO,aB,↓aU,seval,vL]
    refine(IH D' (Nat.lt_succ_self _) x c0 _ (by omega) (a3Q x fT) (qY x fT) i2 hsS hs1).mono ?_
    rintro r s2 ⟨pB,a3K,rfl,hr⟩
    obtain⟨e1,i1'⟩:=aQC (o:=.cells [.int .i64 (pB:Int)]) i1 hWc TZ.symm
    rw[e1,dS]
    rw[dS] at i1'
    have uY:(ts.map (Tm.aN R))=l0++(x.aN R)::(ts.drop (i+1)).map (Tm.aN R):=by rw[←hl0,←bH,←F0,←nU,qG]
    by_cases hok:(x.aN R).flat D'=true∧c0+(x.aN R).nodes≤120
    · rw[aH hok] at hr
      obtain⟨rfl,rfl⟩:=hr
      have hbo:=nL i1'
      simp -implicitDefEqProofs only[bG,aO,cP,cU,hbo,sV,aB,↓aU,seval,vL]
      refine eQ aQ bS bT rfl rfl (f9 (aO _) (cP _)) (gZ _) i1' (by simp only[c8,aX,a8];omega) (by simp only[c8,aX,a8];omega) (fun b' hb'=>?_)
      rw[show l0.map Tm.av++ [(x.aN R).av]=((ts.take (i+1)).map (Tm.aN R)).map Tm.av by rw[htk];simp] at hb' ⊢
      obtain⟨g1,g2,g3⟩:=yV hb'
      simp only[iB,fF] at g1 g3
      have hcc:cnt+1+bD Tm.nodes ((ts.take (i+1)).map (Tm.aN R))=c0+(x.aN R).nodes:=by rw[htk,G4,bD,bD,←hc0];omega
      simp -implicitDefEqProofs only[g3,rS,kU,g1,hw,aK,aB,seval,vL]
      rw[hcc]
      exact⟨b',⟨g2,hok.2,by rw[htk,EH,i3];simp [hok.1]⟩,aM.mk (by simp -implicitDefEqProofs only[aB,seval])⟩
    · rw[aE hok] at hr
      subst hr
      obtain⟨e2,i2'⟩:=aQC (x:=b8) (o:=.cells [.int .i64 0,.int .i64 0,.str ⟨#[]⟩,.fslice []]) i1' (by rw[aA.aG _ _ hb8.symm,hW8];simp) FP.symm
      have h8o:=pH i1' (x:=b8) (by rw[aA.aG _ _ hb8.symm,hW8];simp) FP.symm
      rw[aA.aG _ _ hb8.symm,hW8] at h8o
      simp -implicitDefEqProofs only[aK,h8o,Tm.zero,bA,a7,aB,↓aU,seval,vL]
      rw[e2]
      refine UQ _ pB a3K (a57 (hWd _ _ _) i2') ?_
      rw[Tm.iD,Tm.yG,uY,EH,kJ,G4,bD]
      rintro⟨h3,h4⟩
      simp only[cF] at h3
      exact hok ⟨h3.2.1,by omega⟩
  · obtain⟨i1,i2,i3⟩:=hinv
    rw[dZ] at i1 i2 i3 ⊢
    have hbo:=nL i1
    have hx8:(W.aC cb (.cells [.int .i64 ((cnt+1+bD Tm.nodes (ts.map (Tm.aN R)):Nat):Int)])) b8≠none:=by rw[aA.aG _ _ hb8.symm,hW8];simp
    have h8o:=pH i1 (x:=b8) hx8 FP.symm
    rw[aA.aG _ _ hb8.symm,hW8] at h8o
    simp -implicitDefEqProofs only[aK,hge,hbo,h8o,kU,aB,seval,vL]
    obtain⟨h5,h6⟩:=wV (o:=.cells [.int .i64 k,.int .i64 n,.str s,bU 4 b ((ts.map (Tm.aN R)).map Tm.av)]) i1 hx8 FP.symm
    have A5:cnt+(Tm.mk k n s (ts.map (Tm.aN R))).nodes=cnt+1+bD Tm.nodes (ts.map (Tm.aN R)):=by rw[Tm.iD];omega
    refine⟨b,_,_,h5,h6,pM _,⟨4,gZ _⟩,_,?_,_,Nat.le_succ_of_le i2,rfl,?_⟩
    · rw[aA.m7 _ _ _ FP]
      exact hWd _ _ _
    · rw[aH ⟨by rw[Tm.yG];exact i3,by rw[A5];exact i2⟩,A5]
      refine⟨?_,rfl⟩
      simp only[kC,jH,bH,a7,fS,pE,rU,oH,bA]
termination_by D=>D
decreasing_by exact hlt
def OP(v:Tm):AV:=if v.flat 30=true∧v.nodes≤120 then .tup [v.av,.bool true] else .tup [Tm.zero.av,.bool false]
abbrev XV:=zi tI_3 (zi zI_3 (zi aY (zi tI_4 (zi zI_4 (zi cJ (zi tI_66 (zi zI_66 (zi bZ (zi b9 (zi cA (zi cB (zi bY (zi tI_202 (zi zI_202 (zi tI_227 zI_227)))))))))))))))
theorem aB9{σ:Sub}{R:Int→Tm}{rk:Int→Nat}{B:Nat}(G:Good σ R rk B)(hcv:c9 Cv σ)(hsm:c9 Sm σ)(c m:Nat)(q:AV)(t:Tm)(hct:Cv t)(hst:Sm t)(st:aA)(hS:jS st c m q σ) :
 aD prog 307 [.ptr c 0,t.av] st (fun r st'=>r=OP (t.aN R)∧st'=st):=by
 refine aD.done ?_
 refine wF [1000000,6] 2 func307 ntmps307 rfl rfl ?_
 intro _
 simp -implicitDefEqProofs only[aK,aB,↓aU,seval,XV]
 intro b4 h4 b6 h6
 have hne:b6≠b4:=by rintro rfl;rw[aA.aJ] at h6;cases h6
 have hn6:st b6=none:=by rw[aA.aG st _ hne] at h6;exact h6
 have hS':∀o o',jS ((st.aC b4 o).aC b6 o') c m q σ:=fun o o'=>(hS.aC h4).aC (by rw[aA.aG _ _ hne];exact hn6)
 obtain⟨h6c,h6m⟩:=hS.ne hn6
 have hc:=aCA G hcv hsm c m b6 q ⟨h6c,h6m⟩ 30 t 0 _ (by omega) hct hst (by omega) (hS' (.cells [.int .i64 0,.int .i64 0,.str ⟨#[]⟩,.fslice []]) (.cells [.int .i64 0])) (aA.aJ _ _ _)
 rw[show(31 - ((30:Nat):Int))=1 from rfl] at hc
 refine hc.mono ?_
 rintro r s2 ⟨pB,_,rfl,hr⟩
 unfold OP
 rw[iE] at hr
 split at hr
 · rename_i hok
   obtain⟨rfl,_⟩:=hr
   rw[aH hok]
   simp -implicitDefEqProofs only[cL,cP,aK,hne.symm,aB,seval,XV]
   exact⟨by simp only[jZ,sI,Tm.soft,bH,a7],(((aL.refl _).aC h4).aC hn6).aC h4⟩
 · rename_i hok
   subst hr
   rw[aE hok]
   simp -implicitDefEqProofs only[Tm.zero,bA,a7,aK,hne.symm,aB,seval,XV]
   exact⟨by simp only[iT,jZ,iU,sI,nT,n9,bH,a7],(((aL.refl _).aC h4).aC hn6).aC h4⟩
abbrev bAI:=zi tI_141 (zi zI_141 (zi D8 (zi tI_227 (zi zI_227 (zi tI_304 (zi zI_304 (zi FJ (zi FK E6))))))))
theorem aZ4(st:aA):aD prog 225 [] st (fun r st'=>∃c m,r=.ptr c 0∧gR st' c m (.fslice []) Sub.none []∧nZ c m st (.fslice []) st' (.fslice [])∧st c=none∧st m=none):=by
 refine wF [1000000,3] 0 func225 ntmps225 rfl rfl ?_
 intro _
 simp -implicitDefEqProofs only[aB,seval,bAI]
 intro m hm c hc
 have hne:c≠m:=by rintro rfl;rw[aA.aJ] at hc;cases hc
 have hnc:st c=none:=by rw[aA.aG st _ hne] at hc;exact hc
 refine⟨c,m,rfl,⟨⟨aA.aJ _ _ _,by rw[aA.aG _ _ hne.symm,aA.aJ];try rfl⟩,.inl ⟨rfl,rfl⟩,by simp [dV]⟩,⟨fun x o h h1 h2 _=>by rw[aA.aG _ _ h1,aA.aG _ _ h2];exact h,by simp [dV]⟩,hnc,hm⟩
theorem jS.acc{st:aA}{c m b:Nat}{q:AV}{σ:Sub}{l:List AV}(h:jS st c m q σ)(hb:l≠[]→st b=none):jS (aZ st b l) c m q σ:=by
 cases l with
 | nil=>exact h
 | cons x l=>exact h.aC (hb (by simp))
abbrev bDU:=zi tI_3 (zi zI_3 (zi aY (zi tI_23 (zi zI_23 (zi aDG (zi aDD (zi aDI (zi aUN (zi tI_31 (zi zI_31 (zi aQ (zi bS (zi bT (zi cI (zi tI_66 (zi zI_66 (zi bZ (zi b9 (zi cA (zi cB (zi bY (zi tI_90 (zi zI_90 (zi aN4 (zi aN5 (zi aN6 (zi aN7 aAP)))))))))))))))))))))))))))
abbrev XX:=zi tI_3 (zi zI_3 (zi aY (zi tI_4 (zi zI_4 (zi cJ (zi tI_31 (zi zI_31 (zi aQ (zi bS (zi bT (zi cI (zi tI_66 (zi zI_66 (zi bZ (zi b9 (zi cA (zi cB bY)))))))))))))))))
theorem aA3(l l':List Tm)(g:FuncId)(st:aA)(hc:∀x∈l,∀(y:Tm) (st:aA),aD prog g [Tm.av x,Tm.av y] st (fun r st'=>r=.bool (Tm.same x y)∧st'=st)) :
 aD prog 165 [.slice (l.map Tm.av),.slice (l'.map Tm.av),.func g []] st (fun r st'=>r=.bool (nH Tm.same l l')∧st'=st):=by
 refine wF [1000000] 3 func165 ntmps165 rfl rfl ?_
 simp only[eW,AV.fits,fC,aF]
 intro ⟨⟨hl,_⟩,⟨hl',_⟩⟩
 simp -implicitDefEqProofs only[aF,aB,seval,XX]
 refine⟨fun h4=>?_,fun h4=>?_⟩
 · simp -implicitDefEqProofs only[aB,seval]
   simp only[mG,dJ] at h4
   rw[TH _ (show l.length≠l'.length by omega)]
 simp only[rM,bK] at h4
 have h4':l.length=l'.length:=by omega
 simp -implicitDefEqProofs only[aF,aB,seval,XX]
 refine d8 (σ:=Unit) [1000000] [1,2,15,16] l (fun i _=>∀(j:Nat) (x y:Tm),j<i→l[j]?=some x→l'[j]?=some y→Tm.same x y=true) (fun i _=>[(17,.int .i64 i)]) (fun _ _=>st) (by decide +kernel) ⟨(),by intro j x y h;omega,aM.mk (by simp -implicitDefEqProofs only[aB,↓aU,seval])⟩ (fun i x _ hx hlt bL hdr d7=>?_) (fun _ hge d7=>?_)
 case refine_2=>
  simp -implicitDefEqProofs only[hge,aB,seval]
  rw[TE _ h4' (fun j x y h6 h7=>d7 j x y (by have:=(fL.1 h6).1;omega) h6 h7)]
 obtain⟨y,hy⟩:∃y,l'[i]?=some y:=⟨_,eA (h4'▸hlt)⟩
 have hw:=bE (n:=(i:Int)+1)
 simp -implicitDefEqProofs only[bL,bG,aO,cP,cU,bP (av:=Tm.av) aQ hx (aO x),bP (av:=Tm.av) aQ hy (aO y),aB,↓aU,seval,XX]
 refine(hc x (cM hx) y _).to ?_
 simp -implicitDefEqProofs only[aB,seval]
 refine⟨fun h6=>?_,fun h6=>?_⟩
 · simp -implicitDefEqProofs only[aB,seval]
   have h7:Tm.same x y=false:=by simpa using h6
   rw[TF _ i x y hx hy h7]
 have h7:Tm.same x y=true:=by simpa using h6
 simp -implicitDefEqProofs only[aB,seval]
 refine⟨(),fun j u v hj hu hv=>?_,aM.mk (by simp -implicitDefEqProofs only[hw,aB,seval])⟩
 rcases mL j i with h8 | h8
 · exact d7 j u v h8 hu hv
 · obtain rfl:j=i:=by omega
   rw[hx] at hu;rw[hy] at hv;cases hu;cases hv;exact h7
abbrev bDV:=zi tI_3 (zi zI_3 (zi aY (zi tI_9 (zi zI_9 (zi cV (zi tI_23 (zi zI_23 (zi aDG (zi aDD (zi aDI (zi aUN (zi tI_31 (zi zI_31 (zi aQ (zi bS (zi bT (zi cI (zi tI_66 (zi zI_66 (zi bZ (zi b9 (zi cA (zi cB (zi bY (zi tI_90 (zi zI_90 (zi aN4 (zi aN5 (zi aN6 (zi aN7 aAP))))))))))))))))))))))))))))))
abbrev PO:=zi tI_3 (zi zI_3 (zi aY (zi tI_4 (zi zI_4 (zi cJ (zi tI_9 (zi zI_9 (zi cV (zi tI_31 (zi zI_31 (zi aQ (zi bS (zi bT (zi cI (zi tI_66 (zi zI_66 (zi bZ (zi b9 (zi cA (zi cB bY))))))))))))))))))))
theorem SF:∀(a b:Tm) (st:aA),aD prog 133 [a.av,b.av] st (fun r st'=>r=.bool (a.same b)∧st'=st)
 | .mk k n s ts,.mk k' n' s' ts',st=>by
  have hc:=aA3 ts ts' 133 st fun x hx y st=>SF x y st
  refine wF [] 2 func133 ntmps133 rfl rfl ?_
  intro _
  simp only[bA,Tm.WW]
  simp -implicitDefEqProofs only[aB,seval,PO]
  refine cX (fun h1=>?_) (fun h1=>?_)
  case refine_2=>
   simp -implicitDefEqProofs only[h1,aB,seval]
   simp at h1
   simp []
  simp -implicitDefEqProofs only[h1,aB,seval,PO]
  refine cX (fun h2=>?_) (fun h2=>?_)
  case refine_2=>
   simp -implicitDefEqProofs only[h2,aB,seval]
   simp at h2
   simp []
  simp -implicitDefEqProofs only[h2,aB,seval,PO]
  refine cX (fun h3=>?_) (fun h3=>?_)
  case refine_2=>
   simp -implicitDefEqProofs only[h3,aB,seval]
   simp at h3
   simp []
  simp -implicitDefEqProofs only[h3,aB,seval,PO]
  refine hc.to ?_
  simp -implicitDefEqProofs only[aB,seval]
termination_by a=>SizeOf.sizeOf a
decreasing_by have:=List.sizeOf_lt_of_mem hx;simp only[Tm.mk.sizeOf_spec];omega
abbrev HB:=zi tI_3 (zi zI_3 (zi aY (zi tI_4 (zi zI_4 (zi cJ (zi tI_9 (zi zI_9 (zi cV (zi tI_31 (zi zI_31 (zi aQ (zi bS (zi bT (zi cI (zi tI_66 (zi zI_66 (zi bZ (zi b9 (zi cA (zi cB bY))))))))))))))))))))
theorem aCI:∀(a b:Tm) (st:aA),aD prog 326 [a.av,b.av] st (fun r st'=>r=.bool (a.same b)∧st'=st)
 | .mk k n s ts,.mk k' n' s' ts',st=>by
  have hc:=fun(x:Tm) (hx:x∈ts) y st=>aCI x y st
  refine wF [] 2 func326 ntmps326 rfl rfl ?_
  simp only[bA,eW,AV.fits,fC,aF,Tm.WW]
  intro ⟨⟨_,_,_,hl,_⟩,⟨_,_,_,hl',_⟩⟩
  simp -implicitDefEqProofs only[aB,seval,HB]
  refine cX (fun h1=>?_) (fun h1=>?_)
  case refine_2=>
   simp -implicitDefEqProofs only[h1,aB,seval]
   simp at h1
   simp [h1]
  simp -implicitDefEqProofs only[h1,aB,seval,HB]
  refine cX (fun h2=>?_) (fun h2=>?_)
  case refine_2=>
   simp -implicitDefEqProofs only[h2,aB,seval]
   simp at h2
   simp [h2]
  simp -implicitDefEqProofs only[h2,aB,seval,HB]
  refine cX (fun h3=>?_) (fun h3=>?_)
  case refine_2=>
   simp -implicitDefEqProofs only[h3,aB,seval]
   simp at h3
   simp [h3]
  simp -implicitDefEqProofs only[h3,aF,aB,seval,HB]
  refine⟨fun h4=>?_,fun h4=>?_⟩
  · simp -implicitDefEqProofs only[aB,seval]
    simp only[mG,dJ] at h4
    rw[TH _ (show ts.length≠ts'.length by omega)]
    simp
  simp -implicitDefEqProofs only[aB,seval]
  simp only[rM,bK] at h1 h2 h3 h4
  have h4':ts.length=ts'.length:=by omega
  subst h1 h2 h3
  simp only[bV,eU]
  refine zN (α:=Nat) [] (fun i=>i≤ts.length∧∀(j:Nat) (x y:Tm),j<i→ts[j]?=some x→ts'[j]?=some y→Tm.same x y=true)
   (fun i=>[(2,.pptr (.agg [.int .i64 k,.int .i64 n,.str s,.slice (ts.map Tm.av)])),(3,.pptr (.agg [.int .i64 k,.int .i64 n,.str s,.slice (ts'.map Tm.av)])),(5,.int .i64 i)]) (fun _=>st) (fun i=>ts.length - i) (by decide +kernel)
   ⟨0,⟨by omega,by intro j x y h;omega⟩,aM.mk (by simp -implicitDefEqProofs only[aB,↓aU,seval])⟩ ?_
  intro i ⟨hi,d7⟩
  simp -implicitDefEqProofs only[aF,aB,seval,HB]
  refine⟨fun h5=>?_,fun h5=>?_⟩
  case refine_2=>
   simp -implicitDefEqProofs only[aB,seval]
   simp only[dJ,oE] at h5
   rw[TE _ h4' (fun j x y h6 h7=>d7 j x y (by have:=(fL.1 h6).1;omega) h6 h7)]
  simp only[bK,oE] at h5
  obtain⟨x,hx⟩:∃x,ts[i]?=some x:=⟨_,eA h5⟩
  obtain⟨y,hy⟩:∃y,ts'[i]?=some y:=⟨_,eA (h4'▸h5)⟩
  simp -implicitDefEqProofs only[aB,seval]
  refine aWQ mixed (by decide +kernel) (by decide +kernel) ?_
  simp -implicitDefEqProofs only[bP (av:=Tm.av) aQ hx (aO x),bP (av:=Tm.av) aQ hy (aO y),bG,aO,aB,seval,HB]
  refine(hc x (cM hx) y st).to ?_
  simp -implicitDefEqProofs only[aB,seval]
  refine⟨fun h6=>?_,fun h6=>?_⟩
  · simp -implicitDefEqProofs only[aB,seval]
    have h7:Tm.same x y=false:=by simpa using h6
    rw[TF _ i x y hx hy h7]
  have h7:Tm.same x y=true:=by simpa using h6
  simp -implicitDefEqProofs only[aB,seval]
  refine⟨i+1,by omega,⟨by omega,fun j u v hj hu hv=>?_⟩,aM.mk ?_⟩
  · rcases mL j i with h8 | h8
    · exact d7 j u v h8 hu hv
    · obtain rfl:j=i:=by omega
      rw[hx] at hu;rw[hy] at hv;cases hu;cases hv;exact h7
  · have:=bE (n:=(i:Int)+1)
    simp -implicitDefEqProofs only[this,aB,seval]
termination_by a=>SizeOf.sizeOf a
decreasing_by have:=List.sizeOf_lt_of_mem hx;simp only[Tm.mk.sizeOf_spec];omega
abbrev bDP:=zi tI_3 (zi zI_3 (zi aY (zi tI_4 (zi zI_4 cJ))))
theorem qN(b:Bool)(st:aA):aD prog 359 [.bool b] st (fun r st'=>r=.int .i64 (jA b)∧st'=st):=by
 refine wF [1000000] 1 func359 ntmps359 rfl rfl ?_
 intro _
 simp -implicitDefEqProofs only[aB,seval]
 cases b
 · simp -implicitDefEqProofs only[jA,aB,seval]
 · simp -implicitDefEqProofs only[jA,aB,seval]
abbrev a9X:=zi tI_2 (zi zI_2 (zi QI (zi tI_3 (zi zI_3 (zi aY (zi tI_66 (zi zI_66 (zi bZ (zi b9 (zi cA (zi cB bY)))))))))))
theorem aZ6(n:Int)(st:aA):aD prog 297 [.int .i64 n] st (fun r st'=>r=(pG n).av∧st'=st):=by
 refine aD.done ?_
 refine wF [1000000] 1 func297 ntmps297 rfl rfl ?_
 intro _
 simp -implicitDefEqProofs only[aK,aB,seval,a9X]
 intro b hb
 unfold pG
 exact⟨by simp only[bA,iT,iU,nT,mV,bH,a7,a7],(aL.refl _).aC hb⟩
abbrev XE:=zi tI_3 (zi zI_3 (zi aY (zi tI_4 (zi zI_4 (zi cJ (zi tI_9 (zi zI_9 (zi cV (zi tI_31 (zi zI_31 (zi aQ (zi bS (zi bT (zi cI (zi tI_66 (zi zI_66 (zi bZ (zi b9 (zi cA (zi cB (zi bY (zi tI_147 (zi zI_147 (zi lT (zi qP (zi qR sN))))))))))))))))))))))))))
theorem aX2(k n:Int)(s:ByteArray)(ts:List Tm)(st:aA):aD prog 357 [(Tm.mk k n s ts).av] st (fun r st'=>r=.bool (decide (k=3)&&decide ((ts.length:Int)=2)&&gO tA s)∧st'=st):=by
 simp only[bA]
 refine wF [1000000] 1 func357 ntmps357 rfl rfl ?_
 intro _
 simp -implicitDefEqProofs only[aB,seval,XE]
 refine cX (fun h=>?_) (fun h=>?_)
 · simp -implicitDefEqProofs only[h,aF,aB,seval,XE]
   refine cX (fun h2=>?_) (fun h2=>?_)
   · simp -implicitDefEqProofs only[h2,aB,seval,XE]
     refine(SB tA s _).to ?_
     simp -implicitDefEqProofs only[aB,seval]
     simp [gO]
   · simp -implicitDefEqProofs only[h2,aB,seval]
     simp []
 · simp -implicitDefEqProofs only[h,aB,seval]
   simp []
abbrev XF:=zi tI_3 (zi zI_3 (zi aY (zi tI_4 (zi zI_4 (zi cJ (zi tI_9 (zi zI_9 (zi cV (zi tI_31 (zi zI_31 (zi aQ (zi bS (zi bT (zi cI (zi tI_66 (zi zI_66 (zi bZ (zi b9 (zi cA (zi cB bY))))))))))))))))))))
theorem aX1(n:Int)(s:ByteArray)(x y:Tm)(hs:gO tA s=true){N:Int}(hx:cO N x)(hy:cO N y)(st:aA):aD prog 358 [(Tm.mk 3 n s [x,y]).av] st (fun r st'=>r=.int .i64 (AI s x y)∧st'=st):=by
 have eC:dG prog 31 (.slice [x.av,y.av]) (.int .i64 0)=some (.pptr x.av):=bP (av:=Tm.av) (l:=[x,y]) (i:=0) aQ rfl (aO x)
 have gX:dG prog 31 (.slice [x.av,y.av]) (.int .i64 1)=some (.pptr y.av):=bP (av:=Tm.av) (l:=[x,y]) (i:=1) aQ rfl (aO y)
 have hax:=fun st=>MM x st hx
 have hay:=fun st=>MM y st hy
 unfold AI both
 simp only[bA,bH,a7]
 refine wF [1000000] 1 func358 ntmps358 rfl rfl ?_
 intro _
 simp -implicitDefEqProofs only[eC,bG,aO,aB,seval,XF]
 refine(hax _).to ?_
 generalize x.ev.1=a at *
 generalize x.ev.2=ca at *
 generalize y.ev.1=b at *
 generalize y.ev.2=cb at *
 simp -implicitDefEqProofs only[aB,seval]
 refine aP (fun h4=>?_) (fun h4=>?_)
 · simp -implicitDefEqProofs only[aB,seval]
   have h4':ca≠0:=by simpa using h4
   rw[aH h4']
 have h4':ca=0:=by simpa using h4
 subst h4'
 rw[aE (by simp)]
 simp -implicitDefEqProofs only[gX,bG,aO,aB,seval,XF]
 refine(hay _).to ?_
 simp -implicitDefEqProofs only[aB,seval]
 refine aP (fun h5=>?_) (fun h5=>?_)
 · simp -implicitDefEqProofs only[aB,seval]
   have h5':cb≠0:=by simpa using h5
   rw[aH h5']
 have h5':cb=0:=by simpa using h5
 subst h5'
 rw[aE (by simp)]
 unfold M1
 simp -implicitDefEqProofs only[aB,seval,XF]
 refine aP (fun h6=>?_) (fun h6=>?_)
 · simp -implicitDefEqProofs only[aB,seval]
   rw[aH (by simpa using h6)]
   refine(qN _ _).to ?_
   simp -implicitDefEqProofs only[aB,seval]
 rw[aE (by simpa using h6)]
 simp -implicitDefEqProofs only[aB,seval]
 refine aP (fun h7=>?_) (fun h7=>?_)
 · simp -implicitDefEqProofs only[aB,seval]
   rw[aH (by simpa using h7)]
   refine(qN _ _).to ?_
   simp -implicitDefEqProofs only[aB,seval]
 rw[aE (by simpa using h7)]
 simp -implicitDefEqProofs only[aB,seval]
 refine aP (fun h8=>?_) (fun h8=>?_)
 · simp -implicitDefEqProofs only[aB,seval]
   rw[aH (by simpa using h8)]
   refine(qN _ _).to ?_
   simp -implicitDefEqProofs only[aB,seval]
 rw[aE (by simpa using h8)]
 simp -implicitDefEqProofs only[aB,seval]
 refine aP (fun h9=>?_) (fun h9=>?_)
 · simp -implicitDefEqProofs only[aB,seval]
   rw[aH (by simpa using h9)]
   refine(qN _ _).to ?_
   simp -implicitDefEqProofs only[aB,seval]
 rw[aE (by simpa using h9)]
 simp -implicitDefEqProofs only[aB,seval]
 refine(qN _ _).to ?_
 simp -implicitDefEqProofs only[aB,seval]
theorem OF{ts:List Tm}(h:ts.length=0):ts= []:=pQ h
theorem J8{ts:List Tm}(h:ts.length=1):∃x,ts= [x]:=by
 match ts,h with
 | [x],_=>exact⟨x,rfl⟩
theorem wW{ts:List Tm}(h:ts.length=2):∃x y,ts= [x,y]:=by
 match ts,h with
 | [x,y],_=>exact⟨x,y,rfl⟩
theorem aQD{ts:List Tm}(h:ts.length=3):∃x y z,ts= [x,y,z]:=by
 match ts,h with
 | [x,y,z],_=>exact⟨x,y,z,rfl⟩
theorem aU2{σ:Sub}{f:Nat}{t u:Tm}(h:gK σ f t u):wk σ u=u:=(gK.stop h.end).wk
end Go.AW
namespace Go.AW

end Go.AW
namespace Go.AW
open Go.Proofs.Tryz
theorem a9Q{α:Type}(f:α→Nat)(l:List α)(i:Nat):bD f (l.take i)≤bD f l:=by
 have:=G4 f (l.take i) (l.drop i)
 rw[qG] at this
 omega
def Full(v:Tm)(room:Nat)(st:aA)(r:AV)(st':aA):Prop:=
 st'=st∧∃(x:Tm) (left:Int),r=.tup [x.av,.int .i64 left]∧-1≤left∧if v.nodes≤room then x=v∧left=(room:Int) - v.nodes else left<0
abbrev bDQ:=zi tI_3 (zi zI_3 (zi aY (zi tI_4 (zi zI_4 cJ))))
theorem uK(b:Bool)(st:aA):aD prog 325 [.bool b] st (fun r st'=>r=.int .i64 (jA b)∧st'=st):=by
 refine wF [1000000] 1 func325 ntmps325 rfl rfl ?_
 intro _
 simp -implicitDefEqProofs only[aB,seval]
 cases b
 · simp -implicitDefEqProofs only[jA,aB,seval]
 · simp -implicitDefEqProofs only[jA,aB,seval]
abbrev bDR:=zi tI_4 (zi zI_4 (zi cJ (zi tI_9 (zi zI_9 cV))))
theorem aZP(s:ByteArray)(st:aA):aD prog 329 [.str s] st (fun r st'=>r=.bool (gO tA s)∧st'=st):=by
 have hin:gO tA s=(decide (s=⟨#[60]⟩)||(decide (s=⟨#[62]⟩)||(decide (s=⟨#[61,60]⟩)||(decide (s=⟨#[62,61]⟩)||decide (s=⟨#[61,58,61]⟩))))):=by
  simp only[gO,tA,B0,List.any_nil,BY]
 rw[hin]
 refine wF [1000000] 1 func329 ntmps329 rfl rfl ?_
 intro _
 simp -implicitDefEqProofs only[aB,seval]
 refine cX (fun h1=>?_) (fun h1=>?_)
 case refine_2=>
  simp -implicitDefEqProofs only[h1,aB,seval]
  simp at h1;simp [h1]
 simp -implicitDefEqProofs only[h1,aB,seval]
 refine cX (fun h2=>?_) (fun h2=>?_)
 case refine_2=>
  simp -implicitDefEqProofs only[h2,aB,seval]
  simp at h2;simp [h2]
 simp -implicitDefEqProofs only[h2,aB,seval]
 refine cX (fun h3=>?_) (fun h3=>?_)
 case refine_2=>
  simp -implicitDefEqProofs only[h3,aB,seval]
  simp at h3;simp [h3]
 simp -implicitDefEqProofs only[h3,aB,seval]
 refine cX (fun h4=>?_) (fun h4=>?_)
 case refine_2=>
  simp -implicitDefEqProofs only[h4,aB,seval]
  simp at h4;simp [h4]
 simp -implicitDefEqProofs only[h4,aB,seval]
theorem aZR(s:ByteArray)(a b:Int)(st:aA):aD prog 372 [.str s,.int .i64 a,.int .i64 b] st (fun r st'=>r=.bool (M1 s a b)∧st'=st):=by
 unfold M1
 refine wF [1000000] 3 func372 ntmps372 rfl rfl ?_
 intro _
 simp -implicitDefEqProofs only[aB,seval]
 refine aP (fun h6=>?_) (fun h6=>?_)
 · simp -implicitDefEqProofs only[aB,seval]
   rw[aH (by simpa using h6)]
 rw[aE (by simpa using h6)]
 simp -implicitDefEqProofs only[aB,seval]
 refine aP (fun h7=>?_) (fun h7=>?_)
 · simp -implicitDefEqProofs only[aB,seval]
   rw[aH (by simpa using h7)]
 rw[aE (by simpa using h7)]
 simp -implicitDefEqProofs only[aB,seval]
 refine aP (fun h8=>?_) (fun h8=>?_)
 · simp -implicitDefEqProofs only[aB,seval]
   rw[aH (by simpa using h8)]
 rw[aE (by simpa using h8)]
 simp -implicitDefEqProofs only[aB,seval]
 refine aP (fun h9=>?_) (fun h9=>?_)
 · simp -implicitDefEqProofs only[aB,seval]
   rw[aH (by simpa using h9)]
 rw[aE (by simpa using h9)]
 simp -implicitDefEqProofs only[aB,seval]
abbrev XG:=zi tI_3 (zi zI_3 (zi aY (zi tI_4 (zi zI_4 (zi cJ (zi tI_9 (zi zI_9 (zi cV (zi tI_31 (zi zI_31 (zi aQ (zi bS (zi bT (zi cI (zi tI_66 (zi zI_66 (zi bZ (zi b9 (zi cA (zi cB bY))))))))))))))))))))
theorem aZO(n:Int)(s:ByteArray)(x y:Tm){N:Int}(hx:cO N x)(hy:cO N y)(st:aA):aD prog 330 [(Tm.mk 3 n s [x,y]).av] st (fun r st'=>r=.int .i64 (AI s x y)∧st'=st):=by
 have eC:dG prog 31 (.slice [x.av,y.av]) (.int .i64 0)=some (.pptr x.av):=bP (av:=Tm.av) (l:=[x,y]) (i:=0) aQ rfl (aO x)
 have gX:dG prog 31 (.slice [x.av,y.av]) (.int .i64 1)=some (.pptr y.av):=bP (av:=Tm.av) (l:=[x,y]) (i:=1) aQ rfl (aO y)
 have hax:=fun st=>MT x st hx
 have hay:=fun st=>MT y st hy
 unfold AI both
 simp only[bA,bH,a7]
 refine wF [1000000] 1 func330 ntmps330 rfl rfl ?_
 intro _
 simp -implicitDefEqProofs only[eC,bG,aO,aB,seval,XG]
 refine(hax _).to ?_
 generalize x.ev.1=a at *
 generalize x.ev.2=ca at *
 generalize y.ev.1=b at *
 generalize y.ev.2=cb at *
 simp -implicitDefEqProofs only[aB,seval]
 refine aP (fun h4=>?_) (fun h4=>?_)
 · simp -implicitDefEqProofs only[aB,seval]
   have h4':ca≠0:=by simpa using h4
   rw[aH h4']
 have h4':ca=0:=by simpa using h4
 subst h4'
 rw[aE (by simp)]
 simp -implicitDefEqProofs only[gX,bG,aO,aB,seval,XG]
 refine(hay _).to ?_
 simp -implicitDefEqProofs only[aB,seval]
 refine aP (fun h5=>?_) (fun h5=>?_)
 · simp -implicitDefEqProofs only[aB,seval]
   have h5':cb≠0:=by simpa using h5
   rw[aH h5']
 have h5':cb=0:=by simpa using h5
 subst h5'
 rw[aE (by simp)]
 simp -implicitDefEqProofs only[aB,seval,XG]
 refine(aZR s a b _).to ?_
 simp -implicitDefEqProofs only[aB,seval]
 refine(uK _ _).to ?_
 simp -implicitDefEqProofs only[aB,seval]
abbrev G5:=zi tI_3 (zi zI_3 (zi aY (zi tI_4 (zi zI_4 (zi cJ (zi tI_9 (zi zI_9 (zi cV (zi tI_31 (zi zI_31 (zi aQ (zi bS (zi bT (zi cI (zi tI_66 (zi zI_66 (zi bZ (zi b9 (zi cA (zi cB bY))))))))))))))))))))
theorem aZT(n:Int)(s:ByteArray)(x:Tm)(hs:s=⟨#[118,97,114]⟩∨s=⟨#[110,111,110,118,97,114]⟩∨s=⟨#[97,116,111,109]⟩∨s=⟨#[105,110,116]⟩)(st:aA) :
 aD prog 331 [(Tm.mk 3 n s [x]).av] st (fun r st'=>r=.int .i64 (jA (vI s x))∧st'=st):=by
 obtain⟨xk,xn,xs,xt⟩:=x
 have eC:dG prog 31 (.slice [(Tm.mk xk xn xs xt).av]) (.int .i64 0)=some (.pptr (Tm.mk xk xn xs xt).av):=bP (av:=Tm.av) (l:=[Tm.mk xk xn xs xt]) (i:=0) aQ rfl (aO _)
 simp only[bA] at eC
 simp only[bH,a7,bA]
 refine wF [1000000] 1 func331 ntmps331 rfl rfl ?_
 intro _
 simp -implicitDefEqProofs only[eC,aB,↓aU,seval,G5]
 refine aP (fun h=>?_) (fun h=>?_)
 · have hs':s=⟨#[118,97,114]⟩:=by simpa using h
   subst hs'
   simp -implicitDefEqProofs only[aB,seval,G5]
   refine(uK _ _).to ?_
   simp -implicitDefEqProofs only[aB,seval]
   rfl
 have h1:s≠⟨#[118,97,114]⟩:=by simpa using h
 simp -implicitDefEqProofs only[aB,seval]
 refine aP (fun h=>?_) (fun h=>?_)
 · have hs':s=⟨#[110,111,110,118,97,114]⟩:=by simpa using h
   subst hs'
   simp -implicitDefEqProofs only[aB,seval,G5]
   refine(uK _ _).to ?_
   simp -implicitDefEqProofs only[aB,seval]
   rfl
 have h2:s≠⟨#[110,111,110,118,97,114]⟩:=by simpa using h
 simp -implicitDefEqProofs only[aB,seval]
 refine aP (fun h=>?_) (fun h=>?_)
 · have hs':s=⟨#[105,110,116]⟩:=by simpa using h
   subst hs'
   simp -implicitDefEqProofs only[aB,seval,G5]
   refine(uK _ _).to ?_
   simp -implicitDefEqProofs only[aB,seval]
   rfl
 have h3:s≠⟨#[105,110,116]⟩:=by simpa using h
 have hs':s=⟨#[97,116,111,109]⟩:=by simpa [h1,h2,h3] using hs
 subst hs'
 have et:vI ⟨#[97,116,111,109]⟩ (Tm.mk xk xn xs xt)=(decide (xk=3)&&decide ((xt.length:Int)=0)):=rfl
 rw[et]
 simp -implicitDefEqProofs only[aB,seval,G5]
 refine cX (fun h4=>?_) (fun h4=>?_)
 · simp -implicitDefEqProofs only[h4,aF,aB,seval,G5]
   refine(uK _ _).to ?_
   simp -implicitDefEqProofs only[aB,seval]
 · simp -implicitDefEqProofs only[h4,aB,seval]
   refine(uK _ _).to ?_
   simp -implicitDefEqProofs only[aB,seval]
   simp at h4;simp []
def sZ(x y:Tm):Tm×Int:=if x.k=1∨y.k=1 then(Tm.zero,2) else if x.k≠2∨y.k≠3∨y.ts.length=0 then(Tm.zero,3) else match oI x y with
 | some u=>(u,0)
 | none=>(Tm.zero,1)
abbrev qC:=zi tI_3 (zi zI_3 (zi aY (zi tI_31 (zi zI_31 (zi aQ (zi bS (zi bT (zi cI (zi tI_66 (zi zI_66 (zi bZ (zi b9 (zi cA (zi cB bY))))))))))))))
theorem aZN{N:Int}(n:Int)(s:ByteArray)(x y z:Tm)(hy:cO N y)(st:aA):aD prog 328 [(Tm.mk 3 n s [x,y,z]).av] st (fun r st'=>r=.tup [(sZ x y).1.av,.int .i64 (sZ x y).2]∧st'=st):=by
 have eC:dG prog 31 (.slice [x.av,y.av,z.av]) (.int .i64 0)=some (.pptr x.av):=bP (av:=Tm.av) (l:=[x,y,z]) (i:=0) aQ rfl (aO x)
 have gX:dG prog 31 (.slice [x.av,y.av,z.av]) (.int .i64 1)=some (.pptr y.av):=bP (av:=Tm.av) (l:=[x,y,z]) (i:=1) aQ rfl (aO y)
 obtain⟨xk,xn,xs,xt⟩:=x
 obtain⟨yk,yn,ys,yt⟩:=y
 have hyl:yt.length≤4:=by
  exact hy.kind.2
 rw[bA] at eC
 simp only[bA xk,bA yk] at eC gX
 unfold sZ
 simp only[bA 3,bH,a7,bA xk,bA yk,Tm.k,Tm.ts]
 refine aD.done ?_
 refine wF [1000000] 1 func328 ntmps328 rfl rfl ?_
 intro _
 simp -implicitDefEqProofs only[eC,gX,aB,↓aU,seval,qC]
 intro b hb
 have jI:∀o (p:Tm×Int) (k:Int),p=(Tm.zero,k)→(AV.tup [.agg [.int .i64 0,.int .i64 0,.str ⟨#[]⟩,.fslice []],.int .i64 k]).soft=.tup [p.1.av,.int .i64 p.2]∧aL (st.aC b o) st:=fun o p k e=>by
  rw[e]
  exact⟨by simp only[Tm.zero,bA,iT,jZ,iU,nT,mV,bH,a7,a7],(aL.refl _).aC hb⟩
 refine cX (fun h=>?_) (fun h=>?_)
 case refine_2=>
  have h':xk=1:=by simpa using h
  simp -implicitDefEqProofs only[h,aK,aB,seval,qC]
  exact jI _ _ 2 (aH (.inl h'))
 have hx1:xk≠1:=by simpa using h
 simp -implicitDefEqProofs only[h,aB,seval,qC]
 refine aP (fun h1=>?_) (fun h1=>?_)
 · have h':yk=1:=by simpa using h1
   simp -implicitDefEqProofs only[aK,aB,seval,qC]
   exact jI _ _ 2 (aH (.inr h'))
 have hy1:yk≠1:=by simpa using h1
 rw[aE (fun h2=>h2.elim hx1 hy1)]
 simp -implicitDefEqProofs only[aB,seval,qC]
 refine cX (fun h4=>?_) (fun h4=>?_)
 case refine_2=>
  have h':xk≠2:=by simpa using h4
  simp -implicitDefEqProofs only[h4,aK,aB,seval,qC]
  exact jI _ _ 3 (aH (.inl h'))
 have hx2:xk=2:=by simpa using h4
 simp -implicitDefEqProofs only[h4,aB,seval,qC]
 refine cX (fun h5=>?_) (fun h5=>?_)
 case refine_2=>
  have h':yk≠3:=by simpa using h5
  simp -implicitDefEqProofs only[h5,aK,aB,seval,qC]
  exact jI _ _ 3 (aH (.inr (.inl h')))
 have hy3:yk=3:=by simpa using h5
 simp -implicitDefEqProofs only[h5,aF,aB,seval,qC]
 refine aP (fun h6=>?_) (fun h6=>?_)
 · have h':yt.length=0:=by simp at h6;simp [h6]
   simp -implicitDefEqProofs only[aK,aB,seval,qC]
   exact jI _ _ 3 (aH (.inr (.inr h')))
 have hyt:yt.length≠0:=by simp at h6;simpa using h6
 rw[aE (by simp [hx2,hy3];intro h7;simp [h7] at hyt)]
 simp -implicitDefEqProofs only[aB,seval,qC]
 have hno:¬(1≤xn∧xn≤yt.length)→(match oI (.mk xk xn xs xt) (.mk yk yn ys yt) with | some u=>(u,(0:Int)) | none=>(Tm.zero,1))=(Tm.zero,(1:Int)):=fun h'=>by
  have ea:oI (.mk xk xn xs xt) (.mk yk yn ys yt)=none:=aE h'
  rw[ea]
 refine cX (fun h7=>?_) (fun h7=>?_)
 case refine_2=>
  have h':xn<1:=by simpa using h7
  simp -implicitDefEqProofs only[h7,aK,aB,seval,qC]
  exact jI _ _ 1 (hno (by omega))
 have hl1:¬xn<1:=by simpa using h7
 simp -implicitDefEqProofs only[h7,aF,aB,seval,qC]
 refine aP (fun h8=>?_) (fun h8=>?_)
 · have h':(yt.length:Int)<xn:=by simpa using h8
   simp -implicitDefEqProofs only[aK,aB,seval,qC]
   exact jI _ _ 1 (hno (by omega))
 have hl2:¬(yt.length:Int)<xn:=by simpa using h8
 have h':1≤xn∧xn≤yt.length:=by omega
 obtain⟨i,hi⟩:∃i:Nat,xn - 1=i:=⟨(xn - 1).toNat,by omega⟩
 have hlt:i<yt.length:=by omega
 obtain⟨u,hu⟩:∃u,yt[i]?=some u:=⟨_,eA hlt⟩
 have ea:oI (.mk xk xn xs xt) (.mk yk yn ys yt)=some u:=by
  refine(aH h').trans ?_
  show yt[(xn - 1).toNat]?=some u
  rw[hi,jQ,hu]
 rw[ea]
 have hw:IntKind.i64.wrap (xn - 1)=(i:Int):=by rw[wrap64 (by omega) (by omega)];exact hi
 have UD:=bP (av:=Tm.av) (P:=prog) aQ hu (aO u)
 simp -implicitDefEqProofs only[cL,cP,gI (cL _),gG (bG _),UD,hw,bG,aO,aK,aB,seval,qC]
 exact⟨by simp only[jZ,iU,Tm.soft,bH,a7,Tm.soft],(aL.refl _).aC hb⟩
theorem a5Z(n:Int):(pG n).av=(Tm.mk 2 n ⟨#[]⟩ []).av:=rfl
end Go.AW
