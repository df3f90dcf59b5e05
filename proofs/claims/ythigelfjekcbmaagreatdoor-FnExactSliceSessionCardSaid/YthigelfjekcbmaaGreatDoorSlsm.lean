import Derived.Test.YthigelfjekcbmaaGreatDoorSlsk
import Derived.Test.YthigelfjekcbmaaGreatDoorSlsl
import Derived.Test.YthigelfjekcbmaaGreatDoorSlsf
import Derived.Test.YthigelfjekcbmaaGreatDoorSlsj
import Derived.Lib.SliceRun
set_option linter.unusedSimpArgs false
set_option linter.unusedVariables false
set_option maxRecDepth 100000
namespace Go.AW
open Go.Proofs.Tryz
abbrev aYO:=zi tI_3 (zi zI_3 (zi aY (zi tI_4 (zi zI_4 cG))))
theorem mZ(b:Bool)(st:aA):aD prog 227 [.bool b] st (fun r st'=>r=.int .i64 (gD b)∧st'=st):=by
 refine wF [1000000] 1 func227 ntmps227 rfl rfl ?_
 intro _
 simp -implicitDefEqProofs only[aB,seval]
 cases b
 · simp -implicitDefEqProofs only[gD,aB,seval]
 · simp -implicitDefEqProofs only[gD,aB,seval]
abbrev aU7:=zi tI_2 (zi zI_2 (zi JG (zi tI_3 (zi zI_3 (zi aY (zi tI_52 (zi zI_52 (zi bU (zi bV (zi bX (zi bY bT)))))))))))
theorem aM0(n:Int)(st:aA):aD prog 230 [.int .i64 n] st (fun r st'=>r=(lZ n).av∧st'=st):=by
 refine aD.done ?_
 refine wF [1000000] 1 func230 ntmps230 rfl rfl ?_
 intro _
 simp -implicitDefEqProofs only[aS,aB,seval,aU7]
 intro b hb
 unfold lZ
 exact⟨by simp only[aX,mA,nM,xP,vU,bK,bL,bL],(aM.refl _).aC hb⟩
abbrev N5:=zi tI_3 (zi zI_3 (zi aY (zi tI_4 (zi zI_4 (zi cG (zi tI_9 (zi zI_9 (zi d4 (zi tI_28 (zi zI_28 (zi aP (zi bE (zi bF (zi b9 (zi tI_52 (zi zI_52 (zi bU (zi bV (zi bX (zi bY (zi bT (zi tI_138 (zi zI_138 (zi vD (zi zG (zi zL BC))))))))))))))))))))))))))
theorem aLK(k n:Int)(s:ByteArray)(ts:List Tm)(st:aA):aD prog 225 [(Tm.mk k n s ts).av] st (fun r st'=>r=.bool (decide (k=3)&&decide ((ts.length:Int)=2)&&eW pB s)∧st'=st):=by
 simp only[aX]
 refine wF [1000000] 1 func225 ntmps225 rfl rfl ?_
 intro _
 simp -implicitDefEqProofs only[aB,seval,N5]
 refine cS (fun h=>?_) (fun h=>?_)
 · simp -implicitDefEqProofs only[h,aE,aB,seval,N5]
   refine cS (fun h2=>?_) (fun h2=>?_)
   · simp -implicitDefEqProofs only[h2,aB,seval,N5]
     refine(KR pB s _).to ?_
     simp -implicitDefEqProofs only[aB,seval]
     simp [eW]
   · simp -implicitDefEqProofs only[h2,aB,seval]
     simp []
 · simp -implicitDefEqProofs only[h,aB,seval]
   simp []
abbrev N6:=zi tI_3 (zi zI_3 (zi aY (zi tI_4 (zi zI_4 (zi cG (zi tI_9 (zi zI_9 (zi d4 (zi tI_28 (zi zI_28 (zi aP (zi bE (zi bF (zi b9 (zi tI_52 (zi zI_52 (zi bU (zi bV (zi bX (zi bY bT))))))))))))))))))))
theorem aLJ(n:Int)(s:ByteArray)(x y:Tm)(hs:eW pB s=true){N:Int}(hx:cB N x)(hy:cB N y)(st:aA):aD prog 226 [(Tm.mk 3 n s [x,y]).av] st (fun r st'=>r=.int .i64 (vA s x y)∧st'=st):=by
 have dL:dF prog 28 (.slice [x.av,y.av]) (.int .i64 0)=some (.pptr x.av):=bG (av:=Tm.av) (l:=[x,y]) (i:=0) aP rfl (aO x)
 have fF:dF prog 28 (.slice [x.av,y.av]) (.int .i64 1)=some (.pptr y.av):=bG (av:=Tm.av) (l:=[x,y]) (i:=1) aP rfl (aO y)
 have hax:=fun st=>FS x st hx
 have hay:=fun st=>FS y st hy
 unfold vA both
 simp only[aX,bK,bL]
 refine wF [1000000] 1 func226 ntmps226 rfl rfl ?_
 intro _
 simp -implicitDefEqProofs only[dL,b7,aO,aB,seval,N6]
 refine(hax _).to ?_
 generalize x.ev.1=a at *
 generalize x.ev.2=ca at *
 generalize y.ev.1=b at *
 generalize y.ev.2=cb at *
 simp -implicitDefEqProofs only[aB,seval]
 refine aT (fun h4=>?_) (fun h4=>?_)
 · simp -implicitDefEqProofs only[aB,seval]
   have h4':ca≠0:=by simpa using h4
   rw[aK h4']
 have h4':ca=0:=by simpa using h4
 subst h4'
 rw[aG (by simp)]
 simp -implicitDefEqProofs only[fF,b7,aO,aB,seval,N6]
 refine(hay _).to ?_
 simp -implicitDefEqProofs only[aB,seval]
 refine aT (fun h5=>?_) (fun h5=>?_)
 · simp -implicitDefEqProofs only[aB,seval]
   have h5':cb≠0:=by simpa using h5
   rw[aK h5']
 have h5':cb=0:=by simpa using h5
 subst h5'
 rw[aG (by simp)]
 unfold F4
 simp -implicitDefEqProofs only[aB,seval,N6]
 refine aT (fun h6=>?_) (fun h6=>?_)
 · simp -implicitDefEqProofs only[aB,seval]
   rw[aK (by simpa using h6)]
   refine(mZ _ _).to ?_
   simp -implicitDefEqProofs only[aB,seval]
 rw[aG (by simpa using h6)]
 simp -implicitDefEqProofs only[aB,seval]
 refine aT (fun h7=>?_) (fun h7=>?_)
 · simp -implicitDefEqProofs only[aB,seval]
   rw[aK (by simpa using h7)]
   refine(mZ _ _).to ?_
   simp -implicitDefEqProofs only[aB,seval]
 rw[aG (by simpa using h7)]
 simp -implicitDefEqProofs only[aB,seval]
 refine aT (fun h8=>?_) (fun h8=>?_)
 · simp -implicitDefEqProofs only[aB,seval]
   rw[aK (by simpa using h8)]
   refine(mZ _ _).to ?_
   simp -implicitDefEqProofs only[aB,seval]
 rw[aG (by simpa using h8)]
 simp -implicitDefEqProofs only[aB,seval]
 refine aT (fun h9=>?_) (fun h9=>?_)
 · simp -implicitDefEqProofs only[aB,seval]
   rw[aK (by simpa using h9)]
   refine(mZ _ _).to ?_
   simp -implicitDefEqProofs only[aB,seval]
 rw[aG (by simpa using h9)]
 simp -implicitDefEqProofs only[aB,seval]
 refine(mZ _ _).to ?_
 simp -implicitDefEqProofs only[aB,seval]
theorem HN{ts:List Tm}(h:ts.length=0):ts= []:=pY h
theorem DQ{ts:List Tm}(h:ts.length=1):∃x,ts= [x]:=by
 match ts,h with
 | [x],_=>exact⟨x,rfl⟩
theorem sA{ts:List Tm}(h:ts.length=2):∃x y,ts= [x,y]:=by
 match ts,h with
 | [x,y],_=>exact⟨x,y,rfl⟩
theorem aFH{ts:List Tm}(h:ts.length=3):∃x y z,ts= [x,y,z]:=by
 match ts,h with
 | [x,y,z],_=>exact⟨x,y,z,rfl⟩
theorem aI2{σ:Sub}{f:Nat}{t u:Tm}(h:eU σ f t u):wk σ u=u:=(eU.stop h.end).wk
end Go.AW
namespace Go.AW

end Go.AW
namespace Go.AW
open Go.Proofs.Tryz
theorem aU0{α:Type}(f:α→Nat)(l:List α)(i:Nat):aJ f (l.take i)≤aJ f l:=by
 have:=xQ f (l.take i) (l.drop i)
 rw[mT] at this
 omega
def Full(v:Tm)(room:Nat)(st:aA)(r:AV)(st':aA):Prop:=
 st'=st∧∃(x:Tm) (left:Int),r=.tup [x.av,.int .i64 left]∧-1≤left∧if v.nodes≤room then x=v∧left=(room:Int) - v.nodes else left<0
abbrev Bt:=Fin 256
abbrev aVB:=zi tI_3 (zi zI_3 (zi aY (zi tI_52 (zi zI_52 (zi bU (zi bV (zi bX (zi bY bT))))))))
theorem aMF(n:Int)(st:aA):aD prog 160 [.int .i64 n] st (fun r st'=>r=(vr n).av∧st'=st):=by
 refine aD.done ?_
 refine wF [1000000] 1 func160 ntmps160 rfl rfl ?_
 intro _
 simp -implicitDefEqProofs only[aS,aB,seval,aVB]
 intro b hb
 exact⟨by simp only[vr,aX,mA,nM,xP,vU,bK,bL],(aM.refl _).aC hb⟩
abbrev aVA:=zi tI_2 (zi zI_2 (zi JG (zi tI_3 (zi zI_3 (zi aY (zi tI_52 (zi zI_52 (zi bU (zi bV (zi bX (zi bY bT)))))))))))
theorem aMB(n:Int)(st:aA):aD prog 147 [.int .i64 n] st (fun r st'=>r=(Tm.mk 2 n ⟨#[]⟩ []).av∧st'=st):=by
 refine aD.done ?_
 refine wF [1000000] 1 func147 ntmps147 rfl rfl ?_
 intro _
 simp -implicitDefEqProofs only[aS,aB,seval,aVA]
 intro b hb
 exact⟨by simp only[aX,mA,nM,xP,vU,bK,bL],(aM.refl _).aC hb⟩
abbrev aYP:=zi tI_3 (zi zI_3 (zi aY (zi tI_4 (zi zI_4 cG))))
theorem qF(b:Bool)(st:aA):aD prog 203 [.bool b] st (fun r st'=>r=.int .i64 (gD b)∧st'=st):=by
 refine wF [1000000] 1 func203 ntmps203 rfl rfl ?_
 intro _
 simp -implicitDefEqProofs only[aB,seval]
 cases b
 · simp -implicitDefEqProofs only[gD,aB,seval]
 · simp -implicitDefEqProofs only[gD,aB,seval]
abbrev aYQ:=zi tI_4 (zi zI_4 (zi cG (zi tI_9 (zi zI_9 d4))))
theorem aML(s:ByteArray)(st:aA):aD prog 207 [.str s] st (fun r st'=>r=.bool (eW pB s)∧st'=st):=by
 have hin:eW pB s=(decide (s=⟨#[60]⟩)||(decide (s=⟨#[62]⟩)||(decide (s=⟨#[61,60]⟩)||(decide (s=⟨#[62,61]⟩)||decide (s=⟨#[61,58,61]⟩))))):=by
  simp only[eW,pB,yD,List.any_nil,Bool.or_false]
 rw[hin]
 refine wF [1000000] 1 func207 ntmps207 rfl rfl ?_
 intro _
 simp -implicitDefEqProofs only[aB,seval]
 refine cS (fun h1=>?_) (fun h1=>?_)
 case refine_2=>
  simp -implicitDefEqProofs only[h1,aB,seval]
  simp at h1;simp [h1]
 simp -implicitDefEqProofs only[h1,aB,seval]
 refine cS (fun h2=>?_) (fun h2=>?_)
 case refine_2=>
  simp -implicitDefEqProofs only[h2,aB,seval]
  simp at h2;simp [h2]
 simp -implicitDefEqProofs only[h2,aB,seval]
 refine cS (fun h3=>?_) (fun h3=>?_)
 case refine_2=>
  simp -implicitDefEqProofs only[h3,aB,seval]
  simp at h3;simp [h3]
 simp -implicitDefEqProofs only[h3,aB,seval]
 refine cS (fun h4=>?_) (fun h4=>?_)
 case refine_2=>
  simp -implicitDefEqProofs only[h4,aB,seval]
  simp at h4;simp [h4]
 simp -implicitDefEqProofs only[h4,aB,seval]
theorem aMN(s:ByteArray)(a b:Int)(st:aA):aD prog 244 [.str s,.int .i64 a,.int .i64 b] st (fun r st'=>r=.bool (F4 s a b)∧st'=st):=by
 unfold F4
 refine wF [1000000] 3 func244 ntmps244 rfl rfl ?_
 intro _
 simp -implicitDefEqProofs only[aB,seval]
 refine aT (fun h6=>?_) (fun h6=>?_)
 · simp -implicitDefEqProofs only[aB,seval]
   rw[aK (by simpa using h6)]
 rw[aG (by simpa using h6)]
 simp -implicitDefEqProofs only[aB,seval]
 refine aT (fun h7=>?_) (fun h7=>?_)
 · simp -implicitDefEqProofs only[aB,seval]
   rw[aK (by simpa using h7)]
 rw[aG (by simpa using h7)]
 simp -implicitDefEqProofs only[aB,seval]
 refine aT (fun h8=>?_) (fun h8=>?_)
 · simp -implicitDefEqProofs only[aB,seval]
   rw[aK (by simpa using h8)]
 rw[aG (by simpa using h8)]
 simp -implicitDefEqProofs only[aB,seval]
 refine aT (fun h9=>?_) (fun h9=>?_)
 · simp -implicitDefEqProofs only[aB,seval]
   rw[aK (by simpa using h9)]
 rw[aG (by simpa using h9)]
 simp -implicitDefEqProofs only[aB,seval]
abbrev N7:=zi tI_3 (zi zI_3 (zi aY (zi tI_4 (zi zI_4 (zi cG (zi tI_9 (zi zI_9 (zi d4 (zi tI_28 (zi zI_28 (zi aP (zi bE (zi bF (zi b9 (zi tI_52 (zi zI_52 (zi bU (zi bV (zi bX (zi bY bT))))))))))))))))))))
theorem aMK(n:Int)(s:ByteArray)(x y:Tm){N:Int}(hx:cB N x)(hy:cB N y)(st:aA):aD prog 208 [(Tm.mk 3 n s [x,y]).av] st (fun r st'=>r=.int .i64 (vA s x y)∧st'=st):=by
 have dL:dF prog 28 (.slice [x.av,y.av]) (.int .i64 0)=some (.pptr x.av):=bG (av:=Tm.av) (l:=[x,y]) (i:=0) aP rfl (aO x)
 have fF:dF prog 28 (.slice [x.av,y.av]) (.int .i64 1)=some (.pptr y.av):=bG (av:=Tm.av) (l:=[x,y]) (i:=1) aP rfl (aO y)
 have hax:=fun st=>FV x st hx
 have hay:=fun st=>FV y st hy
 unfold vA both
 simp only[aX,bK,bL]
 refine wF [1000000] 1 func208 ntmps208 rfl rfl ?_
 intro _
 simp -implicitDefEqProofs only[dL,b7,aO,aB,seval,N7]
 refine(hax _).to ?_
 generalize x.ev.1=a at *
 generalize x.ev.2=ca at *
 generalize y.ev.1=b at *
 generalize y.ev.2=cb at *
 simp -implicitDefEqProofs only[aB,seval]
 refine aT (fun h4=>?_) (fun h4=>?_)
 · simp -implicitDefEqProofs only[aB,seval]
   have h4':ca≠0:=by simpa using h4
   rw[aK h4']
 have h4':ca=0:=by simpa using h4
 subst h4'
 rw[aG (by simp)]
 simp -implicitDefEqProofs only[fF,b7,aO,aB,seval,N7]
 refine(hay _).to ?_
 simp -implicitDefEqProofs only[aB,seval]
 refine aT (fun h5=>?_) (fun h5=>?_)
 · simp -implicitDefEqProofs only[aB,seval]
   have h5':cb≠0:=by simpa using h5
   rw[aK h5']
 have h5':cb=0:=by simpa using h5
 subst h5'
 rw[aG (by simp)]
 simp -implicitDefEqProofs only[aB,seval,N7]
 refine(aMN s a b _).to ?_
 simp -implicitDefEqProofs only[aB,seval]
 refine(qF _ _).to ?_
 simp -implicitDefEqProofs only[aB,seval]
abbrev A5:=zi tI_3 (zi zI_3 (zi aY (zi tI_4 (zi zI_4 (zi cG (zi tI_9 (zi zI_9 (zi d4 (zi tI_28 (zi zI_28 (zi aP (zi bE (zi bF (zi b9 (zi tI_52 (zi zI_52 (zi bU (zi bV (zi bX (zi bY bT))))))))))))))))))))
theorem aMP(n:Int)(s:ByteArray)(x:Tm)(hs:s=⟨#[118,97,114]⟩∨s=⟨#[110,111,110,118,97,114]⟩∨s=⟨#[97,116,111,109]⟩∨s=⟨#[105,110,116]⟩)(st:aA) :
 aD prog 209 [(Tm.mk 3 n s [x]).av] st (fun r st'=>r=.int .i64 (gD (qW s x))∧st'=st):=by
 obtain⟨xk,xn,xs,xt⟩:=x
 have dL:dF prog 28 (.slice [(Tm.mk xk xn xs xt).av]) (.int .i64 0)=some (.pptr (Tm.mk xk xn xs xt).av):=bG (av:=Tm.av) (l:=[Tm.mk xk xn xs xt]) (i:=0) aP rfl (aO _)
 simp only[aX] at dL
 simp only[bK,bL,aX]
 refine wF [1000000] 1 func209 ntmps209 rfl rfl ?_
 intro _
 simp -implicitDefEqProofs only[dL,aB,↓aW,seval,A5]
 refine aT (fun h=>?_) (fun h=>?_)
 · have hs':s=⟨#[118,97,114]⟩:=by simpa using h
   subst hs'
   simp -implicitDefEqProofs only[aB,seval,A5]
   refine(qF _ _).to ?_
   simp -implicitDefEqProofs only[aB,seval]
   rfl
 have h1:s≠⟨#[118,97,114]⟩:=by simpa using h
 simp -implicitDefEqProofs only[aB,seval]
 refine aT (fun h=>?_) (fun h=>?_)
 · have hs':s=⟨#[110,111,110,118,97,114]⟩:=by simpa using h
   subst hs'
   simp -implicitDefEqProofs only[aB,seval,A5]
   refine(qF _ _).to ?_
   simp -implicitDefEqProofs only[aB,seval]
   rfl
 have h2:s≠⟨#[110,111,110,118,97,114]⟩:=by simpa using h
 simp -implicitDefEqProofs only[aB,seval]
 refine aT (fun h=>?_) (fun h=>?_)
 · have hs':s=⟨#[105,110,116]⟩:=by simpa using h
   subst hs'
   simp -implicitDefEqProofs only[aB,seval,A5]
   refine(qF _ _).to ?_
   simp -implicitDefEqProofs only[aB,seval]
   rfl
 have h3:s≠⟨#[105,110,116]⟩:=by simpa using h
 have hs':s=⟨#[97,116,111,109]⟩:=by simpa [h1,h2,h3] using hs
 subst hs'
 have et:qW ⟨#[97,116,111,109]⟩ (Tm.mk xk xn xs xt)=(decide (xk=3)&&decide ((xt.length:Int)=0)):=rfl
 rw[et]
 simp -implicitDefEqProofs only[aB,seval,A5]
 refine cS (fun h4=>?_) (fun h4=>?_)
 · simp -implicitDefEqProofs only[h4,aE,aB,seval,A5]
   refine(qF _ _).to ?_
   simp -implicitDefEqProofs only[aB,seval]
 · simp -implicitDefEqProofs only[h4,aB,seval]
   refine(qF _ _).to ?_
   simp -implicitDefEqProofs only[aB,seval]
   simp at h4;simp []
def o9(x y:Tm):Tm×Int:=if x.k=1∨y.k=1 then(Tm.zero,2) else if x.k≠2∨y.k≠3∨y.ts.length=0 then(Tm.zero,3) else match k7 x y with
 | some u=>(u,0)
 | none=>(Tm.zero,1)
abbrev mR:=zi tI_3 (zi zI_3 (zi aY (zi tI_28 (zi zI_28 (zi aP (zi bE (zi bF (zi b9 (zi tI_52 (zi zI_52 (zi bU (zi bV (zi bX (zi bY bT))))))))))))))
theorem aMJ{N:Int}(n:Int)(s:ByteArray)(x y z:Tm)(hy:cB N y)(st:aA):aD prog 206 [(Tm.mk 3 n s [x,y,z]).av] st (fun r st'=>r=.tup [(o9 x y).1.av,.int .i64 (o9 x y).2]∧st'=st):=by
 have dL:dF prog 28 (.slice [x.av,y.av,z.av]) (.int .i64 0)=some (.pptr x.av):=bG (av:=Tm.av) (l:=[x,y,z]) (i:=0) aP rfl (aO x)
 have fF:dF prog 28 (.slice [x.av,y.av,z.av]) (.int .i64 1)=some (.pptr y.av):=bG (av:=Tm.av) (l:=[x,y,z]) (i:=1) aP rfl (aO y)
 obtain⟨xk,xn,xs,xt⟩:=x
 obtain⟨yk,yn,ys,yt⟩:=y
 have hyl:yt.length≤4:=by
  exact hy.kind.2
 rw[aX] at dL
 simp only[aX xk,aX yk] at dL fF
 unfold o9
 simp only[aX 3,bK,bL,aX xk,aX yk,Tm.k,Tm.ts]
 refine aD.done ?_
 refine wF [1000000] 1 func206 ntmps206 rfl rfl ?_
 intro _
 simp -implicitDefEqProofs only[dL,fF,aB,↓aW,seval,mR]
 intro b hb
 have mK:∀o (p:Tm×Int) (k:Int),p=(Tm.zero,k)→(AV.tup [.agg [.int .i64 0,.int .i64 0,.str ⟨#[]⟩,.fslice []],.int .i64 k]).soft=.tup [p.1.av,.int .i64 p.2]∧aM (st.aC b o) st:=fun o p k e=>by
  rw[e]
  exact⟨by simp only[Tm.zero,aX,mA,mP,nM,xP,vU,bK,bL,bL],(aM.refl _).aC hb⟩
 refine cS (fun h=>?_) (fun h=>?_)
 case refine_2=>
  have h':xk=1:=by simpa using h
  simp -implicitDefEqProofs only[h,aS,aB,seval,mR]
  exact mK _ _ 2 (aK (.inl h'))
 have hx1:xk≠1:=by simpa using h
 simp -implicitDefEqProofs only[h,aB,seval,mR]
 refine aT (fun h1=>?_) (fun h1=>?_)
 · have h':yk=1:=by simpa using h1
   simp -implicitDefEqProofs only[aS,aB,seval,mR]
   exact mK _ _ 2 (aK (.inr h'))
 have hy1:yk≠1:=by simpa using h1
 rw[aG (fun h2=>h2.elim hx1 hy1)]
 simp -implicitDefEqProofs only[aB,seval,mR]
 refine cS (fun h4=>?_) (fun h4=>?_)
 case refine_2=>
  have h':xk≠2:=by simpa using h4
  simp -implicitDefEqProofs only[h4,aS,aB,seval,mR]
  exact mK _ _ 3 (aK (.inl h'))
 have hx2:xk=2:=by simpa using h4
 simp -implicitDefEqProofs only[h4,aB,seval,mR]
 refine cS (fun h5=>?_) (fun h5=>?_)
 case refine_2=>
  have h':yk≠3:=by simpa using h5
  simp -implicitDefEqProofs only[h5,aS,aB,seval,mR]
  exact mK _ _ 3 (aK (.inr (.inl h')))
 have hy3:yk=3:=by simpa using h5
 simp -implicitDefEqProofs only[h5,aE,aB,seval,mR]
 refine aT (fun h6=>?_) (fun h6=>?_)
 · have h':yt.length=0:=by simp at h6;simp [h6]
   simp -implicitDefEqProofs only[aS,aB,seval,mR]
   exact mK _ _ 3 (aK (.inr (.inr h')))
 have hyt:yt.length≠0:=by simp at h6;simpa using h6
 rw[aG (by simp [hx2,hy3];intro h7;simp [h7] at hyt)]
 simp -implicitDefEqProofs only[aB,seval,mR]
 have hno:¬(1≤xn∧xn≤yt.length)→(match k7 (.mk xk xn xs xt) (.mk yk yn ys yt) with | some u=>(u,(0:Int)) | none=>(Tm.zero,1))=(Tm.zero,(1:Int)):=fun h'=>by
  have ea:k7 (.mk xk xn xs xt) (.mk yk yn ys yt)=none:=aG h'
  rw[ea]
 refine cS (fun h7=>?_) (fun h7=>?_)
 case refine_2=>
  have h':xn<1:=by simpa using h7
  simp -implicitDefEqProofs only[h7,aS,aB,seval,mR]
  exact mK _ _ 1 (hno (by omega))
 have hl1:¬xn<1:=by simpa using h7
 simp -implicitDefEqProofs only[h7,aE,aB,seval,mR]
 refine aT (fun h8=>?_) (fun h8=>?_)
 · have h':(yt.length:Int)<xn:=by simpa using h8
   simp -implicitDefEqProofs only[aS,aB,seval,mR]
   exact mK _ _ 1 (hno (by omega))
 have hl2:¬(yt.length:Int)<xn:=by simpa using h8
 have h':1≤xn∧xn≤yt.length:=by omega
 obtain⟨i,hi⟩:∃i:Nat,xn - 1=i:=⟨(xn - 1).toNat,by omega⟩
 have hlt:i<yt.length:=by omega
 obtain⟨u,hu⟩:∃u,yt[i]?=some u:=⟨_,e7 hlt⟩
 have ea:k7 (.mk xk xn xs xt) (.mk yk yn ys yt)=some u:=by
  refine(aK h').trans ?_
  show yt[(xn - 1).toNat]?=some u
  rw[hi,j4,hu]
 rw[ea]
 have hw:IntKind.i64.wrap (xn - 1)=(i:Int):=by rw[wrap64 (by omega) (by omega)];exact hi
 have LU:=bG (av:=Tm.av) (P:=prog) aP hu (aO u)
 simp -implicitDefEqProofs only[Tm.eV,Tm.dY,oP (Tm.eV _),nX (b7 _),LU,hw,b7,aO,aS,aB,seval,mR]
 exact⟨by simp only[mP,nM,Tm.soft,bK,bL,Tm.soft],(aM.refl _).aC hb⟩
theorem aR8(n:Int):(lZ n).av=(Tm.mk 2 n ⟨#[]⟩ []).av:=rfl
def cF(N:Nat)(σ:Sub):List AV:=(List.range N).map fun i:Nat=>cellOf (σ (i:Int))
theorem y7(N:Nat)(σ:Sub):∀e∈cF N σ,e.width=4:=by intro e h;simp only[cF,cE] at h;obtain⟨i,_,rfl⟩:=h;exact FY _
theorem wQ(N:Nat)(σ:Sub){i:Nat}(h:i<N):(cF N σ)[i]?=some (cellOf (σ (i:Int))):=by
 simp only[cF,lS,List.getElem?_range h,p6]
theorem aKI(N:Nat)(σ:Sub){i:Nat}(h:i<N)(u:Tm):(cF N σ).set i u.av=cF N (σ.set (i:Int) u):=by
 apply E6
 intro j
 by_cases hj:j<N
 · rw[wQ N _ hj,List.getElem?_set]
   by_cases e:i=j
   · subst e
     simp [cF,hj,Sub.set,cellOf]
   · rw[aG e,wQ N _ hj]
     simp only[Sub.set]
     rw[aG (by omega)]
 · rw[BI (by simp [cF];omega),BI (by simp [cF];omega)]
def eJ(N:Nat)(st:aA)(b:Nat)(σ:Sub):Prop:=st b=some (.cells ((cF N σ).flatMap AV.cells))
theorem eJ.mid{N:Nat}{st:aA}{b:Nat}{σ:Sub}(h:eJ N st b σ){i:Nat}(hi:i<N) :
 ∃A B,st b=some (.cells (A++(cellOf (σ (i:Int))).cells++B))∧A.length=i*4∧∀(u:Tm),eJ N (st.aC b (.cells (A++u.av.cells++B))) b (σ.set (i:Int) u):=by
 obtain⟨A,B,h1,h2,h3⟩:=aPB (y7 N σ) (wQ N σ hi)
 refine⟨A,B,by rw[←h1];exact h,h2,fun u=>?_⟩
 unfold eJ
 rw[aA.aL,←aKI N σ hi,h3]
theorem eJ.aC{N:Nat}{st:aA}{b x:Nat}{σ:Sub}{o:AO}(h:eJ N st b σ)(hx:x≠b):eJ N (st.aC x o) b σ:=by
 unfold eJ
 rw[aA.aF _ _ (c9 hx)]
 exact h
theorem eJ.none{N:Nat}{st:aA}{b:Nat}{σ:Sub}(h:eJ N st b σ){i:Nat}(hi:i<N)(hn:σ (i:Int)=Option.none) :
 ∃D,st b=some (.cells D)∧D[i*4+0]?=some (.int .i64 0)∧i*4+4≤D.length:=by
 obtain⟨A,B,e1,e2,_⟩:=h.mid hi
 rw[hn] at e1
 obtain⟨r1,r2,r3⟩:=QL (B:=B) (C:=(cellOf Option.none).cells) e2 rfl
 exact⟨_,e1,r3,r1⟩
theorem eJ.some{N:Nat}{st:aA}{b:Nat}{σ:Sub}(h:eJ N st b σ){i:Nat}(hi:i<N){k n:Int}{s:ByteArray}{ts:List Tm}(hn:σ (i:Int)=Option.some (.mk k n s ts)) :
 ∃D,st b=Option.some (.cells D)∧D[i*4+0]?=Option.some (.int .i64 k)∧i*4+4≤D.length∧List.take 4 (List.drop (i*4) D)= [.int .i64 k,.int .i64 n,.str s,.slice (ts.map Tm.av)]:=by
 obtain⟨A,B,e1,e2,_⟩:=h.mid hi
 rw[hn] at e1
 simp only[cellOf,aX,AV.cells] at e1
 obtain⟨r1,r2,r3⟩:=QL (B:=B) (C:=[.int .i64 k,.int .i64 n,.str s,.slice (ts.map Tm.av)]) e2 rfl
 exact⟨_,e1,r3,r1,r2⟩
theorem eJ.set{N:Nat}{st:aA}{b:Nat}{σ:Sub}(h:eJ N st b σ){i:Nat}(hi:i<N)(u:Tm) :
 ∃D D',st b=Option.some (.cells D)∧i*4+4≤D.length∧aS D (i*4) u.av.cells=D'∧eJ N (st.aC b (.cells D')) b (σ.set (i:Int) u):=by
 obtain⟨A,B,e1,e2,e3⟩:=h.mid hi
 obtain⟨p1,p2⟩:=NA (B:=B) (C:=(cellOf (σ (i:Int))).cells) (x:=u.av.cells) e2 (aNP _) (Tm.eV u)
 exact⟨_,_,e1,p2,p1,e3 u⟩
abbrev A7:=zi tI_3 (zi zI_3 (zi aY (zi tI_28 (zi zI_28 (zi aP (zi bE (zi bF (zi b9 (zi tI_52 (zi zI_52 (zi bU (zi bV (zi bX (zi bY bT))))))))))))))
theorem QX{N:Nat}{σ:Sub}(hok:cD (cB N) σ){f:Nat}{t u:Tm}(hw:eU σ f t u)(ht:cB N t)(b:Nat)(st:aA)(hS:eJ N st b σ):aD prog 241 [t.av,.mslice b 0 N 4] st (fun r st'=>r=u.av∧st'=st):=by
 refine aD.done ?_
 refine wF [1000000,2] 2 func241 ntmps241 rfl rfl ?_
 intro _
 simp -implicitDefEqProofs only[aB,seval,A7]
 intro b2 h2 b4 h4
 have hne:b4≠b2:=by rintro rfl;rw[aA.aL] at h4;cases h4
 have hn4:st b4=none:=by rw[aA.aF st _ hne] at h4;exact h4
 have hb2:b2≠b:=by rintro rfl;rw[eJ,h2] at hS;cases hS
 have hb4:b4≠b:=by rintro rfl;rw[eJ,hn4] at hS;cases hS
 refine rB (σ:=Nat×Tm) [1000000,2] [1,2,4] (fun p=>eU σ p.1 p.2 u∧cB N p.2) (fun p=>[]) (fun p=>(st.aC b2 (.cells p.2.av.cells)).aC b4 (.cells [.int .i64 0,.int .i64 0,.str ⟨#[]⟩,.fslice []])) (fun p=>p.1) (by decide +kernel) ⟨(f,t),⟨hw,ht⟩,aR.mk (by simp -implicitDefEqProofs only[aB,seval])⟩ ?_
 rintro⟨g,t⟩ ⟨hw,ht⟩
 obtain⟨k,n,s,ts⟩:=t
 simp only at hw ht
 simp only[aX]
 have rY:k≠1∨σ n=none→u=.mk k n s ts:=fun h=>by
  cases hw with
  | stop _=>rfl
  | go h1 h2 _=>
   simp only[Tm.k] at h1
   rcases h with h | h
   · exact absurd h1 h
   · rw[show σ n=some _ from h2] at h;cases h
 simp -implicitDefEqProofs only[hne.symm,aB,seval,A7]
 refine cS (fun h=>?_) (fun h=>?_)
 case refine_2=>
  simp -implicitDefEqProofs only[h,aS,hne.symm,aB,seval,A7]
  simp only[kU,cM] at h
  rw[rY (.inl h),←aX]
  exact⟨Tm.soft _,((aM.refl _).aC h2).aC hn4⟩
 simp only[bM] at h
 subst h
 obtain⟨hn0,hn1,_⟩:=ht.var
 obtain⟨i,rfl⟩:∃i:Nat,n=i:=⟨n.toNat,by omega⟩
 have hi:i<N:=by omega
 have hi':decide ((i:Int)<(N:Int))=true:=by simp;omega
 simp -implicitDefEqProofs only[eM,hi',gC,hne.symm,aB,seval,A7]
 have hat:=qN (P:=prog) (b:=b) (len:=N) aP hi
 cases hw with
 | stop hs=>
  obtain⟨D,e1,e2,_⟩:=hS.none hi (hs rfl)
  simp -implicitDefEqProofs only[hat,e1,e2,eM,aS,hne.symm,hb2.symm,hb4.symm,aB,seval,A7]
  exact⟨by rw[←aX,Tm.soft],((aM.refl _).aC h2).aC hn4⟩
 | go h1 h2' h3=>
  simp only[Tm.n] at h2'
  have ho:=hok _ _ h2'
  rename_i g' u'
  obtain⟨k',n',s',ts'⟩:=u'
  have hk':¬k'=0:=by have:=ho.kind.1;omega
  obtain⟨D,e1,e2,e3,e4⟩:=hS.some hi h2'
  have e5:i*4+0+4≤D.length:=e3
  simp -implicitDefEqProofs only[hat,e1,e2,e3,e4,hk',eN,aS,hne.symm,hb2.symm,hb4.symm,aB,seval,A7]
  rw[aA.v5 hne,aA.nO _ _ _ hne]
  refine⟨(g',.mk k' n' s' ts'),Nat.lt_succ_self _,⟨h3,ho⟩,?_⟩
  simp only[aX]
  exact aR.mk (by simp -implicitDefEqProofs only[aB,seval])
theorem eJ.acc{N:Nat}{st:aA}{b bW:Nat}{σ:Sub}{l:List AV}(h:eJ N st b σ)(hb:l≠[]→st bW=Option.none):eJ N (bS st bW l) b σ:=by
 cases l with
 | nil=>exact h
 | cons x l=>exact h.aC (by rintro rfl;rw[eJ,hb (by simp)] at h;cases h)
abbrev EH:=zi tI_3 (zi zI_3 (zi aY (zi tI_4 (zi zI_4 (zi cG (zi tI_28 (zi zI_28 (zi aP (zi bE (zi bF (zi b9 (zi tI_40 (zi zI_40 (zi dS (zi fV (zi fW (zi f9 (zi tI_52 (zi zI_52 (zi bU (zi bV (zi bX (zi bY bT)))))))))))))))))))))))
theorem aKU{N:Nat}{σ:Sub}{R:Int→Tm}{rk:Int→Nat}{B:Nat}(G:Good σ R rk B)(hok:cD (a8 N) σ)(hN:N≤1048576){n:Int}(hn:σ n=none)(t:Tm)(ht:a8 N t)(b:Nat)(st:aA)(hS:eJ N st b σ) :
 aD prog 242 [.int .i64 n,t.av,.mslice b 0 N 4] st (fun r st'=>r=.bool (decide (n∈(t.aH R).vl))∧st'=st):=by
 refine aD.done ?_
 refine wF [1000000] 3 func242 ntmps242 rfl rfl ?_
 intro _
 simp -implicitDefEqProofs only[aB,seval,EH]
 have h0:=CC t [] 0 st (Tm.rO t (ht.1.2.1)) (fun h=>absurd rfl h) (by have:=ht.2;simp only[bQ];omega)
 simp only[bL,kZ,BY] at h0
 refine h0.mono ?_
 rintro _ _ ⟨b0,rfl,rfl,hb0⟩
 obtain⟨v1,v2,_⟩:=O7 t (Tm.rO t (ht.1.2.1)) []
 simp -implicitDefEqProofs only[aB,seval]
 refine rB (σ:=Nat×List Int×Nat) [1000000] [0,2]
  (fun p=>p.1≤p.2.1.length∧p.2.1.Nodup∧(∀w∈p.2.1,w∈VN N)∧(p.2.1.map iv≠[]→st p.2.2=none)∧(∀w∈p.2.1.take p.1,w≠n∧∀u,σ w=some u→∀v∈u.vl,v∈p.2.1)∧(∀w∈p.2.1,n∈(R w).vl→n∈(t.aH R).vl)∧(n∈(t.aH R).vl→∃w∈p.2.1,n∈(R w).vl))
  (fun p=>[(6,.bool false),(7,bR 1 p.2.2 (p.2.1.map iv)),(8,.int .i64 p.1)]) (fun p=>bS st p.2.2 (p.2.1.map iv)) (fun p=>N - p.1) (by decide +kernel)
  ⟨(0,t.vars [],b0),⟨mV _,v2 lT,fun w hw=>?_,hb0,by simp,fun w hw hm=>?_,fun hm=>?_⟩,aR.mk (by simp -implicitDefEqProofs only[aB,↓aW,seval])⟩ ?_
 · rcases (v1 w).1 hw with h | h
   · cases h
   · exact tU.2 (ht.1.2.2 w h)
 · rcases (v1 w).1 hw with h | h
   · cases h
   · exact(v6 t).2 ⟨w,h,hm⟩
 · obtain⟨w,hw,hm⟩:=(v6 t).1 hm
   exact⟨w,(v1 w).2 (.inr hw),hm⟩
 rintro⟨i,W,bW⟩ ⟨i1,i2,i3,i4,i5,i6,i7⟩
 simp only at i1 i2 i3 i4 i5 i6 i7
 have haL:=BZ (w:=1) (b:=bW) (l:=W.map iv) f9
 have hWl:=AP i2 (fun m hm=>tU.1 (i3 m hm))
 simp -implicitDefEqProofs only[haL,aE,aB,seval]
 refine aT (fun h=>?_) (fun h=>?_)
 case refine_2=>
  simp only[cM,gP] at h
  obtain rfl:i=W.length:=by omega
  rw[eD] at i5
  simp -implicitDefEqProofs only[aB,seval]
  have hno:n∉(t.aH R).vl:=fun hm=>by
   obtain⟨w,hw,hnw⟩:=i7 hm
   exact aWK G i5 w hw hnw
  exact⟨by simp only[hno,eN,t7],aM.bS (aM.refl _) i4⟩
 simp only[bM,gP] at h
 obtain⟨w,hx⟩:∃w,W[i]?=some w:=⟨_,e7 h⟩
 have fG:=cI hx
 have hat:=P9 (b:=bW) (l:=W.map iv) (i:=i) (x:=iv w) dS (by rw[lS,hx];try rfl)
 obtain⟨fS,nC⟩:=QA (st:=st) (b:=bW) hx
 have hw:=bJ (n:=(i:Int)+1)
 simp -implicitDefEqProofs only[hat,fS,nC,yK,aB,seval,EH]
 refine aT (fun h2=>?_) (fun h2=>?_)
 · simp only[bM] at h2
   subst h2
   simp -implicitDefEqProofs only[aB,seval]
   have hm:w∈(t.aH R).vl:=i6 w fG (by rw[G.free hn,v7];simp)
   exact⟨by simp only[hm,eM,t7],aM.bS (aM.refl _) i4⟩
 simp only[cM] at h2
 simp -implicitDefEqProofs only[hat,fS,nC,yK,aB,seval,EH]
 obtain⟨hw0,hw1⟩:=tU.1 (i3 w fG)
 obtain⟨j,rfl⟩:∃j:Nat,w=j:=⟨w.toNat,by omega⟩
 have hj:j<N:=by omega
 have hj':decide ((j:Int)<(N:Int))=true:=by simp;omega
 have aEB:=qN (P:=prog) (b:=b) (len:=N) aP hj
 have hSA:=hS.acc i4
 have htk:W.take (i+1)=W.take i++ [(j:Int)]:=by rw[fP,hx];try rfl
 have step:∀W':List Int,(∀v∈W,v∈W')→(∀u,σ (j:Int)=some u→∀v∈u.vl,v∈W')→∀w∈W'.take (i+1),W'.take (i+1)=W.take (i+1)→w≠n∧∀u,σ w=some u→∀v∈u.vl,v∈W':=by
  intro W' nF iF w hw' hte
  rw[hte,htk] at hw'
  rcases dR.1 hw' with hw' | hw'
  · exact⟨(i5 w hw').1,fun u hu v hv=>nF v ((i5 w hw').2 u hu v hv)⟩
  · simp only[cO,dD,dI] at hw'
    subst hw'
    exact⟨h2,iF⟩
 cases hs:σ (j:Int) with
 | none=>
  obtain⟨D,e1,e2,_⟩:=hSA.none hj hs
  simp -implicitDefEqProofs only[hj',aEB,e1,e2,eM,gC,hat,fS,nC,yK,hw,aB,seval,EH]
  exact⟨(i+1,W,bW),by simp only;omega,⟨h,i2,i3,i4,fun w hw'=>step W (fun _ h=>h) (fun u hu=>by rw[hs] at hu;cases hu) w hw' rfl,i6,i7⟩,aR.mk (by simp -implicitDefEqProofs only[aB,seval])⟩
 | some u=>
  obtain⟨k',n',s',ts'⟩:=u
  have ho:=hok _ _ hs
  have hk':¬k'=0:=by have:=ho.1.kind.1;omega
  obtain⟨D,e1,e2,e3,e4⟩:=hSA.some hj hs
  simp -implicitDefEqProofs only[hj',aEB,e1,e2,e3,e4,hk',eN,gC,hat,fS,nC,yK,aB,seval,EH]
  have hwf:=Tm.rO _ (ho.1.2.1)
  have hc:=CC (.mk k' n' s' ts') W bW st hwf i4 (by have:=ho.2;omega)
  obtain⟨u1,u2,m,u3⟩:=O7 _ hwf W
  rw[aX] at hc
  refine hc.mono ?_
  rintro _ _ ⟨b',rfl,rfl,hb'⟩
  generalize (Tm.mk k' n' s' ts').vars W=W' at *
  have hte:W'.take (i+1)=W.take (i+1):=by rw[u3,yF (by omega)]
  have hbd:(Tm.mk k' n' s' ts').aH R=R (j:Int):=(G.bound hs).symm
  simp -implicitDefEqProofs only[hw,aB,seval]
  refine⟨(i+1,W',b'),by simp only;omega,⟨by rw[u3];simp only[eC];omega,u2 i2,fun w hw'=>?_,hb',fun w hw'=>step W' (fun v hv=>(u1 v).2 (.inl hv)) (fun u hu v hv=>?_) w hw' hte,fun w hw' hm=>?_,fun hm=>?_⟩,aR.mk (by simp -implicitDefEqProofs only[aB,seval])⟩
  · rcases (u1 w).1 hw' with h | h
    · exact i3 w h
    · exact tU.2 (ho.1.2.2 w h)
  · rw[hs] at hu
    cases hu
    exact(u1 v).2 (.inr hv)
  · rcases (u1 w).1 hw' with h | h
    · exact i6 w h hm
    · refine i6 (j:Int) fG ?_
      rw[←hbd]
      exact(v6 _).2 ⟨w,h,hm⟩
  · obtain⟨w,h,hm⟩:=i7 hm
    exact⟨w,(u1 w).2 (.inl h),hm⟩
def AN(N b:Nat)(st:aA)(σ':Sub)(st':aA):Prop:=eJ N st' b σ'∧∀x o,st x=some o→x≠b→st' x=some o
theorem AN.refl{N b:Nat}{st:aA}{σ:Sub}(h:eJ N st b σ):AN N b st σ st:=⟨h,fun _ _ h _=>h⟩
theorem AN.trans{N b:Nat}{st s2 s3:aA}{σ2 σ3:Sub}(x:AN N b st σ2 s2)(y:AN N b s2 σ3 s3):AN N b st σ3 s3:=⟨y.1,fun q o h hn=>y.2 q o (x.2 q o h hn) hn⟩
def BO(N:Nat)(f:Nat)(b:Nat)(σ:Sub)(a c:Tm)(r:Bool)(σ':Sub):Prop:=∀st,eJ N st b σ→aD prog f [a.av,c.av,.mslice b 0 N 4] st (fun r' st'=>r'=.bool r∧AN N b st σ' st')
abbrev lJ:=zi tI_3 (zi zI_3 (zi aY (zi tI_4 (zi zI_4 (zi cG (zi tI_9 (zi zI_9 (zi d4 (zi tI_28 (zi zI_28 (zi aP (zi bE (zi bF (zi b9 (zi tI_52 (zi zI_52 (zi bU (zi bV (zi bX (zi bY bT))))))))))))))))))))
theorem aFI(N:Nat)(hN:N≤1048576)(g:Nat)(bb:Nat)(IH:∀(σ:Sub) (a b:Tm) (r:Bool) (σ':Sub) (add:List Int),cC σ→cD (a8 N) σ→a8 N a→a8 N b→cV g σ a b=some (r,σ',add)→BO N 204 bb σ a b r σ')
 (σ:Sub) (a b:Tm) (r:Bool) (σ':Sub) (add:List Int) (hg:cC σ) (hok:cD (a8 N) σ) (ha0:a8 N a) (hb0:a8 N b) (h:cV (g+1) σ a b=some (r,σ',add))
 (aE3:(wk σ a).k≠1→(wk σ b).k=1→BO N 204 bb σ (wk σ b) (wk σ a) r σ'):BO N 204 bb σ a b r σ':=by
 intro st hS
 obtain⟨rk,B,G⟩:=hg.rs
 obtain⟨fa,wa⟩:=G.wk a
 obtain⟨fb,wb⟩:=G.wk b
 have HB:cD (cB N) σ:=fun n u hu=>(hok n u hu).1
 have hca:=fun st (hS:eJ N st bb σ)=>QX HB wa ha0.1 bb st hS
 have hcb:=fun st (hS:eJ N st bb σ)=>QX HB wb hb0.1 bb st hS
 have ea:=wa.end
 have eb:=wb.end
 have hsa:=wa.all (p:=a8 N) hok ha0
 have hsb:=wb.all (p:=a8 N) hok hb0
 replace h:=JH h
 generalize wk σ a=a1 at *
 generalize wk σ b=b1 at *
 clear wa wb
 refine wF [1000000,3,4] 3 func204 ntmps204 rfl rfl ?_
 intro fK
 simp -implicitDefEqProofs only[aB,seval,lJ]
 intro b4 h4 b5 h5
 have h54:b5≠b4:=by rintro rfl;rw[aA.aL] at h5;cases h5
 have hn5:st b5=none:=by rw[aA.aF st _ h54] at h5;exact h5
 have h4b:b4≠bb:=by rintro rfl;rw[eJ,h4] at hS;cases hS
 have h5b:b5≠bb:=by rintro rfl;rw[eJ,hn5] at hS;cases hS
 have hS':∀o o',eJ N ((st.aC b4 o).aC b5 o') bb σ:=fun o o'=>(hS.aC h4b).aC h5b
 have hQ:∀o o',AN N bb st σ ((st.aC b4 o).aC b5 o'):=fun o o'=>⟨hS' o o',fun x p h _=>by
  rw[aA.aF _ _ (by rintro rfl;rw[hn5] at h;cases h),aA.aF _ _ (by rintro rfl;rw[h4] at h;cases h)];exact h⟩
 simp -implicitDefEqProofs only[Tm.eV,oP (Tm.eV a),nX (b7 a),h54.symm,aB,seval]
 refine(hca _ (hS' _ _)).to ?_
 simp -implicitDefEqProofs only[Tm.eV,oP (Tm.eV b),nX (b7 b),Tm.dY,aS,h54,h54.symm,aB,seval,lJ]
 rw[aA.v5 h54,aA.nO _ _ _ h54]
 refine(hcb _ (hS' _ _)).to ?_
 obtain⟨ka,na,sa,tsa⟩:=a1
 obtain⟨kb,nb,sb',tsb⟩:=b1
 obtain⟨hla,aEQ⟩:=Tm.oO (hsa.1.small)
 obtain⟨hlb,aER⟩:=Tm.oO (hsb.1.small)
 have fX:∀o o',AN N bb st σ ((st.aC b4 o).aC b5 o'):=hQ
 have hka:=fun h=>(pL N) _ h hsa
 have hkb:=fun h=>(pL N) _ h hsb
 simp only[aX]
 simp only[Tm.k,Tm.n,Tm.ts] at h ea eb aE3 hka hkb
 simp -implicitDefEqProofs only[eH,aS,h54.symm,aB,seval,lJ]
 have var:∀ {n:Int} {t:Tm},n∈VN N→σ n=none→a8 N t→iP σ n t=(r,σ',add)→∀s0,eJ N s0 bb σ→aD prog 242 [.int .i64 n,t.av,.mslice bb 0 N 4] s0 (fun r' st'=>r'=.bool (!r)∧st'=s0):=by
  intro n t _ hn ht hb s0 hs0
  have:=aKU G hok hN hn t ht bb s0 hs0
  unfold iP at hb
  split at hb
  · rename_i hm
    cases hb
    simpa [hm] using this
  · rename_i hm
    cases hb
    simpa [hm] using this
 rcases h with ⟨h1,h2,h3,rfl,rfl,rfl⟩ | ⟨h1,h2,h3⟩ | ⟨h1,h2,h3⟩ | ⟨h1,h2,h3,h4⟩ | ⟨h1,h2,h3,rfl,rfl,rfl⟩
 · subst h1 h2 h3
   simp -implicitDefEqProofs only[eM,gC,h54.symm,aB,seval,lJ]
   exact fX _ _
 · subst h1
   have hin:=tU.2 (hsa.1.2.2 na (by rw[Tm.lP rfl];simp))
   obtain⟨hn0,hn1⟩:=tU.1 hin
   have hcw:=var hin (ea rfl) hsb h3 _ (hS' (.cells [.int .i64 1,.int .i64 na,.str sa,.slice (tsa.map Tm.av)]) (.cells [.int .i64 kb,.int .i64 nb,.str sb',.slice (tsb.map Tm.av)]))
   have hna:=ea rfl
   rw[aX] at hcw
   obtain⟨i,rfl⟩:∃i:Nat,na=i:=⟨na.toNat,by omega⟩
   have hi:i<N:=by omega
   have hat:=qN (P:=prog) (b:=bb) (len:=N) aP hi
   have h6:kb=1→¬(i:Int)=nb:=fun e1 e=>h2 ⟨e1,e⟩
   have tail:∀(s0:aA),s0=((st.aC b4 (.cells [.int .i64 1,.int .i64 i,.str sa,.slice (tsa.map Tm.av)])).aC b5 (.cells [.int .i64 kb,.int .i64 nb,.str sb',.slice (tsb.map Tm.av)]))→r=true →
    ∃D D',s0 bb=some (.cells D)∧i*4+4≤D.length∧aS D (i*4) [.int .i64 kb,.int .i64 nb,.str sb',.slice (tsb.map Tm.av)]=D'∧AN N bb st σ' (s0.aC bb (.cells D')):=by
    rintro _ rfl rfl
    unfold iP at h3
    split at h3
    · cases h3
    · cases h3
      obtain⟨D,D',e1,e2,e3,e4⟩:=(hS' (.cells [.int .i64 1,.int .i64 i,.str sa,.slice (tsa.map Tm.av)]) (.cells [.int .i64 kb,.int .i64 nb,.str sb',.slice (tsb.map Tm.av)])).set hi (.mk kb nb sb' tsb)
      refine⟨D,D',e1,e2,by rw[←e3,aX];try rfl,e4,fun x o hx hxb=>?_⟩
      rw[aA.aF _ _ hxb]
      exact(hQ _ _).2 x o hx hxb
   by_cases h5:kb=1
   · subst h5
     simp -implicitDefEqProofs only[eM,h6 rfl,eN,gC,h54.symm,aB,seval,lJ]
     refine hcw.to ?_
     cases r with
     | false=>
      simp -implicitDefEqProofs only[aB,seval]
      unfold iP at h3
      split at h3
      · cases h3
        exact fX _ _
      · cases h3
     | true=>
      obtain⟨D,D',e1,e2,e3,e4⟩:=tail _ rfl rfl
      simp -implicitDefEqProofs only[hat,e1,e2,aS,h54.symm,aB,seval,lJ]
      rw[←e3] at e4
      exact e4
   · simp -implicitDefEqProofs only[eM,h5,eN,gC,h54.symm,aB,seval,lJ]
     refine hcw.to ?_
     cases r with
     | false=>
      simp -implicitDefEqProofs only[aB,seval]
      unfold iP at h3
      split at h3
      · cases h3
        exact fX _ _
      · cases h3
     | true=>
      obtain⟨D,D',e1,e2,e3,e4⟩:=tail _ rfl rfl
      simp -implicitDefEqProofs only[hat,e1,e2,aS,h54.symm,aB,seval,lJ]
      rw[←e3] at e4
      exact e4
 · subst h2
   have hsw:=aE3 h1 rfl
   simp only[BO,aX] at hsw
   simp -implicitDefEqProofs only[eM,h1,eN,gC,h54.symm,aB,seval,lJ]
   refine(hsw _ (hS' _ _)).mono ?_
   rintro _ s2 ⟨rfl,hp⟩
   simp -implicitDefEqProofs only[aB,seval]
   exact(hQ _ _).trans hp
 · rw[qM] at h3
   simp only[Tm.k,Tm.n,Tm.s,Tm.ts] at h3
   obtain⟨rfl,rfl,rfl,hlen⟩:=h3
   have dC:decide ((tsa.length:Int)=(tsb.length:Int))=true:=by simp [hlen]
   simp -implicitDefEqProofs only[eM,eN,dC,gC,h54.symm,aE,h1,aB,seval,lJ]
   have hS0:=hS' (.cells [.int .i64 ka,.int .i64 na,.str sa,.slice (tsa.map Tm.av)]) (.cells [.int .i64 ka,.int .i64 na,.str sa,.slice (tsb.map Tm.av)])
   have hQ0:=hQ (.cells [.int .i64 ka,.int .i64 na,.str sa,.slice (tsa.map Tm.av)]) (.cells [.int .i64 ka,.int .i64 na,.str sa,.slice (tsb.map Tm.av)])
   have e4:((st.aC b4 (.cells [.int .i64 ka,.int .i64 na,.str sa,.slice (tsa.map Tm.av)])).aC b5 (.cells [.int .i64 ka,.int .i64 na,.str sa,.slice (tsb.map Tm.av)])) b4=some (.cells [.int .i64 ka,.int .i64 na,.str sa,.slice (tsa.map Tm.av)]):=by rw[aA.aF _ _ h54.symm,aA.aL]
   have e5:((st.aC b4 (.cells [.int .i64 ka,.int .i64 na,.str sa,.slice (tsa.map Tm.av)])).aC b5 (.cells [.int .i64 ka,.int .i64 na,.str sa,.slice (tsb.map Tm.av)])) b5=some (.cells [.int .i64 ka,.int .i64 na,.str sa,.slice (tsb.map Tm.av)]):=aA.aL _ _ _
   generalize (st.aC b4 (.cells [.int .i64 ka,.int .i64 na,.str sa,.slice (tsa.map Tm.av)])).aC b5 (.cells [.int .i64 ka,.int .i64 na,.str sa,.slice (tsb.map Tm.av)])=s0 at *
   refine dQ (σ:=Sub×List Int×aA) [1000000,3,4] [2,3,4] tsa
    (fun i p=>cC p.1∧cD (a8 N) p.1∧AN N bb s0 p.1 p.2.2∧dH g p.1 (tsa.drop i) (tsb.drop i)=some (r,σ',p.2.1))
    (fun i _=>[(6,.bool false),(7,.int .i64 i)]) (fun _ p=>p.2.2) (by decide +kernel)
    ⟨(σ,add,s0),⟨hg,hok,AN.refl hS0,h4⟩,aR.mk (by simp -implicitDefEqProofs only[aB,↓aW,seval])⟩ (fun i x p hx hlt bD hdr hinv=>?_) (fun p hge hinv=>?_)
   case refine_2=>
    obtain⟨σi,rest,si⟩:=p
    obtain⟨i1,i2,i3,i5⟩:=hinv
    simp only at i1 i2 i3 i5
    have f4:=i3.2 b4 _ e4 h4b
    rw[iD,hlen,iD] at i5
    simp only[dH,Option.some.injEq,Prod.mk.injEq] at i5
    obtain⟨rfl,rfl,rfl⟩:=i5
    simp -implicitDefEqProofs only[hge,f4,aE,aB,seval,lJ]
    exact hQ0.trans i3
   obtain⟨σi,rest,si⟩:=p
   obtain⟨i1,i2,i3,i5⟩:=hinv
   simp only at i1 i2 i3 i5
   obtain⟨y,hy⟩:∃y,tsb[i]?=some y:=⟨_,e7 (by omega)⟩
   have AB:tsb.drop i=y::tsb.drop (i+1):=by
    obtain⟨h1,h2⟩:=eS.1 hy
    rw[oV h1,h2]
   rw[hdr,AB,dH] at i5
   have f4:=i3.2 b4 _ e4 h4b
   have f5:=i3.2 b5 _ e5 h5b
   have hw:=bJ (n:=(i:Int)+1)
   simp -implicitDefEqProofs only[bD,aE,f4,aB,seval,lJ]
   refine wP [(0,1),(2,1),(5,1),(7,1),(10,1),(1,2),(3,1),(4,2),(6,2),(8,1),(9,2),(11,0),(12,1)] [0,2,5,7,10,1,3,4,6,8,9,12] mixed ?_
   simp -implicitDefEqProofs only[f4,f5,bG (av:=Tm.av) aP hx (aO x),bG (av:=Tm.av) aP hy (aO y),aB,seval,lJ]
   cases hu:cV g σi x y with
   | none=>rw[hu] at i5;cases i5
   | some p1=>
    obtain⟨r1,σ1,tr1⟩:=p1
    rw[hu] at i5
    have hx1:a8 N x:=hka h1 x (cI hx)
    have hy1:a8 N y:=hkb h2 y (cI hy)
    have hU:=uE i1 hu
    have hA:=(JJ (pL N) g).1 σi x y r1 σ1 tr1 i1 hu i2 hx1 hy1
    refine(IH σi x y r1 σ1 tr1 i1 i2 hx1 hy1 hu si i3.1).mono ?_
    rintro _ s2 ⟨rfl,hp2⟩
    cases r1 with
    | false=>
     simp only[Option.some.injEq,Prod.mk.injEq] at i5
     obtain⟨rfl,rfl,rfl⟩:=i5
     simp -implicitDefEqProofs only[aB,seval]
     exact hQ0.trans (i3.trans hp2)
    | true=>
     simp only at i5
     cases hu2:dH g σ1 (tsa.drop (i+1)) (tsb.drop (i+1)) with
     | none=>rw[hu2] at i5;cases i5
     | some p2=>
      obtain⟨r2,σ2,tr2⟩:=p2
      rw[hu2] at i5
      simp only[Option.some.injEq,Prod.mk.injEq] at i5
      obtain⟨rfl,rfl,_⟩:=i5
      simp -implicitDefEqProofs only[aB,seval]
      exact⟨(σ1,tr2,s2),⟨hU.fO,hA,i3.trans hp2,hu2⟩,aR.mk (by simp -implicitDefEqProofs only[hw,aB,seval])⟩
 · have hd:ka=kb→na=nb→sa=sb'→¬(tsa.length:Int)=(tsb.length:Int):=by
    intro e1 e2 e3 e4
    have:rX (Tm.mk ka na sa tsa) (Tm.mk kb nb sb' tsb)=true:=qM.2 ⟨e1,e2,e3,by simp only[Tm.ts];omega⟩
    rw[h3] at this;cases this
   by_cases e1:ka=kb
   · by_cases e2:na=nb
     · by_cases e3:sa=sb'
       · have e4:=hd e1 e2 e3
         subst e1 e2 e3
         simp -implicitDefEqProofs only[eN,eM,gC,h54.symm,h1,aE,e4,aB,seval,lJ]
         exact fX _ _
       · subst e1 e2
         simp -implicitDefEqProofs only[eN,eM,gC,h54.symm,h1,e3,aB,seval,lJ]
         exact fX _ _
     · subst e1
       simp -implicitDefEqProofs only[eN,eM,gC,h54.symm,h1,e2,aB,seval,lJ]
       exact fX _ _
   · clear hd
     simp -implicitDefEqProofs only[eN,gC,h54.symm,h1,h2,e1,aB,seval,lJ]
     exact fX _ _
theorem QW(N:Nat)(hN:N≤1048576)(bb:Nat):∀(g:Nat) (σ:Sub) (a b:Tm) (r:Bool) (σ':Sub) (add:List Int),cC σ→cD (a8 N) σ→a8 N a→a8 N b→cV g σ a b=some (r,σ',add)→BO N 204 bb σ a b r σ'
 | 0,σ,a,b,r,σ',add,hg,hok,ha,hb,h=>by simp only[cV] at h;cases h
 | g+1,σ,a,b,r,σ',add,hg,hok,ha,hb,h=>by
  refine aFI N hN g bb (QW N hN bb g) σ a b r σ' add hg hok ha hb h fun h1 h2=>?_
  obtain⟨rk,B,G⟩:=hg.rs
  obtain⟨fa,wa⟩:=G.wk a
  obtain⟨fb,wb⟩:=G.wk b
  have eb:=aI2 wb
  have ea:=aI2 wa
  have hbn:iP σ (wk σ b).n (wk σ a)=(r,σ',add):=by
   rcases JH h with h | h | h | h | h
   · exact absurd h.1 h1
   · exact absurd h.1 h1
   · exact h.2.2
   · exact absurd h2 h.2.1
   · exact absurd h2 h.2.1
  refine aFI N hN 0 bb (fun σ a b r σ' add _ _ _ _ h=>by simp only[cV] at h;cases h) σ (wk σ b) (wk σ a) r σ' add hg hok (wb.all (p:=a8 N) hok hb) (wa.all (p:=a8 N) hok ha) ?_ fun h3=>?_
  · rw[cV,eb,ea,aG (fun h=>h1 h.2.1),aK h2,hbn]
  · rw[eb] at h3;exact absurd h2 h3
theorem aKF(σ:Sub)(x y z:Tm):s8 σ x y z=if(o9 x y).2=0 then pV σ z (o9 x y).1 else((o9 x y).2,σ,[]):=by
 unfold s8 o9
 split
 · simp
 split
 · simp
 cases k7 x y<;>rfl
def oY(N bb:Nat)(st:aA)(x:Int×Sub×List Int)(r:AV)(st':aA):Prop:=r=.int .i64 x.1∧AN N bb st x.2.1 st'
theorem oY.same{N bb:Nat}{st:aA}{σ:Sub}{r:AV}(h:eJ N st bb σ)(k:Int)(hr:r=.int .i64 k):oY N bb st (k,σ,[]) r st:=⟨hr,AN.refl h⟩
theorem B8{N:Nat}(hN:N≤1048576){σ:Sub}(hg:cC σ)(ho:cD (a8 N) σ)(a b:Tm)(ha:a8 N a)(hb:a8 N b)(bb:Nat)(st:aA)(hS:eJ N st bb σ) :
 aD prog 204 [a.av,b.av,.mslice bb 0 N 4] st (fun r st'=>r=.bool (gW σ a b).1∧AN N bb st (gW σ a b).2.1 st'):=by
 obtain⟨r,σ',tr',hU⟩:=rA hg ho ha hb
 obtain⟨g,lY⟩:=hU.run
 rw[hU.eq]
 exact QW N hN bb g σ a b r σ' tr' hg ho ha hb lY st hS
abbrev oR:=zi tI_3 (zi zI_3 (zi aY (zi tI_4 (zi zI_4 (zi cG (zi tI_9 (zi zI_9 (zi d4 (zi tI_28 (zi zI_28 (zi aP (zi bE (zi bF (zi b9 (zi tI_52 (zi zI_52 (zi bU (zi bV (zi bX (zi bY bT))))))))))))))))))))
theorem aKV{N:Nat}(hN:N≤1048576){σ:Sub}(hg:cC σ)(ho:cD (a8 N) σ)(n:Int)(s:ByteArray)(ks:List Tm)(hb:isBuiltin s (ks.length:Int)=true)(hne:s≠⟨#[92,61]⟩)(hv:∀x∈ks,a8 N x)(bb:Nat)(st:aA)(hS:eJ N st bb σ) :
 aD prog 165 [(Tm.mk 3 n s ks).av,.mslice bb 0 N 4] st (oY N bb st (cQ σ s ks)):=by
 have hcs:=QR hb
 have AA:=fun x y (hxy:ks= [x,y])=>aMK n s x y (hv x (by simp [hxy])).1 (hv y (by simp [hxy])).1
 have aEH:=fun x y z (hxy:ks= [x,y,z])=>aMJ n s x y z (hv y (by simp [hxy])).1
 have aEJ:=fun x (hxy:ks= [x]) h=>aMP n s x h
 simp only[aX] at AA aEH aEJ ⊢
 refine wF [1000000] 2 func165 ntmps165 rfl rfl ?_
 intro _
 simp -implicitDefEqProofs only[aB,seval,oR]
 refine aT (fun h=>?_) (fun h=>?_)
 · have hs:s=⟨#[116,114,117,101]⟩:=by simpa using h
   have hk:=HN (ts:=ks) (by subst hs;simpa [isBuiltin] using hb)
   subst hk
   simp -implicitDefEqProofs only[aB,seval]
   exact oY.same hS _ (by simp [gD,hs])
 have ht:s≠⟨#[116,114,117,101]⟩:=by simpa using h
 simp -implicitDefEqProofs only[aB,seval]
 refine aT (fun h=>?_) (fun h=>?_)
 · have hs:s=⟨#[102,97,105,108]⟩:=by simpa using h
   have hk:=HN (ts:=ks) (by subst hs;simpa [isBuiltin] using hb)
   subst hk
   simp -implicitDefEqProofs only[aB,seval]
   exact oY.same hS _ (by simp [gD,hs])
 have hf:s≠⟨#[102,97,105,108]⟩:=by simpa using h
 simp -implicitDefEqProofs only[aB,seval]
 refine aT (fun h=>?_) (fun h=>?_)
 · have hs:s=⟨#[61]⟩:=by simpa using h
   obtain⟨x,y,rfl⟩:=sA (ts:=ks) (by subst hs;simp [isBuiltin] at hb;omega)
   have e:cQ σ s [x,y]=pV σ x y:=by subst hs;rfl
   rw[e]
   have dL:dF prog 28 (.slice [x.av,y.av]) (.int .i64 0)=some (.pptr x.av):=bG (av:=Tm.av) (l:=[x,y]) (i:=0) aP rfl (aO x)
   have fF:dF prog 28 (.slice [x.av,y.av]) (.int .i64 1)=some (.pptr y.av):=bG (av:=Tm.av) (l:=[x,y]) (i:=1) aP rfl (aO y)
   simp -implicitDefEqProofs only[aB,seval]
   refine wX [(0,1),(1,1),(2,1),(3,1),(4,1),(5,1),(6,1),(7,1),(8,1),(9,0),(10,0),(11,1)] [0,1,2,3,4,5,6,7,8,11] c8 mixed rfl fC ?_
   simp -implicitDefEqProofs only[dL,fF,b7,aO,aB,seval,oR]
   refine(B8 hN hg ho x y (hv x (by simp)) (hv y (by simp)) bb _ hS).mono ?_
   rintro _ s2 ⟨rfl,hP⟩
   simp -implicitDefEqProofs only[aB,seval]
   refine⟨fC,?_⟩
   refine(qF _ _).to ?_
   simp -implicitDefEqProofs only[aB,seval]
   exact⟨fC,rfl,hP⟩
 have he:s≠⟨#[61]⟩:=by simpa using h
 simp -implicitDefEqProofs only[aB,seval]
 refine aT (fun h=>absurd (by simpa using h) hne) (fun h=>?_)
 simp -implicitDefEqProofs only[aB,seval]
 refine aT (fun h=>?_) (fun h=>?_)
 · have hs:s=⟨#[61,61]⟩:=by simpa using h
   obtain⟨x,y,rfl⟩:=sA (ts:=ks) (by subst hs;simp [isBuiltin] at hb;omega)
   have e:cQ σ s [x,y]=(gD (x.same y),σ,[]):=by subst hs;rfl
   rw[e]
   have dL:dF prog 28 (.slice [x.av,y.av]) (.int .i64 0)=some (.pptr x.av):=bG (av:=Tm.av) (l:=[x,y]) (i:=0) aP rfl (aO x)
   have fF:dF prog 28 (.slice [x.av,y.av]) (.int .i64 1)=some (.pptr y.av):=bG (av:=Tm.av) (l:=[x,y]) (i:=1) aP rfl (aO y)
   simp -implicitDefEqProofs only[aB,seval]
   refine B5 mixed (by decide +kernel) (by decide +kernel) ?_
   simp -implicitDefEqProofs only[dL,fF,b7,aO,aB,seval,oR]
   refine jB (SA x y _) ?_
   simp -implicitDefEqProofs only[aB,seval]
   refine jB (qF _ _) ?_
   simp -implicitDefEqProofs only[aB,seval]
   exact oY.same hS _ rfl
 have hee:s≠⟨#[61,61]⟩:=by simpa using h
 simp -implicitDefEqProofs only[aB,seval]
 refine aT (fun h=>?_) (fun h=>?_)
 · have hs:s=⟨#[105,115]⟩:=by simpa using h
   obtain⟨x,y,rfl⟩:=sA (ts:=ks) (by subst hs;simp [isBuiltin] at hb;omega)
   have e:cQ σ s [x,y]=if y.ev.2≠0 then(y.ev.2,σ,[]) else pV σ x (lZ y.ev.1):=by subst hs;rfl
   rw[e]
   have hy:=hv y (by simp)
   have hin:=HK (N:=N) (Tm.rU y hy.1)
   have har:=fun st=>FV y st hy.1
   generalize y.ev.1=a at *
   generalize y.ev.2=ca at *
   have dL:dF prog 28 (.slice [x.av,y.av]) (.int .i64 0)=some (.pptr x.av):=bG (av:=Tm.av) (l:=[x,y]) (i:=0) aP rfl (aO x)
   have fF:dF prog 28 (.slice [x.av,y.av]) (.int .i64 1)=some (.pptr y.av):=bG (av:=Tm.av) (l:=[x,y]) (i:=1) aP rfl (aO y)
   simp -implicitDefEqProofs only[fF,b7,aO,aB,seval,oR]
   refine(har _).to ?_
   simp -implicitDefEqProofs only[aB,seval]
   refine aT (fun h4=>?_) (fun h4=>?_)
   · simp -implicitDefEqProofs only[aB,seval]
     have h4':ca≠0:=by simpa using h4
     rw[aK h4']
     exact oY.same hS _ rfl
   have h4':ca=0:=by simpa using h4
   subst h4'
   rw[aG (by simp)]
   simp -implicitDefEqProofs only[aB,seval]
   refine wX [(0,1),(1,1),(2,1),(3,1),(4,1),(6,1),(5,0),(7,0),(8,0),(9,1)] [0,1,2,3,4,6,9] c8 mixed rfl fC ?_
   simp -implicitDefEqProofs only[dL,b7,aO,aB,seval,oR]
   refine(aMB a _).to ?_
   rw[←aR8]
   simp -implicitDefEqProofs only[aB,seval]
   refine⟨fC,?_⟩
   refine(B8 hN hg ho x (lZ a) (hv x (by simp)) hin bb _ hS).mono ?_
   rintro _ s2 ⟨rfl,hP⟩
   simp -implicitDefEqProofs only[aB,seval]
   refine⟨fC,?_⟩
   refine(qF _ _).to ?_
   simp -implicitDefEqProofs only[aB,seval]
   exact⟨fC,rfl,hP⟩
 have his:s≠⟨#[105,115]⟩:=by simpa using h
 simp -implicitDefEqProofs only[aB,seval]
 refine aT (fun h=>?_) (fun h=>?_)
 · have hs:s=⟨#[97,114,103]⟩:=by simpa using h
   obtain⟨x,y,z,rfl⟩:=aFH (ts:=ks) (by subst hs;simp [isBuiltin] at hb;omega)
   have e:cQ σ s [x,y,z]=s8 σ x y z:=rfl
   rw[e,aKF]
   have hz:=hv z (by simp)
   have hy:=hv y (by simp)
   have hga:=aEH x y z rfl
   have hgv:(o9 x y).2=0→a8 N (o9 x y).1:=fun h=>by
    unfold o9 at h ⊢
    split at h
    · cases h
    rename_i h1
    rw[aG h1]
    split at h
    · cases h
    rename_i h2
    rw[aG h2]
    cases hu:k7 x y with
    | none=>rw[hu] at h;cases h
    | some u=>exact pL N y (fun h=>h1 (.inr h)) hy u (QH hu)
   generalize (o9 x y).1=u at *
   generalize (o9 x y).2=cu at *
   have G1:dF prog 28 (.slice [x.av,y.av,z.av]) (.int .i64 2)=some (.pptr z.av):=bG (av:=Tm.av) (l:=[x,y,z]) (i:=2) aP rfl (aO z)
   simp only[bK,bL] at hga
   simp -implicitDefEqProofs only[aB,seval,oR]
   refine(hga _).to ?_
   simp -implicitDefEqProofs only[aO,Tm.eG,Tm.dY,aB,↓aW,seval,oR]
   refine aT (fun h4=>?_) (fun h4=>?_)
   · simp -implicitDefEqProofs only[aB,seval]
     have h4':cu≠0:=by simpa using h4
     rw[aG h4']
     exact oY.same hS _ rfl
   have h4':cu=0:=by simpa using h4
   subst h4'
   rw[aK rfl]
   simp -implicitDefEqProofs only[aB,seval]
   refine wX [(0,1),(1,1),(2,1),(3,1),(4,1),(5,1),(6,0),(7,0),(8,1)] [0,1,2,3,4,5,8] c8 mixed rfl fC ?_
   simp -implicitDefEqProofs only[G1,b7,aO,aB,seval,oR]
   refine(B8 hN hg ho z u hz (hgv rfl) bb _ hS).mono ?_
   rintro _ s2 ⟨rfl,hP⟩
   simp -implicitDefEqProofs only[aB,seval]
   refine⟨fC,?_⟩
   refine(qF _ _).to ?_
   simp -implicitDefEqProofs only[aB,seval]
   exact⟨fC,rfl,hP⟩
 have aD9:s≠⟨#[97,114,103]⟩:=by simpa using h
 simp -implicitDefEqProofs only[aB,seval,oR]
 refine(aML s _).to ?_
 simp -implicitDefEqProofs only[aB,seval]
 refine aT (fun h=>?_) (fun h=>?_)
 · have hlen:ks.length=2:=by
    rcases hcs with ⟨h2,h3⟩ | ⟨h2,h3⟩ | ⟨h2,h3⟩ | ⟨h2,h3⟩
    · exact h2
    · simp [ht,hf] at h3
    · rcases h3 with rfl | rfl | rfl | rfl<;>exact absurd h (by decide)
    · exact absurd h3 aD9
   obtain⟨x,y,rfl⟩:=sA hlen
   have e:cQ σ s [x,y]=(vA s x y,σ,[]):=by simp only[cQ];rw[aK h]
   rw[e]
   have hc:=AA x y rfl
   simp only[bK,bL] at hc
   simp -implicitDefEqProofs only[aB,seval,oR]
   refine(hc _).to ?_
   simp -implicitDefEqProofs only[aB,seval]
   exact oY.same hS _ rfl
 · have hlen:ks.length=1∧(s=⟨#[118,97,114]⟩∨s=⟨#[110,111,110,118,97,114]⟩∨s=⟨#[97,116,111,109]⟩∨s=⟨#[105,110,116]⟩):=by
    rcases hcs with ⟨h2,h3⟩ | ⟨h2,h3⟩ | ⟨h2,h3⟩ | ⟨h2,h3⟩
    · simp [h,he,hne,hee,his] at h3
    · simp [ht,hf] at h3
    · exact⟨h2,h3⟩
    · exact absurd h3 aD9
   obtain⟨x,rfl⟩:=DQ hlen.1
   have e:cQ σ s [x]=(gD (qW s x),σ,[]):=rfl
   rw[e]
   have hc:=aEJ x rfl hlen.2
   simp only[bK,bL] at hc
   simp -implicitDefEqProofs only[aB,seval,oR]
   refine(hc _).to ?_
   simp -implicitDefEqProofs only[aB,seval]
   exact oY.same hS _ rfl
theorem QJ(N:Nat)(σ:Sub):uW 4 (cF N σ):=by
 intro e h
 simp only[cF,cE] at h
 obtain⟨i,_,rfl⟩:=h
 refine⟨FY _,?_⟩
 cases σ (i:Int) with
 | none=>rfl
 | some u=>exact Tm.dY u
theorem B3(N:Nat)(σ:Sub):∀e∈cF N σ,e.cA=false:=by
 intro e h
 simp only[cF,cE] at h
 obtain⟨i,_,rfl⟩:=h
 cases σ (i:Int) with
 | none=>rfl
 | some u=>exact Tm.eG u
theorem rL(N:Nat)(σ:Sub):(cF N σ).length=N:=by simp [cF]
theorem KL{N:Nat}(h0:0<N)(hN:N≤1048576)(σ:Sub){st:aA}{K:AV→aA→Prop}(hK:∀b,st b=none→eJ N (st.aC b (.cells ((cF N σ).flatMap AV.cells))) b σ→K (.mslice b 0 N 4) (st.aC b (.cells ((cF N σ).flatMap AV.cells)))) :
 jP prog 28 st (.fslice []) (.slice (cF N σ)) K:=by
 have hl:=rL N σ
 refine gJ (P:=prog) (st:=st) (b:=0) (l:=[]) (xs:=cF N σ) (x:=.slice (cF N σ)) (K:=K) aP bE bF rfl rfl (QJ N σ) (by simp) (by simp) (by simp only[bQ,hl];omega) (by simp only[bQ,hl];omega) (fun b hb=>?_)
 have hne: []++cF N σ≠[]:=by
  rw[eR]
  intro e
  rw[e] at hl
  simp at hl
  omega
 rw[qE hne,jR hne,eR,hl]
 exact hK b (hb hne) (aA.aL _ _ _)
theorem aKX{N:Nat}(h0:0<N)(hN:N≤1048576){σ:Sub}(hg:cC σ)(ho:cD (a8 N) σ)(n:Int)(s:ByteArray)(x y:Tm)(hs:s=⟨#[92,61]⟩)(hx:a8 N x)(hy:a8 N y)(st:aA) :
 aD prog 165 [(Tm.mk 3 n s [x,y]).av,.slice (cF N σ)] st (fun r st'=>r=.int .i64 (gD (!(gW σ x y).1))∧st'=st):=by
 have ht:s≠⟨#[116,114,117,101]⟩:=by subst hs;decide
 have hf:s≠⟨#[102,97,105,108]⟩:=by subst hs;decide
 have he:s≠⟨#[61]⟩:=by subst hs;decide
 refine aD.done ?_
 simp only[aX 3,bK,bL]
 refine wF [1000000] 2 func165 ntmps165 rfl rfl ?_
 intro _
 have dL:dF prog 28 (.slice [x.av,y.av]) (.int .i64 0)=some (.pptr x.av):=bG (av:=Tm.av) (l:=[x,y]) (i:=0) aP rfl (aO x)
 have fF:dF prog 28 (.slice [x.av,y.av]) (.int .i64 1)=some (.pptr y.av):=bG (av:=Tm.av) (l:=[x,y]) (i:=1) aP rfl (aO y)
 simp -implicitDefEqProofs only[aB,seval,oR]
 refine aT (fun h=>absurd (by simpa using h) ht) (fun h=>?_)
 simp -implicitDefEqProofs only[aB,seval]
 refine aT (fun h=>absurd (by simpa using h) hf) (fun h=>?_)
 simp -implicitDefEqProofs only[aB,seval]
 refine aT (fun h=>absurd (by simpa using h) he) (fun h=>?_)
 simp -implicitDefEqProofs only[aB,seval]
 refine aT (fun h=>?_) (fun h=>absurd hs (by simpa using h))
 simp -implicitDefEqProofs only[aB,seval]
 refine wX [(0,1),(1,1),(2,1),(3,1),(4,1),(5,1),(6,1),(7,1),(8,1),(9,1),(10,0),(11,0),(12,1),(13,0),(14,1)] [0,1,2,3,4,5,6,7,8,9,12,14] c8 mixed rfl fC ?_
 simp -implicitDefEqProofs only[dL,fF,b7,aO,aB,seval,oR]
 refine KL h0 hN σ fun b hb hA0=>?_
 have hD0:aM (st.aC b (.cells ((cF N σ).flatMap AV.cells))) st:=(aM.refl _).aC hb
 generalize st.aC b (.cells ((cF N σ).flatMap AV.cells))=s0 at *
 simp -implicitDefEqProofs only[aB,seval]
 refine⟨fC,?_⟩
 refine(B8 hN hg ho x y hx hy b _ hA0).mono ?_
 rintro _ s2 ⟨rfl,hA,hk⟩
 simp -implicitDefEqProofs only[aB,seval]
 refine⟨fC,?_⟩
 refine(qF _ _).to ?_
 simp -implicitDefEqProofs only[aB,seval]
 refine⟨fC,rfl,fun q=>?_⟩
 have key:∀o,st q=some o→s2 q=some o:=fun o h=>hk q o ((hD0 q).2 o h) (by rintro rfl;rw[hb] at h;cases h)
 refine⟨fun h=>?_,key⟩
 cases hq:st q with
 | none=>rfl
 | some o=>rw[key o hq] at h;cases h
theorem aKW{N:Nat}(h0:0<N)(hN:N≤1048576){σ:Sub}(hg:cC σ)(ho:cD (a8 N) σ)(n:Int)(s:ByteArray)(ks:List Tm)(hb:isBuiltin s (ks.length:Int)=true)(hv:∀x∈ks,a8 N x)(bb:Nat)(st:aA)(hS:eJ N st bb σ) :
 aD prog 165 [(Tm.mk 3 n s ks).av,.mslice bb 0 N 4] st (oY N bb st (cQ σ s ks)):=by
 by_cases hs:s=⟨#[92,61]⟩
 · obtain⟨x,y,rfl⟩:=sA (ts:=ks) (by subst hs;simp [isBuiltin] at hb;omega)
   have e:cQ σ s [x,y]=(gD (!(gW σ x y).1),σ,[]):=by subst hs;rfl
   rw[e]
   have hc:=aKX h0 hN hg ho n s x y hs (hv x (by simp)) (hv y (by simp)) c8
   refine(aD.LN (args':=[(Tm.mk 3 n s [x,y]).av,.mslice bb 0 N 4]) (st:=st) rfl hc fun h vs S V=>?_).mono ?_
   · simp only[cK] at V ⊢
     obtain⟨v,vs',rfl,V1,w,ws',rfl,V2,rfl⟩:=V
     refine⟨v,[w],rfl,V1.mono ((aM.c8 st).step h),w,[],rfl,?_,rfl⟩
     have h2:=V2.fz S hS (B3 N σ) ⟨4,y7 N σ⟩
     have h3:(AV.mslice bb 0 N 4).fz bb (cF N σ)=.slice (cF N σ):=by simp [AV.fz,rL]
     rw[h3] at h2
     exact h2.mono ((aM.c8 (st.erase bb)).step h)
   · rintro _ _ ⟨rfl,rfl⟩
     exact oY.same hS _ rfl
 · exact aKV hN hg ho n s ks hb hs hv bb st hS
abbrev A8:=zi tI_3 (zi zI_3 (zi aY (zi tI_28 (zi zI_28 (zi aP (zi bE (zi bF (zi b9 (zi tI_52 (zi zI_52 (zi bU (zi bV (zi bX (zi bY bT))))))))))))))
theorem aKT{N:Nat}{σ:Sub}(hok:cD (cB N) σ){f:Nat}{t u:Tm}(hw:eU σ f t u)(ht:cB N t)(st:aA):aD prog 241 [t.av,.slice (cF N σ)] st (fun r st'=>r=u.av∧st'=st):=by
 refine aD.done ?_
 refine wF [1000000,2] 2 func241 ntmps241 rfl rfl ?_
 intro _
 have hlen:(cF N σ).length=N:=by simp [cF]
 simp -implicitDefEqProofs only[aB,seval,A8]
 intro b2 h2 b4 h4
 have hne:b4≠b2:=by rintro rfl;rw[aA.aL] at h4;cases h4
 have hn4:st b4=none:=by rw[aA.aF st _ hne] at h4;exact h4
 refine rB (σ:=Nat×Tm) [1000000,2] [1,2,4] (fun p=>eU σ p.1 p.2 u∧cB N p.2) (fun p=>[]) (fun p=>(st.aC b2 (.cells p.2.av.cells)).aC b4 (.cells [.int .i64 0,.int .i64 0,.str ⟨#[]⟩,.fslice []])) (fun p=>p.1) (by decide +kernel) ⟨(f,t),⟨hw,ht⟩,aR.mk (by simp -implicitDefEqProofs only[aB,seval])⟩ ?_
 rintro⟨g,t⟩ ⟨hw,ht⟩
 obtain⟨k,n,s,ts⟩:=t
 simp only at hw ht
 simp only[aX]
 have rY:k≠1∨σ n=none→u=.mk k n s ts:=fun h=>by
  cases hw with
  | stop _=>rfl
  | go h1 h2 _=>
   simp only[Tm.k] at h1
   rcases h with h | h
   · exact absurd h1 h
   · rw[show σ n=some _ from h2] at h;cases h
 simp -implicitDefEqProofs only[hne.symm,aB,seval,A8]
 refine cS (fun h=>?_) (fun h=>?_)
 case refine_2=>
  simp -implicitDefEqProofs only[h,aS,hne.symm,aB,seval,A8]
  simp only[kU,cM] at h
  rw[rY (.inl h),←aX]
  exact⟨Tm.soft _,((aM.refl _).aC h2).aC hn4⟩
 simp only[bM] at h
 subst h
 obtain⟨hn0,hn1,_⟩:=ht.var
 obtain⟨i,rfl⟩:∃i:Nat,n=i:=⟨n.toNat,by omega⟩
 have hi:i<N:=by omega
 have hi':decide ((i:Int)<(N:Int))=true:=by simp;omega
 simp -implicitDefEqProofs only[eM,hi',gC,hne.symm,hlen,aB,seval,A8]
 have hat:dF prog 28 (.slice (cF N σ)) (.int .i64 (i:Int))=some (.pptr (cellOf (σ (i:Int)))):=bG (av:=fun i:Nat=>cellOf (σ (i:Int))) aP (List.getElem?_range hi) (FY _)
 cases hw with
 | stop hs=>
  rw[show σ (i:Int)=none from hs rfl] at hat
  simp only[cellOf] at hat
  simp -implicitDefEqProofs only[hat,eM,aS,hne.symm,aB,seval,A8]
  exact⟨by rw[←aX,Tm.soft],((aM.refl _).aC h2).aC hn4⟩
 | go h1 h2' h3=>
  simp only[Tm.n] at h2'
  have ho:=hok _ _ h2'
  rename_i g' u'
  obtain⟨k',n',s',ts'⟩:=u'
  have hk':¬k'=0:=by have:=ho.kind.1;omega
  rw[h2'] at hat
  simp only[cellOf,aX] at hat
  simp -implicitDefEqProofs only[hat,hk',eN,aS,hne.symm,aB,seval,A8]
  rw[aA.v5 hne,aA.nO _ _ _ hne]
  refine⟨(g',.mk k' n' s' ts'),Nat.lt_succ_self _,⟨h3,ho⟩,?_⟩
  simp only[aX]
  exact aR.mk (by simp -implicitDefEqProofs only[aB,seval])
abbrev qY:=zi tI_3 (zi zI_3 (zi aY (zi tI_9 (zi zI_9 (zi d4 (zi tI_28 (zi zI_28 (zi aP (zi bE (zi bF (zi b9 (zi tI_52 (zi zI_52 (zi bU (zi bV (zi bX (zi bY bT)))))))))))))))))
theorem QV{N:Nat}{σ:Sub}{R:Int→Tm}{rk:Int→Nat}{B:Nat}(G:Good σ R rk B)(hok:cD (a8 N) σ) :
 ∀(room:Nat) (t:Tm) (st:aA),room≤120→a8 N t→aD prog 200 [t.av,.slice (cF N σ),.int .i64 (room:Int)] st (Full (t.aH R) room st)
 | room,t,st,hr,ht=>by
  have IH:=fun(H5:Nat) (hlt:H5<room) (x:Tm) st=>QV G hok H5 x st
  obtain⟨f,hw⟩:=G.wk t
  generalize wk σ t=u at *
  have HB:cD (cB N) σ:=fun n u hu=>(hok n u hu).1
  have hsu:=hw.all (p:=a8 N) hok ht
  have hcw:=fun st=>aKT HB hw ht.1 st
  obtain⟨k,n,s,ts⟩:=u
  have hv:=aD2 G hw (hsu.1.2.1)
  rw[hv]
  obtain⟨hlen,pG⟩:=Tm.oO (hsu.1.small)
  have aYH:=hsu.1.kind.2
  have hkn:=hsu.1.all.2
  have hkk:∀x∈ts,a8 N x:=fun x hx=>by
   refine⟨hkn x hx,?_⟩
   have:=hsu.2
   rw[Tm.jE] at this
   have:=pN (f:=Tm.nodes) hx
   omega
  refine aD.m7 (aD.fin ?_)
  refine wF [1000000,3,8] 3 func200 ntmps200 rfl rfl ?_
  intro _
  simp -implicitDefEqProofs only[aB,seval,qY]
  intro b3 h3 b6 h6
  have h63:b6≠b3:=by rintro rfl;rw[aA.aL] at h6;cases h6
  have hn6:st b6=none:=by rw[aA.aF st _ h63] at h6;exact h6
  have hwr:∀z:Int,-1≤z→z≤200→IntKind.i64.wrap z=z:=fun z h1 h2=>wrap64 (by omega) (by omega)
  have hw1:=hwr ((room:Int) - 1) (by omega) (by omega)
  refine aT (fun h=>?_) (fun h=>?_)
  · simp only[bM] at h
    obtain rfl:room=0:=by omega
    simp -implicitDefEqProofs only[aS,aB,↓aW,seval,qY]
    refine⟨0,[],_,rfl,by simp,by simp,⟨4,by simp⟩,st,(fun x=>by by_cases e3:x=b3<;>by_cases e6:x=b6<;>simp_all [aA.aC]),rfl,Tm.zero,-1,?_,Int.le_refl _,?_⟩
    · simp only[Tm.zero,aX,gR,lG,fR,m8,rW,bK,bL]
    · rw[aG (by rw[Tm.jE];omega)];decide
  simp only[cM] at h
  simp -implicitDefEqProofs only[h63.symm,aB,seval,qY]
  refine(hcw _).to ?_
  simp only[aX]
  simp -implicitDefEqProofs only[aS,h63.symm,hw1,aB,↓aW,seval,qY]
  intro b8 h8
  have h83:b8≠b3:=by rintro rfl;simp [aA.aC] at h8
  have h86:b8≠b6:=by rintro rfl;simp [aA.aC,h63] at h8
  have hn8:st b8=none:=by rw[aA.aF _ _ h83,aA.aF _ _ h86,aA.aF _ _ h83] at h8;exact h8
  rw[aA.v5 h63]
  have hW6:((st.aC b6 (.cells [.int .i64 0,.int .i64 0,.str ⟨#[]⟩,.fslice []])).aC b3 (.cells [.int .i64 k,.int .i64 n,.str s,.slice (ts.map Tm.av)])) b6=some (.cells [.int .i64 0,.int .i64 0,.str ⟨#[]⟩,.fslice []]):=by rw[aA.aF _ _ h63,aA.aL]
  have hW3:((st.aC b6 (.cells [.int .i64 0,.int .i64 0,.str ⟨#[]⟩,.fslice []])).aC b3 (.cells [.int .i64 k,.int .i64 n,.str s,.slice (ts.map Tm.av)])) b3=some (.cells [.int .i64 k,.int .i64 n,.str s,.slice (ts.map Tm.av)]):=aA.aL _ _ _
  have hWd:∀Y Z,aM ((((st.aC b6 (.cells [.int .i64 0,.int .i64 0,.str ⟨#[]⟩,.fslice []])).aC b3 (.cells [.int .i64 k,.int .i64 n,.str s,.slice (ts.map Tm.av)])).aC b8 Z).aC b6 Y) st:=fun Y Z x=>by
   by_cases e3:x=b3<;>by_cases e6:x=b6<;>by_cases e8:x=b8<;>simp_all [aA.aC]
  generalize ((st.aC b6 (.cells [.int .i64 0,.int .i64 0,.str ⟨#[]⟩,.fslice []])).aC b3 (.cells [.int .i64 k,.int .i64 n,.str s,.slice (ts.map Tm.av)]))=W at *
  have vN:(Tm.mk k n s (ts.map (Tm.aH R))).nodes=1+aJ Tm.nodes (ts.map (Tm.aH R)):=Tm.jE _ _ _ _
  refine dQ (σ:=Nat×List Tm×Int) [1000000,3,8] [1,3,6,7,8] ts
   (fun i p=>(p.2.1.map Tm.av≠[]→(W.aC b8 (.cells ([.int .i64 k,.int .i64 n,.str s]++ [bR 4 p.1 (p.2.1.map Tm.av)]))) p.1=none)∧p.2.1.length=i∧-1≤p.2.2 ∧
    (0≤p.2.2→p.2.1=(ts.take i).map (Tm.aH R)∧p.2.2=(room:Int) - 1 - aJ Tm.nodes p.2.1)∧(p.2.2<0→room<1+aJ Tm.nodes (ts.map (Tm.aH R))))
   (fun i p=>[(9,.int .i64 p.2.2),(10,.int .i64 i)])
   (fun i p=>jK W b8 p.1 [.int .i64 k,.int .i64 n,.str s] (p.2.1.map Tm.av)) (by decide +kernel)
   ⟨(0,[],(room:Int) - 1),⟨fun h=>absurd rfl h,rfl,by simp only;omega,fun _=>⟨by simp,by simp [aJ]⟩,fun h=>by simp only at h;omega⟩,aR.mk (by simp -implicitDefEqProofs only[aB,↓aW,seval])⟩ (fun i x p hx hlt bD AB hinv=>?_) (fun p hge hinv=>?_)
  · obtain⟨b,acc,left⟩:=p
    obtain⟨i1,i2,i3,i4,i5⟩:=hinv
    simp only at i1 i2 i3 i4 i5
    have h3o:=l7 i1 (x:=b3) (by rw[hW3];simp) h83.symm
    rw[hW3] at h3o
    simp -implicitDefEqProofs only[bD,eM,gC,aE,h3o,aB,seval,qY]
    refine aT (fun h9=>?_) (fun h9=>?_)
    case refine_2=>
     simp only[cM] at h9
     have hbo:=kA i1
     have h6o:=l7 i1 (x:=b6) (by rw[hW6];simp) h86.symm
     rw[hW6] at h6o
     simp -implicitDefEqProofs only[aS,hbo,h6o,iX,aB,seval,qY]
     obtain⟨g5,g6⟩:=r9 (o:=.cells [.int .i64 k,.int .i64 n,.str s,bR 4 b (acc.map Tm.av)]) i1 (show W b6≠none by rw[hW6];simp) h86.symm
     refine⟨b,_,_,g5,g6,pT _,⟨4,gV _⟩,st,hWd _ _,rfl,.mk k n s acc,left,?_,i3,?_⟩
     · simp only[lG,gR,bK,bL,fR,m8,mH,aX]
     · rw[vN]
       skip
       rw[aG (by have:=i5 (by omega);omega)]
       omega
    simp only[bM] at h9
    obtain⟨e1,e2⟩:=i4 h9
    have fG:=cI hx
    have hsl:=aU0 Tm.nodes (ts.map (Tm.aH R)) (i+1)
    rw[←List.map_take,fP,hx] at hsl
    simp only[J1,pZ,bK,bL,xQ,aJ,←e1] at hsl
    obtain⟨H5,rfl⟩:∃r:Nat,left=r:=⟨left.toNat,by omega⟩
    have dC:(acc.map Tm.av).length=i:=by rw[aE,i2]
    have hw:=bJ (n:=(i:Int)+1)
    have hbo:=kA i1
    simp -implicitDefEqProofs only[h3o,bG (av:=Tm.av) aP hx (aO x),b7,aO,aB,seval,qY]
    refine(IH H5 (by omega) x _ (by omega) (hkk x fG)).mono ?_
    rintro _ _ ⟨rfl,y,aSC,rfl,hl1,hl2⟩
    simp -implicitDefEqProofs only[b7,aO,Tm.dY,Tm.eG,hbo,qD,aB,↓aW,seval,qY]
    refine gJ aP bE bF rfl rfl (gS (aO _) (Tm.dY _)) (gV _) i1 (by simp only[dC,bA,bQ];omega) (by simp only[dC,bA,bQ];omega) (fun b' hb'=>?_)
    rw[show acc.map Tm.av++ [y.av]=(acc++ [y]).map Tm.av by simp] at hb' ⊢
    obtain⟨g1,g2,g3⟩:=tS hb'
    simp only[gB,eR] at g1 g3
    simp -implicitDefEqProofs only[g3,oZ,iX,g1,hw,aS,aB,seval,qY]
    refine⟨(b',acc++ [y],aSC),⟨g2,by simp [i2],hl1,fun h=>?_,fun h=>?_⟩,aR.mk (by simp -implicitDefEqProofs only[aB,seval])⟩
    · simp only at h
      split at hl2
      · obtain⟨rfl,hl3⟩:=hl2
        refine⟨by rw[fP,hx];simp [e1],?_⟩
        simp only[xQ,aJ]
        omega
      · omega
    · simp only at h
      split at hl2
      · omega
      · omega
  · obtain⟨b,acc,left⟩:=p
    obtain⟨i1,i2,i3,i4,i5⟩:=hinv
    simp only at i1 i2 i3 i4 i5
    rw[eD] at i4
    have h3o:=l7 i1 (x:=b3) (by rw[hW3];simp) h83.symm
    rw[hW3] at h3o
    simp -implicitDefEqProofs only[hge,aE,h3o,aB,seval,qY]
    have hbo:=kA i1
    have h6o:=l7 i1 (x:=b6) (by rw[hW6];simp) h86.symm
    rw[hW6] at h6o
    simp -implicitDefEqProofs only[aS,hbo,h6o,iX,aB,seval,qY]
    obtain⟨g5,g6⟩:=r9 (o:=.cells [.int .i64 k,.int .i64 n,.str s,bR 4 b (acc.map Tm.av)]) i1 (show W b6≠none by rw[hW6];simp) h86.symm
    refine⟨b,_,_,g5,g6,pT _,⟨4,gV _⟩,st,hWd _ _,rfl,.mk k n s acc,left,?_,i3,?_⟩
    · simp only[lG,gR,bK,bL,fR,m8,mH,aX]
    · rw[vN]
      skip
      rcases Int.lt_or_le left 0 with h9 | h9
      · rw[aG (by have:=i5 h9;omega)];exact h9
      · obtain⟨e1,e2⟩:=i4 h9
        rw[←e1] at i5 ⊢
        rw[aK (by omega)]
        exact⟨rfl,by omega⟩
termination_by room=>room
decreasing_by exact hlt
abbrev bP (l:List Tm):AV:=.agg [.slice (l.map Tm.av)]
theorem OV:∀(a b:List Tm) (l:List Int),bO (a++b) l=bO b (bO a l)
 | [],_,_=>rfl
 | t::a,b,l=>by simp only[gB,bO,OV a b]
abbrev N4:=zi tI_3 (zi zI_3 (zi aY (zi tI_28 (zi zI_28 (zi aP (zi bE (zi bF (zi b9 (zi tI_40 (zi zI_40 (zi dS (zi fV (zi fW (zi f9 (zi tI_52 (zi zI_52 (zi bU (zi bV (zi bX (zi bY bT))))))))))))))))))))
theorem RY(q:List Tm)(st:aA)(hwf:∀t∈q,t.wf=true)(hsz:aJ Tm.nodes q≤1099511627776):aD prog 127 [.slice (q.map Tm.av)] st (fun r st'=>r=.slice ((bO q []).map iv)∧st'=st):=by
 refine aD.done ?_
 refine wF [1000000] 1 func127 ntmps127 rfl rfl ?_
 simp only[dK,AV.fits,dO,aE]
 intro ⟨hl,_⟩
 simp -implicitDefEqProofs only[aB,seval,N4]
 refine sO (σ:=Unit) [1000000] [0,2] q 1 3 (fun i _=>(bO (q.take i) []).map iv) (fun _ _=>True) (fun i _=>[(4,.int .i64 i)]) (fun _ _=>st) (fun i _ _ e he=>by simp only[cE] at he;obtain⟨t,_,rfl⟩:=he;exact⟨rfl,rfl⟩) (by decide +kernel) ⟨(),0,trivial,fun h=>absurd rfl h,aR.mk (by simp -implicitDefEqProofs only[kZ,j5,bO,bL,aB,↓aW,seval])⟩ (fun i x s b hx hlt bD hdr hinv hb=>?_) (fun s b hge hinv=>?_)
 case refine_2=>
  simp -implicitDefEqProofs only[hge,fR,iR,rW,pE,eD,aE,aB,seval,N4]
  exact⟨rfl,aM.refl _⟩
 have hw:=bJ (n:=(i:Int)+1)
 have hat:=bG (av:=Tm.av) aP hx (aO x)
 have hst:=sI Tm.nodes hx
 have hvl:=v3 (q.take i) []
 simp only[bQ,gI] at hvl
 have htk:x.vars (bO (q.take i) [])=bO (q.take (i+1)) []:=by
  rw[fP,hx,OV]
  try rfl
 simp -implicitDefEqProofs only[bD,aE,hat,aB,seval,N4]
 refine(CC x (bO (q.take i) []) b st (hwf x (cI hx)) hb (by omega)).mono ?_
 rintro _ _ ⟨b',rfl,rfl,hb'⟩
 rw[htk] at hb' ⊢
 simp -implicitDefEqProofs only[aB,seval]
 exact⟨(),b',hb',aR.mk (by simp -implicitDefEqProofs only[hw,aB,seval])⟩
end Go.AW
namespace Go.AW
theorem bZ.of{h:a9}{st st':aA}(hk:∀x,st x=none→st' x=none):bZ h st h st':=⟨cT _,fun x _ e=>⟨rfl,hk x e⟩,fun _ c _ _ e=>⟨c,e,rfl⟩⟩
theorem fD.aPI{φ:AF}{st:aA}{b c:Nat}{es cs:List AV}(hbc:b≠c)(h1:st b=some (.cells (es.flatMap AV.cells)))(h2:∀e∈es,e.cA=false)(h3:iV es)(hc:st c=some (.cells cs)) :
 fD φ st φ ((st.erase b).aC c (.cells (iZ b es cs))):=fun h tmps S F=>by
 have T2:bZ h (st.erase b) h ((st.erase b).aC c (.cells (iZ b es cs))):=bZ.of fun x hx=>by
  have:x≠c:=by rintro rfl;simp [aA.erase,c9 hbc,hc] at hx
  rw[aA.aF _ _ this];exact hx
 have T:bZ h st h ((st.erase b).aC c (.cells (iZ b es cs))):=((iQ st b).step h).trans T2
 refine⟨fun x o hx=>?_,T,fun d=>(F d).mono T⟩
 by_cases e:x=c
 · subst e
   rw[aA.aL] at hx
   cases hx
   obtain⟨hl,c0,t,e1,e2,vs,e3,e4⟩:=S x _ hc
   refine⟨hl,c0,t,e1,?_,vs,e3,aV.mono T2 _ _ (aV.fz S h1 h2 h3 cs vs e4)⟩
   rw[wZ,aE];exact e2
 · rw[aA.aF _ _ e] at hx
   have hx':st x=some o:=by
    simp only[aA.erase] at hx
    split at hx
    · cases hx
    · exact hx
   obtain⟨hl,y⟩:=S x o hx'
   exact⟨hl,kH.mono T rfl y⟩
theorem aN6{s0 st:aA}{b:Nat}{l:List AV}(D:aM s0 st):aM (bS s0 b l) (bS st b l):=by
 cases l with
 | nil=>exact D
 | cons y l=>
  intro x
  simp only[bS]
  by_cases e:x=b
  · subst e;simp [aA.aL]
  · rw[aA.aF _ _ e,aA.aF _ _ e];exact D x
end Go.AW
namespace Go.AW
open Go.Proofs.Tryz
abbrev aYR:=zi tI_3 (zi zI_3 (zi aY (zi tI_40 (zi zI_40 (zi dS (zi fV (zi fW (zi f9 (zi tI_52 (zi zI_52 (zi bU (zi bV (zi bX (zi bY (zi bT (zi tI_91 zI_91))))))))))))))))
mutual
def Tm.sh(m:Int):Tm→Tm
 | .mk k n s ts=>.mk k (if k=1 then IntKind.i64.wrap (n+m) else n) s (I8 m ts)
def I8(m:Int):List Tm→List Tm
 | []=>[]
 | t::ts=>t.sh m::I8 m ts
end
theorem aII(m:Int):∀ts:List Tm,I8 m ts=ts.map (Tm.sh m)
 | []=>rfl
 | t::ts=>by simp only[I8,bK,aII m ts]
theorem Tm.NT(m k n:Int)(s:ByteArray)(ts:List Tm):(Tm.mk k n s ts).sh m=.mk k (if k=1 then IntKind.i64.wrap (n+m) else n) s (ts.map (Tm.sh m)):=by simp only[Tm.sh,aII]
abbrev nN:=zi tI_3 (zi zI_3 (zi aY (zi tI_9 (zi zI_9 (zi d4 (zi tI_28 (zi zI_28 (zi aP (zi bE (zi bF (zi b9 (zi tI_52 (zi zI_52 (zi bU (zi bV (zi bX (zi bY bT)))))))))))))))))
theorem KU(m:Int):∀(t:Tm) (st:aA),t.small=true→aD prog 199 [t.av,.int .i64 m] st (fun r st'=>r=(t.sh m).av∧st'=st)
 | .mk k n s ts,st,hsm=>by
  obtain⟨hlen,pG⟩:=Tm.oO hsm
  have IH:=fun(x:Tm) (hx:x∈ts) st=>KU m x st (pG x hx)
  refine aD.rQ (aD.fin ?_)
  simp only[aX]
  refine wF [1000000,5] 2 func199 ntmps199 rfl rfl ?_
  simp only[dK,AV.fits,dO,aE]
  intro ⟨_,_,_,hl,_⟩
  simp -implicitDefEqProofs only[aS,aB,↓aW,seval,nN]
  intro b2 hb2 c hc
  have hne:c≠b2:=by rintro rfl;rw[aA.aL] at hc;cases hc
  have hn2:st c=none:=by rw[aA.aF st _ hne] at hc;exact hc
  have oF:b2≠c:=c9 hne
  have hS:(st.aC b2 (.cells [AV.int .i64 0,AV.int .i64 0,AV.str ⟨#[]⟩,AV.fslice []])) b2≠none:=by rw[aA.aL];simp
  refine aT (fun h=>?_) (fun h=>?_)
  · simp only[bM] at h
    simp -implicitDefEqProofs only[aS,eH,aB,seval,nN]
    refine dQ (σ:=Nat) [1000000] [1,2,4,5] ts (fun i b=>(((ts.take i).map (Tm.sh m)).map Tm.av≠[]→(aA.aC (st.aC b2 (.cells [AV.int .i64 0,AV.int .i64 0,AV.str ⟨#[]⟩,AV.fslice []])) c (.cells ([AV.int .i64 k,AV.int .i64 (IntKind.i64.wrap (n+m)),AV.str s]++ [bR 4 b (((ts.take i).map (Tm.sh m)).map Tm.av)]))) b=none)) (fun i b=>[(6,.int .i64 i)]) (fun i b=>jK (st.aC b2 (.cells [AV.int .i64 0,AV.int .i64 0,AV.str ⟨#[]⟩,AV.fslice []])) c b [AV.int .i64 k,AV.int .i64 (IntKind.i64.wrap (n+m)),AV.str s] (((ts.take i).map (Tm.sh m)).map Tm.av)) (by decide +kernel)
     ⟨0,fun h=>absurd rfl h,aR.mk (by simp -implicitDefEqProofs only[aB,↓aW,seval])⟩ (fun i x b hx hlt bD hdr hinv=>?_) (fun b hge hinv=>?_)
    case refine_1=>
     have hw:=bJ (n:=(i:Int)+1)
     have dC:(((ts.take i).map (Tm.sh m)).map Tm.av).length=i:=by simp only[aE,dX];omega
     have htk:(ts.take (i+1)).map (Tm.sh m)=(ts.take i).map (Tm.sh m)++ [(Tm.sh m) x]:=by rw[fP,hx];simp
     have hbo:=kA hinv
     simp -implicitDefEqProofs only[aE,bD,aB,seval,nN]
     refine wP [(0,1),(2,1),(4,1),(7,1),(1,2),(3,2),(5,1),(6,2),(8,2),(9,1),(10,0),(11,1),(12,0)] [0,2,4,7,1,3,5,6,8,9,11] mixed ?_
     simp -implicitDefEqProofs only[bG (av:=Tm.av) aP hx (aO x),b7,aO,hbo,qD,gI,aB,seval,nN]
     refine jB (IH x (cI hx) _) ?_
     simp -implicitDefEqProofs only[b7,aO,Tm.eG,gI,aB,seval,nN]
     refine gJ aP bE bF rfl rfl (gS (aO _) (Tm.dY _)) (gV _) hinv (by simp only[dC,bA,bQ];omega) (by simp only[dC,bA,bQ];omega) (fun b' hb'=>?_)
     rw[show(((ts.take i).map (Tm.sh m)).map Tm.av)++ [((Tm.sh m) x).av]=((ts.take (i+1)).map (Tm.sh m)).map Tm.av by rw[htk];simp] at hb' ⊢
     obtain⟨g1,g2,g3⟩:=tS hb'
     simp only[gB,eR] at g1 g3
     simp -implicitDefEqProofs only[g3,oZ,iX,aS,g1,hw,aS,aB,seval,nN]
     exact⟨b',g2,aR.mk (by simp -implicitDefEqProofs only[aB,seval])⟩
    have hbo:=kA hinv
    rw[eD] at hinv hbo ⊢
    simp -implicitDefEqProofs only[aE,hge,aB,seval,nN]
    simp -implicitDefEqProofs only[hbo,aS,aB,seval,nN]
    have h1:=l7 hinv hS oF
    rw[aA.aL] at h1
    simp -implicitDefEqProofs only[h1,iX,aB,seval]
    obtain⟨h2,h3⟩:=r9 (o:=.cells [AV.int .i64 k,AV.int .i64 (IntKind.i64.wrap (n+m)),AV.str s,bR 4 b ((ts.map (Tm.sh m)).map Tm.av)]) hinv hS oF
    refine⟨b,_,_,h2,h3,pT _,⟨4,gV _⟩,?_,(((aM.refl _).aC hb2).aC hn2).aC hb2⟩
    simp only[gR,bK,bL,fR,m8,mH,←aX]
    rw[Tm.NT,aK h]
  · simp only[cM] at h
    simp -implicitDefEqProofs only[aB,seval]
    refine dQ (σ:=Nat) [1000000] [1,2,4,5] ts (fun i b=>(((ts.take i).map (Tm.sh m)).map Tm.av≠[]→(aA.aC (st.aC b2 (.cells [AV.int .i64 0,AV.int .i64 0,AV.str ⟨#[]⟩,AV.fslice []])) c (.cells ([AV.int .i64 k,AV.int .i64 (n),AV.str s]++ [bR 4 b (((ts.take i).map (Tm.sh m)).map Tm.av)]))) b=none)) (fun i b=>[(6,.int .i64 i)]) (fun i b=>jK (st.aC b2 (.cells [AV.int .i64 0,AV.int .i64 0,AV.str ⟨#[]⟩,AV.fslice []])) c b [AV.int .i64 k,AV.int .i64 (n),AV.str s] (((ts.take i).map (Tm.sh m)).map Tm.av)) (by decide +kernel)
     ⟨0,fun h=>absurd rfl h,aR.mk (by simp -implicitDefEqProofs only[aB,↓aW,seval])⟩ (fun i x b hx hlt bD hdr hinv=>?_) (fun b hge hinv=>?_)
    case refine_1=>
     have hw:=bJ (n:=(i:Int)+1)
     have dC:(((ts.take i).map (Tm.sh m)).map Tm.av).length=i:=by simp only[aE,dX];omega
     have htk:(ts.take (i+1)).map (Tm.sh m)=(ts.take i).map (Tm.sh m)++ [(Tm.sh m) x]:=by rw[fP,hx];simp
     have hbo:=kA hinv
     simp -implicitDefEqProofs only[aE,bD,aB,seval,nN]
     refine wP [(0,1),(2,1),(4,1),(7,1),(1,2),(3,2),(5,1),(6,2),(8,2),(9,1),(10,0),(11,1),(12,0)] [0,2,4,7,1,3,5,6,8,9,11] mixed ?_
     simp -implicitDefEqProofs only[bG (av:=Tm.av) aP hx (aO x),b7,aO,hbo,qD,gI,aB,seval,nN]
     refine jB (IH x (cI hx) _) ?_
     simp -implicitDefEqProofs only[b7,aO,Tm.eG,gI,aB,seval,nN]
     refine gJ aP bE bF rfl rfl (gS (aO _) (Tm.dY _)) (gV _) hinv (by simp only[dC,bA,bQ];omega) (by simp only[dC,bA,bQ];omega) (fun b' hb'=>?_)
     rw[show(((ts.take i).map (Tm.sh m)).map Tm.av)++ [((Tm.sh m) x).av]=((ts.take (i+1)).map (Tm.sh m)).map Tm.av by rw[htk];simp] at hb' ⊢
     obtain⟨g1,g2,g3⟩:=tS hb'
     simp only[gB,eR] at g1 g3
     simp -implicitDefEqProofs only[g3,oZ,iX,aS,g1,hw,aS,aB,seval,nN]
     exact⟨b',g2,aR.mk (by simp -implicitDefEqProofs only[aB,seval])⟩
    have hbo:=kA hinv
    rw[eD] at hinv hbo ⊢
    simp -implicitDefEqProofs only[aE,hge,aB,seval,nN]
    simp -implicitDefEqProofs only[hbo,aS,aB,seval,nN]
    have h1:=l7 hinv hS oF
    rw[aA.aL] at h1
    simp -implicitDefEqProofs only[h1,iX,aB,seval]
    obtain⟨h2,h3⟩:=r9 (o:=.cells [AV.int .i64 k,AV.int .i64 (n),AV.str s,bR 4 b ((ts.map (Tm.sh m)).map Tm.av)]) hinv hS oF
    refine⟨b,_,_,h2,h3,pT _,⟨4,gV _⟩,?_,(((aM.refl _).aC hb2).aC hn2).aC hb2⟩
    simp only[gR,bK,bL,fR,m8,mH,←aX]
    rw[Tm.NT,aG h]
termination_by t=>SizeOf.sizeOf t
decreasing_by have:=List.sizeOf_lt_of_mem hx;simp only[Tm.mk.sizeOf_spec];omega
abbrev aHD:=zi tI_3 (zi zI_3 (zi aY (zi tI_27 (zi zI_27 (zi d8 (zi f6 (zi f7 (zi gG (zi tI_111 (zi zI_111 (zi jT (zi jU jS))))))))))))
theorem aK6(l:List Cl)(g:FuncId)(dG:List AV)(p:Cl→Bool)(st:aA)(hc:∀x∈l,aD prog g ([bB x]++dG) st (fun r st'=>r=.bool (p x)∧st'=st)) :
 aD prog 169 [.slice (l.map bB),.func g dG] st (fun r st'=>∃j:Int,r=.int .i64 j∧decide (0≤j)=l.any p∧st'=st):=by
 refine wF [] 2 func169 ntmps169 rfl rfl ?_
 simp only[dK,AV.fits,dO,aE]
 intro ⟨hl,_⟩
 simp -implicitDefEqProofs only[aE,aB,seval,aHD]
 refine dQ (σ:=Unit) [] [0,1,7] l (fun i _=>(l.drop i).any p=l.any p) (fun i _=>[(8,.int .i64 i)]) (fun _ _=>st) (by decide +kernel) ⟨(),rfl,aR.mk (by simp -implicitDefEqProofs only[aB,↓aW,seval])⟩ (fun i x _ hx hlt bD hdr hinv=>?_) (fun _ hge hinv=>?_)
 case refine_2=>
  simp -implicitDefEqProofs only[hge,aB,seval]
  rw[iD] at hinv
  exact⟨-1,rfl,by rw[←hinv];try rfl⟩
 rw[hdr,yD] at hinv
 have hw:=bJ (n:=(i:Int)+1)
 simp -implicitDefEqProofs only[bD,bG (av:=bB) d8 hx (fQ x),pA,fQ,aB,seval,aHD]
 refine(hc x (cI hx)).to ?_
 simp -implicitDefEqProofs only[aB,seval]
 refine aT (fun h=>?_) (fun h=>?_)
 · simp -implicitDefEqProofs only[aB,seval]
   exact⟨i,rfl,by rw[←hinv,h];simp⟩
 · rw[h,rC] at hinv
   simp -implicitDefEqProofs only[aB,seval]
   exact⟨(),hinv,aR.mk (by simp -implicitDefEqProofs only[hw,aB,seval])⟩
theorem aKY(l:List Cl)(g:FuncId)(dG:List AV)(p:Cl→Bool)(st:aA)(hc:∀x∈l,aD prog g ([bB x]++dG) st (fun r st'=>r=.bool (p x)∧st'=st)) :
 aD prog 132 [.slice (l.map bB),.func g dG] st (fun r st'=>r=.bool (l.any p)∧st'=st):=by
 refine wF [] 2 func132 ntmps132 rfl rfl ?_
 intro _
 simp -implicitDefEqProofs only[aB,seval]
 refine(aK6 l g dG p st hc).mono ?_
 rintro _ _ ⟨j,rfl,hj,rfl⟩
 simp -implicitDefEqProofs only[hj,aB,seval]
abbrev OC:=zi tI_4 (zi zI_4 (zi cG (zi tI_28 (zi zI_28 (zi aP (zi bE (zi bF (zi b9 (zi tI_52 (zi zI_52 (zi bU (zi bV (zi bX (zi bY (zi bT (zi tI_111 (zi zI_111 (zi jT (zi jU jS)))))))))))))))))))
theorem aLX(c:Cl)(st:aA):aD prog 134 [bB c] st (fun r st'=>r=.bool (n7 c)∧st'=st):=by
 obtain⟨⟨k,n,s,ts⟩,b⟩:=c
 have hv:=fun st=>Q9 (.mk k n s ts) st
 have hp:=fun st=>RD k n s ts st
 simp only[aX] at hv hp
 have hg:=fun st=>Q3 b st
 simp only[k9,n7,NB]
 simp only[lI] at hg
 generalize (Tm.mk k n s ts).valid=v at *
 refine wF [1000000] 1 func134 ntmps134 rfl rfl ?_
 intro _
 simp -implicitDefEqProofs only[aB,seval,OC]
 refine(hv _).to ?_
 cases v with
 | false=>simp -implicitDefEqProofs only[kT,aB,seval]
 | true=>
  simp -implicitDefEqProofs only[gC,iC,aB,seval,OC]
  refine(hp _).to ?_
  cases hpl:oN k s (ts.length:Int) with
  | false=>simp -implicitDefEqProofs only[kT,aB,seval]
  | true=>
   simp -implicitDefEqProofs only[gC,iC,aB,seval,OC]
   refine(hg _).to ?_
   simp -implicitDefEqProofs only[aB,seval]
abbrev aU8:=zi tI_4 (zi zI_4 (zi cG (zi tI_111 (zi zI_111 (zi jT (zi jU jS))))))
theorem aLC(c:Cl)(st:aA):aD prog 133 [bB c] st (fun r st'=>r=.bool (!n7 c)∧st'=st):=by
 refine wF [1000000] 1 func133 ntmps133 rfl rfl ?_
 intro _
 simp -implicitDefEqProofs only[LA,pA,fQ,aB,seval,aU8]
 refine(aLX c st).to ?_
 simp -implicitDefEqProofs only[aB,seval]
abbrev aU9:=zi tI_3 (zi zI_3 (zi aY (zi tI_4 (zi zI_4 (zi cG (zi tI_27 (zi zI_27 (zi d8 (zi f6 (zi f7 gG))))))))))
theorem Q6(p:List Cl)(st:aA):aD prog 85 [.slice (p.map bB)] st (fun r st'=>r=.bool (mN p)∧st'=st):=by
 refine wF [1000000] 1 func85 ntmps85 rfl rfl ?_
 simp only[dK,AV.fits,dO,aE]
 intro _
 unfold mN
 simp -implicitDefEqProofs only[aE,aB,seval,aU9]
 refine cS (fun h=>?_) (fun h=>?_)
 · simp only[bM] at h
   rw[show decide (p.length≤20)=true by simp;omega]
   simp -implicitDefEqProofs only[h,aB,seval]
   refine(aKY p _ [] (fun t=> !n7 t) st fun x _=>aLC x st).to ?_
   simp -implicitDefEqProofs only[KK,aB,seval]
 · simp only[kU,cM] at h
   rw[show decide (p.length≤20)=false by simp;omega]
   simp -implicitDefEqProofs only[h,aB,seval]
   rfl
abbrev A6:=zi tI_3 (zi zI_3 (zi aY (zi tI_4 (zi zI_4 (zi cG (zi tI_28 (zi zI_28 (zi aP (zi bE (zi bF (zi b9 (zi tI_52 (zi zI_52 (zi bU (zi bV (zi bX (zi bY (zi bT (zi tI_111 (zi zI_111 (zi jT (zi jU jS))))))))))))))))))))))
theorem aM8(c:Cl)(st:aA):aD prog 125 [bB c] st (fun r st'=>r=.bool (n7 c)∧st'=st):=by
 obtain⟨⟨k,n,s,ts⟩,l⟩:=c
 have hv:=fun st=>K1 (.mk k n s ts) st
 have hp:=fun st=>RP k n s ts st
 simp only[aX] at hv hp
 simp only[k9,n7,NB]
 generalize (Tm.mk k n s ts).valid=v at *
 refine wF [1000000] 1 func125 ntmps125 rfl rfl ?_
 simp only[dK,AV.fits,dO,aE]
 intro ⟨_,_,_,_,hl,_⟩
 have rY:l.all Tm.goal=true∨l.length>6→(decide ((l.length:Int)≤6)&&v&&oN k s (ts.length:Int))=(v&&oN k s (ts.length:Int)&&(decide (l.length≤6)&&l.all Tm.goal)):=fun h=>by
  by_cases h6:l.length≤6
  · have hg:l.all Tm.goal=true:=h.resolve_right (by omega)
    rw[hg,show decide ((l.length:Int)≤6)=true from tB (by omega),show decide (l.length≤6)=true from tB h6]
    simp
  · rw[show decide ((l.length:Int)≤6)=false from vC (by omega),show decide (l.length≤6)=false from vC h6]
    simp
 simp -implicitDefEqProofs only[aB,seval,A6]
 refine dQ (σ:=Unit) [1000000] [1] l (fun i _=>i≤7∧(l.take i).all Tm.goal=true) (fun i _=>[(2,.bool false),(3,.int .i64 i)]) (fun _ _=>st) (by decide +kernel) ⟨(),⟨by omega,by simp⟩,aR.mk (by simp -implicitDefEqProofs only[aB,↓aW,seval])⟩ (fun i x _ hx hlt bD hdr hinv=>?_) (fun _ hge hinv=>?_)
 · obtain⟨i1,i2⟩:=hinv
   have hw:=bJ (n:=(i:Int)+1)
   by_cases h7:i≤6
   · have h7':decide ((i:Int)≤6)=true:=tB (by omega)
     have hat:=bG (av:=Tm.av) aP hx (aO x)
     simp -implicitDefEqProofs only[bD,eM,gC,aE,h7',hat,b7,aO,aB,seval,A6]
     refine(R9 x st).to ?_
     simp -implicitDefEqProofs only[aB,seval]
     refine aT (fun h2=>?_) (fun h2=>?_)
     · simp only[gN] at h2
       simp -implicitDefEqProofs only[aB,seval]
       have:l.all Tm.goal=false:=sZ hx h2
       rw[this];simp
     · simp only[j3] at h2
       simp -implicitDefEqProofs only[aB,seval]
       refine⟨(),⟨by omega,?_⟩,aR.mk (by simp -implicitDefEqProofs only[hw,aB,seval])⟩
       rw[fP,hx,yC,i2]
       simp [h2]
   · have h7':decide ((i:Int)≤6)=false:=vC (by omega)
     have h8:decide ((l.length:Int)≤6)=false:=vC (by omega)
     rw[←rY (.inr (by omega)),h8]
     simp -implicitDefEqProofs only[bD,eM,gC,h8,kT,aE,h7',aB,seval,A6]
 · obtain⟨i1,i2⟩:=hinv
   rw[eD] at i2
   rw[←rY (.inl i2)]
   cases h8:decide ((l.length:Int)≤6) with
   | false=>
    simp -implicitDefEqProofs only[hge,aE,h8,kT,aB,seval,A6]
   | true=>
    simp -implicitDefEqProofs only[hge,gC,aE,h8,iC,aB,seval,A6]
    refine(hv _).to ?_
    cases v with
    | false=>simp -implicitDefEqProofs only[kT,aB,seval]
    | true=>
     simp -implicitDefEqProofs only[gC,iC,aB,seval,A6]
     refine(hp _).to ?_
     simp -implicitDefEqProofs only[aB,seval]
abbrev OD:=zi tI_3 (zi zI_3 (zi aY (zi tI_4 (zi zI_4 (zi cG (zi tI_27 (zi zI_27 (zi d8 (zi f6 (zi f7 (zi gG (zi tI_111 (zi zI_111 (zi jT (zi jU jS)))))))))))))))
theorem aNA(l:List Cl)(st:aA):aD prog 78 [.slice (l.map bB)] st (fun r st'=>r=.bool (mN l)∧st'=st):=by
 refine wF [1000000] 1 func78 ntmps78 rfl rfl ?_
 simp only[dK,AV.fits,dO,aE]
 intro ⟨hl,_⟩
 simp -implicitDefEqProofs only[aB,seval]
 refine dQ (σ:=Unit) [1000000] [0] l (fun i _=>i≤21∧(l.take i).all n7=true) (fun i _=>[(2,.bool false),(3,.int .i64 i)]) (fun _ _=>st) (by decide +kernel) ⟨(),⟨by omega,by simp⟩,aR.mk (by simp -implicitDefEqProofs only[aB,↓aW,seval])⟩ (fun i x _ hx hlt bD hdr hinv=>?_) (fun _ hge hinv=>?_)
 · obtain⟨i1,i2⟩:=hinv
   have hw:=bJ (n:=(i:Int)+1)
   by_cases h7:i≤20
   · have h7':decide ((i:Int)≤20)=true:=tB (by omega)
     have hat:=bG (av:=bB) d8 hx (fQ x)
     simp -implicitDefEqProofs only[bD,eM,gC,aE,h7',hat,pA,fQ,aB,seval,OD]
     refine(aM8 x st).to ?_
     simp -implicitDefEqProofs only[aB,seval]
     refine aT (fun h2=>?_) (fun h2=>?_)
     · simp only[gN] at h2
       simp -implicitDefEqProofs only[aB,seval]
       have:l.all n7=false:=sZ hx h2
       simp only[mN,this,wA]
     · simp only[j3] at h2
       simp -implicitDefEqProofs only[aB,seval]
       refine⟨(),⟨by omega,?_⟩,aR.mk (by simp -implicitDefEqProofs only[hw,aB,seval])⟩
       rw[fP,hx,yC,i2]
       simp [h2]
   · have h7':decide ((i:Int)≤20)=false:=vC (by omega)
     have h8:decide ((l.length:Int)≤20)=false:=vC (by omega)
     have h9:decide (l.length≤20)=false:=vC (by omega)
     simp -implicitDefEqProofs only[bD,eM,gC,aE,h7',h8,mN,h9,kT,aB,seval,OD]
 · obtain⟨i1,i2⟩:=hinv
   rw[eD] at i2
   simp -implicitDefEqProofs only[hge,aE,aB,seval,OD]
   simp only[mN,i2,wB,AV.bool.injEq,decide_eq_decide]
   omega
end Go.AW
namespace Go.AW

def dA:AV→List Nat
 | .mslice b _ _ _=>[b]
 | _=>[]
def gX(st:aA)(w:Nat)(q:AV)(l:List AV):Prop:=
 (q=.fslice []∧l= [])∨∃b cs,q=.mslice b 0 l.length w∧st b=Option.some (.cells cs)∧cs.take (l.length*w)=l.flatMap AV.cells∧l.length*w≤cs.length
theorem gX.shape{st:aA}{w:Nat}{q:AV}{l:List AV}(h:gX st w q l):q.isAgg=false∧q.width=1∧q.cA=false∧q.cells= [q]∧q.storable=true:=by
 rcases h with ⟨rfl,_⟩ | ⟨b',cs,rfl,_⟩<;>exact⟨rfl,rfl,rfl,rfl,rfl⟩
theorem gX.aU{st st':aA}{w:Nat}{q:AV}{l:List AV}(h:gX st w q l)(hk:∀b∈dA q,st' b=st b):gX st' w q l:=by
 rcases h with h | ⟨b,cs,rfl,hb,h2⟩
 · exact .inl h
 · exact .inr ⟨b,cs,rfl,by rw[hk b (by simp [dA])];exact hb,h2⟩
theorem gX.some{st:aA}{w:Nat}{q:AV}{l:List AV}(h:gX st w q l):∀b∈dA q,∃cs,st b=Option.some (.cells cs):=by
 intro b hb
 rcases h with ⟨rfl,_⟩ | ⟨b',cs,rfl,hb',_⟩
 · simp [dA] at hb
 · simp only[dA,cO,dD,dI] at hb;subst hb;exact⟨cs,hb'⟩
theorem gX.len{P:Program}{t e:TypeId}{st:aA}{w:Nat}{q:AV}{l:List AV}(h:gX st w q l)(hu:P.underlying t=Option.some (.slice e)):iL P t q=Option.some (.int .i64 (l.length:Int)):=by
 rcases h with ⟨rfl,rfl⟩ | ⟨b,cs,rfl,_⟩<;>simp only[iL,hu,bQ]
theorem gX.append{P:Program}{t:TypeId}{ag:Bool}{bytes w:Nat}{zs:List AV}{st:aA}{q:AV}{l:List AV}{x:AV}{K:AV→aA→Prop}(hI:eI P t=Option.some (ag,w))(hB:eB P t=Option.some bytes)(hZ:eZ P t=Option.some zs)(hz:zs.length=w)(hb8:bytes≤4096)
 (h:gX st w q l) (hx:x.width=w) (hxs:x.cells.all AV.storable=true) (hl:l.length≤1073741824)
 (hK:∀q' st',gX st' w q' (l++ [x])→(∀y,y∉dA q→y∉dA q'→st' y=st y)→(∀y∈dA q',y∈dA q∨st y=none)→K q' st'):jP P t st q (.fslice [x]) K:=by
 have fK:uW w [x]:=by intro e he;simp only[cO,dD,dI] at he;subst he;exact⟨hx,hxs⟩
 have DC:(l.length+1)*bytes≤140737488355328:=by
  have:=Nat.mul_le_mul (show l.length+1≤1073741825 by omega) hb8
  omega
 have hxc:x.cells.length=w:=by rw[rM,hx]
 unfold jP
 simp only[hI,hB,hZ,wN]
 refine⟨hz,fK,?_⟩
 rcases h with ⟨rfl,rfl⟩ | ⟨b,cs,rfl,hb,hcs,hcl⟩
 · simp only[bQ,bA,gI] at DC ⊢
   refine⟨by omega,by omega,by simp,fun h=>by simp at h,fun _ b hb=>?_⟩
   refine hK _ _ (.inr ⟨b,x.cells,rfl,by rw[aA.aL];simp,?_,?_⟩) (fun y _ hy=>?_) (fun y hy=>?_)
   · simp only[eR,bA,bQ,gI,Nat.one_mul,rF,List.flatMap_nil,fN]
     rw[←hxc,eD]
   · simp only[eR,bA,bQ,gI,Nat.one_mul]
     omega
   · simp only[dA,cO,dD,dI] at hy
     rw[aA.aF _ _ hy]
   · simp only[dA,cO,dD,dI] at hy
     subst hy;exact .inr hb
 · simp only[bA,bQ,gI,hb]
   have iF:cs.take (l.length*w)++ [x].flatMap AV.cells=(l++ [x]).flatMap AV.cells:=by rw[hcs];simp
   have hlen:((l++ [x]).flatMap AV.cells).length=(l++ [x]).length*w:=by
    rw[←iF,eC,dX,jJ hcl]
    simp only[rF,List.flatMap_nil,fN,hxc,eC,bA,bQ]
    rw[uO];omega
   refine⟨trivial,DC,by omega,hcl,?_,fun b' hb'=>?_⟩
   · rw[iF]
     refine hK _ _ (.inr ⟨b,_,by simp,aA.aL _ _ _,by rw[mU (by rw[hlen];exact cT _)],by rw[hlen];exact cT _⟩) (fun y hy _=>?_) (fun y hy=>.inl hy)
     simp only[dA,cO,dD,dI] at hy
     rw[aA.aF _ _ hy]
   · rw[iF]
     refine hK _ _ (.inr ⟨b',_,by simp,aA.aL _ _ _,by rw[mU (by rw[hlen];exact cT _)],by rw[hlen];exact cT _⟩) (fun y hy hy'=>?_) (fun y hy=>?_)
     · simp only[dA,cO,dD,dI] at hy hy'
       rw[aA.aF _ _ hy']
       simp [aA.erase,hy]
     · simp only[dA,cO,dD,dI] at hy
       subst hy;exact .inr hb'
def vB(k:Nat):AV→AV
 | .mslice b o _ w=>.mslice b o k w
 | a=>a
theorem gX.take{st:aA}{w:Nat}{q:AV}{l:List AV}(h:gX st w q l){k:Nat}(hk:k≤l.length)(hw:∀e∈l,e.width=w):gX st w (vB k q) (l.take k):=by
 rcases h with ⟨rfl,rfl⟩ | ⟨b,cs,rfl,hb,hcs,hcl⟩
 · exact .inl ⟨rfl,by simp⟩
 · have hlk:(l.take k).length=k:=by rw[dX];omega
   have h1:k*w≤l.length*w:=yJ w hk
   refine .inr ⟨b,cs,by rw[hlk];try rfl,hb,?_,by rw[hlk];omega⟩
   rw[hlk]
   have h2:cs.take (k*w)=(cs.take (l.length*w)).take (k*w):=by rw[wG,jJ h1]
   rw[h2,hcs]
   have h3:l.flatMap AV.cells=(l.take k).flatMap AV.cells++(l.drop k).flatMap AV.cells:=by rw[←wD,mT]
   have h4:((l.take k).flatMap AV.cells).length=k*w:=by rw[m9 (n:=w) (es:=l.take k) (fun e he=>hw e (mS he)),hlk]
   rw[h3,List.take_left' h4]
theorem AX(k:Nat)(q:AV):dA (vB k q)=dA q:=by cases q<;>rfl
theorem gX.at{st:aA}{w:Nat}{q:AV}{l:List AV}(h:gX st w q l)(hw:∀e∈l,e.width=w){i:Nat}{e:AV}(he:l[i]?=.some e) :
 ∃b cs,q=.mslice b 0 l.length w∧st b=.some (.cells cs)∧i*w+w≤cs.length∧(cs.drop (i*w)).take w=e.cells:=by
 obtain⟨hi,hei⟩:=eS.1 he
 rcases h with ⟨rfl,rfl⟩ | ⟨b,cs,rfl,hb,hcs,hcl⟩
 · simp at he
 · have h1:(i+1)*w≤l.length*w:=yJ w hi
   rw[uO,Nat.one_mul] at h1
   refine⟨b,cs,rfl,hb,by omega,?_⟩
   have h2:l=l.take i++e::l.drop (i+1):=by rw[←hei,←oV hi,mT]
   have hA:((l.take i).flatMap AV.cells).length=i*w:=by
    rw[m9 (n:=w) (es:=l.take i) (fun e he=>hw e (mS he)),dX,jJ (by omega)]
   have hE:e.cells.length=w:=by rw[rM];exact hw e (cI he)
   have h3:(cs.drop (i*w)).take w=((cs.take (l.length*w)).drop (i*w)).take w:=by
    rw[List.drop_take,wG,jJ (by omega)]
   rw[h3,hcs,h2]
   simp only[wD,rF]
   rw[List.drop_left' hA,List.take_left' hE]
theorem cK.fz{h:a9}{st:aA}{b:Nat}{es:List AV}(S:cH h st)(hb:st b=some (.cells (es.flatMap AV.cells)))(hj:∀e∈es,e.cA=false)(hE:iV es):∀ {us:List AV} {vs:List Value},cK h st us vs→cK h (st.erase b) (iZ b es us) vs
 | [],vs,x=>by simp only[cK] at x;simp [iZ,cK,x]
 | a::us,vs,x=>by
  simp only[cK] at x
  obtain⟨v,r,rfl,x1,x2⟩:=x
  simp only[iZ,cK]
  exact⟨v,r,rfl,x1.fz S hb hj hE,cK.fz S hb hj hE x2⟩
theorem bZ.unerase{h h':a9}{st st':aA}{b:Nat}(x:bZ h (st.erase b) h' st'):bZ h st h' st':=
 ⟨x.size,fun c hc e=>x.aU c hc (aA.aOD st e),x.shape⟩
theorem aD.aPJ{P:Program}{g:FuncId}{args:List AV}{st:aA}{Q:AV→aA→Prop}(b:Nat)(es:List AV)(hb:st b=some (.cells (es.flatMap AV.cells)))(hj:∀e∈es,e.cA=false)(hE:iV es)(x:aD P g (iZ b es args) (st.erase b) Q):aD P g args st Q:=
 ⟨x.1,fun w vs S V=>(x.2 w vs ((iQ st b).ED S) (V.fz S hb hj hE)).mono fun _ _ ⟨v,r,st',e,a,b',c,d,q⟩=>⟨v,r,st',e,a,b',c.unerase,d,q⟩⟩
def Lit(st:aA)(w:Nat)(l:List AV)(q:AV)(s:aA):Prop:=(q=.fslice l∧s=st)∨∃b,st b=none∧q=.mslice b 0 l.length w∧s=st.aC b (.cells (l.flatMap AV.cells))
theorem aKA{P:Program}{t:TypeId}{ag:Bool}{w bytes:Nat}{zs:List AV}{st:aA}{es xs:List AV}{x:AV}{K:AV→aA→Prop}(hI:eI P t=some (ag,w))(hB:eB P t=some bytes)(hZ:eZ P t=some zs)(hz:zs.length=w)(hx:x=.slice xs∨x=.fslice xs)(hes:∀e∈es,e.width=w)(fK:uW w xs)(hl:(es.length+xs.length)*bytes≤140737488355328)(hl2:es.length+xs.length≤9223372036854775807)
 (hK:∀q s,Lit st w (es++xs) q s→K q s):jP P t st (.fslice es) x K:=by
 unfold jP
 have he:wN x=some xs:=by rcases hx with rfl | rfl<;>rfl
 simp only[hI,hB,hZ,he]
 refine⟨hz,fK,hl,hl2,hes,fun h=>?_,fun _ b hb=>?_⟩
 · subst h
   exact hK _ _ (.inl ⟨by rw[fN],rfl⟩)
 · exact hK _ _ (.inr ⟨b,hb,by rw[eC],rfl⟩)
theorem Lit.call{P:Program}{g:FuncId}{st s:aA}{w:Nat}{l:List AV}{q:AV}{post:List AV}{Q:AV→aA→Prop}(h:Lit st w l q s)(hj:∀e∈l,e.cA=false)(hw:∀e∈l,e.width=w)(hp:∀b,iZ b l post=post)(x:aD P g (.slice l::post) st Q):aD P g (q::post) s Q:=by
 rcases h with ⟨rfl,rfl⟩ | ⟨b,hb,rfl,rfl⟩
 · refine aD.args x fun hp vs S V=>?_
   simp only[cK] at V ⊢
   obtain⟨v,r,rfl,V1,V2⟩:=V
   exact⟨v,r,rfl,V1.C9,V2⟩
 · refine aD.aPJ b l (aA.aL _ _ _) hj ⟨w,hw⟩ ?_
   rw[aA.zR st b _ hb]
   have:iZ b l (.mslice b 0 l.length w::post)=.slice l::post:=by
    show(AV.mslice b 0 l.length w).fz b l::iZ b l post=_
    rw[hp]
    simp [AV.fz]
   rw[this]
   exact x
end Go.AW
