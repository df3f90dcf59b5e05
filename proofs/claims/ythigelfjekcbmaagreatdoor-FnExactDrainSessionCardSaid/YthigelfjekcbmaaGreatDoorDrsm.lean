import Derived.Test.YthigelfjekcbmaaGreatDoorDrsk
import Derived.Test.YthigelfjekcbmaaGreatDoorDrsl
import Derived.Test.YthigelfjekcbmaaGreatDoorDrsf
import Derived.Test.YthigelfjekcbmaaGreatDoorDrsj
import Derived.Lib.SliceRun
set_option linter.unusedSimpArgs false
set_option linter.unusedVariables false
set_option maxRecDepth 100000
namespace Go.AW
open Go.Proofs.Tryz
abbrev aZ9:=zi tI_3 (zi zI_3 (zi aZ (zi tI_4 (zi zI_4 cG))))
theorem nU(b:Bool)(st:aA):aD prog 227 [.bool b] st (fun r st'=>r=.int .i64 (gJ b)∧st'=st):=by
 refine wF [1000000] 1 func227 ntmps227 rfl rfl ?_
 intro _
 simp -implicitDefEqProofs only[aB,seval]
 cases b
 · simp -implicitDefEqProofs only[gJ,aB,seval]
 · simp -implicitDefEqProofs only[gJ,aB,seval]
abbrev aWM:=zi tI_2 (zi zI_2 (zi KI (zi tI_3 (zi zI_3 (zi aZ (zi tI_52 (zi zI_52 (zi bX (zi bY (zi bZ (zi b7 bV)))))))))))
theorem aOL(n:Int)(st:aA):aD prog 230 [.int .i64 n] st (fun r st'=>r=(mQ n).av∧st'=st):=by
 refine aD.done ?_
 refine wF [1000000] 1 func230 ntmps230 rfl rfl ?_
 intro _
 simp -implicitDefEqProofs only[aS,aB,seval,aWM]
 intro b hb
 unfold mQ
 exact⟨by simp only[a7,mU,oF,yL,wJ,bH,bG,bG],(aL.refl _).aC hb⟩
abbrev PD:=zi tI_3 (zi zI_3 (zi aZ (zi tI_4 (zi zI_4 (zi cG (zi tI_9 (zi zI_9 (zi eF (zi tI_28 (zi zI_28 (zi aQ (zi bM (zi bO (zi cA (zi tI_52 (zi zI_52 (zi bX (zi bY (zi bZ (zi b7 (zi bV (zi tI_138 (zi zI_138 (zi vX (zi AJ (zi AM CB))))))))))))))))))))))))))
theorem aM4(k n:Int)(s:ByteArray)(ts:List Tm)(st:aA):aD prog 225 [(Tm.mk k n s ts).av] st (fun r st'=>r=.bool (decide (k=3)&&decide ((ts.length:Int)=2)&&fK pX s)∧st'=st):=by
 simp only[a7]
 refine wF [1000000] 1 func225 ntmps225 rfl rfl ?_
 intro _
 simp -implicitDefEqProofs only[aB,seval,PD]
 refine cT (fun h=>?_) (fun h=>?_)
 · simp -implicitDefEqProofs only[h,aE,aB,seval,PD]
   refine cT (fun h2=>?_) (fun h2=>?_)
   · simp -implicitDefEqProofs only[h2,aB,seval,PD]
     refine(LW pX s _).to ?_
     simp -implicitDefEqProofs only[aB,seval]
     simp [fK]
   · simp -implicitDefEqProofs only[h2,aB,seval]
     simp []
 · simp -implicitDefEqProofs only[h,aB,seval]
   simp []
abbrev PE:=zi tI_3 (zi zI_3 (zi aZ (zi tI_4 (zi zI_4 (zi cG (zi tI_9 (zi zI_9 (zi eF (zi tI_28 (zi zI_28 (zi aQ (zi bM (zi bO (zi cA (zi tI_52 (zi zI_52 (zi bX (zi bY (zi bZ (zi b7 bV))))))))))))))))))))
theorem aM3(n:Int)(s:ByteArray)(x y:Tm)(hs:fK pX s=true){N:Int}(hx:cB N x)(hy:cB N y)(st:aA):aD prog 226 [(Tm.mk 3 n s [x,y]).av] st (fun r st'=>r=.int .i64 (vU s x y)∧st'=st):=by
 have dS:dG prog 28 (.slice [x.av,y.av]) (.int .i64 0)=some (.pptr x.av):=bJ (av:=Tm.av) (l:=[x,y]) (i:=0) aQ rfl (aN x)
 have fU:dG prog 28 (.slice [x.av,y.av]) (.int .i64 1)=some (.pptr y.av):=bJ (av:=Tm.av) (l:=[x,y]) (i:=1) aQ rfl (aN y)
 have hax:=fun st=>GX x st hx
 have hay:=fun st=>GX y st hy
 unfold vU both
 simp only[a7,bH,bG]
 refine wF [1000000] 1 func226 ntmps226 rfl rfl ?_
 intro _
 simp -implicitDefEqProofs only[dS,bU,aN,aB,seval,PE]
 refine(hax _).to ?_
 generalize x.ev.1=a at *
 generalize x.ev.2=ca at *
 generalize y.ev.1=b at *
 generalize y.ev.2=cb at *
 simp -implicitDefEqProofs only[aB,seval]
 refine aT (fun h4=>?_) (fun h4=>?_)
 · simp -implicitDefEqProofs only[aB,seval]
   have h4':ca≠0:=by simpa using h4
   rw[aK h4']
 have h4':ca=0:=by simpa using h4
 subst h4'
 rw[aG (by simp)]
 simp -implicitDefEqProofs only[fU,bU,aN,aB,seval,PE]
 refine(hay _).to ?_
 simp -implicitDefEqProofs only[aB,seval]
 refine aT (fun h5=>?_) (fun h5=>?_)
 · simp -implicitDefEqProofs only[aB,seval]
   have h5':cb≠0:=by simpa using h5
   rw[aK h5']
 have h5':cb=0:=by simpa using h5
 subst h5'
 rw[aG (by simp)]
 unfold G6
 simp -implicitDefEqProofs only[aB,seval,PE]
 refine aT (fun h6=>?_) (fun h6=>?_)
 · simp -implicitDefEqProofs only[aB,seval]
   rw[aK (by simpa using h6)]
   refine(nU _ _).to ?_
   simp -implicitDefEqProofs only[aB,seval]
 rw[aG (by simpa using h6)]
 simp -implicitDefEqProofs only[aB,seval]
 refine aT (fun h7=>?_) (fun h7=>?_)
 · simp -implicitDefEqProofs only[aB,seval]
   rw[aK (by simpa using h7)]
   refine(nU _ _).to ?_
   simp -implicitDefEqProofs only[aB,seval]
 rw[aG (by simpa using h7)]
 simp -implicitDefEqProofs only[aB,seval]
 refine aT (fun h8=>?_) (fun h8=>?_)
 · simp -implicitDefEqProofs only[aB,seval]
   rw[aK (by simpa using h8)]
   refine(nU _ _).to ?_
   simp -implicitDefEqProofs only[aB,seval]
 rw[aG (by simpa using h8)]
 simp -implicitDefEqProofs only[aB,seval]
 refine aT (fun h9=>?_) (fun h9=>?_)
 · simp -implicitDefEqProofs only[aB,seval]
   rw[aK (by simpa using h9)]
   refine(nU _ _).to ?_
   simp -implicitDefEqProofs only[aB,seval]
 rw[aG (by simpa using h9)]
 simp -implicitDefEqProofs only[aB,seval]
 refine(nU _ _).to ?_
 simp -implicitDefEqProofs only[aB,seval]
theorem IT{ts:List Tm}(h:ts.length=0):ts= []:=qQ h
theorem EP{ts:List Tm}(h:ts.length=1):∃x,ts= [x]:=by
 match ts,h with
 | [x],_=>exact⟨x,rfl⟩
theorem s8{ts:List Tm}(h:ts.length=2):∃x y,ts= [x,y]:=by
 match ts,h with
 | [x,y],_=>exact⟨x,y,rfl⟩
theorem aG2{ts:List Tm}(h:ts.length=3):∃x y z,ts= [x,y,z]:=by
 match ts,h with
 | [x,y,z],_=>exact⟨x,y,z,rfl⟩
theorem aKQ{σ:Sub}{f:Nat}{t u:Tm}(h:fF σ f t u):wk σ u=u:=(fF.stop h.end).wk
end Go.AW
namespace Go.AW

end Go.AW
namespace Go.AW
open Go.Proofs.Tryz
theorem aWF{α:Type}(f:α→Nat)(l:List α)(i:Nat):aM f (l.take i)≤aM f l:=by
 have:=B3 f (l.take i) (l.drop i)
 rw[qS] at this
 omega
def Full(v:Tm)(room:Nat)(st:aA)(r:AV)(st':aA):Prop:=
 st'=st∧∃(x:Tm) (left:Int),r=.tup [x.av,.int .i64 left]∧-1≤left∧if v.nodes≤room then x=v∧left=(room:Int) - v.nodes else left<0
abbrev Bt:=Fin 256
abbrev aWQ:=zi tI_3 (zi zI_3 (zi aZ (zi tI_52 (zi zI_52 (zi bX (zi bY (zi bZ (zi b7 bV))))))))
theorem aNY(n:Int)(st:aA):aD prog 160 [.int .i64 n] st (fun r st'=>r=(vr n).av∧st'=st):=by
 refine aD.done ?_
 refine wF [1000000] 1 func160 ntmps160 rfl rfl ?_
 intro _
 simp -implicitDefEqProofs only[aS,aB,seval,aWQ]
 intro b hb
 exact⟨by simp only[vr,a7,mU,oF,yL,wJ,bH,bG],(aL.refl _).aC hb⟩
abbrev aWP:=zi tI_2 (zi zI_2 (zi KI (zi tI_3 (zi zI_3 (zi aZ (zi tI_52 (zi zI_52 (zi bX (zi bY (zi bZ (zi b7 bV)))))))))))
theorem aNU(n:Int)(st:aA):aD prog 147 [.int .i64 n] st (fun r st'=>r=(Tm.mk 2 n ⟨#[]⟩ []).av∧st'=st):=by
 refine aD.done ?_
 refine wF [1000000] 1 func147 ntmps147 rfl rfl ?_
 intro _
 simp -implicitDefEqProofs only[aS,aB,seval,aWP]
 intro b hb
 exact⟨by simp only[a7,mU,oF,yL,wJ,bH,bG],(aL.refl _).aC hb⟩
abbrev a0A:=zi tI_3 (zi zI_3 (zi aZ (zi tI_4 (zi zI_4 cG))))
theorem rD(b:Bool)(st:aA):aD prog 203 [.bool b] st (fun r st'=>r=.int .i64 (gJ b)∧st'=st):=by
 refine wF [1000000] 1 func203 ntmps203 rfl rfl ?_
 intro _
 simp -implicitDefEqProofs only[aB,seval]
 cases b
 · simp -implicitDefEqProofs only[gJ,aB,seval]
 · simp -implicitDefEqProofs only[gJ,aB,seval]
abbrev a0B:=zi tI_4 (zi zI_4 (zi cG (zi tI_9 (zi zI_9 eF))))
theorem aN4(s:ByteArray)(st:aA):aD prog 207 [.str s] st (fun r st'=>r=.bool (fK pX s)∧st'=st):=by
 have hin:fK pX s=(decide (s=⟨#[60]⟩)||(decide (s=⟨#[62]⟩)||(decide (s=⟨#[61,60]⟩)||(decide (s=⟨#[62,61]⟩)||decide (s=⟨#[61,58,61]⟩))))):=by
  simp only[fK,pX,zC,List.any_nil,Bool.or_false]
 rw[hin]
 refine wF [1000000] 1 func207 ntmps207 rfl rfl ?_
 intro _
 simp -implicitDefEqProofs only[aB,seval]
 refine cT (fun h1=>?_) (fun h1=>?_)
 case refine_2=>
  simp -implicitDefEqProofs only[h1,aB,seval]
  simp at h1;simp [h1]
 simp -implicitDefEqProofs only[h1,aB,seval]
 refine cT (fun h2=>?_) (fun h2=>?_)
 case refine_2=>
  simp -implicitDefEqProofs only[h2,aB,seval]
  simp at h2;simp [h2]
 simp -implicitDefEqProofs only[h2,aB,seval]
 refine cT (fun h3=>?_) (fun h3=>?_)
 case refine_2=>
  simp -implicitDefEqProofs only[h3,aB,seval]
  simp at h3;simp [h3]
 simp -implicitDefEqProofs only[h3,aB,seval]
 refine cT (fun h4=>?_) (fun h4=>?_)
 case refine_2=>
  simp -implicitDefEqProofs only[h4,aB,seval]
  simp at h4;simp [h4]
 simp -implicitDefEqProofs only[h4,aB,seval]
theorem aN6(s:ByteArray)(a b:Int)(st:aA):aD prog 244 [.str s,.int .i64 a,.int .i64 b] st (fun r st'=>r=.bool (G6 s a b)∧st'=st):=by
 unfold G6
 refine wF [1000000] 3 func244 ntmps244 rfl rfl ?_
 intro _
 simp -implicitDefEqProofs only[aB,seval]
 refine aT (fun h6=>?_) (fun h6=>?_)
 · simp -implicitDefEqProofs only[aB,seval]
   rw[aK (by simpa using h6)]
 rw[aG (by simpa using h6)]
 simp -implicitDefEqProofs only[aB,seval]
 refine aT (fun h7=>?_) (fun h7=>?_)
 · simp -implicitDefEqProofs only[aB,seval]
   rw[aK (by simpa using h7)]
 rw[aG (by simpa using h7)]
 simp -implicitDefEqProofs only[aB,seval]
 refine aT (fun h8=>?_) (fun h8=>?_)
 · simp -implicitDefEqProofs only[aB,seval]
   rw[aK (by simpa using h8)]
 rw[aG (by simpa using h8)]
 simp -implicitDefEqProofs only[aB,seval]
 refine aT (fun h9=>?_) (fun h9=>?_)
 · simp -implicitDefEqProofs only[aB,seval]
   rw[aK (by simpa using h9)]
 rw[aG (by simpa using h9)]
 simp -implicitDefEqProofs only[aB,seval]
abbrev PF:=zi tI_3 (zi zI_3 (zi aZ (zi tI_4 (zi zI_4 (zi cG (zi tI_9 (zi zI_9 (zi eF (zi tI_28 (zi zI_28 (zi aQ (zi bM (zi bO (zi cA (zi tI_52 (zi zI_52 (zi bX (zi bY (zi bZ (zi b7 bV))))))))))))))))))))
theorem aN3(n:Int)(s:ByteArray)(x y:Tm){N:Int}(hx:cB N x)(hy:cB N y)(st:aA):aD prog 208 [(Tm.mk 3 n s [x,y]).av] st (fun r st'=>r=.int .i64 (vU s x y)∧st'=st):=by
 have dS:dG prog 28 (.slice [x.av,y.av]) (.int .i64 0)=some (.pptr x.av):=bJ (av:=Tm.av) (l:=[x,y]) (i:=0) aQ rfl (aN x)
 have fU:dG prog 28 (.slice [x.av,y.av]) (.int .i64 1)=some (.pptr y.av):=bJ (av:=Tm.av) (l:=[x,y]) (i:=1) aQ rfl (aN y)
 have hax:=fun st=>G0 x st hx
 have hay:=fun st=>G0 y st hy
 unfold vU both
 simp only[a7,bH,bG]
 refine wF [1000000] 1 func208 ntmps208 rfl rfl ?_
 intro _
 simp -implicitDefEqProofs only[dS,bU,aN,aB,seval,PF]
 refine(hax _).to ?_
 generalize x.ev.1=a at *
 generalize x.ev.2=ca at *
 generalize y.ev.1=b at *
 generalize y.ev.2=cb at *
 simp -implicitDefEqProofs only[aB,seval]
 refine aT (fun h4=>?_) (fun h4=>?_)
 · simp -implicitDefEqProofs only[aB,seval]
   have h4':ca≠0:=by simpa using h4
   rw[aK h4']
 have h4':ca=0:=by simpa using h4
 subst h4'
 rw[aG (by simp)]
 simp -implicitDefEqProofs only[fU,bU,aN,aB,seval,PF]
 refine(hay _).to ?_
 simp -implicitDefEqProofs only[aB,seval]
 refine aT (fun h5=>?_) (fun h5=>?_)
 · simp -implicitDefEqProofs only[aB,seval]
   have h5':cb≠0:=by simpa using h5
   rw[aK h5']
 have h5':cb=0:=by simpa using h5
 subst h5'
 rw[aG (by simp)]
 simp -implicitDefEqProofs only[aB,seval,PF]
 refine(aN6 s a b _).to ?_
 simp -implicitDefEqProofs only[aB,seval]
 refine(rD _ _).to ?_
 simp -implicitDefEqProofs only[aB,seval]
abbrev B4:=zi tI_3 (zi zI_3 (zi aZ (zi tI_4 (zi zI_4 (zi cG (zi tI_9 (zi zI_9 (zi eF (zi tI_28 (zi zI_28 (zi aQ (zi bM (zi bO (zi cA (zi tI_52 (zi zI_52 (zi bX (zi bY (zi bZ (zi b7 bV))))))))))))))))))))
theorem aN8(n:Int)(s:ByteArray)(x:Tm)(hs:s=⟨#[118,97,114]⟩∨s=⟨#[110,111,110,118,97,114]⟩∨s=⟨#[97,116,111,109]⟩∨s=⟨#[105,110,116]⟩)(st:aA) :
 aD prog 209 [(Tm.mk 3 n s [x]).av] st (fun r st'=>r=.int .i64 (gJ (rZ s x))∧st'=st):=by
 obtain⟨xk,xn,xs,xt⟩:=x
 have dS:dG prog 28 (.slice [(Tm.mk xk xn xs xt).av]) (.int .i64 0)=some (.pptr (Tm.mk xk xn xs xt).av):=bJ (av:=Tm.av) (l:=[Tm.mk xk xn xs xt]) (i:=0) aQ rfl (aN _)
 simp only[a7] at dS
 simp only[bH,bG,a7]
 refine wF [1000000] 1 func209 ntmps209 rfl rfl ?_
 intro _
 simp -implicitDefEqProofs only[dS,aB,↓aX,seval,B4]
 refine aT (fun h=>?_) (fun h=>?_)
 · have hs':s=⟨#[118,97,114]⟩:=by simpa using h
   subst hs'
   simp -implicitDefEqProofs only[aB,seval,B4]
   refine(rD _ _).to ?_
   simp -implicitDefEqProofs only[aB,seval]
   rfl
 have h1:s≠⟨#[118,97,114]⟩:=by simpa using h
 simp -implicitDefEqProofs only[aB,seval]
 refine aT (fun h=>?_) (fun h=>?_)
 · have hs':s=⟨#[110,111,110,118,97,114]⟩:=by simpa using h
   subst hs'
   simp -implicitDefEqProofs only[aB,seval,B4]
   refine(rD _ _).to ?_
   simp -implicitDefEqProofs only[aB,seval]
   rfl
 have h2:s≠⟨#[110,111,110,118,97,114]⟩:=by simpa using h
 simp -implicitDefEqProofs only[aB,seval]
 refine aT (fun h=>?_) (fun h=>?_)
 · have hs':s=⟨#[105,110,116]⟩:=by simpa using h
   subst hs'
   simp -implicitDefEqProofs only[aB,seval,B4]
   refine(rD _ _).to ?_
   simp -implicitDefEqProofs only[aB,seval]
   rfl
 have h3:s≠⟨#[105,110,116]⟩:=by simpa using h
 have hs':s=⟨#[97,116,111,109]⟩:=by simpa [h1,h2,h3] using hs
 subst hs'
 have et:rZ ⟨#[97,116,111,109]⟩ (Tm.mk xk xn xs xt)=(decide (xk=3)&&decide ((xt.length:Int)=0)):=rfl
 rw[et]
 simp -implicitDefEqProofs only[aB,seval,B4]
 refine cT (fun h4=>?_) (fun h4=>?_)
 · simp -implicitDefEqProofs only[h4,aE,aB,seval,B4]
   refine(rD _ _).to ?_
   simp -implicitDefEqProofs only[aB,seval]
 · simp -implicitDefEqProofs only[h4,aB,seval]
   refine(rD _ _).to ?_
   simp -implicitDefEqProofs only[aB,seval]
   simp at h4;simp []
def pV(x y:Tm):Tm×Int:=if x.k=1∨y.k=1 then(Tm.zero,2) else if x.k≠2∨y.k≠3∨y.ts.length=0 then(Tm.zero,3) else match l8 x y with
 | some u=>(u,0)
 | none=>(Tm.zero,1)
abbrev nM:=zi tI_3 (zi zI_3 (zi aZ (zi tI_28 (zi zI_28 (zi aQ (zi bM (zi bO (zi cA (zi tI_52 (zi zI_52 (zi bX (zi bY (zi bZ (zi b7 bV))))))))))))))
theorem aN2{N:Int}(n:Int)(s:ByteArray)(x y z:Tm)(hy:cB N y)(st:aA):aD prog 206 [(Tm.mk 3 n s [x,y,z]).av] st (fun r st'=>r=.tup [(pV x y).1.av,.int .i64 (pV x y).2]∧st'=st):=by
 have dS:dG prog 28 (.slice [x.av,y.av,z.av]) (.int .i64 0)=some (.pptr x.av):=bJ (av:=Tm.av) (l:=[x,y,z]) (i:=0) aQ rfl (aN x)
 have fU:dG prog 28 (.slice [x.av,y.av,z.av]) (.int .i64 1)=some (.pptr y.av):=bJ (av:=Tm.av) (l:=[x,y,z]) (i:=1) aQ rfl (aN y)
 obtain⟨xk,xn,xs,xt⟩:=x
 obtain⟨yk,yn,ys,yt⟩:=y
 have hyl:yt.length≤4:=by
  exact hy.kind.2
 rw[a7] at dS
 simp only[a7 xk,a7 yk] at dS fU
 unfold pV
 simp only[a7 3,bH,bG,a7 xk,a7 yk,Tm.k,Tm.ts]
 refine aD.done ?_
 refine wF [1000000] 1 func206 ntmps206 rfl rfl ?_
 intro _
 simp -implicitDefEqProofs only[dS,fU,aB,↓aX,seval,nM]
 intro b hb
 have nF:∀o (p:Tm×Int) (k:Int),p=(Tm.zero,k)→(AV.tup [.agg [.int .i64 0,.int .i64 0,.str ⟨#[]⟩,.fslice []],.int .i64 k]).soft=.tup [p.1.av,.int .i64 p.2]∧aL (st.aC b o) st:=fun o p k e=>by
  rw[e]
  exact⟨by simp only[Tm.zero,a7,mU,nK,oF,yL,wJ,bH,bG,bG],(aL.refl _).aC hb⟩
 refine cT (fun h=>?_) (fun h=>?_)
 case refine_2=>
  have h':xk=1:=by simpa using h
  simp -implicitDefEqProofs only[h,aS,aB,seval,nM]
  exact nF _ _ 2 (aK (.inl h'))
 have hx1:xk≠1:=by simpa using h
 simp -implicitDefEqProofs only[h,aB,seval,nM]
 refine aT (fun h1=>?_) (fun h1=>?_)
 · have h':yk=1:=by simpa using h1
   simp -implicitDefEqProofs only[aS,aB,seval,nM]
   exact nF _ _ 2 (aK (.inr h'))
 have hy1:yk≠1:=by simpa using h1
 rw[aG (fun h2=>h2.elim hx1 hy1)]
 simp -implicitDefEqProofs only[aB,seval,nM]
 refine cT (fun h4=>?_) (fun h4=>?_)
 case refine_2=>
  have h':xk≠2:=by simpa using h4
  simp -implicitDefEqProofs only[h4,aS,aB,seval,nM]
  exact nF _ _ 3 (aK (.inl h'))
 have hx2:xk=2:=by simpa using h4
 simp -implicitDefEqProofs only[h4,aB,seval,nM]
 refine cT (fun h5=>?_) (fun h5=>?_)
 case refine_2=>
  have h':yk≠3:=by simpa using h5
  simp -implicitDefEqProofs only[h5,aS,aB,seval,nM]
  exact nF _ _ 3 (aK (.inr (.inl h')))
 have hy3:yk=3:=by simpa using h5
 simp -implicitDefEqProofs only[h5,aE,aB,seval,nM]
 refine aT (fun h6=>?_) (fun h6=>?_)
 · have h':yt.length=0:=by simp at h6;simp [h6]
   simp -implicitDefEqProofs only[aS,aB,seval,nM]
   exact nF _ _ 3 (aK (.inr (.inr h')))
 have hyt:yt.length≠0:=by simp at h6;simpa using h6
 rw[aG (by simp [hx2,hy3];intro h7;simp [h7] at hyt)]
 simp -implicitDefEqProofs only[aB,seval,nM]
 have hno:¬(1≤xn∧xn≤yt.length)→(match l8 (.mk xk xn xs xt) (.mk yk yn ys yt) with | some u=>(u,(0:Int)) | none=>(Tm.zero,1))=(Tm.zero,(1:Int)):=fun h'=>by
  have ea:l8 (.mk xk xn xs xt) (.mk yk yn ys yt)=none:=aG h'
  rw[ea]
 refine cT (fun h7=>?_) (fun h7=>?_)
 case refine_2=>
  have h':xn<1:=by simpa using h7
  simp -implicitDefEqProofs only[h7,aS,aB,seval,nM]
  exact nF _ _ 1 (hno (by omega))
 have hl1:¬xn<1:=by simpa using h7
 simp -implicitDefEqProofs only[h7,aE,aB,seval,nM]
 refine aT (fun h8=>?_) (fun h8=>?_)
 · have h':(yt.length:Int)<xn:=by simpa using h8
   simp -implicitDefEqProofs only[aS,aB,seval,nM]
   exact nF _ _ 1 (hno (by omega))
 have hl2:¬(yt.length:Int)<xn:=by simpa using h8
 have h':1≤xn∧xn≤yt.length:=by omega
 obtain⟨i,hi⟩:∃i:Nat,xn - 1=i:=⟨(xn - 1).toNat,by omega⟩
 have hlt:i<yt.length:=by omega
 obtain⟨u,hu⟩:∃u,yt[i]?=some u:=⟨_,eQ hlt⟩
 have ea:l8 (.mk xk xn xs xt) (.mk yk yn ys yt)=some u:=by
  refine(aK h').trans ?_
  show yt[(xn - 1).toNat]?=some u
  rw[hi,jM,hu]
 rw[ea]
 have hw:IntKind.i64.wrap (xn - 1)=(i:Int):=by rw[wrap64 (by omega) (by omega)];exact hi
 have M5:=bJ (av:=Tm.av) (P:=prog) aQ hu (aN u)
 simp -implicitDefEqProofs only[Tm.fG,Tm.d8,pJ (Tm.fG _),oO (bU _),M5,hw,bU,aN,aS,aB,seval,nM]
 exact⟨by simp only[nK,oF,Tm.soft,bH,bG,Tm.soft],(aL.refl _).aC hb⟩
theorem aTN(n:Int):(mQ n).av=(Tm.mk 2 n ⟨#[]⟩ []).av:=rfl
def cH(N:Nat)(σ:Sub):List AV:=(List.range N).map fun i:Nat=>cellOf (σ (i:Int))
theorem z8(N:Nat)(σ:Sub):∀e∈cH N σ,e.width=4:=by intro e h;simp only[cH,cE] at h;obtain⟨i,_,rfl⟩:=h;exact G2 _
theorem xH(N:Nat)(σ:Sub){i:Nat}(h:i<N):(cH N σ)[i]?=some (cellOf (σ (i:Int))):=by
 simp only[cH,lX,List.getElem?_range h,pP]
theorem aL3(N:Nat)(σ:Sub){i:Nat}(h:i<N)(u:Tm):(cH N σ).set i u.av=cH N (σ.set (i:Int) u):=by
 apply F9
 intro j
 by_cases hj:j<N
 · rw[xH N _ hj,List.getElem?_set]
   by_cases e:i=j
   · subst e
     simp [cH,hj,Sub.set,cellOf]
   · rw[aG e,xH N _ hj]
     simp only[Sub.set]
     rw[aG (by omega)]
 · rw[CG (by simp [cH];omega),CG (by simp [cH];omega)]
def eP(N:Nat)(st:aA)(b:Nat)(σ:Sub):Prop:=st b=some (.cells ((cH N σ).flatMap AV.cells))
theorem eP.mid{N:Nat}{st:aA}{b:Nat}{σ:Sub}(h:eP N st b σ){i:Nat}(hi:i<N) :
 ∃A B,st b=some (.cells (A++(cellOf (σ (i:Int))).cells++B))∧A.length=i*4∧∀(u:Tm),eP N (st.aC b (.cells (A++u.av.cells++B))) b (σ.set (i:Int) u):=by
 obtain⟨A,B,h1,h2,h3⟩:=aQM (z8 N σ) (xH N σ hi)
 refine⟨A,B,by rw[←h1];exact h,h2,fun u=>?_⟩
 unfold eP
 rw[aA.aH,←aL3 N σ hi,h3]
theorem eP.aC{N:Nat}{st:aA}{b x:Nat}{σ:Sub}{o:AO}(h:eP N st b σ)(hx:x≠b):eP N (st.aC x o) b σ:=by
 unfold eP
 rw[aA.aF _ _ (dA hx)]
 exact h
theorem eP.none{N:Nat}{st:aA}{b:Nat}{σ:Sub}(h:eP N st b σ){i:Nat}(hi:i<N)(hn:σ (i:Int)=Option.none) :
 ∃D,st b=some (.cells D)∧D[i*4+0]?=some (.int .i64 0)∧i*4+4≤D.length:=by
 obtain⟨A,B,e1,e2,_⟩:=h.mid hi
 rw[hn] at e1
 obtain⟨r1,r2,r3⟩:=RV (B:=B) (C:=(cellOf Option.none).cells) e2 rfl
 exact⟨_,e1,r3,r1⟩
theorem eP.some{N:Nat}{st:aA}{b:Nat}{σ:Sub}(h:eP N st b σ){i:Nat}(hi:i<N){k n:Int}{s:ByteArray}{ts:List Tm}(hn:σ (i:Int)=Option.some (.mk k n s ts)) :
 ∃D,st b=Option.some (.cells D)∧D[i*4+0]?=Option.some (.int .i64 k)∧i*4+4≤D.length∧List.take 4 (List.drop (i*4) D)= [.int .i64 k,.int .i64 n,.str s,.slice (ts.map Tm.av)]:=by
 obtain⟨A,B,e1,e2,_⟩:=h.mid hi
 rw[hn] at e1
 simp only[cellOf,a7,AV.cells] at e1
 obtain⟨r1,r2,r3⟩:=RV (B:=B) (C:=[.int .i64 k,.int .i64 n,.str s,.slice (ts.map Tm.av)]) e2 rfl
 exact⟨_,e1,r3,r1,r2⟩
theorem eP.set{N:Nat}{st:aA}{b:Nat}{σ:Sub}(h:eP N st b σ){i:Nat}(hi:i<N)(u:Tm) :
 ∃D D',st b=Option.some (.cells D)∧i*4+4≤D.length∧aS D (i*4) u.av.cells=D'∧eP N (st.aC b (.cells D')) b (σ.set (i:Int) u):=by
 obtain⟨A,B,e1,e2,e3⟩:=h.mid hi
 obtain⟨p1,p2⟩:=OH (B:=B) (C:=(cellOf (σ (i:Int))).cells) (x:=u.av.cells) e2 (aPA _) (Tm.fG u)
 exact⟨_,_,e1,p2,p1,e3 u⟩
abbrev B6:=zi tI_3 (zi zI_3 (zi aZ (zi tI_28 (zi zI_28 (zi aQ (zi bM (zi bO (zi cA (zi tI_52 (zi zI_52 (zi bX (zi bY (zi bZ (zi b7 bV))))))))))))))
theorem SD{N:Nat}{σ:Sub}(hok:cF (cB N) σ){f:Nat}{t u:Tm}(hw:fF σ f t u)(ht:cB N t)(b:Nat)(st:aA)(hS:eP N st b σ):aD prog 241 [t.av,.mslice b 0 N 4] st (fun r st'=>r=u.av∧st'=st):=by
 refine aD.done ?_
 refine wF [1000000,2] 2 func241 ntmps241 rfl rfl ?_
 intro _
 simp -implicitDefEqProofs only[aB,seval,B6]
 intro b2 h2 b4 h4
 have hne:b4≠b2:=by rintro rfl;rw[aA.aH] at h4;cases h4
 have hn4:st b4=none:=by rw[aA.aF st _ hne] at h4;exact h4
 have hb2:b2≠b:=by rintro rfl;rw[eP,h2] at hS;cases hS
 have hb4:b4≠b:=by rintro rfl;rw[eP,hn4] at hS;cases hS
 refine mW (σ:=Nat×Tm) [1000000,2] [1,2,4] (fun p=>fF σ p.1 p.2 u∧cB N p.2) (fun p=>[]) (fun p=>(st.aC b2 (.cells p.2.av.cells)).aC b4 (.cells [.int .i64 0,.int .i64 0,.str ⟨#[]⟩,.fslice []])) (fun p=>p.1) (by decide +kernel) ⟨(f,t),⟨hw,ht⟩,aP.mk (by simp -implicitDefEqProofs only[aB,seval])⟩ ?_
 rintro⟨g,t⟩ ⟨hw,ht⟩
 obtain⟨k,n,s,ts⟩:=t
 simp only at hw ht
 simp only[a7]
 have sU:k≠1∨σ n=none→u=.mk k n s ts:=fun h=>by
  cases hw with
  | stop _=>rfl
  | go h1 h2 _=>
   simp only[Tm.k] at h1
   rcases h with h | h
   · exact absurd h1 h
   · rw[show σ n=some _ from h2] at h;cases h
 simp -implicitDefEqProofs only[hne.symm,aB,seval,B6]
 refine cT (fun h=>?_) (fun h=>?_)
 case refine_2=>
  simp -implicitDefEqProofs only[h,aS,hne.symm,aB,seval,B6]
  simp only[mY,cI] at h
  rw[sU (.inl h),←a7]
  exact⟨Tm.soft _,((aL.refl _).aC h2).aC hn4⟩
 simp only[bL] at h
 subst h
 obtain⟨hn0,hn1,_⟩:=ht.var
 obtain⟨i,rfl⟩:∃i:Nat,n=i:=⟨n.toNat,by omega⟩
 have hi:i<N:=by omega
 have hi':decide ((i:Int)<(N:Int))=true:=by simp;omega
 simp -implicitDefEqProofs only[dU,hi',gX,hne.symm,aB,seval,B6]
 have hat:=n6 (P:=prog) (b:=b) (len:=N) aQ hi
 cases hw with
 | stop hs=>
  obtain⟨D,e1,e2,_⟩:=hS.none hi (hs rfl)
  simp -implicitDefEqProofs only[hat,e1,e2,dU,aS,hne.symm,hb2.symm,hb4.symm,aB,seval,B6]
  exact⟨by rw[←a7,Tm.soft],((aL.refl _).aC h2).aC hn4⟩
 | go h1 h2' h3=>
  simp only[Tm.n] at h2'
  have ho:=hok _ _ h2'
  rename_i g' u'
  obtain⟨k',n',s',ts'⟩:=u'
  have hk':¬k'=0:=by have:=ho.kind.1;omega
  obtain⟨D,e1,e2,e3,e4⟩:=hS.some hi h2'
  have e5:i*4+0+4≤D.length:=e3
  simp -implicitDefEqProofs only[hat,e1,e2,e3,e4,hk',eK,aS,hne.symm,hb2.symm,hb4.symm,aB,seval,B6]
  rw[aA.wS hne,aA.nN _ _ _ hne]
  refine⟨(g',.mk k' n' s' ts'),Nat.lt_succ_self _,⟨h3,ho⟩,?_⟩
  simp only[a7]
  exact aP.mk (by simp -implicitDefEqProofs only[aB,seval])
theorem eP.acc{N:Nat}{st:aA}{b bW:Nat}{σ:Sub}{l:List AV}(h:eP N st b σ)(hb:l≠[]→st bW=Option.none):eP N (bE st bW l) b σ:=by
 cases l with
 | nil=>exact h
 | cons x l=>exact h.aC (by rintro rfl;rw[eP,hb (by simp)] at h;cases h)
abbrev FK:=zi tI_3 (zi zI_3 (zi aZ (zi tI_4 (zi zI_4 (zi cG (zi tI_28 (zi zI_28 (zi aQ (zi bM (zi bO (zi cA (zi tI_40 (zi zI_40 (zi dC (zi fH (zi fJ (zi fL (zi tI_52 (zi zI_52 (zi bX (zi bY (zi bZ (zi b7 bV)))))))))))))))))))))))
theorem aME{N:Nat}{σ:Sub}{R:Int→Tm}{rk:Int→Nat}{B:Nat}(G:Good σ R rk B)(hok:cF (a9 N) σ)(hN:N≤1048576){n:Int}(hn:σ n=none)(t:Tm)(ht:a9 N t)(b:Nat)(st:aA)(hS:eP N st b σ) :
 aD prog 242 [.int .i64 n,t.av,.mslice b 0 N 4] st (fun r st'=>r=.bool (decide (n∈(t.aJ R).vl))∧st'=st):=by
 refine aD.done ?_
 refine wF [1000000] 3 func242 ntmps242 rfl rfl ?_
 intro _
 simp -implicitDefEqProofs only[aB,seval,FK]
 have h0:=DC t [] 0 st (Tm.sK t (ht.1.2.1)) (fun h=>absurd rfl h) (by have:=ht.2;simp only[bS];omega)
 simp only[bG,kP,lJ] at h0
 refine h0.mono ?_
 rintro _ _ ⟨b0,rfl,rfl,hb0⟩
 obtain⟨v1,v2,_⟩:=QG t (Tm.sK t (ht.1.2.1)) []
 simp -implicitDefEqProofs only[aB,seval]
 refine mW (σ:=Nat×List Int×Nat) [1000000] [0,2]
  (fun p=>p.1≤p.2.1.length∧p.2.1.Nodup∧(∀w∈p.2.1,w∈VN N)∧(p.2.1.map iv≠[]→st p.2.2=none)∧(∀w∈p.2.1.take p.1,w≠n∧∀u,σ w=some u→∀v∈u.vl,v∈p.2.1)∧(∀w∈p.2.1,n∈(R w).vl→n∈(t.aJ R).vl)∧(n∈(t.aJ R).vl→∃w∈p.2.1,n∈(R w).vl))
  (fun p=>[(6,.bool false),(7,bQ 1 p.2.2 (p.2.1.map iv)),(8,.int .i64 p.1)]) (fun p=>bE st p.2.2 (p.2.1.map iv)) (fun p=>N - p.1) (by decide +kernel)
  ⟨(0,t.vars [],b0),⟨lY _,v2 kM,fun w hw=>?_,hb0,by simp,fun w hw hm=>?_,fun hm=>?_⟩,aP.mk (by simp -implicitDefEqProofs only[aB,↓aX,seval])⟩ ?_
 · rcases (v1 w).1 hw with h | h
   · cases h
   · exact uJ.2 (ht.1.2.2 w h)
 · rcases (v1 w).1 hw with h | h
   · cases h
   · exact(wT t).2 ⟨w,h,hm⟩
 · obtain⟨w,hw,hm⟩:=(wT t).1 hm
   exact⟨w,(v1 w).2 (.inr hw),hm⟩
 rintro⟨i,W,bW⟩ ⟨i1,i2,i3,i4,i5,i6,i7⟩
 simp only at i1 i2 i3 i4 i5 i6 i7
 have haL:=CY (w:=1) (b:=bW) (l:=W.map iv) fL
 have hWl:=BL i2 (fun m hm=>uJ.1 (i3 m hm))
 simp -implicitDefEqProofs only[haL,aE,aB,seval]
 refine aT (fun h=>?_) (fun h=>?_)
 case refine_2=>
  simp only[cI,gT] at h
  obtain rfl:i=W.length:=by omega
  rw[eM] at i5
  simp -implicitDefEqProofs only[aB,seval]
  have hno:n∉(t.aJ R).vl:=fun hm=>by
   obtain⟨w,hw,hnw⟩:=i7 hm
   exact aX3 G i5 w hw hnw
  exact⟨by simp only[hno,eK,uQ],aL.bE (aL.refl _) i4⟩
 simp only[bL,gT] at h
 obtain⟨w,hx⟩:∃w,W[i]?=some w:=⟨_,eQ h⟩
 have fV:=cL hx
 have hat:=RF (b:=bW) (l:=W.map iv) (i:=i) (x:=iv w) dC (by rw[lX,hx];try rfl)
 obtain⟨gB,mN⟩:=RH (st:=st) (b:=bW) hx
 have hw:=bK (n:=(i:Int)+1)
 simp -implicitDefEqProofs only[hat,gB,mN,xA,aB,seval,FK]
 refine aT (fun h2=>?_) (fun h2=>?_)
 · simp only[bL] at h2
   subst h2
   simp -implicitDefEqProofs only[aB,seval]
   have hm:w∈(t.aJ R).vl:=i6 w fV (by rw[G.free hn,wU];simp)
   exact⟨by simp only[hm,dU,uQ],aL.bE (aL.refl _) i4⟩
 simp only[cI] at h2
 simp -implicitDefEqProofs only[hat,gB,mN,xA,aB,seval,FK]
 obtain⟨hw0,hw1⟩:=uJ.1 (i3 w fV)
 obtain⟨j,rfl⟩:∃j:Nat,w=j:=⟨w.toNat,by omega⟩
 have hj:j<N:=by omega
 have hj':decide ((j:Int)<(N:Int))=true:=by simp;omega
 have aFT:=n6 (P:=prog) (b:=b) (len:=N) aQ hj
 have hSA:=hS.acc i4
 have htk:W.take (i+1)=W.take i++ [(j:Int)]:=by rw[f8,hx];try rfl
 have step:∀W':List Int,(∀v∈W,v∈W')→(∀u,σ (j:Int)=some u→∀v∈u.vl,v∈W')→∀w∈W'.take (i+1),W'.take (i+1)=W.take (i+1)→w≠n∧∀u,σ w=some u→∀v∈u.vl,v∈W':=by
  intro W' iO iN w hw' hte
  rw[hte,htk] at hw'
  rcases dQ.1 hw' with hw' | hw'
  · exact⟨(i5 w hw').1,fun u hu v hv=>iO v ((i5 w hw').2 u hu v hv)⟩
  · simp only[cP,dI,dN] at hw'
    subst hw'
    exact⟨h2,iN⟩
 cases hs:σ (j:Int) with
 | none=>
  obtain⟨D,e1,e2,_⟩:=hSA.none hj hs
  simp -implicitDefEqProofs only[hj',aFT,e1,e2,dU,gX,hat,gB,mN,xA,hw,aB,seval,FK]
  exact⟨(i+1,W,bW),by simp only;omega,⟨h,i2,i3,i4,fun w hw'=>step W (fun _ h=>h) (fun u hu=>by rw[hs] at hu;cases hu) w hw' rfl,i6,i7⟩,aP.mk (by simp -implicitDefEqProofs only[aB,seval])⟩
 | some u=>
  obtain⟨k',n',s',ts'⟩:=u
  have ho:=hok _ _ hs
  have hk':¬k'=0:=by have:=ho.1.kind.1;omega
  obtain⟨D,e1,e2,e3,e4⟩:=hSA.some hj hs
  simp -implicitDefEqProofs only[hj',aFT,e1,e2,e3,e4,hk',eK,gX,hat,gB,mN,xA,aB,seval,FK]
  have hwf:=Tm.sK _ (ho.1.2.1)
  have hc:=DC (.mk k' n' s' ts') W bW st hwf i4 (by have:=ho.2;omega)
  obtain⟨u1,u2,m,u3⟩:=QG _ hwf W
  rw[a7] at hc
  refine hc.mono ?_
  rintro _ _ ⟨b',rfl,rfl,hb'⟩
  generalize (Tm.mk k' n' s' ts').vars W=W' at *
  have hte:W'.take (i+1)=W.take (i+1):=by rw[u3,zE (by omega)]
  have hbd:(Tm.mk k' n' s' ts').aJ R=R (j:Int):=(G.bound hs).symm
  simp -implicitDefEqProofs only[hw,aB,seval]
  refine⟨(i+1,W',b'),by simp only;omega,⟨by rw[u3];simp only[dX];omega,u2 i2,fun w hw'=>?_,hb',fun w hw'=>step W' (fun v hv=>(u1 v).2 (.inl hv)) (fun u hu v hv=>?_) w hw' hte,fun w hw' hm=>?_,fun hm=>?_⟩,aP.mk (by simp -implicitDefEqProofs only[aB,seval])⟩
  · rcases (u1 w).1 hw' with h | h
    · exact i3 w h
    · exact uJ.2 (ho.1.2.2 w h)
  · rw[hs] at hu
    cases hu
    exact(u1 v).2 (.inr hv)
  · rcases (u1 w).1 hw' with h | h
    · exact i6 w h hm
    · refine i6 (j:Int) fV ?_
      rw[←hbd]
      exact(wT _).2 ⟨w,h,hm⟩
  · obtain⟨w,h,hm⟩:=i7 hm
    exact⟨w,(u1 w).2 (.inl h),hm⟩
def AN(N b:Nat)(st:aA)(σ':Sub)(st':aA):Prop:=eP N st' b σ'∧∀x o,st x=some o→x≠b→st' x=some o
theorem AN.refl{N b:Nat}{st:aA}{σ:Sub}(h:eP N st b σ):AN N b st σ st:=⟨h,fun _ _ h _=>h⟩
theorem AN.trans{N b:Nat}{st s2 s3:aA}{σ2 σ3:Sub}(x:AN N b st σ2 s2)(y:AN N b s2 σ3 s3):AN N b st σ3 s3:=⟨y.1,fun q o h hn=>y.2 q o (x.2 q o h hn) hn⟩
def CO(N:Nat)(f:Nat)(b:Nat)(σ:Sub)(a c:Tm)(r:Bool)(σ':Sub):Prop:=∀st,eP N st b σ→aD prog f [a.av,c.av,.mslice b 0 N 4] st (fun r' st'=>r'=.bool r∧AN N b st σ' st')
abbrev mB:=zi tI_3 (zi zI_3 (zi aZ (zi tI_4 (zi zI_4 (zi cG (zi tI_9 (zi zI_9 (zi eF (zi tI_28 (zi zI_28 (zi aQ (zi bM (zi bO (zi cA (zi tI_52 (zi zI_52 (zi bX (zi bY (zi bZ (zi b7 bV))))))))))))))))))))
theorem aG3(N:Nat)(hN:N≤1048576)(g:Nat)(bb:Nat)(IH:∀(σ:Sub) (a b:Tm) (r:Bool) (σ':Sub) (add:List Int),cD σ→cF (a9 N) σ→a9 N a→a9 N b→cV g σ a b=some (r,σ',add)→CO N 204 bb σ a b r σ')
 (σ:Sub) (a b:Tm) (r:Bool) (σ':Sub) (add:List Int) (hg:cD σ) (hok:cF (a9 N) σ) (ha0:a9 N a) (hb0:a9 N b) (h:cV (g+1) σ a b=some (r,σ',add))
 (aGN:(wk σ a).k≠1→(wk σ b).k=1→CO N 204 bb σ (wk σ b) (wk σ a) r σ'):CO N 204 bb σ a b r σ':=by
 intro st hS
 obtain⟨rk,B,G⟩:=hg.rs
 obtain⟨fa,wa⟩:=G.wk a
 obtain⟨fb,wb⟩:=G.wk b
 have ID:cF (cB N) σ:=fun n u hu=>(hok n u hu).1
 have hca:=fun st (hS:eP N st bb σ)=>SD ID wa ha0.1 bb st hS
 have hcb:=fun st (hS:eP N st bb σ)=>SD ID wb hb0.1 bb st hS
 have ea:=wa.end
 have eb:=wb.end
 have hsa:=wa.all (p:=a9 N) hok ha0
 have hsb:=wb.all (p:=a9 N) hok hb0
 replace h:=KJ h
 generalize wk σ a=a1 at *
 generalize wk σ b=b1 at *
 clear wa wb
 refine wF [1000000,3,4] 3 func204 ntmps204 rfl rfl ?_
 intro fY
 simp -implicitDefEqProofs only[aB,seval,mB]
 intro b4 h4 b5 h5
 have h54:b5≠b4:=by rintro rfl;rw[aA.aH] at h5;cases h5
 have hn5:st b5=none:=by rw[aA.aF st _ h54] at h5;exact h5
 have h4b:b4≠bb:=by rintro rfl;rw[eP,h4] at hS;cases hS
 have h5b:b5≠bb:=by rintro rfl;rw[eP,hn5] at hS;cases hS
 have hS':∀o o',eP N ((st.aC b4 o).aC b5 o') bb σ:=fun o o'=>(hS.aC h4b).aC h5b
 have hQ:∀o o',AN N bb st σ ((st.aC b4 o).aC b5 o'):=fun o o'=>⟨hS' o o',fun x p h _=>by
  rw[aA.aF _ _ (by rintro rfl;rw[hn5] at h;cases h),aA.aF _ _ (by rintro rfl;rw[h4] at h;cases h)];exact h⟩
 simp -implicitDefEqProofs only[Tm.fG,pJ (Tm.fG a),oO (bU a),h54.symm,aB,seval]
 refine(hca _ (hS' _ _)).to ?_
 simp -implicitDefEqProofs only[Tm.fG,pJ (Tm.fG b),oO (bU b),Tm.d8,aS,h54,h54.symm,aB,seval,mB]
 rw[aA.wS h54,aA.nN _ _ _ h54]
 refine(hcb _ (hS' _ _)).to ?_
 obtain⟨ka,na,sa,tsa⟩:=a1
 obtain⟨kb,nb,sb',tsb⟩:=b1
 obtain⟨hla,aF8⟩:=Tm.pI (hsa.1.small)
 obtain⟨hlb,aF9⟩:=Tm.pI (hsb.1.small)
 have dV:∀o o',AN N bb st σ ((st.aC b4 o).aC b5 o'):=hQ
 have hka:=fun h=>(qD N) _ h hsa
 have hkb:=fun h=>(qD N) _ h hsb
 simp only[a7]
 simp only[Tm.k,Tm.n,Tm.ts] at h ea eb aGN hka hkb
 simp -implicitDefEqProofs only[d4,aS,h54.symm,aB,seval,mB]
 have var:∀ {n:Int} {t:Tm},n∈VN N→σ n=none→a9 N t→iY σ n t=(r,σ',add)→∀s0,eP N s0 bb σ→aD prog 242 [.int .i64 n,t.av,.mslice bb 0 N 4] s0 (fun r' st'=>r'=.bool (!r)∧st'=s0):=by
  intro n t _ hn ht hb s0 hs0
  have:=aME G hok hN hn t ht bb s0 hs0
  unfold iY at hb
  split at hb
  · rename_i hm
    cases hb
    simpa [hm] using this
  · rename_i hm
    cases hb
    simpa [hm] using this
 rcases h with ⟨h1,h2,h3,rfl,rfl,rfl⟩ | ⟨h1,h2,h3⟩ | ⟨h1,h2,h3⟩ | ⟨h1,h2,h3,h4⟩ | ⟨h1,h2,h3,rfl,rfl,rfl⟩
 · subst h1 h2 h3
   simp -implicitDefEqProofs only[dU,gX,h54.symm,aB,seval,mB]
   exact dV _ _
 · subst h1
   have hin:=uJ.2 (hsa.1.2.2 na (by rw[Tm.mH rfl];simp))
   obtain⟨hn0,hn1⟩:=uJ.1 hin
   have hcw:=var hin (ea rfl) hsb h3 _ (hS' (.cells [.int .i64 1,.int .i64 na,.str sa,.slice (tsa.map Tm.av)]) (.cells [.int .i64 kb,.int .i64 nb,.str sb',.slice (tsb.map Tm.av)]))
   have hna:=ea rfl
   rw[a7] at hcw
   obtain⟨i,rfl⟩:∃i:Nat,na=i:=⟨na.toNat,by omega⟩
   have hi:i<N:=by omega
   have hat:=n6 (P:=prog) (b:=bb) (len:=N) aQ hi
   have h6:kb=1→¬(i:Int)=nb:=fun e1 e=>h2 ⟨e1,e⟩
   have tail:∀(s0:aA),s0=((st.aC b4 (.cells [.int .i64 1,.int .i64 i,.str sa,.slice (tsa.map Tm.av)])).aC b5 (.cells [.int .i64 kb,.int .i64 nb,.str sb',.slice (tsb.map Tm.av)]))→r=true →
    ∃D D',s0 bb=some (.cells D)∧i*4+4≤D.length∧aS D (i*4) [.int .i64 kb,.int .i64 nb,.str sb',.slice (tsb.map Tm.av)]=D'∧AN N bb st σ' (s0.aC bb (.cells D')):=by
    rintro _ rfl rfl
    unfold iY at h3
    split at h3
    · cases h3
    · cases h3
      obtain⟨D,D',e1,e2,e3,e4⟩:=(hS' (.cells [.int .i64 1,.int .i64 i,.str sa,.slice (tsa.map Tm.av)]) (.cells [.int .i64 kb,.int .i64 nb,.str sb',.slice (tsb.map Tm.av)])).set hi (.mk kb nb sb' tsb)
      refine⟨D,D',e1,e2,by rw[←e3,a7];try rfl,e4,fun x o hx hxb=>?_⟩
      rw[aA.aF _ _ hxb]
      exact(hQ _ _).2 x o hx hxb
   by_cases h5:kb=1
   · subst h5
     simp -implicitDefEqProofs only[dU,h6 rfl,eK,gX,h54.symm,aB,seval,mB]
     refine hcw.to ?_
     cases r with
     | false=>
      simp -implicitDefEqProofs only[aB,seval]
      unfold iY at h3
      split at h3
      · cases h3
        exact dV _ _
      · cases h3
     | true=>
      obtain⟨D,D',e1,e2,e3,e4⟩:=tail _ rfl rfl
      simp -implicitDefEqProofs only[hat,e1,e2,aS,h54.symm,aB,seval,mB]
      rw[←e3] at e4
      exact e4
   · simp -implicitDefEqProofs only[dU,h5,eK,gX,h54.symm,aB,seval,mB]
     refine hcw.to ?_
     cases r with
     | false=>
      simp -implicitDefEqProofs only[aB,seval]
      unfold iY at h3
      split at h3
      · cases h3
        exact dV _ _
      · cases h3
     | true=>
      obtain⟨D,D',e1,e2,e3,e4⟩:=tail _ rfl rfl
      simp -implicitDefEqProofs only[hat,e1,e2,aS,h54.symm,aB,seval,mB]
      rw[←e3] at e4
      exact e4
 · subst h2
   have hsw:=aGN h1 rfl
   simp only[CO,a7] at hsw
   simp -implicitDefEqProofs only[dU,h1,eK,gX,h54.symm,aB,seval,mB]
   refine(hsw _ (hS' _ _)).mono ?_
   rintro _ s2 ⟨rfl,hp⟩
   simp -implicitDefEqProofs only[aB,seval]
   exact(hQ _ _).trans hp
 · rw[rO] at h3
   simp only[Tm.k,Tm.n,Tm.s,Tm.ts] at h3
   obtain⟨rfl,rfl,rfl,hlen⟩:=h3
   have dH:decide ((tsa.length:Int)=(tsb.length:Int))=true:=by simp [hlen]
   simp -implicitDefEqProofs only[dU,eK,dH,gX,h54.symm,aE,h1,aB,seval,mB]
   have hS0:=hS' (.cells [.int .i64 ka,.int .i64 na,.str sa,.slice (tsa.map Tm.av)]) (.cells [.int .i64 ka,.int .i64 na,.str sa,.slice (tsb.map Tm.av)])
   have hQ0:=hQ (.cells [.int .i64 ka,.int .i64 na,.str sa,.slice (tsa.map Tm.av)]) (.cells [.int .i64 ka,.int .i64 na,.str sa,.slice (tsb.map Tm.av)])
   have e4:((st.aC b4 (.cells [.int .i64 ka,.int .i64 na,.str sa,.slice (tsa.map Tm.av)])).aC b5 (.cells [.int .i64 ka,.int .i64 na,.str sa,.slice (tsb.map Tm.av)])) b4=some (.cells [.int .i64 ka,.int .i64 na,.str sa,.slice (tsa.map Tm.av)]):=by rw[aA.aF _ _ h54.symm,aA.aH]
   have e5:((st.aC b4 (.cells [.int .i64 ka,.int .i64 na,.str sa,.slice (tsa.map Tm.av)])).aC b5 (.cells [.int .i64 ka,.int .i64 na,.str sa,.slice (tsb.map Tm.av)])) b5=some (.cells [.int .i64 ka,.int .i64 na,.str sa,.slice (tsb.map Tm.av)]):=aA.aH _ _ _
   generalize (st.aC b4 (.cells [.int .i64 ka,.int .i64 na,.str sa,.slice (tsa.map Tm.av)])).aC b5 (.cells [.int .i64 ka,.int .i64 na,.str sa,.slice (tsb.map Tm.av)])=s0 at *
   refine dW (σ:=Sub×List Int×aA) [1000000,3,4] [2,3,4] tsa
    (fun i p=>cD p.1∧cF (a9 N) p.1∧AN N bb s0 p.1 p.2.2∧dM g p.1 (tsa.drop i) (tsb.drop i)=some (r,σ',p.2.1))
    (fun i _=>[(6,.bool false),(7,.int .i64 i)]) (fun _ p=>p.2.2) (by decide +kernel)
    ⟨(σ,add,s0),⟨hg,hok,AN.refl hS0,h4⟩,aP.mk (by simp -implicitDefEqProofs only[aB,↓aX,seval])⟩ (fun i x p hx hlt bF hdr hinv=>?_) (fun p hge hinv=>?_)
   case refine_2=>
    obtain⟨σi,rest,si⟩:=p
    obtain⟨i1,i2,i3,i5⟩:=hinv
    simp only at i1 i2 i3 i5
    have f4:=i3.2 b4 _ e4 h4b
    rw[gU,hlen,gU] at i5
    simp only[dM,Option.some.injEq,Prod.mk.injEq] at i5
    obtain⟨rfl,rfl,rfl⟩:=i5
    simp -implicitDefEqProofs only[hge,f4,aE,aB,seval,mB]
    exact hQ0.trans i3
   obtain⟨σi,rest,si⟩:=p
   obtain⟨i1,i2,i3,i5⟩:=hinv
   simp only at i1 i2 i3 i5
   obtain⟨y,hy⟩:∃y,tsb[i]?=some y:=⟨_,eQ (by omega)⟩
   have v9:tsb.drop i=y::tsb.drop (i+1):=by
    obtain⟨h1,h2⟩:=fD.1 hy
    rw[nO h1,h2]
   rw[hdr,v9,dM] at i5
   have f4:=i3.2 b4 _ e4 h4b
   have f5:=i3.2 b5 _ e5 h5b
   have hw:=bK (n:=(i:Int)+1)
   simp -implicitDefEqProofs only[bF,aE,f4,aB,seval,mB]
   refine wP [(0,1),(2,1),(5,1),(7,1),(10,1),(1,2),(3,1),(4,2),(6,2),(8,1),(9,2),(11,0),(12,1)] [0,2,5,7,10,1,3,4,6,8,9,12] mixed ?_
   simp -implicitDefEqProofs only[f4,f5,bJ (av:=Tm.av) aQ hx (aN x),bJ (av:=Tm.av) aQ hy (aN y),aB,seval,mB]
   cases hu:cV g σi x y with
   | none=>rw[hu] at i5;cases i5
   | some p1=>
    obtain⟨r1,σ1,tr1⟩:=p1
    rw[hu] at i5
    have hx1:a9 N x:=hka h1 x (cL hx)
    have hy1:a9 N y:=hkb h2 y (cL hy)
    have hU:=uY i1 hu
    have hA:=(KL (qD N) g).1 σi x y r1 σ1 tr1 i1 hu i2 hx1 hy1
    refine(IH σi x y r1 σ1 tr1 i1 i2 hx1 hy1 hu si i3.1).mono ?_
    rintro _ s2 ⟨rfl,hp2⟩
    cases r1 with
    | false=>
     simp only[Option.some.injEq,Prod.mk.injEq] at i5
     obtain⟨rfl,rfl,rfl⟩:=i5
     simp -implicitDefEqProofs only[aB,seval]
     exact hQ0.trans (i3.trans hp2)
    | true=>
     simp only at i5
     cases hu2:dM g σ1 (tsa.drop (i+1)) (tsb.drop (i+1)) with
     | none=>rw[hu2] at i5;cases i5
     | some p2=>
      obtain⟨r2,σ2,tr2⟩:=p2
      rw[hu2] at i5
      simp only[Option.some.injEq,Prod.mk.injEq] at i5
      obtain⟨rfl,rfl,_⟩:=i5
      simp -implicitDefEqProofs only[aB,seval]
      exact⟨(σ1,tr2,s2),⟨hU.gA,hA,i3.trans hp2,hu2⟩,aP.mk (by simp -implicitDefEqProofs only[hw,aB,seval])⟩
 · have hd:ka=kb→na=nb→sa=sb'→¬(tsa.length:Int)=(tsb.length:Int):=by
    intro e1 e2 e3 e4
    have:sT (Tm.mk ka na sa tsa) (Tm.mk kb nb sb' tsb)=true:=rO.2 ⟨e1,e2,e3,by simp only[Tm.ts];omega⟩
    rw[h3] at this;cases this
   by_cases e1:ka=kb
   · by_cases e2:na=nb
     · by_cases e3:sa=sb'
       · have e4:=hd e1 e2 e3
         subst e1 e2 e3
         simp -implicitDefEqProofs only[eK,dU,gX,h54.symm,h1,aE,e4,aB,seval,mB]
         exact dV _ _
       · subst e1 e2
         simp -implicitDefEqProofs only[eK,dU,gX,h54.symm,h1,e3,aB,seval,mB]
         exact dV _ _
     · subst e1
       simp -implicitDefEqProofs only[eK,dU,gX,h54.symm,h1,e2,aB,seval,mB]
       exact dV _ _
   · clear hd
     simp -implicitDefEqProofs only[eK,gX,h54.symm,h1,h2,e1,aB,seval,mB]
     exact dV _ _
theorem SC(N:Nat)(hN:N≤1048576)(bb:Nat):∀(g:Nat) (σ:Sub) (a b:Tm) (r:Bool) (σ':Sub) (add:List Int),cD σ→cF (a9 N) σ→a9 N a→a9 N b→cV g σ a b=some (r,σ',add)→CO N 204 bb σ a b r σ'
 | 0,σ,a,b,r,σ',add,hg,hok,ha,hb,h=>by simp only[cV] at h;cases h
 | g+1,σ,a,b,r,σ',add,hg,hok,ha,hb,h=>by
  refine aG3 N hN g bb (SC N hN bb g) σ a b r σ' add hg hok ha hb h fun h1 h2=>?_
  obtain⟨rk,B,G⟩:=hg.rs
  obtain⟨fa,wa⟩:=G.wk a
  obtain⟨fb,wb⟩:=G.wk b
  have eb:=aKQ wb
  have ea:=aKQ wa
  have hbn:iY σ (wk σ b).n (wk σ a)=(r,σ',add):=by
   rcases KJ h with h | h | h | h | h
   · exact absurd h.1 h1
   · exact absurd h.1 h1
   · exact h.2.2
   · exact absurd h2 h.2.1
   · exact absurd h2 h.2.1
  refine aG3 N hN 0 bb (fun σ a b r σ' add _ _ _ _ h=>by simp only[cV] at h;cases h) σ (wk σ b) (wk σ a) r σ' add hg hok (wb.all (p:=a9 N) hok hb) (wa.all (p:=a9 N) hok ha) ?_ fun h3=>?_
  · rw[cV,eb,ea,aG (fun h=>h1 h.2.1),aK h2,hbn]
  · rw[eb] at h3;exact absurd h2 h3
theorem aL0(σ:Sub)(x y z:Tm):tV σ x y z=if(pV x y).2=0 then qN σ z (pV x y).1 else((pV x y).2,σ,[]):=by
 unfold tV pV
 split
 · simp
 split
 · simp
 cases l8 x y<;>rfl
def pR(N bb:Nat)(st:aA)(x:Int×Sub×List Int)(r:AV)(st':aA):Prop:=r=.int .i64 x.1∧AN N bb st x.2.1 st'
theorem pR.same{N bb:Nat}{st:aA}{σ:Sub}{r:AV}(h:eP N st bb σ)(k:Int)(hr:r=.int .i64 k):pR N bb st (k,σ,[]) r st:=⟨hr,AN.refl h⟩
theorem C9{N:Nat}(hN:N≤1048576){σ:Sub}(hg:cD σ)(ho:cF (a9 N) σ)(a b:Tm)(ha:a9 N a)(hb:a9 N b)(bb:Nat)(st:aA)(hS:eP N st bb σ) :
 aD prog 204 [a.av,b.av,.mslice bb 0 N 4] st (fun r st'=>r=.bool (iE σ a b).1∧AN N bb st (iE σ a b).2.1 st'):=by
 obtain⟨r,σ',tr',hU⟩:=sB hg ho ha hb
 obtain⟨g,mP⟩:=hU.run
 rw[hU.eq]
 exact SC N hN bb g σ a b r σ' tr' hg ho ha hb mP st hS
abbrev pL:=zi tI_3 (zi zI_3 (zi aZ (zi tI_4 (zi zI_4 (zi cG (zi tI_9 (zi zI_9 (zi eF (zi tI_28 (zi zI_28 (zi aQ (zi bM (zi bO (zi cA (zi tI_52 (zi zI_52 (zi bX (zi bY (zi bZ (zi b7 bV))))))))))))))))))))
theorem aMF{N:Nat}(hN:N≤1048576){σ:Sub}(hg:cD σ)(ho:cF (a9 N) σ)(n:Int)(s:ByteArray)(ks:List Tm)(hb:isBuiltin s (ks.length:Int)=true)(hne:s≠⟨#[92,61]⟩)(hv:∀x∈ks,a9 N x)(bb:Nat)(st:aA)(hS:eP N st bb σ) :
 aD prog 165 [(Tm.mk 3 n s ks).av,.mslice bb 0 N 4] st (pR N bb st (cS σ s ks)):=by
 have hcs:=R7 hb
 have BB:=fun x y (hxy:ks= [x,y])=>aN3 n s x y (hv x (by simp [hxy])).1 (hv y (by simp [hxy])).1
 have aFZ:=fun x y z (hxy:ks= [x,y,z])=>aN2 n s x y z (hv y (by simp [hxy])).1
 have aF1:=fun x (hxy:ks= [x]) h=>aN8 n s x h
 simp only[a7] at BB aFZ aF1 ⊢
 refine wF [1000000] 2 func165 ntmps165 rfl rfl ?_
 intro _
 simp -implicitDefEqProofs only[aB,seval,pL]
 refine aT (fun h=>?_) (fun h=>?_)
 · have hs:s=⟨#[116,114,117,101]⟩:=by simpa using h
   have hk:=IT (ts:=ks) (by subst hs;simpa [isBuiltin] using hb)
   subst hk
   simp -implicitDefEqProofs only[aB,seval]
   exact pR.same hS _ (by simp [gJ,hs])
 have ht:s≠⟨#[116,114,117,101]⟩:=by simpa using h
 simp -implicitDefEqProofs only[aB,seval]
 refine aT (fun h=>?_) (fun h=>?_)
 · have hs:s=⟨#[102,97,105,108]⟩:=by simpa using h
   have hk:=IT (ts:=ks) (by subst hs;simpa [isBuiltin] using hb)
   subst hk
   simp -implicitDefEqProofs only[aB,seval]
   exact pR.same hS _ (by simp [gJ,hs])
 have hf:s≠⟨#[102,97,105,108]⟩:=by simpa using h
 simp -implicitDefEqProofs only[aB,seval]
 refine aT (fun h=>?_) (fun h=>?_)
 · have hs:s=⟨#[61]⟩:=by simpa using h
   obtain⟨x,y,rfl⟩:=s8 (ts:=ks) (by subst hs;simp [isBuiltin] at hb;omega)
   have e:cS σ s [x,y]=qN σ x y:=by subst hs;rfl
   rw[e]
   have dS:dG prog 28 (.slice [x.av,y.av]) (.int .i64 0)=some (.pptr x.av):=bJ (av:=Tm.av) (l:=[x,y]) (i:=0) aQ rfl (aN x)
   have fU:dG prog 28 (.slice [x.av,y.av]) (.int .i64 1)=some (.pptr y.av):=bJ (av:=Tm.av) (l:=[x,y]) (i:=1) aQ rfl (aN y)
   simp -implicitDefEqProofs only[aB,seval]
   refine wX [(0,1),(1,1),(2,1),(3,1),(4,1),(5,1),(6,1),(7,1),(8,1),(9,0),(10,0),(11,1)] [0,1,2,3,4,5,6,7,8,11] cY mixed rfl d9 ?_
   simp -implicitDefEqProofs only[dS,fU,bU,aN,aB,seval,pL]
   refine(C9 hN hg ho x y (hv x (by simp)) (hv y (by simp)) bb _ hS).mono ?_
   rintro _ s2 ⟨rfl,hP⟩
   simp -implicitDefEqProofs only[aB,seval]
   refine⟨d9,?_⟩
   refine(rD _ _).to ?_
   simp -implicitDefEqProofs only[aB,seval]
   exact⟨d9,rfl,hP⟩
 have he:s≠⟨#[61]⟩:=by simpa using h
 simp -implicitDefEqProofs only[aB,seval]
 refine aT (fun h=>absurd (by simpa using h) hne) (fun h=>?_)
 simp -implicitDefEqProofs only[aB,seval]
 refine aT (fun h=>?_) (fun h=>?_)
 · have hs:s=⟨#[61,61]⟩:=by simpa using h
   obtain⟨x,y,rfl⟩:=s8 (ts:=ks) (by subst hs;simp [isBuiltin] at hb;omega)
   have e:cS σ s [x,y]=(gJ (x.same y),σ,[]):=by subst hs;rfl
   rw[e]
   have dS:dG prog 28 (.slice [x.av,y.av]) (.int .i64 0)=some (.pptr x.av):=bJ (av:=Tm.av) (l:=[x,y]) (i:=0) aQ rfl (aN x)
   have fU:dG prog 28 (.slice [x.av,y.av]) (.int .i64 1)=some (.pptr y.av):=bJ (av:=Tm.av) (l:=[x,y]) (i:=1) aQ rfl (aN y)
   simp -implicitDefEqProofs only[aB,seval]
   refine z9 mixed (by decide +kernel) (by decide +kernel) ?_
   simp -implicitDefEqProofs only[dS,fU,bU,aN,aB,seval,pL]
   refine jW (TI x y _) ?_
   simp -implicitDefEqProofs only[aB,seval]
   refine jW (rD _ _) ?_
   simp -implicitDefEqProofs only[aB,seval]
   exact pR.same hS _ rfl
 have hee:s≠⟨#[61,61]⟩:=by simpa using h
 simp -implicitDefEqProofs only[aB,seval]
 refine aT (fun h=>?_) (fun h=>?_)
 · have hs:s=⟨#[105,115]⟩:=by simpa using h
   obtain⟨x,y,rfl⟩:=s8 (ts:=ks) (by subst hs;simp [isBuiltin] at hb;omega)
   have e:cS σ s [x,y]=if y.ev.2≠0 then(y.ev.2,σ,[]) else qN σ x (mQ y.ev.1):=by subst hs;rfl
   rw[e]
   have hy:=hv y (by simp)
   have hin:=IP (N:=N) (Tm.sQ y hy.1)
   have har:=fun st=>G0 y st hy.1
   generalize y.ev.1=a at *
   generalize y.ev.2=ca at *
   have dS:dG prog 28 (.slice [x.av,y.av]) (.int .i64 0)=some (.pptr x.av):=bJ (av:=Tm.av) (l:=[x,y]) (i:=0) aQ rfl (aN x)
   have fU:dG prog 28 (.slice [x.av,y.av]) (.int .i64 1)=some (.pptr y.av):=bJ (av:=Tm.av) (l:=[x,y]) (i:=1) aQ rfl (aN y)
   simp -implicitDefEqProofs only[fU,bU,aN,aB,seval,pL]
   refine(har _).to ?_
   simp -implicitDefEqProofs only[aB,seval]
   refine aT (fun h4=>?_) (fun h4=>?_)
   · simp -implicitDefEqProofs only[aB,seval]
     have h4':ca≠0:=by simpa using h4
     rw[aK h4']
     exact pR.same hS _ rfl
   have h4':ca=0:=by simpa using h4
   subst h4'
   rw[aG (by simp)]
   simp -implicitDefEqProofs only[aB,seval]
   refine wX [(0,1),(1,1),(2,1),(3,1),(4,1),(6,1),(5,0),(7,0),(8,0),(9,1)] [0,1,2,3,4,6,9] cY mixed rfl d9 ?_
   simp -implicitDefEqProofs only[dS,bU,aN,aB,seval,pL]
   refine(aNU a _).to ?_
   rw[←aTN]
   simp -implicitDefEqProofs only[aB,seval]
   refine⟨d9,?_⟩
   refine(C9 hN hg ho x (mQ a) (hv x (by simp)) hin bb _ hS).mono ?_
   rintro _ s2 ⟨rfl,hP⟩
   simp -implicitDefEqProofs only[aB,seval]
   refine⟨d9,?_⟩
   refine(rD _ _).to ?_
   simp -implicitDefEqProofs only[aB,seval]
   exact⟨d9,rfl,hP⟩
 have his:s≠⟨#[105,115]⟩:=by simpa using h
 simp -implicitDefEqProofs only[aB,seval]
 refine aT (fun h=>?_) (fun h=>?_)
 · have hs:s=⟨#[97,114,103]⟩:=by simpa using h
   obtain⟨x,y,z,rfl⟩:=aG2 (ts:=ks) (by subst hs;simp [isBuiltin] at hb;omega)
   have e:cS σ s [x,y,z]=tV σ x y z:=rfl
   rw[e,aL0]
   have hz:=hv z (by simp)
   have hy:=hv y (by simp)
   have hga:=aFZ x y z rfl
   have hgv:(pV x y).2=0→a9 N (pV x y).1:=fun h=>by
    unfold pV at h ⊢
    split at h
    · cases h
    rename_i h1
    rw[aG h1]
    split at h
    · cases h
    rename_i h2
    rw[aG h2]
    cases hu:l8 x y with
    | none=>rw[hu] at h;cases h
    | some u=>exact qD N y (fun h=>h1 (.inr h)) hy u (RP hu)
   generalize (pV x y).1=u at *
   generalize (pV x y).2=cu at *
   have H3:dG prog 28 (.slice [x.av,y.av,z.av]) (.int .i64 2)=some (.pptr z.av):=bJ (av:=Tm.av) (l:=[x,y,z]) (i:=2) aQ rfl (aN z)
   simp only[bH,bG] at hga
   simp -implicitDefEqProofs only[aB,seval,pL]
   refine(hga _).to ?_
   simp -implicitDefEqProofs only[aN,Tm.eO,Tm.d8,aB,↓aX,seval,pL]
   refine aT (fun h4=>?_) (fun h4=>?_)
   · simp -implicitDefEqProofs only[aB,seval]
     have h4':cu≠0:=by simpa using h4
     rw[aG h4']
     exact pR.same hS _ rfl
   have h4':cu=0:=by simpa using h4
   subst h4'
   rw[aK rfl]
   simp -implicitDefEqProofs only[aB,seval]
   refine wX [(0,1),(1,1),(2,1),(3,1),(4,1),(5,1),(6,0),(7,0),(8,1)] [0,1,2,3,4,5,8] cY mixed rfl d9 ?_
   simp -implicitDefEqProofs only[H3,bU,aN,aB,seval,pL]
   refine(C9 hN hg ho z u hz (hgv rfl) bb _ hS).mono ?_
   rintro _ s2 ⟨rfl,hP⟩
   simp -implicitDefEqProofs only[aB,seval]
   refine⟨d9,?_⟩
   refine(rD _ _).to ?_
   simp -implicitDefEqProofs only[aB,seval]
   exact⟨d9,rfl,hP⟩
 have aFR:s≠⟨#[97,114,103]⟩:=by simpa using h
 simp -implicitDefEqProofs only[aB,seval,pL]
 refine(aN4 s _).to ?_
 simp -implicitDefEqProofs only[aB,seval]
 refine aT (fun h=>?_) (fun h=>?_)
 · have hlen:ks.length=2:=by
    rcases hcs with ⟨h2,h3⟩ | ⟨h2,h3⟩ | ⟨h2,h3⟩ | ⟨h2,h3⟩
    · exact h2
    · simp [ht,hf] at h3
    · rcases h3 with rfl | rfl | rfl | rfl<;>exact absurd h (by decide)
    · exact absurd h3 aFR
   obtain⟨x,y,rfl⟩:=s8 hlen
   have e:cS σ s [x,y]=(vU s x y,σ,[]):=by simp only[cS];rw[aK h]
   rw[e]
   have hc:=BB x y rfl
   simp only[bH,bG] at hc
   simp -implicitDefEqProofs only[aB,seval,pL]
   refine(hc _).to ?_
   simp -implicitDefEqProofs only[aB,seval]
   exact pR.same hS _ rfl
 · have hlen:ks.length=1∧(s=⟨#[118,97,114]⟩∨s=⟨#[110,111,110,118,97,114]⟩∨s=⟨#[97,116,111,109]⟩∨s=⟨#[105,110,116]⟩):=by
    rcases hcs with ⟨h2,h3⟩ | ⟨h2,h3⟩ | ⟨h2,h3⟩ | ⟨h2,h3⟩
    · simp [h,he,hne,hee,his] at h3
    · simp [ht,hf] at h3
    · exact⟨h2,h3⟩
    · exact absurd h3 aFR
   obtain⟨x,rfl⟩:=EP hlen.1
   have e:cS σ s [x]=(gJ (rZ s x),σ,[]):=rfl
   rw[e]
   have hc:=aF1 x rfl hlen.2
   simp only[bH,bG] at hc
   simp -implicitDefEqProofs only[aB,seval,pL]
   refine(hc _).to ?_
   simp -implicitDefEqProofs only[aB,seval]
   exact pR.same hS _ rfl
theorem RT(N:Nat)(σ:Sub):tU 4 (cH N σ):=by
 intro e h
 simp only[cH,cE] at h
 obtain⟨i,_,rfl⟩:=h
 refine⟨G2 _,?_⟩
 cases σ (i:Int) with
 | none=>rfl
 | some u=>exact Tm.d8 u
theorem C5(N:Nat)(σ:Sub):∀e∈cH N σ,e.b9=false:=by
 intro e h
 simp only[cH,cE] at h
 obtain⟨i,_,rfl⟩:=h
 cases σ (i:Int) with
 | none=>rfl
 | some u=>exact Tm.eO u
theorem sH(N:Nat)(σ:Sub):(cH N σ).length=N:=by simp [cH]
theorem LQ{N:Nat}(h0:0<N)(hN:N≤1048576)(σ:Sub){st:aA}{K:AV→aA→Prop}(hK:∀b,st b=none→eP N (st.aC b (.cells ((cH N σ).flatMap AV.cells))) b σ→K (.mslice b 0 N 4) (st.aC b (.cells ((cH N σ).flatMap AV.cells)))) :
 kD prog 28 st (.fslice []) (.slice (cH N σ)) K:=by
 have hl:=sH N σ
 refine fT (P:=prog) (st:=st) (b:=0) (l:=[]) (xs:=cH N σ) (x:=.slice (cH N σ)) (K:=K) aQ bM bO rfl rfl (RT N σ) (by simp) (by simp) (by simp only[bS,hl];omega) (by simp only[bS,hl];omega) (fun b hb=>?_)
 have hne: []++cH N σ≠[]:=by
  rw[e9]
  intro e
  rw[e] at hl
  simp at hl
  omega
 rw[rB hne,jE hne,e9,hl]
 exact hK b (hb hne) (aA.aH _ _ _)
theorem aMH{N:Nat}(h0:0<N)(hN:N≤1048576){σ:Sub}(hg:cD σ)(ho:cF (a9 N) σ)(n:Int)(s:ByteArray)(x y:Tm)(hs:s=⟨#[92,61]⟩)(hx:a9 N x)(hy:a9 N y)(st:aA) :
 aD prog 165 [(Tm.mk 3 n s [x,y]).av,.slice (cH N σ)] st (fun r st'=>r=.int .i64 (gJ (!(iE σ x y).1))∧st'=st):=by
 have ht:s≠⟨#[116,114,117,101]⟩:=by subst hs;decide
 have hf:s≠⟨#[102,97,105,108]⟩:=by subst hs;decide
 have he:s≠⟨#[61]⟩:=by subst hs;decide
 refine aD.done ?_
 simp only[a7 3,bH,bG]
 refine wF [1000000] 2 func165 ntmps165 rfl rfl ?_
 intro _
 have dS:dG prog 28 (.slice [x.av,y.av]) (.int .i64 0)=some (.pptr x.av):=bJ (av:=Tm.av) (l:=[x,y]) (i:=0) aQ rfl (aN x)
 have fU:dG prog 28 (.slice [x.av,y.av]) (.int .i64 1)=some (.pptr y.av):=bJ (av:=Tm.av) (l:=[x,y]) (i:=1) aQ rfl (aN y)
 simp -implicitDefEqProofs only[aB,seval,pL]
 refine aT (fun h=>absurd (by simpa using h) ht) (fun h=>?_)
 simp -implicitDefEqProofs only[aB,seval]
 refine aT (fun h=>absurd (by simpa using h) hf) (fun h=>?_)
 simp -implicitDefEqProofs only[aB,seval]
 refine aT (fun h=>absurd (by simpa using h) he) (fun h=>?_)
 simp -implicitDefEqProofs only[aB,seval]
 refine aT (fun h=>?_) (fun h=>absurd hs (by simpa using h))
 simp -implicitDefEqProofs only[aB,seval]
 refine wX [(0,1),(1,1),(2,1),(3,1),(4,1),(5,1),(6,1),(7,1),(8,1),(9,1),(10,0),(11,0),(12,1),(13,0),(14,1)] [0,1,2,3,4,5,6,7,8,9,12,14] cY mixed rfl d9 ?_
 simp -implicitDefEqProofs only[dS,fU,bU,aN,aB,seval,pL]
 refine LQ h0 hN σ fun b hb hA0=>?_
 have hD0:aL (st.aC b (.cells ((cH N σ).flatMap AV.cells))) st:=(aL.refl _).aC hb
 generalize st.aC b (.cells ((cH N σ).flatMap AV.cells))=s0 at *
 simp -implicitDefEqProofs only[aB,seval]
 refine⟨d9,?_⟩
 refine(C9 hN hg ho x y hx hy b _ hA0).mono ?_
 rintro _ s2 ⟨rfl,hA,hk⟩
 simp -implicitDefEqProofs only[aB,seval]
 refine⟨d9,?_⟩
 refine(rD _ _).to ?_
 simp -implicitDefEqProofs only[aB,seval]
 refine⟨d9,rfl,fun q=>?_⟩
 have key:∀o,st q=some o→s2 q=some o:=fun o h=>hk q o ((hD0 q).2 o h) (by rintro rfl;rw[hb] at h;cases h)
 refine⟨fun h=>?_,key⟩
 cases hq:st q with
 | none=>rfl
 | some o=>rw[key o hq] at h;cases h
theorem aMG{N:Nat}(h0:0<N)(hN:N≤1048576){σ:Sub}(hg:cD σ)(ho:cF (a9 N) σ)(n:Int)(s:ByteArray)(ks:List Tm)(hb:isBuiltin s (ks.length:Int)=true)(hv:∀x∈ks,a9 N x)(bb:Nat)(st:aA)(hS:eP N st bb σ) :
 aD prog 165 [(Tm.mk 3 n s ks).av,.mslice bb 0 N 4] st (pR N bb st (cS σ s ks)):=by
 by_cases hs:s=⟨#[92,61]⟩
 · obtain⟨x,y,rfl⟩:=s8 (ts:=ks) (by subst hs;simp [isBuiltin] at hb;omega)
   have e:cS σ s [x,y]=(gJ (!(iE σ x y).1),σ,[]):=by subst hs;rfl
   rw[e]
   have hc:=aMH h0 hN hg ho n s x y hs (hv x (by simp)) (hv y (by simp)) cY
   refine(aD.MW (args':=[(Tm.mk 3 n s [x,y]).av,.mslice bb 0 N 4]) (st:=st) rfl hc fun h vs S V=>?_).mono ?_
   · simp only[cO] at V ⊢
     obtain⟨v,vs',rfl,V1,w,ws',rfl,V2,rfl⟩:=V
     refine⟨v,[w],rfl,V1.mono ((aL.cY st).step h),w,[],rfl,?_,rfl⟩
     have h2:=V2.fz S hS (C5 N σ) ⟨4,z8 N σ⟩
     have h3:(AV.mslice bb 0 N 4).fz bb (cH N σ)=.slice (cH N σ):=by simp [AV.fz,sH]
     rw[h3] at h2
     exact h2.mono ((aL.cY (st.erase bb)).step h)
   · rintro _ _ ⟨rfl,rfl⟩
     exact pR.same hS _ rfl
 · exact aMF hN hg ho n s ks hb hs hv bb st hS
abbrev B7:=zi tI_3 (zi zI_3 (zi aZ (zi tI_28 (zi zI_28 (zi aQ (zi bM (zi bO (zi cA (zi tI_52 (zi zI_52 (zi bX (zi bY (zi bZ (zi b7 bV))))))))))))))
theorem aMD{N:Nat}{σ:Sub}(hok:cF (cB N) σ){f:Nat}{t u:Tm}(hw:fF σ f t u)(ht:cB N t)(st:aA):aD prog 241 [t.av,.slice (cH N σ)] st (fun r st'=>r=u.av∧st'=st):=by
 refine aD.done ?_
 refine wF [1000000,2] 2 func241 ntmps241 rfl rfl ?_
 intro _
 have hlen:(cH N σ).length=N:=by simp [cH]
 simp -implicitDefEqProofs only[aB,seval,B7]
 intro b2 h2 b4 h4
 have hne:b4≠b2:=by rintro rfl;rw[aA.aH] at h4;cases h4
 have hn4:st b4=none:=by rw[aA.aF st _ hne] at h4;exact h4
 refine mW (σ:=Nat×Tm) [1000000,2] [1,2,4] (fun p=>fF σ p.1 p.2 u∧cB N p.2) (fun p=>[]) (fun p=>(st.aC b2 (.cells p.2.av.cells)).aC b4 (.cells [.int .i64 0,.int .i64 0,.str ⟨#[]⟩,.fslice []])) (fun p=>p.1) (by decide +kernel) ⟨(f,t),⟨hw,ht⟩,aP.mk (by simp -implicitDefEqProofs only[aB,seval])⟩ ?_
 rintro⟨g,t⟩ ⟨hw,ht⟩
 obtain⟨k,n,s,ts⟩:=t
 simp only at hw ht
 simp only[a7]
 have sU:k≠1∨σ n=none→u=.mk k n s ts:=fun h=>by
  cases hw with
  | stop _=>rfl
  | go h1 h2 _=>
   simp only[Tm.k] at h1
   rcases h with h | h
   · exact absurd h1 h
   · rw[show σ n=some _ from h2] at h;cases h
 simp -implicitDefEqProofs only[hne.symm,aB,seval,B7]
 refine cT (fun h=>?_) (fun h=>?_)
 case refine_2=>
  simp -implicitDefEqProofs only[h,aS,hne.symm,aB,seval,B7]
  simp only[mY,cI] at h
  rw[sU (.inl h),←a7]
  exact⟨Tm.soft _,((aL.refl _).aC h2).aC hn4⟩
 simp only[bL] at h
 subst h
 obtain⟨hn0,hn1,_⟩:=ht.var
 obtain⟨i,rfl⟩:∃i:Nat,n=i:=⟨n.toNat,by omega⟩
 have hi:i<N:=by omega
 have hi':decide ((i:Int)<(N:Int))=true:=by simp;omega
 simp -implicitDefEqProofs only[dU,hi',gX,hne.symm,hlen,aB,seval,B7]
 have hat:dG prog 28 (.slice (cH N σ)) (.int .i64 (i:Int))=some (.pptr (cellOf (σ (i:Int)))):=bJ (av:=fun i:Nat=>cellOf (σ (i:Int))) aQ (List.getElem?_range hi) (G2 _)
 cases hw with
 | stop hs=>
  rw[show σ (i:Int)=none from hs rfl] at hat
  simp only[cellOf] at hat
  simp -implicitDefEqProofs only[hat,dU,aS,hne.symm,aB,seval,B7]
  exact⟨by rw[←a7,Tm.soft],((aL.refl _).aC h2).aC hn4⟩
 | go h1 h2' h3=>
  simp only[Tm.n] at h2'
  have ho:=hok _ _ h2'
  rename_i g' u'
  obtain⟨k',n',s',ts'⟩:=u'
  have hk':¬k'=0:=by have:=ho.kind.1;omega
  rw[h2'] at hat
  simp only[cellOf,a7] at hat
  simp -implicitDefEqProofs only[hat,hk',eK,aS,hne.symm,aB,seval,B7]
  rw[aA.wS hne,aA.nN _ _ _ hne]
  refine⟨(g',.mk k' n' s' ts'),Nat.lt_succ_self _,⟨h3,ho⟩,?_⟩
  simp only[a7]
  exact aP.mk (by simp -implicitDefEqProofs only[aB,seval])
abbrev r7:=zi tI_3 (zi zI_3 (zi aZ (zi tI_9 (zi zI_9 (zi eF (zi tI_28 (zi zI_28 (zi aQ (zi bM (zi bO (zi cA (zi tI_52 (zi zI_52 (zi bX (zi bY (zi bZ (zi b7 bV)))))))))))))))))
theorem SB{N:Nat}{σ:Sub}{R:Int→Tm}{rk:Int→Nat}{B:Nat}(G:Good σ R rk B)(hok:cF (a9 N) σ) :
 ∀(room:Nat) (t:Tm) (st:aA),room≤120→a9 N t→aD prog 200 [t.av,.slice (cH N σ),.int .i64 (room:Int)] st (Full (t.aJ R) room st)
 | room,t,st,hr,ht=>by
  have IH:=fun(JE:Nat) (hlt:JE<room) (x:Tm) st=>SB G hok JE x st
  obtain⟨f,hw⟩:=G.wk t
  generalize wk σ t=u at *
  have ID:cF (cB N) σ:=fun n u hu=>(hok n u hu).1
  have hsu:=hw.all (p:=a9 N) hok ht
  have hcw:=fun st=>aMD ID hw ht.1 st
  obtain⟨k,n,s,ts⟩:=u
  have hv:=aFK G hw (hsu.1.2.1)
  rw[hv]
  obtain⟨hlen,p8⟩:=Tm.pI (hsu.1.small)
  have aZ1:=hsu.1.kind.2
  have hkn:=hsu.1.all.2
  have hkk:∀x∈ts,a9 N x:=fun x hx=>by
   refine⟨hkn x hx,?_⟩
   have:=hsu.2
   rw[Tm.jS] at this
   have:=qF (f:=Tm.nodes) hx
   omega
  refine aD.nB (aD.fin ?_)
  refine wF [1000000,3,8] 3 func200 ntmps200 rfl rfl ?_
  intro _
  simp -implicitDefEqProofs only[aB,seval,r7]
  intro b3 h3 b6 h6
  have h63:b6≠b3:=by rintro rfl;rw[aA.aH] at h6;cases h6
  have hn6:st b6=none:=by rw[aA.aF st _ h63] at h6;exact h6
  have hwr:∀z:Int,-1≤z→z≤200→IntKind.i64.wrap z=z:=fun z h1 h2=>wrap64 (by omega) (by omega)
  have hw1:=hwr ((room:Int) - 1) (by omega) (by omega)
  refine aT (fun h=>?_) (fun h=>?_)
  · simp only[bL] at h
    obtain rfl:room=0:=by omega
    simp -implicitDefEqProofs only[aS,aB,↓aX,seval,r7]
    refine⟨0,[],_,rfl,by simp,by simp,⟨4,by simp⟩,st,(fun x=>by by_cases e3:x=b3<;>by_cases e6:x=b6<;>simp_all [aA.aC]),rfl,Tm.zero,-1,?_,Int.le_refl _,?_⟩
    · simp only[Tm.zero,a7,g7,jZ,fQ,nW,rJ,bH,bG]
    · rw[aG (by rw[Tm.jS];omega)];decide
  simp only[cI] at h
  simp -implicitDefEqProofs only[h63.symm,aB,seval,r7]
  refine(hcw _).to ?_
  simp only[a7]
  simp -implicitDefEqProofs only[aS,h63.symm,hw1,aB,↓aX,seval,r7]
  intro b8 h8
  have h83:b8≠b3:=by rintro rfl;simp [aA.aC] at h8
  have h86:b8≠b6:=by rintro rfl;simp [aA.aC,h63] at h8
  have hn8:st b8=none:=by rw[aA.aF _ _ h83,aA.aF _ _ h86,aA.aF _ _ h83] at h8;exact h8
  rw[aA.wS h63]
  have hW6:((st.aC b6 (.cells [.int .i64 0,.int .i64 0,.str ⟨#[]⟩,.fslice []])).aC b3 (.cells [.int .i64 k,.int .i64 n,.str s,.slice (ts.map Tm.av)])) b6=some (.cells [.int .i64 0,.int .i64 0,.str ⟨#[]⟩,.fslice []]):=by rw[aA.aF _ _ h63,aA.aH]
  have hW3:((st.aC b6 (.cells [.int .i64 0,.int .i64 0,.str ⟨#[]⟩,.fslice []])).aC b3 (.cells [.int .i64 k,.int .i64 n,.str s,.slice (ts.map Tm.av)])) b3=some (.cells [.int .i64 k,.int .i64 n,.str s,.slice (ts.map Tm.av)]):=aA.aH _ _ _
  have hWd:∀Y Z,aL ((((st.aC b6 (.cells [.int .i64 0,.int .i64 0,.str ⟨#[]⟩,.fslice []])).aC b3 (.cells [.int .i64 k,.int .i64 n,.str s,.slice (ts.map Tm.av)])).aC b8 Z).aC b6 Y) st:=fun Y Z x=>by
   by_cases e3:x=b3<;>by_cases e6:x=b6<;>by_cases e8:x=b8<;>simp_all [aA.aC]
  generalize ((st.aC b6 (.cells [.int .i64 0,.int .i64 0,.str ⟨#[]⟩,.fslice []])).aC b3 (.cells [.int .i64 k,.int .i64 n,.str s,.slice (ts.map Tm.av)]))=W at *
  have wA:(Tm.mk k n s (ts.map (Tm.aJ R))).nodes=1+aM Tm.nodes (ts.map (Tm.aJ R)):=Tm.jS _ _ _ _
  refine dW (σ:=Nat×List Tm×Int) [1000000,3,8] [1,3,6,7,8] ts
   (fun i p=>(p.2.1.map Tm.av≠[]→(W.aC b8 (.cells ([.int .i64 k,.int .i64 n,.str s]++ [bQ 4 p.1 (p.2.1.map Tm.av)]))) p.1=none)∧p.2.1.length=i∧-1≤p.2.2 ∧
    (0≤p.2.2→p.2.1=(ts.take i).map (Tm.aJ R)∧p.2.2=(room:Int) - 1 - aM Tm.nodes p.2.1)∧(p.2.2<0→room<1+aM Tm.nodes (ts.map (Tm.aJ R))))
   (fun i p=>[(9,.int .i64 p.2.2),(10,.int .i64 i)])
   (fun i p=>j0 W b8 p.1 [.int .i64 k,.int .i64 n,.str s] (p.2.1.map Tm.av)) (by decide +kernel)
   ⟨(0,[],(room:Int) - 1),⟨fun h=>absurd rfl h,rfl,by simp only;omega,fun _=>⟨by simp,by simp [aM]⟩,fun h=>by simp only at h;omega⟩,aP.mk (by simp -implicitDefEqProofs only[aB,↓aX,seval])⟩ (fun i x p hx hlt bF v9 hinv=>?_) (fun p hge hinv=>?_)
  · obtain⟨b,acc,left⟩:=p
    obtain⟨i1,i2,i3,i4,i5⟩:=hinv
    simp only at i1 i2 i3 i4 i5
    have h3o:=mR i1 (x:=b3) (by rw[hW3];simp) h83.symm
    rw[hW3] at h3o
    simp -implicitDefEqProofs only[bF,dU,gX,aE,h3o,aB,seval,r7]
    refine aT (fun h9=>?_) (fun h9=>?_)
    case refine_2=>
     simp only[cI] at h9
     have hbo:=kW i1
     have h6o:=mR i1 (x:=b6) (by rw[hW6];simp) h86.symm
     rw[hW6] at h6o
     simp -implicitDefEqProofs only[aS,hbo,h6o,jF,aB,seval,r7]
     obtain⟨g5,g6⟩:=sZ (o:=.cells [.int .i64 k,.int .i64 n,.str s,bQ 4 b (acc.map Tm.av)]) i1 (show W b6≠none by rw[hW6];simp) h86.symm
     refine⟨b,_,_,g5,g6,qL _,⟨4,iC _⟩,st,hWd _ _,rfl,.mk k n s acc,left,?_,i3,?_⟩
     · simp only[jZ,g7,bH,bG,fQ,nW,m9,a7]
     · rw[wA]
       skip
       rw[aG (by have:=i5 (by omega);omega)]
       omega
    simp only[bL] at h9
    obtain⟨e1,e2⟩:=i4 h9
    have fV:=cL hx
    have hsl:=aWF Tm.nodes (ts.map (Tm.aJ R)) (i+1)
    rw[←List.map_take,f8,hx] at hsl
    simp only[K2,lB,bH,bG,B3,aM,←e1] at hsl
    obtain⟨JE,rfl⟩:∃r:Nat,left=r:=⟨left.toNat,by omega⟩
    have dH:(acc.map Tm.av).length=i:=by rw[aE,i2]
    have hw:=bK (n:=(i:Int)+1)
    have hbo:=kW i1
    simp -implicitDefEqProofs only[h3o,bJ (av:=Tm.av) aQ hx (aN x),bU,aN,aB,seval,r7]
    refine(IH JE (by omega) x _ (by omega) (hkk x fV)).mono ?_
    rintro _ _ ⟨rfl,y,aTS,rfl,hl1,hl2⟩
    simp -implicitDefEqProofs only[bU,aN,Tm.d8,Tm.eO,hbo,rA,aB,↓aX,seval,r7]
    refine fT aQ bM bO rfl rfl (g9 (aN _) (Tm.d8 _)) (iC _) i1 (by simp only[dH,bA,bS];omega) (by simp only[dH,bA,bS];omega) (fun b' hb'=>?_)
    rw[show acc.map Tm.av++ [y.av]=(acc++ [y]).map Tm.av by simp] at hb' ⊢
    obtain⟨g1,g2,g3⟩:=uH hb'
    simp only[gF,e9] at g1 g3
    simp -implicitDefEqProofs only[g3,pS,jF,g1,hw,aS,aB,seval,r7]
    refine⟨(b',acc++ [y],aTS),⟨g2,by simp [i2],hl1,fun h=>?_,fun h=>?_⟩,aP.mk (by simp -implicitDefEqProofs only[aB,seval])⟩
    · simp only at h
      split at hl2
      · obtain⟨rfl,hl3⟩:=hl2
        refine⟨by rw[f8,hx];simp [e1],?_⟩
        simp only[B3,aM]
        omega
      · omega
    · simp only at h
      split at hl2
      · omega
      · omega
  · obtain⟨b,acc,left⟩:=p
    obtain⟨i1,i2,i3,i4,i5⟩:=hinv
    simp only at i1 i2 i3 i4 i5
    rw[eM] at i4
    have h3o:=mR i1 (x:=b3) (by rw[hW3];simp) h83.symm
    rw[hW3] at h3o
    simp -implicitDefEqProofs only[hge,aE,h3o,aB,seval,r7]
    have hbo:=kW i1
    have h6o:=mR i1 (x:=b6) (by rw[hW6];simp) h86.symm
    rw[hW6] at h6o
    simp -implicitDefEqProofs only[aS,hbo,h6o,jF,aB,seval,r7]
    obtain⟨g5,g6⟩:=sZ (o:=.cells [.int .i64 k,.int .i64 n,.str s,bQ 4 b (acc.map Tm.av)]) i1 (show W b6≠none by rw[hW6];simp) h86.symm
    refine⟨b,_,_,g5,g6,qL _,⟨4,iC _⟩,st,hWd _ _,rfl,.mk k n s acc,left,?_,i3,?_⟩
    · simp only[jZ,g7,bH,bG,fQ,nW,m9,a7]
    · rw[wA]
      skip
      rcases Int.lt_or_le left 0 with h9 | h9
      · rw[aG (by have:=i5 h9;omega)];exact h9
      · obtain⟨e1,e2⟩:=i4 h9
        rw[←e1] at i5 ⊢
        rw[aK (by omega)]
        exact⟨rfl,by omega⟩
termination_by room=>room
decreasing_by exact hlt
abbrev aY (l:List Tm):AV:=.agg [.slice (l.map Tm.av)]
theorem P5:∀(a b:List Tm) (l:List Int),bR (a++b) l=bR b (bR a l)
 | [],_,_=>rfl
 | t::a,b,l=>by simp only[gF,bR,P5 a b]
abbrev PC:=zi tI_3 (zi zI_3 (zi aZ (zi tI_28 (zi zI_28 (zi aQ (zi bM (zi bO (zi cA (zi tI_40 (zi zI_40 (zi dC (zi fH (zi fJ (zi fL (zi tI_52 (zi zI_52 (zi bX (zi bY (zi bZ (zi b7 bV))))))))))))))))))))
theorem TB(q:List Tm)(st:aA)(hwf:∀t∈q,t.wf=true)(hsz:aM Tm.nodes q≤1099511627776):aD prog 127 [.slice (q.map Tm.av)] st (fun r st'=>r=.slice ((bR q []).map iv)∧st'=st):=by
 refine aD.done ?_
 refine wF [1000000] 1 func127 ntmps127 rfl rfl ?_
 simp only[dK,AV.fits,dZ,aE]
 intro ⟨hl,_⟩
 simp -implicitDefEqProofs only[aB,seval,PC]
 refine tL (σ:=Unit) [1000000] [0,2] q 1 3 (fun i _=>(bR (q.take i) []).map iv) (fun _ _=>True) (fun i _=>[(4,.int .i64 i)]) (fun _ _=>st) (fun i _ _ e he=>by simp only[cE] at he;obtain⟨t,_,rfl⟩:=he;exact⟨rfl,rfl⟩) (by decide +kernel) ⟨(),0,trivial,fun h=>absurd rfl h,aP.mk (by simp -implicitDefEqProofs only[kP,lC,bR,bG,aB,↓aX,seval])⟩ (fun i x s b hx hlt bF hdr hinv hb=>?_) (fun s b hge hinv=>?_)
 case refine_2=>
  simp -implicitDefEqProofs only[hge,fQ,jA,rJ,nC,eM,aE,aB,seval,PC]
  exact⟨rfl,aL.refl _⟩
 have hw:=bK (n:=(i:Int)+1)
 have hat:=bJ (av:=Tm.av) aQ hx (aN x)
 have hst:=uT Tm.nodes hx
 have hvl:=wQ (q.take i) []
 simp only[bS,gN] at hvl
 have htk:x.vars (bR (q.take i) [])=bR (q.take (i+1)) []:=by
  rw[f8,hx,P5]
  try rfl
 simp -implicitDefEqProofs only[bF,aE,hat,aB,seval,PC]
 refine(DC x (bR (q.take i) []) b st (hwf x (cL hx)) hb (by omega)).mono ?_
 rintro _ _ ⟨b',rfl,rfl,hb'⟩
 rw[htk] at hb' ⊢
 simp -implicitDefEqProofs only[aB,seval]
 exact⟨(),b',hb',aP.mk (by simp -implicitDefEqProofs only[hw,aB,seval])⟩
end Go.AW
namespace Go.AW
theorem bT.of{h:bB}{st st':aA}(hk:∀x,st x=none→st' x=none):bT h st h st':=⟨cQ _,fun x _ e=>⟨rfl,hk x e⟩,fun _ c _ _ e=>⟨c,e,rfl⟩⟩
theorem fR.aQV{φ:AF}{st:aA}{b c:Nat}{es cs:List AV}(hbc:b≠c)(h1:st b=some (.cells (es.flatMap AV.cells)))(h2:∀e∈es,e.b9=false)(h3:jD es)(hc:st c=some (.cells cs)) :
 fR φ st φ ((st.erase b).aC c (.cells (jH b es cs))):=fun h tmps S F=>by
 have T2:bT h (st.erase b) h ((st.erase b).aC c (.cells (jH b es cs))):=bT.of fun x hx=>by
  have:x≠c:=by rintro rfl;simp [aA.erase,dA hbc,hc] at hx
  rw[aA.aF _ _ this];exact hx
 have T:bT h st h ((st.erase b).aC c (.cells (jH b es cs))):=((iZ st b).step h).trans T2
 refine⟨fun x o hx=>?_,T,fun d=>(F d).mono T⟩
 by_cases e:x=c
 · subst e
   rw[aA.aH] at hx
   cases hx
   obtain⟨hl,c0,t,e1,e2,vs,e3,e4⟩:=S x _ hc
   refine⟨hl,c0,t,e1,?_,vs,e3,aW.mono T2 _ _ (aW.fz S h1 h2 h3 cs vs e4)⟩
   rw[xQ,aE];exact e2
 · rw[aA.aF _ _ e] at hx
   have hx':st x=some o:=by
    simp only[aA.erase] at hx
    split at hx
    · cases hx
    · exact hx
   obtain⟨hl,y⟩:=S x o hx'
   exact⟨hl,lD.mono T rfl y⟩
theorem aPS{s0 st:aA}{b:Nat}{l:List AV}(D:aL s0 st):aL (bE s0 b l) (bE st b l):=by
 cases l with
 | nil=>exact D
 | cons y l=>
  intro x
  simp only[bE]
  by_cases e:x=b
  · subst e;simp [aA.aH]
  · rw[aA.aF _ _ e,aA.aF _ _ e];exact D x
end Go.AW
namespace Go.AW
open Go.Proofs.Tryz
abbrev a0C:=zi tI_3 (zi zI_3 (zi aZ (zi tI_40 (zi zI_40 (zi dC (zi fH (zi fJ (zi fL (zi tI_52 (zi zI_52 (zi bX (zi bY (zi bZ (zi b7 (zi bV (zi tI_91 zI_91))))))))))))))))
mutual
def Tm.sh(m:Int):Tm→Tm
 | .mk k n s ts=>.mk k (if k=1 then IntKind.i64.wrap (n+m) else n) s (KA m ts)
def KA(m:Int):List Tm→List Tm
 | []=>[]
 | t::ts=>t.sh m::KA m ts
end
theorem aJ6(m:Int):∀ts:List Tm,KA m ts=ts.map (Tm.sh m)
 | []=>rfl
 | t::ts=>by simp only[KA,bH,aJ6 m ts]
theorem Tm.OY(m k n:Int)(s:ByteArray)(ts:List Tm):(Tm.mk k n s ts).sh m=.mk k (if k=1 then IntKind.i64.wrap (n+m) else n) s (ts.map (Tm.sh m)):=by simp only[Tm.sh,aJ6]
abbrev oG:=zi tI_3 (zi zI_3 (zi aZ (zi tI_9 (zi zI_9 (zi eF (zi tI_28 (zi zI_28 (zi aQ (zi bM (zi bO (zi cA (zi tI_52 (zi zI_52 (zi bX (zi bY (zi bZ (zi b7 bV)))))))))))))))))
theorem L0(m:Int):∀(t:Tm) (st:aA),t.small=true→aD prog 199 [t.av,.int .i64 m] st (fun r st'=>r=(t.sh m).av∧st'=st)
 | .mk k n s ts,st,hsm=>by
  obtain⟨hlen,p8⟩:=Tm.pI hsm
  have IH:=fun(x:Tm) (hx:x∈ts) st=>L0 m x st (p8 x hx)
  refine aD.rH (aD.fin ?_)
  simp only[a7]
  refine wF [1000000,5] 2 func199 ntmps199 rfl rfl ?_
  simp only[dK,AV.fits,dZ,aE]
  intro ⟨_,_,_,hl,_⟩
  simp -implicitDefEqProofs only[aS,aB,↓aX,seval,oG]
  intro b2 hb2 c hc
  have hne:c≠b2:=by rintro rfl;rw[aA.aH] at hc;cases hc
  have hn2:st c=none:=by rw[aA.aF st _ hne] at hc;exact hc
  have o7:b2≠c:=dA hne
  have hS:(st.aC b2 (.cells [AV.int .i64 0,AV.int .i64 0,AV.str ⟨#[]⟩,AV.fslice []])) b2≠none:=by rw[aA.aH];simp
  refine aT (fun h=>?_) (fun h=>?_)
  · simp only[bL] at h
    simp -implicitDefEqProofs only[aS,d4,aB,seval,oG]
    refine dW (σ:=Nat) [1000000] [1,2,4,5] ts (fun i b=>(((ts.take i).map (Tm.sh m)).map Tm.av≠[]→(aA.aC (st.aC b2 (.cells [AV.int .i64 0,AV.int .i64 0,AV.str ⟨#[]⟩,AV.fslice []])) c (.cells ([AV.int .i64 k,AV.int .i64 (IntKind.i64.wrap (n+m)),AV.str s]++ [bQ 4 b (((ts.take i).map (Tm.sh m)).map Tm.av)]))) b=none)) (fun i b=>[(6,.int .i64 i)]) (fun i b=>j0 (st.aC b2 (.cells [AV.int .i64 0,AV.int .i64 0,AV.str ⟨#[]⟩,AV.fslice []])) c b [AV.int .i64 k,AV.int .i64 (IntKind.i64.wrap (n+m)),AV.str s] (((ts.take i).map (Tm.sh m)).map Tm.av)) (by decide +kernel)
     ⟨0,fun h=>absurd rfl h,aP.mk (by simp -implicitDefEqProofs only[aB,↓aX,seval])⟩ (fun i x b hx hlt bF hdr hinv=>?_) (fun b hge hinv=>?_)
    case refine_1=>
     have hw:=bK (n:=(i:Int)+1)
     have dH:(((ts.take i).map (Tm.sh m)).map Tm.av).length=i:=by simp only[aE,dY];omega
     have htk:(ts.take (i+1)).map (Tm.sh m)=(ts.take i).map (Tm.sh m)++ [(Tm.sh m) x]:=by rw[f8,hx];simp
     have hbo:=kW hinv
     simp -implicitDefEqProofs only[aE,bF,aB,seval,oG]
     refine wP [(0,1),(2,1),(4,1),(7,1),(1,2),(3,2),(5,1),(6,2),(8,2),(9,1),(10,0),(11,1),(12,0)] [0,2,4,7,1,3,5,6,8,9,11] mixed ?_
     simp -implicitDefEqProofs only[bJ (av:=Tm.av) aQ hx (aN x),bU,aN,hbo,rA,gN,aB,seval,oG]
     refine jW (IH x (cL hx) _) ?_
     simp -implicitDefEqProofs only[bU,aN,Tm.eO,gN,aB,seval,oG]
     refine fT aQ bM bO rfl rfl (g9 (aN _) (Tm.d8 _)) (iC _) hinv (by simp only[dH,bA,bS];omega) (by simp only[dH,bA,bS];omega) (fun b' hb'=>?_)
     rw[show(((ts.take i).map (Tm.sh m)).map Tm.av)++ [((Tm.sh m) x).av]=((ts.take (i+1)).map (Tm.sh m)).map Tm.av by rw[htk];simp] at hb' ⊢
     obtain⟨g1,g2,g3⟩:=uH hb'
     simp only[gF,e9] at g1 g3
     simp -implicitDefEqProofs only[g3,pS,jF,aS,g1,hw,aS,aB,seval,oG]
     exact⟨b',g2,aP.mk (by simp -implicitDefEqProofs only[aB,seval])⟩
    have hbo:=kW hinv
    rw[eM] at hinv hbo ⊢
    simp -implicitDefEqProofs only[aE,hge,aB,seval,oG]
    simp -implicitDefEqProofs only[hbo,aS,aB,seval,oG]
    have h1:=mR hinv hS o7
    rw[aA.aH] at h1
    simp -implicitDefEqProofs only[h1,jF,aB,seval]
    obtain⟨h2,h3⟩:=sZ (o:=.cells [AV.int .i64 k,AV.int .i64 (IntKind.i64.wrap (n+m)),AV.str s,bQ 4 b ((ts.map (Tm.sh m)).map Tm.av)]) hinv hS o7
    refine⟨b,_,_,h2,h3,qL _,⟨4,iC _⟩,?_,(((aL.refl _).aC hb2).aC hn2).aC hb2⟩
    simp only[g7,bH,bG,fQ,nW,m9,←a7]
    rw[Tm.OY,aK h]
  · simp only[cI] at h
    simp -implicitDefEqProofs only[aB,seval]
    refine dW (σ:=Nat) [1000000] [1,2,4,5] ts (fun i b=>(((ts.take i).map (Tm.sh m)).map Tm.av≠[]→(aA.aC (st.aC b2 (.cells [AV.int .i64 0,AV.int .i64 0,AV.str ⟨#[]⟩,AV.fslice []])) c (.cells ([AV.int .i64 k,AV.int .i64 (n),AV.str s]++ [bQ 4 b (((ts.take i).map (Tm.sh m)).map Tm.av)]))) b=none)) (fun i b=>[(6,.int .i64 i)]) (fun i b=>j0 (st.aC b2 (.cells [AV.int .i64 0,AV.int .i64 0,AV.str ⟨#[]⟩,AV.fslice []])) c b [AV.int .i64 k,AV.int .i64 (n),AV.str s] (((ts.take i).map (Tm.sh m)).map Tm.av)) (by decide +kernel)
     ⟨0,fun h=>absurd rfl h,aP.mk (by simp -implicitDefEqProofs only[aB,↓aX,seval])⟩ (fun i x b hx hlt bF hdr hinv=>?_) (fun b hge hinv=>?_)
    case refine_1=>
     have hw:=bK (n:=(i:Int)+1)
     have dH:(((ts.take i).map (Tm.sh m)).map Tm.av).length=i:=by simp only[aE,dY];omega
     have htk:(ts.take (i+1)).map (Tm.sh m)=(ts.take i).map (Tm.sh m)++ [(Tm.sh m) x]:=by rw[f8,hx];simp
     have hbo:=kW hinv
     simp -implicitDefEqProofs only[aE,bF,aB,seval,oG]
     refine wP [(0,1),(2,1),(4,1),(7,1),(1,2),(3,2),(5,1),(6,2),(8,2),(9,1),(10,0),(11,1),(12,0)] [0,2,4,7,1,3,5,6,8,9,11] mixed ?_
     simp -implicitDefEqProofs only[bJ (av:=Tm.av) aQ hx (aN x),bU,aN,hbo,rA,gN,aB,seval,oG]
     refine jW (IH x (cL hx) _) ?_
     simp -implicitDefEqProofs only[bU,aN,Tm.eO,gN,aB,seval,oG]
     refine fT aQ bM bO rfl rfl (g9 (aN _) (Tm.d8 _)) (iC _) hinv (by simp only[dH,bA,bS];omega) (by simp only[dH,bA,bS];omega) (fun b' hb'=>?_)
     rw[show(((ts.take i).map (Tm.sh m)).map Tm.av)++ [((Tm.sh m) x).av]=((ts.take (i+1)).map (Tm.sh m)).map Tm.av by rw[htk];simp] at hb' ⊢
     obtain⟨g1,g2,g3⟩:=uH hb'
     simp only[gF,e9] at g1 g3
     simp -implicitDefEqProofs only[g3,pS,jF,aS,g1,hw,aS,aB,seval,oG]
     exact⟨b',g2,aP.mk (by simp -implicitDefEqProofs only[aB,seval])⟩
    have hbo:=kW hinv
    rw[eM] at hinv hbo ⊢
    simp -implicitDefEqProofs only[aE,hge,aB,seval,oG]
    simp -implicitDefEqProofs only[hbo,aS,aB,seval,oG]
    have h1:=mR hinv hS o7
    rw[aA.aH] at h1
    simp -implicitDefEqProofs only[h1,jF,aB,seval]
    obtain⟨h2,h3⟩:=sZ (o:=.cells [AV.int .i64 k,AV.int .i64 (n),AV.str s,bQ 4 b ((ts.map (Tm.sh m)).map Tm.av)]) hinv hS o7
    refine⟨b,_,_,h2,h3,qL _,⟨4,iC _⟩,?_,(((aL.refl _).aC hb2).aC hn2).aC hb2⟩
    simp only[g7,bH,bG,fQ,nW,m9,←a7]
    rw[Tm.OY,aG h]
termination_by t=>SizeOf.sizeOf t
decreasing_by have:=List.sizeOf_lt_of_mem hx;simp only[Tm.mk.sizeOf_spec];omega
abbrev aI3:=zi tI_3 (zi zI_3 (zi aZ (zi tI_27 (zi zI_27 (zi eT (zi gO (zi gP (zi iD (zi tI_111 (zi zI_111 (zi kS (zi kT kQ))))))))))))
theorem aMQ(l:List Cl)(g:FuncId)(dJ:List AV)(p:Cl→Bool)(st:aA)(hc:∀x∈l,aD prog g ([bD x]++dJ) st (fun r st'=>r=.bool (p x)∧st'=st)) :
 aD prog 169 [.slice (l.map bD),.func g dJ] st (fun r st'=>∃j:Int,r=.int .i64 j∧decide (0≤j)=l.any p∧st'=st):=by
 refine wF [] 2 func169 ntmps169 rfl rfl ?_
 simp only[dK,AV.fits,dZ,aE]
 intro ⟨hl,_⟩
 simp -implicitDefEqProofs only[aE,aB,seval,aI3]
 refine dW (σ:=Unit) [] [0,1,7] l (fun i _=>(l.drop i).any p=l.any p) (fun i _=>[(8,.int .i64 i)]) (fun _ _=>st) (by decide +kernel) ⟨(),rfl,aP.mk (by simp -implicitDefEqProofs only[aB,↓aX,seval])⟩ (fun i x _ hx hlt bF hdr hinv=>?_) (fun _ hge hinv=>?_)
 case refine_2=>
  simp -implicitDefEqProofs only[hge,aB,seval]
  rw[gU] at hinv
  exact⟨-1,rfl,by rw[←hinv];try rfl⟩
 rw[hdr,zC] at hinv
 have hw:=bK (n:=(i:Int)+1)
 simp -implicitDefEqProofs only[bF,bJ (av:=bD) eT hx (gD x),pW,gD,aB,seval,aI3]
 refine(hc x (cL hx)).to ?_
 simp -implicitDefEqProofs only[aB,seval]
 refine aT (fun h=>?_) (fun h=>?_)
 · simp -implicitDefEqProofs only[aB,seval]
   exact⟨i,rfl,by rw[←hinv,h];simp⟩
 · rw[h,sC] at hinv
   simp -implicitDefEqProofs only[aB,seval]
   exact⟨(),hinv,aP.mk (by simp -implicitDefEqProofs only[hw,aB,seval])⟩
theorem aMI(l:List Cl)(g:FuncId)(dJ:List AV)(p:Cl→Bool)(st:aA)(hc:∀x∈l,aD prog g ([bD x]++dJ) st (fun r st'=>r=.bool (p x)∧st'=st)) :
 aD prog 132 [.slice (l.map bD),.func g dJ] st (fun r st'=>r=.bool (l.any p)∧st'=st):=by
 refine wF [] 2 func132 ntmps132 rfl rfl ?_
 intro _
 simp -implicitDefEqProofs only[aB,seval]
 refine(aMQ l g dJ p st hc).mono ?_
 rintro _ _ ⟨j,rfl,hj,rfl⟩
 simp -implicitDefEqProofs only[hj,aB,seval]
abbrev PK:=zi tI_4 (zi zI_4 (zi cG (zi tI_28 (zi zI_28 (zi aQ (zi bM (zi bO (zi cA (zi tI_52 (zi zI_52 (zi bX (zi bY (zi bZ (zi b7 (zi bV (zi tI_111 (zi zI_111 (zi kS (zi kT kQ)))))))))))))))))))
theorem aNH(c:Cl)(st:aA):aD prog 134 [bD c] st (fun r st'=>r=.bool (oT c)∧st'=st):=by
 obtain⟨⟨k,n,s,ts⟩,b⟩:=c
 have hv:=fun st=>SP (.mk k n s ts) st
 have hp:=fun st=>SS k n s ts st
 simp only[a7] at hv hp
 have hg:=fun st=>SI b st
 simp only[mK,oT,OI]
 simp only[mA] at hg
 generalize (Tm.mk k n s ts).valid=v at *
 refine wF [1000000] 1 func134 ntmps134 rfl rfl ?_
 intro _
 simp -implicitDefEqProofs only[aB,seval,PK]
 refine(hv _).to ?_
 cases v with
 | false=>simp -implicitDefEqProofs only[lV,aB,seval]
 | true=>
  simp -implicitDefEqProofs only[gX,iL,aB,seval,PK]
  refine(hp _).to ?_
  cases hpl:pG k s (ts.length:Int) with
  | false=>simp -implicitDefEqProofs only[lV,aB,seval]
  | true=>
   simp -implicitDefEqProofs only[gX,iL,aB,seval,PK]
   refine(hg _).to ?_
   simp -implicitDefEqProofs only[aB,seval]
abbrev aWN:=zi tI_4 (zi zI_4 (zi cG (zi tI_111 (zi zI_111 (zi kS (zi kT kQ))))))
theorem aMW(c:Cl)(st:aA):aD prog 133 [bD c] st (fun r st'=>r=.bool (!oT c)∧st'=st):=by
 refine wF [1000000] 1 func133 ntmps133 rfl rfl ?_
 intro _
 simp -implicitDefEqProofs only[MJ,pW,gD,aB,seval,aWN]
 refine(aNH c st).to ?_
 simp -implicitDefEqProofs only[aB,seval]
abbrev aWO:=zi tI_3 (zi zI_3 (zi aZ (zi tI_4 (zi zI_4 (zi cG (zi tI_27 (zi zI_27 (zi eT (zi gO (zi gP iD))))))))))
theorem SL(p:List Cl)(st:aA):aD prog 85 [.slice (p.map bD)] st (fun r st'=>r=.bool (nI p)∧st'=st):=by
 refine wF [1000000] 1 func85 ntmps85 rfl rfl ?_
 simp only[dK,AV.fits,dZ,aE]
 intro _
 unfold nI
 simp -implicitDefEqProofs only[aE,aB,seval,aWO]
 refine cT (fun h=>?_) (fun h=>?_)
 · simp only[bL] at h
   rw[show decide (p.length≤20)=true by simp;omega]
   simp -implicitDefEqProofs only[h,aB,seval]
   refine(aMI p _ [] (fun t=> !oT t) st fun x _=>aMW x st).to ?_
   simp -implicitDefEqProofs only[LP,aB,seval]
 · simp only[mY,cI] at h
   rw[show decide (p.length≤20)=false by simp;omega]
   simp -implicitDefEqProofs only[h,aB,seval]
   rfl
abbrev B5:=zi tI_3 (zi zI_3 (zi aZ (zi tI_4 (zi zI_4 (zi cG (zi tI_28 (zi zI_28 (zi aQ (zi bM (zi bO (zi cA (zi tI_52 (zi zI_52 (zi bX (zi bY (zi bZ (zi b7 (zi bV (zi tI_111 (zi zI_111 (zi kS (zi kT kQ))))))))))))))))))))))
theorem aOT(c:Cl)(st:aA):aD prog 125 [bD c] st (fun r st'=>r=.bool (oT c)∧st'=st):=by
 obtain⟨⟨k,n,s,ts⟩,l⟩:=c
 have hv:=fun st=>L9 (.mk k n s ts) st
 have hp:=fun st=>S4 k n s ts st
 simp only[a7] at hv hp
 simp only[mK,oT,OI]
 generalize (Tm.mk k n s ts).valid=v at *
 refine wF [1000000] 1 func125 ntmps125 rfl rfl ?_
 simp only[dK,AV.fits,dZ,aE]
 intro ⟨_,_,_,_,hl,_⟩
 have sU:l.all Tm.goal=true∨l.length>6→(decide ((l.length:Int)≤6)&&v&&pG k s (ts.length:Int))=(v&&pG k s (ts.length:Int)&&(decide (l.length≤6)&&l.all Tm.goal)):=fun h=>by
  by_cases h6:l.length≤6
  · have hg:l.all Tm.goal=true:=h.resolve_right (by omega)
    rw[hg,show decide ((l.length:Int)≤6)=true from sL (by omega),show decide (l.length≤6)=true from sL h6]
    simp
  · rw[show decide ((l.length:Int)≤6)=false from vW (by omega),show decide (l.length≤6)=false from vW h6]
    simp
 simp -implicitDefEqProofs only[aB,seval,B5]
 refine dW (σ:=Unit) [1000000] [1] l (fun i _=>i≤7∧(l.take i).all Tm.goal=true) (fun i _=>[(2,.bool false),(3,.int .i64 i)]) (fun _ _=>st) (by decide +kernel) ⟨(),⟨by omega,by simp⟩,aP.mk (by simp -implicitDefEqProofs only[aB,↓aX,seval])⟩ (fun i x _ hx hlt bF hdr hinv=>?_) (fun _ hge hinv=>?_)
 · obtain⟨i1,i2⟩:=hinv
   have hw:=bK (n:=(i:Int)+1)
   by_cases h7:i≤6
   · have h7':decide ((i:Int)≤6)=true:=sL (by omega)
     have hat:=bJ (av:=Tm.av) aQ hx (aN x)
     simp -implicitDefEqProofs only[bF,dU,gX,aE,h7',hat,bU,aN,aB,seval,B5]
     refine(TG x st).to ?_
     simp -implicitDefEqProofs only[aB,seval]
     refine aT (fun h2=>?_) (fun h2=>?_)
     · simp only[gH] at h2
       simp -implicitDefEqProofs only[aB,seval]
       have:l.all Tm.goal=false:=tT hx h2
       rw[this];simp
     · simp only[jY] at h2
       simp -implicitDefEqProofs only[aB,seval]
       refine⟨(),⟨by omega,?_⟩,aP.mk (by simp -implicitDefEqProofs only[hw,aB,seval])⟩
       rw[f8,hx,zB,i2]
       simp [h2]
   · have h7':decide ((i:Int)≤6)=false:=vW (by omega)
     have h8:decide ((l.length:Int)≤6)=false:=vW (by omega)
     rw[←sU (.inr (by omega)),h8]
     simp -implicitDefEqProofs only[bF,dU,gX,h8,lV,aE,h7',aB,seval,B5]
 · obtain⟨i1,i2⟩:=hinv
   rw[eM] at i2
   rw[←sU (.inl i2)]
   cases h8:decide ((l.length:Int)≤6) with
   | false=>
    simp -implicitDefEqProofs only[hge,aE,h8,lV,aB,seval,B5]
   | true=>
    simp -implicitDefEqProofs only[hge,gX,aE,h8,iL,aB,seval,B5]
    refine(hv _).to ?_
    cases v with
    | false=>simp -implicitDefEqProofs only[lV,aB,seval]
    | true=>
     simp -implicitDefEqProofs only[gX,iL,aB,seval,B5]
     refine(hp _).to ?_
     simp -implicitDefEqProofs only[aB,seval]
abbrev PL:=zi tI_3 (zi zI_3 (zi aZ (zi tI_4 (zi zI_4 (zi cG (zi tI_27 (zi zI_27 (zi eT (zi gO (zi gP (zi iD (zi tI_111 (zi zI_111 (zi kS (zi kT kQ)))))))))))))))
theorem aOW(l:List Cl)(st:aA):aD prog 78 [.slice (l.map bD)] st (fun r st'=>r=.bool (nI l)∧st'=st):=by
 refine wF [1000000] 1 func78 ntmps78 rfl rfl ?_
 simp only[dK,AV.fits,dZ,aE]
 intro ⟨hl,_⟩
 simp -implicitDefEqProofs only[aB,seval]
 refine dW (σ:=Unit) [1000000] [0] l (fun i _=>i≤21∧(l.take i).all oT=true) (fun i _=>[(2,.bool false),(3,.int .i64 i)]) (fun _ _=>st) (by decide +kernel) ⟨(),⟨by omega,by simp⟩,aP.mk (by simp -implicitDefEqProofs only[aB,↓aX,seval])⟩ (fun i x _ hx hlt bF hdr hinv=>?_) (fun _ hge hinv=>?_)
 · obtain⟨i1,i2⟩:=hinv
   have hw:=bK (n:=(i:Int)+1)
   by_cases h7:i≤20
   · have h7':decide ((i:Int)≤20)=true:=sL (by omega)
     have hat:=bJ (av:=bD) eT hx (gD x)
     simp -implicitDefEqProofs only[bF,dU,gX,aE,h7',hat,pW,gD,aB,seval,PL]
     refine(aOT x st).to ?_
     simp -implicitDefEqProofs only[aB,seval]
     refine aT (fun h2=>?_) (fun h2=>?_)
     · simp only[gH] at h2
       simp -implicitDefEqProofs only[aB,seval]
       have:l.all oT=false:=tT hx h2
       simp only[nI,this,wY]
     · simp only[jY] at h2
       simp -implicitDefEqProofs only[aB,seval]
       refine⟨(),⟨by omega,?_⟩,aP.mk (by simp -implicitDefEqProofs only[hw,aB,seval])⟩
       rw[f8,hx,zB,i2]
       simp [h2]
   · have h7':decide ((i:Int)≤20)=false:=vW (by omega)
     have h8:decide ((l.length:Int)≤20)=false:=vW (by omega)
     have h9:decide (l.length≤20)=false:=vW (by omega)
     simp -implicitDefEqProofs only[bF,dU,gX,aE,h7',h8,nI,h9,lV,aB,seval,PL]
 · obtain⟨i1,i2⟩:=hinv
   rw[eM] at i2
   simp -implicitDefEqProofs only[hge,aE,aB,seval,PL]
   simp only[nI,i2,y7,AV.bool.injEq,decide_eq_decide]
   omega
end Go.AW
namespace Go.AW

def dD:AV→List Nat
 | .mslice b _ _ _=>[b]
 | _=>[]
def iF(st:aA)(w:Nat)(q:AV)(l:List AV):Prop:=
 (q=.fslice []∧l= [])∨∃b cs,q=.mslice b 0 l.length w∧st b=Option.some (.cells cs)∧cs.take (l.length*w)=l.flatMap AV.cells∧l.length*w≤cs.length
theorem iF.shape{st:aA}{w:Nat}{q:AV}{l:List AV}(h:iF st w q l):q.isAgg=false∧q.width=1∧q.b9=false∧q.cells= [q]∧q.storable=true:=by
 rcases h with ⟨rfl,_⟩ | ⟨b',cs,rfl,_⟩<;>exact⟨rfl,rfl,rfl,rfl,rfl⟩
theorem iF.aV{st st':aA}{w:Nat}{q:AV}{l:List AV}(h:iF st w q l)(hk:∀b∈dD q,st' b=st b):iF st' w q l:=by
 rcases h with h | ⟨b,cs,rfl,hb,h2⟩
 · exact .inl h
 · exact .inr ⟨b,cs,rfl,by rw[hk b (by simp [dD])];exact hb,h2⟩
theorem iF.some{st:aA}{w:Nat}{q:AV}{l:List AV}(h:iF st w q l):∀b∈dD q,∃cs,st b=Option.some (.cells cs):=by
 intro b hb
 rcases h with ⟨rfl,_⟩ | ⟨b',cs,rfl,hb',_⟩
 · simp [dD] at hb
 · simp only[dD,cP,dI,dN] at hb;subst hb;exact⟨cs,hb'⟩
theorem iF.len{P:Program}{t e:TypeId}{st:aA}{w:Nat}{q:AV}{l:List AV}(h:iF st w q l)(hu:P.underlying t=Option.some (.slice e)):jQ P t q=Option.some (.int .i64 (l.length:Int)):=by
 rcases h with ⟨rfl,rfl⟩ | ⟨b,cs,rfl,_⟩<;>simp only[jQ,hu,bS]
theorem iF.append{P:Program}{t:TypeId}{ag:Bool}{bytes w:Nat}{zs:List AV}{st:aA}{q:AV}{l:List AV}{x:AV}{K:AV→aA→Prop}(hI:eI P t=Option.some (ag,w))(hB:eB P t=Option.some bytes)(hZ:eZ P t=Option.some zs)(hz:zs.length=w)(hb8:bytes≤4096)
 (h:iF st w q l) (hx:x.width=w) (hxs:x.cells.all AV.storable=true) (hl:l.length≤1073741824)
 (hK:∀q' st',iF st' w q' (l++ [x])→(∀y,y∉dD q→y∉dD q'→st' y=st y)→(∀y∈dD q',y∈dD q∨st y=none)→K q' st'):kD P t st q (.fslice [x]) K:=by
 have fY:tU w [x]:=by intro e he;simp only[cP,dI,dN] at he;subst he;exact⟨hx,hxs⟩
 have EA:(l.length+1)*bytes≤140737488355328:=by
  have:=Nat.mul_le_mul (show l.length+1≤1073741825 by omega) hb8
  omega
 have hxc:x.cells.length=w:=by rw[sI,hx]
 unfold kD
 simp only[hI,hB,hZ,xF]
 refine⟨hz,fY,?_⟩
 rcases h with ⟨rfl,rfl⟩ | ⟨b,cs,rfl,hb,hcs,hcl⟩
 · simp only[bS,bA,gN] at EA ⊢
   refine⟨by omega,by omega,by simp,fun h=>by simp at h,fun _ b hb=>?_⟩
   refine hK _ _ (.inr ⟨b,x.cells,rfl,by rw[aA.aH];simp,?_,?_⟩) (fun y _ hy=>?_) (fun y hy=>?_)
   · simp only[e9,bA,bS,gN,Nat.one_mul,qR,List.flatMap_nil,fM]
     rw[←hxc,eM]
   · simp only[e9,bA,bS,gN,Nat.one_mul]
     omega
   · simp only[dD,cP,dI,dN] at hy
     rw[aA.aF _ _ hy]
   · simp only[dD,cP,dI,dN] at hy
     subst hy;exact .inr hb
 · simp only[bA,bS,gN,hb]
   have iN:cs.take (l.length*w)++ [x].flatMap AV.cells=(l++ [x]).flatMap AV.cells:=by rw[hcs];simp
   have hlen:((l++ [x]).flatMap AV.cells).length=(l++ [x]).length*w:=by
    rw[←iN,dX,dY,kC hcl]
    simp only[qR,List.flatMap_nil,fM,hxc,dX,bA,bS]
    rw[vI];omega
   refine⟨trivial,EA,by omega,hcl,?_,fun b' hb'=>?_⟩
   · rw[iN]
     refine hK _ _ (.inr ⟨b,_,by simp,aA.aH _ _ _,by rw[nQ (by rw[hlen];exact cQ _)],by rw[hlen];exact cQ _⟩) (fun y hy _=>?_) (fun y hy=>.inl hy)
     simp only[dD,cP,dI,dN] at hy
     rw[aA.aF _ _ hy]
   · rw[iN]
     refine hK _ _ (.inr ⟨b',_,by simp,aA.aH _ _ _,by rw[nQ (by rw[hlen];exact cQ _)],by rw[hlen];exact cQ _⟩) (fun y hy hy'=>?_) (fun y hy=>?_)
     · simp only[dD,cP,dI,dN] at hy hy'
       rw[aA.aF _ _ hy']
       simp [aA.erase,hy]
     · simp only[dD,cP,dI,dN] at hy
       subst hy;exact .inr hb'
def vV(k:Nat):AV→AV
 | .mslice b o _ w=>.mslice b o k w
 | a=>a
theorem iF.take{st:aA}{w:Nat}{q:AV}{l:List AV}(h:iF st w q l){k:Nat}(hk:k≤l.length)(hw:∀e∈l,e.width=w):iF st w (vV k q) (l.take k):=by
 rcases h with ⟨rfl,rfl⟩ | ⟨b,cs,rfl,hb,hcs,hcl⟩
 · exact .inl ⟨rfl,by simp⟩
 · have hlk:(l.take k).length=k:=by rw[dY];omega
   have h1:k*w≤l.length*w:=zL w hk
   refine .inr ⟨b,cs,by rw[hlk];try rfl,hb,?_,by rw[hlk];omega⟩
   rw[hlk]
   have h2:cs.take (k*w)=(cs.take (l.length*w)).take (k*w):=by rw[w8,kC h1]
   rw[h2,hcs]
   have h3:l.flatMap AV.cells=(l.take k).flatMap AV.cells++(l.drop k).flatMap AV.cells:=by rw[←w4,qS]
   have h4:((l.take k).flatMap AV.cells).length=k*w:=by rw[nX (n:=w) (es:=l.take k) (fun e he=>hw e (nP he)),hlk]
   rw[h3,List.take_left' h4]
theorem BR(k:Nat)(q:AV):dD (vV k q)=dD q:=by cases q<;>rfl
theorem iF.at{st:aA}{w:Nat}{q:AV}{l:List AV}(h:iF st w q l)(hw:∀e∈l,e.width=w){i:Nat}{e:AV}(he:l[i]?=.some e) :
 ∃b cs,q=.mslice b 0 l.length w∧st b=.some (.cells cs)∧i*w+w≤cs.length∧(cs.drop (i*w)).take w=e.cells:=by
 obtain⟨hi,hei⟩:=fD.1 he
 rcases h with ⟨rfl,rfl⟩ | ⟨b,cs,rfl,hb,hcs,hcl⟩
 · simp at he
 · have h1:(i+1)*w≤l.length*w:=zL w hi
   rw[vI,Nat.one_mul] at h1
   refine⟨b,cs,rfl,hb,by omega,?_⟩
   have h2:l=l.take i++e::l.drop (i+1):=by rw[←hei,←nO hi,qS]
   have hA:((l.take i).flatMap AV.cells).length=i*w:=by
    rw[nX (n:=w) (es:=l.take i) (fun e he=>hw e (nP he)),dY,kC (by omega)]
   have hE:e.cells.length=w:=by rw[sI];exact hw e (cL he)
   have h3:(cs.drop (i*w)).take w=((cs.take (l.length*w)).drop (i*w)).take w:=by
    rw[List.drop_take,w8,kC (by omega)]
   rw[h3,hcs,h2]
   simp only[w4,qR]
   rw[List.drop_left' hA,List.take_left' hE]
theorem cO.fz{h:bB}{st:aA}{b:Nat}{es:List AV}(S:cJ h st)(hb:st b=some (.cells (es.flatMap AV.cells)))(hj:∀e∈es,e.b9=false)(hE:jD es):∀ {us:List AV} {vs:List Value},cO h st us vs→cO h (st.erase b) (jH b es us) vs
 | [],vs,x=>by simp only[cO] at x;simp [jH,cO,x]
 | a::us,vs,x=>by
  simp only[cO] at x
  obtain⟨v,r,rfl,x1,x2⟩:=x
  simp only[jH,cO]
  exact⟨v,r,rfl,x1.fz S hb hj hE,cO.fz S hb hj hE x2⟩
theorem bT.unerase{h h':bB}{st st':aA}{b:Nat}(x:bT h (st.erase b) h' st'):bT h st h' st':=
 ⟨x.size,fun c hc e=>x.aV c hc (aA.aPZ st e),x.shape⟩
theorem aD.aQW{P:Program}{g:FuncId}{args:List AV}{st:aA}{Q:AV→aA→Prop}(b:Nat)(es:List AV)(hb:st b=some (.cells (es.flatMap AV.cells)))(hj:∀e∈es,e.b9=false)(hE:jD es)(x:aD P g (jH b es args) (st.erase b) Q):aD P g args st Q:=
 ⟨x.1,fun w vs S V=>(x.2 w vs ((iZ st b).FG S) (V.fz S hb hj hE)).mono fun _ _ ⟨v,r,st',e,a,b',c,d,q⟩=>⟨v,r,st',e,a,b',c.unerase,d,q⟩⟩
def Lit(st:aA)(w:Nat)(l:List AV)(q:AV)(s:aA):Prop:=(q=.fslice l∧s=st)∨∃b,st b=none∧q=.mslice b 0 l.length w∧s=st.aC b (.cells (l.flatMap AV.cells))
theorem aLV{P:Program}{t:TypeId}{ag:Bool}{w bytes:Nat}{zs:List AV}{st:aA}{es xs:List AV}{x:AV}{K:AV→aA→Prop}(hI:eI P t=some (ag,w))(hB:eB P t=some bytes)(hZ:eZ P t=some zs)(hz:zs.length=w)(hx:x=.slice xs∨x=.fslice xs)(hes:∀e∈es,e.width=w)(fY:tU w xs)(hl:(es.length+xs.length)*bytes≤140737488355328)(hl2:es.length+xs.length≤9223372036854775807)
 (hK:∀q s,Lit st w (es++xs) q s→K q s):kD P t st (.fslice es) x K:=by
 unfold kD
 have he:xF x=some xs:=by rcases hx with rfl | rfl<;>rfl
 simp only[hI,hB,hZ,he]
 refine⟨hz,fY,hl,hl2,hes,fun h=>?_,fun _ b hb=>?_⟩
 · subst h
   exact hK _ _ (.inl ⟨by rw[fM],rfl⟩)
 · exact hK _ _ (.inr ⟨b,hb,by rw[dX],rfl⟩)
theorem Lit.call{P:Program}{g:FuncId}{st s:aA}{w:Nat}{l:List AV}{q:AV}{post:List AV}{Q:AV→aA→Prop}(h:Lit st w l q s)(hj:∀e∈l,e.b9=false)(hw:∀e∈l,e.width=w)(hp:∀b,jH b l post=post)(x:aD P g (.slice l::post) st Q):aD P g (q::post) s Q:=by
 rcases h with ⟨rfl,rfl⟩ | ⟨b,hb,rfl,rfl⟩
 · refine aD.args x fun hp vs S V=>?_
   simp only[cO] at V ⊢
   obtain⟨v,r,rfl,V1,V2⟩:=V
   exact⟨v,r,rfl,V1.D7,V2⟩
 · refine aD.aQW b l (aA.aH _ _ _) hj ⟨w,hw⟩ ?_
   rw[aA.AT st b _ hb]
   have:jH b l (.mslice b 0 l.length w::post)=.slice l::post:=by
    show(AV.mslice b 0 l.length w).fz b l::jH b l post=_
    rw[hp]
    simp [AV.fz]
   rw[this]
   exact x
end Go.AW
