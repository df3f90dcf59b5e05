import Derived.Test.YtimfffmcljmfgaaGreatDoorUyk
import Derived.Test.YtimfffmcljmfgaaGreatDoorUyl
import Derived.Test.YtimfffmcljmfgaaGreatDoorUyf
import Derived.Test.YtimfffmcljmfgaaGreatDoorUyj
import Derived.Lib.SliceRun
set_option linter.unusedSimpArgs false
set_option linter.unusedVariables false
set_option maxRecDepth 100000
namespace Go.AW
open Go.Proofs.Tryz
abbrev a6J:=zi tI_3 (zi zI_3 (zi a7 (zi tI_4 (zi zI_4 cL))))
theorem oH(b:Bool)(st:aA):aD prog 359 [.bool b] st (fun r st'=>r=.int .i64 (gZ b)∧st'=st):=by
 refine wF [1000000] 1 func359 ntmps359 rfl rfl ?_
 intro _
 simp -implicitDefEqProofs only[aB,seval]
 cases b
 · simp -implicitDefEqProofs only[gZ,aB,seval]
 · simp -implicitDefEqProofs only[gZ,aB,seval]
abbrev a2D:=zi tI_2 (zi zI_2 (zi MC (zi tI_3 (zi zI_3 (zi a7 (zi tI_66 (zi zI_66 (zi b9 (zi cA (zi cB (zi cC bZ)))))))))))
theorem aSJ(n:Int)(st:aA):aD prog 297 [.int .i64 n] st (fun r st'=>r=(nB n).av∧st'=st):=by
 refine aD.done ?_
 refine wF [1000000] 1 func297 ntmps297 rfl rfl ?_
 intro _
 simp -implicitDefEqProofs only[aP,aB,seval,a2D]
 intro b hb
 unfold nB
 exact⟨by simp only[bA,rM,uB,AA,GV,bR,bQ,bQ],(aM.refl _).aC hb⟩
abbrev RR:=zi tI_3 (zi zI_3 (zi a7 (zi tI_4 (zi zI_4 (zi cL (zi tI_9 (zi zI_9 (zi d9 (zi tI_31 (zi zI_31 (zi aR (zi bO (zi bP (zi cF (zi tI_66 (zi zI_66 (zi b9 (zi cA (zi cB (zi cC (zi bZ (zi tI_147 (zi zI_147 (zi wW (zi B1 (zi B4 DS))))))))))))))))))))))))))
theorem aQR(k n:Int)(s:ByteArray)(ts:List Tm)(st:aA):aD prog 357 [(Tm.mk k n s ts).av] st (fun r st'=>r=.bool (decide (k=3)&&decide ((ts.length:Int)=2)&&fP qZ s)∧st'=st):=by
 simp only[bA]
 refine wF [1000000] 1 func357 ntmps357 rfl rfl ?_
 intro _
 simp -implicitDefEqProofs only[aB,seval,RR]
 refine cU (fun h=>?_) (fun h=>?_)
 · simp -implicitDefEqProofs only[h,aE,aB,seval,RR]
   refine cU (fun h2=>?_) (fun h2=>?_)
   · simp -implicitDefEqProofs only[h2,aB,seval,RR]
     refine(NR qZ s _).to ?_
     simp -implicitDefEqProofs only[aB,seval]
     simp [fP]
   · simp -implicitDefEqProofs only[h2,aB,seval]
     simp []
 · simp -implicitDefEqProofs only[h,aB,seval]
   simp []
abbrev RT:=zi tI_3 (zi zI_3 (zi a7 (zi tI_4 (zi zI_4 (zi cL (zi tI_9 (zi zI_9 (zi d9 (zi tI_31 (zi zI_31 (zi aR (zi bO (zi bP (zi cF (zi tI_66 (zi zI_66 (zi b9 (zi cA (zi cB (zi cC bZ))))))))))))))))))))
theorem aQQ(n:Int)(s:ByteArray)(x y:Tm)(hs:fP qZ s=true){N:Int}(hx:cH N x)(hy:cH N y)(st:aA):aD prog 358 [(Tm.mk 3 n s [x,y]).av] st (fun r st'=>r=.int .i64 (wU s x y)∧st'=st):=by
 have dW:dM prog 31 (.slice [x.av,y.av]) (.int .i64 0)=some (.pptr x.av):=bH (av:=Tm.av) (l:=[x,y]) (i:=0) aR rfl (aO x)
 have f8:dM prog 31 (.slice [x.av,y.av]) (.int .i64 1)=some (.pptr y.av):=bH (av:=Tm.av) (l:=[x,y]) (i:=1) aR rfl (aO y)
 have hax:=fun st=>IE x st hx
 have hay:=fun st=>IE y st hy
 unfold wU both
 simp only[bA,bR,bQ]
 refine wF [1000000] 1 func358 ntmps358 rfl rfl ?_
 intro _
 simp -implicitDefEqProofs only[dW,cE,aO,aB,seval,RT]
 refine(hax _).to ?_
 generalize x.ev.1=a at *
 generalize x.ev.2=ca at *
 generalize y.ev.1=b at *
 generalize y.ev.2=cb at *
 simp -implicitDefEqProofs only[aB,seval]
 refine aT (fun h4=>?_) (fun h4=>?_)
 · simp -implicitDefEqProofs only[aB,seval]
   have h4':ca≠0:=by simpa using h4
   rw[aH h4']
 have h4':ca=0:=by simpa using h4
 subst h4'
 rw[aG (by simp)]
 simp -implicitDefEqProofs only[f8,cE,aO,aB,seval,RT]
 refine(hay _).to ?_
 simp -implicitDefEqProofs only[aB,seval]
 refine aT (fun h5=>?_) (fun h5=>?_)
 · simp -implicitDefEqProofs only[aB,seval]
   have h5':cb≠0:=by simpa using h5
   rw[aH h5']
 have h5':cb=0:=by simpa using h5
 subst h5'
 rw[aG (by simp)]
 unfold IV
 simp -implicitDefEqProofs only[aB,seval,RT]
 refine aT (fun h6=>?_) (fun h6=>?_)
 · simp -implicitDefEqProofs only[aB,seval]
   rw[aH (by simpa using h6)]
   refine(oH _ _).to ?_
   simp -implicitDefEqProofs only[aB,seval]
 rw[aG (by simpa using h6)]
 simp -implicitDefEqProofs only[aB,seval]
 refine aT (fun h7=>?_) (fun h7=>?_)
 · simp -implicitDefEqProofs only[aB,seval]
   rw[aH (by simpa using h7)]
   refine(oH _ _).to ?_
   simp -implicitDefEqProofs only[aB,seval]
 rw[aG (by simpa using h7)]
 simp -implicitDefEqProofs only[aB,seval]
 refine aT (fun h8=>?_) (fun h8=>?_)
 · simp -implicitDefEqProofs only[aB,seval]
   rw[aH (by simpa using h8)]
   refine(oH _ _).to ?_
   simp -implicitDefEqProofs only[aB,seval]
 rw[aG (by simpa using h8)]
 simp -implicitDefEqProofs only[aB,seval]
 refine aT (fun h9=>?_) (fun h9=>?_)
 · simp -implicitDefEqProofs only[aB,seval]
   rw[aH (by simpa using h9)]
   refine(oH _ _).to ?_
   simp -implicitDefEqProofs only[aB,seval]
 rw[aG (by simpa using h9)]
 simp -implicitDefEqProofs only[aB,seval]
 refine(oH _ _).to ?_
 simp -implicitDefEqProofs only[aB,seval]
theorem KF{ts:List Tm}(h:ts.length=0):ts= []:=nG h
theorem F7{ts:List Tm}(h:ts.length=1):∃x,ts= [x]:=by
 match ts,h with
 | [x],_=>exact⟨x,rfl⟩
theorem t8{ts:List Tm}(h:ts.length=2):∃x y,ts= [x,y]:=by
 match ts,h with
 | [x,y],_=>exact⟨x,y,rfl⟩
theorem aJQ{ts:List Tm}(h:ts.length=3):∃x y z,ts= [x,y,z]:=by
 match ts,h with
 | [x,y,z],_=>exact⟨x,y,z,rfl⟩
theorem aNZ{σ:Sub}{f:Nat}{t u:Tm}(h:fM σ f t u):wk σ u=u:=(fM.stop h.end).wk
end Go.AW
namespace Go.AW

end Go.AW
namespace Go.AW
open Go.Proofs.Tryz
theorem a15{α:Type}(f:α→Nat)(l:List α)(i:Nat):aL f (l.take i)≤aL f l:=by
 have:=DG f (l.take i) (l.drop i)
 rw[n9] at this
 omega
def Full(v:Tm)(room:Nat)(st:aA)(r:AV)(st':aA):Prop:=
 st'=st∧∃(x:Tm) (left:Int),r=.tup [x.av,.int .i64 left]∧-1≤left∧if v.nodes≤room then x=v∧left=(room:Int) - v.nodes else left<0
abbrev Bt:=Fin 256
abbrev a2G:=zi tI_3 (zi zI_3 (zi a7 (zi tI_66 (zi zI_66 (zi b9 (zi cA (zi cB (zi cC bZ))))))))
theorem aRX(n:Int)(st:aA):aD prog 181 [.int .i64 n] st (fun r st'=>r=(vr n).av∧st'=st):=by
 refine aD.done ?_
 refine wF [1000000] 1 func181 ntmps181 rfl rfl ?_
 intro _
 simp -implicitDefEqProofs only[aP,aB,seval,a2G]
 intro b hb
 exact⟨by simp only[vr,bA,rM,uB,AA,GV,bR,bQ],(aM.refl _).aC hb⟩
abbrev a2H:=zi tI_2 (zi zI_2 (zi MC (zi tI_3 (zi zI_3 (zi a7 (zi tI_66 (zi zI_66 (zi b9 (zi cA (zi cB (zi cC bZ)))))))))))
theorem aRT(n:Int)(st:aA):aD prog 182 [.int .i64 n] st (fun r st'=>r=(Tm.mk 2 n ⟨#[]⟩ []).av∧st'=st):=by
 refine aD.done ?_
 refine wF [1000000] 1 func182 ntmps182 rfl rfl ?_
 intro _
 simp -implicitDefEqProofs only[aP,aB,seval,a2H]
 intro b hb
 exact⟨by simp only[bA,rM,uB,AA,GV,bR,bQ],(aM.refl _).aC hb⟩
abbrev a6K:=zi tI_3 (zi zI_3 (zi a7 (zi tI_4 (zi zI_4 cL))))
theorem sH(b:Bool)(st:aA):aD prog 325 [.bool b] st (fun r st'=>r=.int .i64 (gZ b)∧st'=st):=by
 refine wF [1000000] 1 func325 ntmps325 rfl rfl ?_
 intro _
 simp -implicitDefEqProofs only[aB,seval]
 cases b
 · simp -implicitDefEqProofs only[gZ,aB,seval]
 · simp -implicitDefEqProofs only[gZ,aB,seval]
abbrev a6L:=zi tI_4 (zi zI_4 (zi cL (zi tI_9 (zi zI_9 d9))))
theorem aR3(s:ByteArray)(st:aA):aD prog 329 [.str s] st (fun r st'=>r=.bool (fP qZ s)∧st'=st):=by
 have hin:fP qZ s=(decide (s=⟨#[60]⟩)||(decide (s=⟨#[62]⟩)||(decide (s=⟨#[61,60]⟩)||(decide (s=⟨#[62,61]⟩)||decide (s=⟨#[61,58,61]⟩))))):=by
  simp only[fP,qZ,yA,List.any_nil,AU]
 rw[hin]
 refine wF [1000000] 1 func329 ntmps329 rfl rfl ?_
 intro _
 simp -implicitDefEqProofs only[aB,seval]
 refine cU (fun h1=>?_) (fun h1=>?_)
 case refine_2=>
  simp -implicitDefEqProofs only[h1,aB,seval]
  simp at h1;simp [h1]
 simp -implicitDefEqProofs only[h1,aB,seval]
 refine cU (fun h2=>?_) (fun h2=>?_)
 case refine_2=>
  simp -implicitDefEqProofs only[h2,aB,seval]
  simp at h2;simp [h2]
 simp -implicitDefEqProofs only[h2,aB,seval]
 refine cU (fun h3=>?_) (fun h3=>?_)
 case refine_2=>
  simp -implicitDefEqProofs only[h3,aB,seval]
  simp at h3;simp [h3]
 simp -implicitDefEqProofs only[h3,aB,seval]
 refine cU (fun h4=>?_) (fun h4=>?_)
 case refine_2=>
  simp -implicitDefEqProofs only[h4,aB,seval]
  simp at h4;simp [h4]
 simp -implicitDefEqProofs only[h4,aB,seval]
theorem aR5(s:ByteArray)(a b:Int)(st:aA):aD prog 372 [.str s,.int .i64 a,.int .i64 b] st (fun r st'=>r=.bool (IV s a b)∧st'=st):=by
 unfold IV
 refine wF [1000000] 3 func372 ntmps372 rfl rfl ?_
 intro _
 simp -implicitDefEqProofs only[aB,seval]
 refine aT (fun h6=>?_) (fun h6=>?_)
 · simp -implicitDefEqProofs only[aB,seval]
   rw[aH (by simpa using h6)]
 rw[aG (by simpa using h6)]
 simp -implicitDefEqProofs only[aB,seval]
 refine aT (fun h7=>?_) (fun h7=>?_)
 · simp -implicitDefEqProofs only[aB,seval]
   rw[aH (by simpa using h7)]
 rw[aG (by simpa using h7)]
 simp -implicitDefEqProofs only[aB,seval]
 refine aT (fun h8=>?_) (fun h8=>?_)
 · simp -implicitDefEqProofs only[aB,seval]
   rw[aH (by simpa using h8)]
 rw[aG (by simpa using h8)]
 simp -implicitDefEqProofs only[aB,seval]
 refine aT (fun h9=>?_) (fun h9=>?_)
 · simp -implicitDefEqProofs only[aB,seval]
   rw[aH (by simpa using h9)]
 rw[aG (by simpa using h9)]
 simp -implicitDefEqProofs only[aB,seval]
abbrev RU:=zi tI_3 (zi zI_3 (zi a7 (zi tI_4 (zi zI_4 (zi cL (zi tI_9 (zi zI_9 (zi d9 (zi tI_31 (zi zI_31 (zi aR (zi bO (zi bP (zi cF (zi tI_66 (zi zI_66 (zi b9 (zi cA (zi cB (zi cC bZ))))))))))))))))))))
theorem aR2(n:Int)(s:ByteArray)(x y:Tm){N:Int}(hx:cH N x)(hy:cH N y)(st:aA):aD prog 330 [(Tm.mk 3 n s [x,y]).av] st (fun r st'=>r=.int .i64 (wU s x y)∧st'=st):=by
 have dW:dM prog 31 (.slice [x.av,y.av]) (.int .i64 0)=some (.pptr x.av):=bH (av:=Tm.av) (l:=[x,y]) (i:=0) aR rfl (aO x)
 have f8:dM prog 31 (.slice [x.av,y.av]) (.int .i64 1)=some (.pptr y.av):=bH (av:=Tm.av) (l:=[x,y]) (i:=1) aR rfl (aO y)
 have hax:=fun st=>IM x st hx
 have hay:=fun st=>IM y st hy
 unfold wU both
 simp only[bA,bR,bQ]
 refine wF [1000000] 1 func330 ntmps330 rfl rfl ?_
 intro _
 simp -implicitDefEqProofs only[dW,cE,aO,aB,seval,RU]
 refine(hax _).to ?_
 generalize x.ev.1=a at *
 generalize x.ev.2=ca at *
 generalize y.ev.1=b at *
 generalize y.ev.2=cb at *
 simp -implicitDefEqProofs only[aB,seval]
 refine aT (fun h4=>?_) (fun h4=>?_)
 · simp -implicitDefEqProofs only[aB,seval]
   have h4':ca≠0:=by simpa using h4
   rw[aH h4']
 have h4':ca=0:=by simpa using h4
 subst h4'
 rw[aG (by simp)]
 simp -implicitDefEqProofs only[f8,cE,aO,aB,seval,RU]
 refine(hay _).to ?_
 simp -implicitDefEqProofs only[aB,seval]
 refine aT (fun h5=>?_) (fun h5=>?_)
 · simp -implicitDefEqProofs only[aB,seval]
   have h5':cb≠0:=by simpa using h5
   rw[aH h5']
 have h5':cb=0:=by simpa using h5
 subst h5'
 rw[aG (by simp)]
 simp -implicitDefEqProofs only[aB,seval,RU]
 refine(aR5 s a b _).to ?_
 simp -implicitDefEqProofs only[aB,seval]
 refine(sH _ _).to ?_
 simp -implicitDefEqProofs only[aB,seval]
abbrev DH:=zi tI_3 (zi zI_3 (zi a7 (zi tI_4 (zi zI_4 (zi cL (zi tI_9 (zi zI_9 (zi d9 (zi tI_31 (zi zI_31 (zi aR (zi bO (zi bP (zi cF (zi tI_66 (zi zI_66 (zi b9 (zi cA (zi cB (zi cC bZ))))))))))))))))))))
theorem aR7(n:Int)(s:ByteArray)(x:Tm)(hs:s=⟨#[118,97,114]⟩∨s=⟨#[110,111,110,118,97,114]⟩∨s=⟨#[97,116,111,109]⟩∨s=⟨#[105,110,116]⟩)(st:aA) :
 aD prog 331 [(Tm.mk 3 n s [x]).av] st (fun r st'=>r=.int .i64 (gZ (s8 s x))∧st'=st):=by
 obtain⟨xk,xn,xs,xt⟩:=x
 have dW:dM prog 31 (.slice [(Tm.mk xk xn xs xt).av]) (.int .i64 0)=some (.pptr (Tm.mk xk xn xs xt).av):=bH (av:=Tm.av) (l:=[Tm.mk xk xn xs xt]) (i:=0) aR rfl (aO _)
 simp only[bA] at dW
 simp only[bR,bQ,bA]
 refine wF [1000000] 1 func331 ntmps331 rfl rfl ?_
 intro _
 simp -implicitDefEqProofs only[dW,aB,↓aY,seval,DH]
 refine aT (fun h=>?_) (fun h=>?_)
 · have hs':s=⟨#[118,97,114]⟩:=by simpa using h
   subst hs'
   simp -implicitDefEqProofs only[aB,seval,DH]
   refine(sH _ _).to ?_
   simp -implicitDefEqProofs only[aB,seval]
   rfl
 have h1:s≠⟨#[118,97,114]⟩:=by simpa using h
 simp -implicitDefEqProofs only[aB,seval]
 refine aT (fun h=>?_) (fun h=>?_)
 · have hs':s=⟨#[110,111,110,118,97,114]⟩:=by simpa using h
   subst hs'
   simp -implicitDefEqProofs only[aB,seval,DH]
   refine(sH _ _).to ?_
   simp -implicitDefEqProofs only[aB,seval]
   rfl
 have h2:s≠⟨#[110,111,110,118,97,114]⟩:=by simpa using h
 simp -implicitDefEqProofs only[aB,seval]
 refine aT (fun h=>?_) (fun h=>?_)
 · have hs':s=⟨#[105,110,116]⟩:=by simpa using h
   subst hs'
   simp -implicitDefEqProofs only[aB,seval,DH]
   refine(sH _ _).to ?_
   simp -implicitDefEqProofs only[aB,seval]
   rfl
 have h3:s≠⟨#[105,110,116]⟩:=by simpa using h
 have hs':s=⟨#[97,116,111,109]⟩:=by simpa [h1,h2,h3] using hs
 subst hs'
 have et:s8 ⟨#[97,116,111,109]⟩ (Tm.mk xk xn xs xt)=(decide (xk=3)&&decide ((xt.length:Int)=0)):=rfl
 rw[et]
 simp -implicitDefEqProofs only[aB,seval,DH]
 refine cU (fun h4=>?_) (fun h4=>?_)
 · simp -implicitDefEqProofs only[h4,aE,aB,seval,DH]
   refine(sH _ _).to ?_
   simp -implicitDefEqProofs only[aB,seval]
 · simp -implicitDefEqProofs only[h4,aB,seval]
   refine(sH _ _).to ?_
   simp -implicitDefEqProofs only[aB,seval]
   simp at h4;simp []
def qX(x y:Tm):Tm×Int:=if x.k=1∨y.k=1 then(Tm.zero,2) else if x.k≠2∨y.k≠3∨y.ts.length=0 then(Tm.zero,3) else match mG x y with
 | some u=>(u,0)
 | none=>(Tm.zero,1)
abbrev nY:=zi tI_3 (zi zI_3 (zi a7 (zi tI_31 (zi zI_31 (zi aR (zi bO (zi bP (zi cF (zi tI_66 (zi zI_66 (zi b9 (zi cA (zi cB (zi cC bZ))))))))))))))
theorem aR1{N:Int}(n:Int)(s:ByteArray)(x y z:Tm)(hy:cH N y)(st:aA):aD prog 328 [(Tm.mk 3 n s [x,y,z]).av] st (fun r st'=>r=.tup [(qX x y).1.av,.int .i64 (qX x y).2]∧st'=st):=by
 have dW:dM prog 31 (.slice [x.av,y.av,z.av]) (.int .i64 0)=some (.pptr x.av):=bH (av:=Tm.av) (l:=[x,y,z]) (i:=0) aR rfl (aO x)
 have f8:dM prog 31 (.slice [x.av,y.av,z.av]) (.int .i64 1)=some (.pptr y.av):=bH (av:=Tm.av) (l:=[x,y,z]) (i:=1) aR rfl (aO y)
 obtain⟨xk,xn,xs,xt⟩:=x
 obtain⟨yk,yn,ys,yt⟩:=y
 have hyl:yt.length≤4:=by
  exact hy.kind.2
 rw[bA] at dW
 simp only[bA xk,bA yk] at dW f8
 unfold qX
 simp only[bA 3,bR,bQ,bA xk,bA yk,Tm.k,Tm.ts]
 refine aD.done ?_
 refine wF [1000000] 1 func328 ntmps328 rfl rfl ?_
 intro _
 simp -implicitDefEqProofs only[dW,f8,aB,↓aY,seval,nY]
 intro b hb
 have nQ:∀o (p:Tm×Int) (k:Int),p=(Tm.zero,k)→(AV.tup [.agg [.int .i64 0,.int .i64 0,.str ⟨#[]⟩,.fslice []],.int .i64 k]).soft=.tup [p.1.av,.int .i64 p.2]∧aM (st.aC b o) st:=fun o p k e=>by
  rw[e]
  exact⟨by simp only[Tm.zero,bA,rM,sZ,uB,AA,GV,bR,bQ,bQ],(aM.refl _).aC hb⟩
 refine cU (fun h=>?_) (fun h=>?_)
 case refine_2=>
  have h':xk=1:=by simpa using h
  simp -implicitDefEqProofs only[h,aP,aB,seval,nY]
  exact nQ _ _ 2 (aH (.inl h'))
 have hx1:xk≠1:=by simpa using h
 simp -implicitDefEqProofs only[h,aB,seval,nY]
 refine aT (fun h1=>?_) (fun h1=>?_)
 · have h':yk=1:=by simpa using h1
   simp -implicitDefEqProofs only[aP,aB,seval,nY]
   exact nQ _ _ 2 (aH (.inr h'))
 have hy1:yk≠1:=by simpa using h1
 rw[aG (fun h2=>h2.elim hx1 hy1)]
 simp -implicitDefEqProofs only[aB,seval,nY]
 refine cU (fun h4=>?_) (fun h4=>?_)
 case refine_2=>
  have h':xk≠2:=by simpa using h4
  simp -implicitDefEqProofs only[h4,aP,aB,seval,nY]
  exact nQ _ _ 3 (aH (.inl h'))
 have hx2:xk=2:=by simpa using h4
 simp -implicitDefEqProofs only[h4,aB,seval,nY]
 refine cU (fun h5=>?_) (fun h5=>?_)
 case refine_2=>
  have h':yk≠3:=by simpa using h5
  simp -implicitDefEqProofs only[h5,aP,aB,seval,nY]
  exact nQ _ _ 3 (aH (.inr (.inl h')))
 have hy3:yk=3:=by simpa using h5
 simp -implicitDefEqProofs only[h5,aE,aB,seval,nY]
 refine aT (fun h6=>?_) (fun h6=>?_)
 · have h':yt.length=0:=by simp at h6;simp [h6]
   simp -implicitDefEqProofs only[aP,aB,seval,nY]
   exact nQ _ _ 3 (aH (.inr (.inr h')))
 have hyt:yt.length≠0:=by simp at h6;simpa using h6
 rw[aG (by simp [hx2,hy3];intro h7;simp [h7] at hyt)]
 simp -implicitDefEqProofs only[aB,seval,nY]
 have hno:¬(1≤xn∧xn≤yt.length)→(match mG (.mk xk xn xs xt) (.mk yk yn ys yt) with | some u=>(u,(0:Int)) | none=>(Tm.zero,1))=(Tm.zero,(1:Int)):=fun h'=>by
  have ea:mG (.mk xk xn xs xt) (.mk yk yn ys yt)=none:=aG h'
  rw[ea]
 refine cU (fun h7=>?_) (fun h7=>?_)
 case refine_2=>
  have h':xn<1:=by simpa using h7
  simp -implicitDefEqProofs only[h7,aP,aB,seval,nY]
  exact nQ _ _ 1 (hno (by omega))
 have hl1:¬xn<1:=by simpa using h7
 simp -implicitDefEqProofs only[h7,aE,aB,seval,nY]
 refine aT (fun h8=>?_) (fun h8=>?_)
 · have h':(yt.length:Int)<xn:=by simpa using h8
   simp -implicitDefEqProofs only[aP,aB,seval,nY]
   exact nQ _ _ 1 (hno (by omega))
 have hl2:¬(yt.length:Int)<xn:=by simpa using h8
 have h':1≤xn∧xn≤yt.length:=by omega
 obtain⟨i,hi⟩:∃i:Nat,xn - 1=i:=⟨(xn - 1).toNat,by omega⟩
 have hlt:i<yt.length:=by omega
 obtain⟨u,hu⟩:∃u,yt[i]?=some u:=⟨_,dZ hlt⟩
 have ea:mG (.mk xk xn xs xt) (.mk yk yn ys yt)=some u:=by
  refine(aH h').trans ?_
  show yt[(xn - 1).toNat]?=some u
  rw[hi,jV,hu]
 rw[ea]
 have hw:IntKind.i64.wrap (xn - 1)=(i:Int):=by rw[wrap64 (by omega) (by omega)];exact hi
 have O5:=bH (av:=Tm.av) (P:=prog) aR hu (aO u)
 simp -implicitDefEqProofs only[Tm.fN,Tm.d5,rO (Tm.fN _),qU (cE _),O5,hw,cE,aO,aP,aB,seval,nY]
 exact⟨by simp only[sZ,uB,Tm.soft,bR,bQ,Tm.soft],(aM.refl _).aC hb⟩
theorem aYD(n:Int):(nB n).av=(Tm.mk 2 n ⟨#[]⟩ []).av:=rfl
def cP(N:Nat)(σ:Sub):List AV:=(List.range N).map fun i:Nat=>cellOf (σ (i:Int))
theorem BQ(N:Nat)(σ:Sub):∀e∈cP N σ,e.width=4:=by intro e h;simp only[cP,bY] at h;obtain⟨i,_,rfl⟩:=h;exact IP _
theorem yP(N:Nat)(σ:Sub){i:Nat}(h:i<N):(cP N σ)[i]?=some (cellOf (σ (i:Int))):=by
 simp only[cP,kS,List.getElem?_range h,oB]
theorem aPL(N:Nat)(σ:Sub){i:Nat}(h:i<N)(u:Tm):(cP N σ).set i u.av=cP N (σ.set (i:Int) u):=by
 apply A3
 intro j
 by_cases hj:j<N
 · rw[yP N _ hj,List.getElem?_set]
   by_cases e:i=j
   · subst e
     simp [cP,hj,Sub.set,cellOf]
   · rw[aG e,yP N _ hj]
     simp only[Sub.set]
     rw[aG (by omega)]
 · rw[A6 (by simp [cP];omega),A6 (by simp [cP];omega)]
def e9(N:Nat)(st:aA)(b:Nat)(σ:Sub):Prop:=st b=some (.cells ((cP N σ).flatMap AV.cells))
theorem e9.mid{N:Nat}{st:aA}{b:Nat}{σ:Sub}(h:e9 N st b σ){i:Nat}(hi:i<N) :
 ∃A B,st b=some (.cells (A++(cellOf (σ (i:Int))).cells++B))∧A.length=i*4∧∀(u:Tm),e9 N (st.aC b (.cells (A++u.av.cells++B))) b (σ.set (i:Int) u):=by
 obtain⟨A,B,h1,h2,h3⟩:=aU6 (BQ N σ) (yP N σ hi)
 refine⟨A,B,by rw[←h1];exact h,h2,fun u=>?_⟩
 unfold e9
 rw[aA.aJ,←aPL N σ hi,h3]
theorem e9.aC{N:Nat}{st:aA}{b x:Nat}{σ:Sub}{o:AO}(h:e9 N st b σ)(hx:x≠b):e9 N (st.aC x o) b σ:=by
 unfold e9
 rw[aA.aF _ _ (dF hx)]
 exact h
theorem e9.none{N:Nat}{st:aA}{b:Nat}{σ:Sub}(h:e9 N st b σ){i:Nat}(hi:i<N)(hn:σ (i:Int)=Option.none) :
 ∃D,st b=some (.cells D)∧D[i*4+0]?=some (.int .i64 0)∧i*4+4≤D.length:=by
 obtain⟨A,B,e1,e2,_⟩:=h.mid hi
 rw[hn] at e1
 obtain⟨r1,r2,r3⟩:=UQ (B:=B) (C:=(cellOf Option.none).cells) e2 rfl
 exact⟨_,e1,r3,r1⟩
theorem e9.some{N:Nat}{st:aA}{b:Nat}{σ:Sub}(h:e9 N st b σ){i:Nat}(hi:i<N){k n:Int}{s:ByteArray}{ts:List Tm}(hn:σ (i:Int)=Option.some (.mk k n s ts)) :
 ∃D,st b=Option.some (.cells D)∧D[i*4+0]?=Option.some (.int .i64 k)∧i*4+4≤D.length∧List.take 4 (List.drop (i*4) D)= [.int .i64 k,.int .i64 n,.str s,.slice (ts.map Tm.av)]:=by
 obtain⟨A,B,e1,e2,_⟩:=h.mid hi
 rw[hn] at e1
 simp only[cellOf,bA,AV.cells] at e1
 obtain⟨r1,r2,r3⟩:=UQ (B:=B) (C:=[.int .i64 k,.int .i64 n,.str s,.slice (ts.map Tm.av)]) e2 rfl
 exact⟨_,e1,r3,r1,r2⟩
theorem e9.set{N:Nat}{st:aA}{b:Nat}{σ:Sub}(h:e9 N st b σ){i:Nat}(hi:i<N)(u:Tm) :
 ∃D D',st b=Option.some (.cells D)∧i*4+4≤D.length∧aP D (i*4) u.av.cells=D'∧e9 N (st.aC b (.cells D')) b (σ.set (i:Int) u):=by
 obtain⟨A,B,e1,e2,e3⟩:=h.mid hi
 obtain⟨p1,p2⟩:=KP (B:=B) (C:=(cellOf (σ (i:Int))).cells) (x:=u.av.cells) e2 (aTC _) (Tm.fN u)
 exact⟨_,_,e1,p2,p1,e3 u⟩
abbrev DJ:=zi tI_3 (zi zI_3 (zi a7 (zi tI_31 (zi zI_31 (zi aR (zi bO (zi bP (zi cF (zi tI_66 (zi zI_66 (zi b9 (zi cA (zi cB (zi cC bZ))))))))))))))
theorem U5{N:Nat}{σ:Sub}(hok:cK (cH N) σ){f:Nat}{t u:Tm}(hw:fM σ f t u)(ht:cH N t)(b:Nat)(st:aA)(hS:e9 N st b σ):aD prog 354 [t.av,.mslice b 0 N 4] st (fun r st'=>r=u.av∧st'=st):=by
 refine aD.done ?_
 refine wF [1000000,2] 2 func354 ntmps354 rfl rfl ?_
 intro _
 simp -implicitDefEqProofs only[aB,seval,DJ]
 intro b2 h2 b4 h4
 have hne:b4≠b2:=by rintro rfl;rw[aA.aJ] at h4;cases h4
 have hn4:st b4=none:=by rw[aA.aF st _ hne] at h4;exact h4
 have hb2:b2≠b:=by rintro rfl;rw[e9,h2] at hS;cases hS
 have hb4:b4≠b:=by rintro rfl;rw[e9,hn4] at hS;cases hS
 refine pC (σ:=Nat×Tm) [1000000,2] [1,2,4] (fun p=>fM σ p.1 p.2 u∧cH N p.2) (fun p=>[]) (fun p=>(st.aC b2 (.cells p.2.av.cells)).aC b4 (.cells [.int .i64 0,.int .i64 0,.str ⟨#[]⟩,.fslice []])) (fun p=>p.1) (by decide +kernel) ⟨(f,t),⟨hw,ht⟩,aN.mk (by simp -implicitDefEqProofs only[aB,seval])⟩ ?_
 rintro⟨g,t⟩ ⟨hw,ht⟩
 obtain⟨k,n,s,ts⟩:=t
 simp only at hw ht
 simp only[bA]
 have tW:k≠1∨σ n=none→u=.mk k n s ts:=fun h=>by
  cases hw with
  | stop _=>rfl
  | go h1 h2 _=>
   simp only[Tm.k] at h1
   rcases h with h | h
   · exact absurd h1 h
   · rw[show σ n=some _ from h2] at h;cases h
 simp -implicitDefEqProofs only[hne.symm,aB,seval,DJ]
 refine cU (fun h=>?_) (fun h=>?_)
 case refine_2=>
  simp -implicitDefEqProofs only[h,aP,hne.symm,aB,seval,DJ]
  simp only[mC,cM] at h
  rw[tW (.inl h),←bA]
  exact⟨Tm.soft _,((aM.refl _).aC h2).aC hn4⟩
 simp only[bM] at h
 subst h
 obtain⟨hn0,hn1,_⟩:=ht.var
 obtain⟨i,rfl⟩:∃i:Nat,n=i:=⟨n.toNat,by omega⟩
 have hi:i<N:=by omega
 have hi':decide ((i:Int)<(N:Int))=true:=by simp;omega
 simp -implicitDefEqProofs only[f6,hi',gL,hne.symm,aB,seval,DJ]
 have hat:=kE (P:=prog) (b:=b) (len:=N) aR hi
 cases hw with
 | stop hs=>
  obtain⟨D,e1,e2,_⟩:=hS.none hi (hs rfl)
  simp -implicitDefEqProofs only[hat,e1,e2,f6,aP,hne.symm,hb2.symm,hb4.symm,aB,seval,DJ]
  exact⟨by rw[←bA,Tm.soft],((aM.refl _).aC h2).aC hn4⟩
 | go h1 h2' h3=>
  simp only[Tm.n] at h2'
  have ho:=hok _ _ h2'
  rename_i g' u'
  obtain⟨k',n',s',ts'⟩:=u'
  have hk':¬k'=0:=by have:=ho.kind.1;omega
  obtain⟨D,e1,e2,e3,e4⟩:=hS.some hi h2'
  have e5:i*4+0+4≤D.length:=e3
  simp -implicitDefEqProofs only[hat,e1,e2,e3,e4,hk',gB,aP,hne.symm,hb2.symm,hb4.symm,aB,seval,DJ]
  rw[aA.xW hne,aA.nZ _ _ _ hne]
  refine⟨(g',.mk k' n' s' ts'),Nat.lt_succ_self _,⟨h3,ho⟩,?_⟩
  simp only[bA]
  exact aN.mk (by simp -implicitDefEqProofs only[aB,seval])
theorem e9.acc{N:Nat}{st:aA}{b bW:Nat}{σ:Sub}{l:List AV}(h:e9 N st b σ)(hb:l≠[]→st bW=Option.none):e9 N (bV st bW l) b σ:=by
 cases l with
 | nil=>exact h
 | cons x l=>exact h.aC (by rintro rfl;rw[e9,hb (by simp)] at h;cases h)
abbrev GZ:=zi tI_3 (zi zI_3 (zi a7 (zi tI_4 (zi zI_4 (zi cL (zi tI_31 (zi zI_31 (zi aR (zi bO (zi bP (zi cF (zi tI_46 (zi zI_46 (zi cW (zi eJ (zi eF (zi eY (zi tI_66 (zi zI_66 (zi b9 (zi cA (zi cB (zi cC bZ)))))))))))))))))))))))
theorem aPZ{N:Nat}{σ:Sub}{R:Int→Tm}{rk:Int→Nat}{B:Nat}(G:Good σ R rk B)(hok:cK (bD N) σ)(hN:N≤1048576){n:Int}(hn:σ n=none)(t:Tm)(ht:bD N t)(b:Nat)(st:aA)(hS:e9 N st b σ) :
 aD prog 355 [.int .i64 n,t.av,.mslice b 0 N 4] st (fun r st'=>r=.bool (decide (n∈(t.aK R).vl))∧st'=st):=by
 refine aD.done ?_
 refine wF [1000000] 3 func355 ntmps355 rfl rfl ?_
 intro _
 simp -implicitDefEqProofs only[aB,seval,GZ]
 have h0:=ET t [] 0 st (Tm.tM t (ht.1.2.1)) (fun h=>absurd rfl h) (by have:=ht.2;simp only[bL];omega)
 simp only[bQ,lJ,EI] at h0
 refine h0.mono ?_
 rintro _ _ ⟨b0,rfl,rfl,hb0⟩
 obtain⟨v1,v2,_⟩:=S5 t (Tm.tM t (ht.1.2.1)) []
 simp -implicitDefEqProofs only[aB,seval]
 refine pC (σ:=Nat×List Int×Nat) [1000000] [0,2]
  (fun p=>p.1≤p.2.1.length∧p.2.1.Nodup∧(∀w∈p.2.1,w∈VN N)∧(p.2.1.map iv≠[]→st p.2.2=none)∧(∀w∈p.2.1.take p.1,w≠n∧∀u,σ w=some u→∀v∈u.vl,v∈p.2.1)∧(∀w∈p.2.1,n∈(R w).vl→n∈(t.aK R).vl)∧(n∈(t.aK R).vl→∃w∈p.2.1,n∈(R w).vl))
  (fun p=>[(6,.bool false),(7,bS 1 p.2.2 (p.2.1.map iv)),(8,.int .i64 p.1)]) (fun p=>bV st p.2.2 (p.2.1.map iv)) (fun p=>N - p.1) (by decide +kernel)
  ⟨(0,t.vars [],b0),⟨nI _,v2 lS,fun w hw=>?_,hb0,by simp,fun w hw hm=>?_,fun hm=>?_⟩,aN.mk (by simp -implicitDefEqProofs only[aB,↓aY,seval])⟩ ?_
 · rcases (v1 w).1 hw with h | h
   · cases h
   · exact vO.2 (ht.1.2.2 w h)
 · rcases (v1 w).1 hw with h | h
   · cases h
   · exact(xX t).2 ⟨w,h,hm⟩
 · obtain⟨w,hw,hm⟩:=(xX t).1 hm
   exact⟨w,(v1 w).2 (.inr hw),hm⟩
 rintro⟨i,W,bW⟩ ⟨i1,i2,i3,i4,i5,i6,i7⟩
 simp only at i1 i2 i3 i4 i5 i6 i7
 have haL:=BN (w:=1) (b:=bW) (l:=W.map iv) eY
 have hWl:=CW i2 (fun m hm=>vO.1 (i3 m hm))
 simp -implicitDefEqProofs only[haL,aE,aB,seval]
 refine aT (fun h=>?_) (fun h=>?_)
 case refine_2=>
  simp only[cM,gX] at h
  obtain rfl:i=W.length:=by omega
  rw[dQ] at i5
  simp -implicitDefEqProofs only[aB,seval]
  have hno:n∉(t.aK R).vl:=fun hm=>by
   obtain⟨w,hw,hnw⟩:=i7 hm
   exact a38 G i5 w hw hnw
  exact⟨by simp only[hno,gB,vV],aM.bV (aM.refl _) i4⟩
 simp only[bM,gX] at h
 obtain⟨w,hx⟩:∃w,W[i]?=some w:=⟨_,dZ h⟩
 have eX:=cG hx
 have hat:=UF (b:=bW) (l:=W.map iv) (i:=i) (x:=iv w) cW (by rw[kS,hx];try rfl)
 obtain⟨fO,lZ⟩:=UG (st:=st) (b:=bW) hx
 have hw:=bG (n:=(i:Int)+1)
 simp -implicitDefEqProofs only[hat,fO,lZ,uM,aB,seval,GZ]
 refine aT (fun h2=>?_) (fun h2=>?_)
 · simp only[bM] at h2
   subst h2
   simp -implicitDefEqProofs only[aB,seval]
   have hm:w∈(t.aK R).vl:=i6 w eX (by rw[G.free hn,xY];simp)
   exact⟨by simp only[hm,f6,vV],aM.bV (aM.refl _) i4⟩
 simp only[cM] at h2
 simp -implicitDefEqProofs only[hat,fO,lZ,uM,aB,seval,GZ]
 obtain⟨hw0,hw1⟩:=vO.1 (i3 w eX)
 obtain⟨j,rfl⟩:∃j:Nat,w=j:=⟨w.toNat,by omega⟩
 have hj:j<N:=by omega
 have hj':decide ((j:Int)<(N:Int))=true:=by simp;omega
 have aIA:=kE (P:=prog) (b:=b) (len:=N) aR hj
 have hSA:=hS.acc i4
 have htk:W.take (i+1)=W.take i++ [(j:Int)]:=by rw[eH,hx];try rfl
 have step:∀W':List Int,(∀v∈W,v∈W')→(∀u,σ (j:Int)=some u→∀v∈u.vl,v∈W')→∀w∈W'.take (i+1),W'.take (i+1)=W.take (i+1)→w≠n∧∀u,σ w=some u→∀v∈u.vl,v∈W':=by
  intro W' jR hH w hw' hte
  rw[hte,htk] at hw'
  rcases dS.1 hw' with hw' | hw'
  · exact⟨(i5 w hw').1,fun u hu v hv=>jR v ((i5 w hw').2 u hu v hv)⟩
  · simp only[cQ,dD,dN] at hw'
    subst hw'
    exact⟨h2,hH⟩
 cases hs:σ (j:Int) with
 | none=>
  obtain⟨D,e1,e2,_⟩:=hSA.none hj hs
  simp -implicitDefEqProofs only[hj',aIA,e1,e2,f6,gL,hat,fO,lZ,uM,hw,aB,seval,GZ]
  exact⟨(i+1,W,bW),by simp only;omega,⟨h,i2,i3,i4,fun w hw'=>step W (fun _ h=>h) (fun u hu=>by rw[hs] at hu;cases hu) w hw' rfl,i6,i7⟩,aN.mk (by simp -implicitDefEqProofs only[aB,seval])⟩
 | some u=>
  obtain⟨k',n',s',ts'⟩:=u
  have ho:=hok _ _ hs
  have hk':¬k'=0:=by have:=ho.1.kind.1;omega
  obtain⟨D,e1,e2,e3,e4⟩:=hSA.some hj hs
  simp -implicitDefEqProofs only[hj',aIA,e1,e2,e3,e4,hk',gB,gL,hat,fO,lZ,uM,aB,seval,GZ]
  have hwf:=Tm.tM _ (ho.1.2.1)
  have hc:=ET (.mk k' n' s' ts') W bW st hwf i4 (by have:=ho.2;omega)
  obtain⟨u1,u2,m,u3⟩:=S5 _ hwf W
  rw[bA] at hc
  refine hc.mono ?_
  rintro _ _ ⟨b',rfl,rfl,hb'⟩
  generalize (Tm.mk k' n' s' ts').vars W=W' at *
  have hte:W'.take (i+1)=W.take (i+1):=by rw[u3,A8 (by omega)]
  have hbd:(Tm.mk k' n' s' ts').aK R=R (j:Int):=(G.bound hs).symm
  simp -implicitDefEqProofs only[hw,aB,seval]
  refine⟨(i+1,W',b'),by simp only;omega,⟨by rw[u3];simp only[dP];omega,u2 i2,fun w hw'=>?_,hb',fun w hw'=>step W' (fun v hv=>(u1 v).2 (.inl hv)) (fun u hu v hv=>?_) w hw' hte,fun w hw' hm=>?_,fun hm=>?_⟩,aN.mk (by simp -implicitDefEqProofs only[aB,seval])⟩
  · rcases (u1 w).1 hw' with h | h
    · exact i3 w h
    · exact vO.2 (ho.1.2.2 w h)
  · rw[hs] at hu
    cases hu
    exact(u1 v).2 (.inr hv)
  · rcases (u1 w).1 hw' with h | h
    · exact i6 w h hm
    · refine i6 (j:Int) eX ?_
      rw[←hbd]
      exact(xX _).2 ⟨w,h,hm⟩
  · obtain⟨w,h,hm⟩:=i7 hm
    exact⟨w,(u1 w).2 (.inl h),hm⟩
def AN(N b:Nat)(st:aA)(σ':Sub)(st':aA):Prop:=e9 N st' b σ'∧∀x o,st x=some o→x≠b→st' x=some o
theorem AN.refl{N b:Nat}{st:aA}{σ:Sub}(h:e9 N st b σ):AN N b st σ st:=⟨h,fun _ _ h _=>h⟩
theorem AN.trans{N b:Nat}{st s2 s3:aA}{σ2 σ3:Sub}(x:AN N b st σ2 s2)(y:AN N b s2 σ3 s3):AN N b st σ3 s3:=⟨y.1,fun q o h hn=>y.2 q o (x.2 q o h hn) hn⟩
def D9(N:Nat)(f:Nat)(b:Nat)(σ:Sub)(a c:Tm)(r:Bool)(σ':Sub):Prop:=∀st,e9 N st b σ→aD prog f [a.av,c.av,.mslice b 0 N 4] st (fun r' st'=>r'=.bool r∧AN N b st σ' st')
abbrev mO:=zi tI_3 (zi zI_3 (zi a7 (zi tI_4 (zi zI_4 (zi cL (zi tI_9 (zi zI_9 (zi d9 (zi tI_31 (zi zI_31 (zi aR (zi bO (zi bP (zi cF (zi tI_66 (zi zI_66 (zi b9 (zi cA (zi cB (zi cC bZ))))))))))))))))))))
theorem aJR(N:Nat)(hN:N≤1048576)(g:Nat)(bb:Nat)(IH:∀(σ:Sub) (a b:Tm) (r:Bool) (σ':Sub) (add:List Int),cJ σ→cK (bD N) σ→bD N a→bD N b→c9 g σ a b=some (r,σ',add)→D9 N 306 bb σ a b r σ')
 (σ:Sub) (a b:Tm) (r:Bool) (σ':Sub) (add:List Int) (hg:cJ σ) (hok:cK (bD N) σ) (ha0:bD N a) (hb0:bD N b) (h:c9 (g+1) σ a b=some (r,σ',add))
 (aJA:(wk σ a).k≠1→(wk σ b).k=1→D9 N 306 bb σ (wk σ b) (wk σ a) r σ'):D9 N 306 bb σ a b r σ':=by
 intro st hS
 obtain⟨rk,B,G⟩:=hg.rs
 obtain⟨fa,wa⟩:=G.wk a
 obtain⟨fb,wb⟩:=G.wk b
 have J4:cK (cH N) σ:=fun n u hu=>(hok n u hu).1
 have hca:=fun st (hS:e9 N st bb σ)=>U5 J4 wa ha0.1 bb st hS
 have hcb:=fun st (hS:e9 N st bb σ)=>U5 J4 wb hb0.1 bb st hS
 have ea:=wa.end
 have eb:=wb.end
 have hsa:=wa.all (p:=bD N) hok ha0
 have hsb:=wb.all (p:=bD N) hok hb0
 replace h:=MD h
 generalize wk σ a=a1 at *
 generalize wk σ b=b1 at *
 clear wa wb
 refine wF [1000000,3,4] 3 func306 ntmps306 rfl rfl ?_
 intro eL
 simp -implicitDefEqProofs only[aB,seval,mO]
 intro b4 h4 b5 h5
 have h54:b5≠b4:=by rintro rfl;rw[aA.aJ] at h5;cases h5
 have hn5:st b5=none:=by rw[aA.aF st _ h54] at h5;exact h5
 have h4b:b4≠bb:=by rintro rfl;rw[e9,h4] at hS;cases hS
 have h5b:b5≠bb:=by rintro rfl;rw[e9,hn5] at hS;cases hS
 have hS':∀o o',e9 N ((st.aC b4 o).aC b5 o') bb σ:=fun o o'=>(hS.aC h4b).aC h5b
 have hQ:∀o o',AN N bb st σ ((st.aC b4 o).aC b5 o'):=fun o o'=>⟨hS' o o',fun x p h _=>by
  rw[aA.aF _ _ (by rintro rfl;rw[hn5] at h;cases h),aA.aF _ _ (by rintro rfl;rw[h4] at h;cases h)];exact h⟩
 simp -implicitDefEqProofs only[Tm.fN,rO (Tm.fN a),qU (cE a),h54.symm,aB,seval]
 refine(hca _ (hS' _ _)).to ?_
 simp -implicitDefEqProofs only[Tm.fN,rO (Tm.fN b),qU (cE b),Tm.d5,aP,h54,h54.symm,aB,seval,mO]
 rw[aA.xW h54,aA.nZ _ _ _ h54]
 refine(hcb _ (hS' _ _)).to ?_
 obtain⟨ka,na,sa,tsa⟩:=a1
 obtain⟨kb,nb,sb',tsb⟩:=b1
 obtain⟨hla,aIS⟩:=Tm.o9 (hsa.1.small)
 obtain⟨hlb,aIT⟩:=Tm.o9 (hsb.1.small)
 have gD:∀o o',AN N bb st σ ((st.aC b4 o).aC b5 o'):=hQ
 have hka:=fun h=>(p9 N) _ h hsa
 have hkb:=fun h=>(p9 N) _ h hsb
 simp only[bA]
 simp only[Tm.k,Tm.n,Tm.ts] at h ea eb aJA hka hkb
 simp -implicitDefEqProofs only[eA,aP,h54.symm,aB,seval,mO]
 have var:∀ {n:Int} {t:Tm},n∈VN N→σ n=none→bD N t→jO σ n t=(r,σ',add)→∀s0,e9 N s0 bb σ→aD prog 355 [.int .i64 n,t.av,.mslice bb 0 N 4] s0 (fun r' st'=>r'=.bool (!r)∧st'=s0):=by
  intro n t _ hn ht hb s0 hs0
  have:=aPZ G hok hN hn t ht bb s0 hs0
  unfold jO at hb
  split at hb
  · rename_i hm
    cases hb
    simpa [hm] using this
  · rename_i hm
    cases hb
    simpa [hm] using this
 rcases h with ⟨h1,h2,h3,rfl,rfl,rfl⟩ | ⟨h1,h2,h3⟩ | ⟨h1,h2,h3⟩ | ⟨h1,h2,h3,h4⟩ | ⟨h1,h2,h3,rfl,rfl,rfl⟩
 · subst h1 h2 h3
   simp -implicitDefEqProofs only[f6,gL,h54.symm,aB,seval,mO]
   exact gD _ _
 · subst h1
   have hin:=vO.2 (hsa.1.2.2 na (by rw[Tm.mV rfl];simp))
   obtain⟨hn0,hn1⟩:=vO.1 hin
   have hcw:=var hin (ea rfl) hsb h3 _ (hS' (.cells [.int .i64 1,.int .i64 na,.str sa,.slice (tsa.map Tm.av)]) (.cells [.int .i64 kb,.int .i64 nb,.str sb',.slice (tsb.map Tm.av)]))
   have hna:=ea rfl
   rw[bA] at hcw
   obtain⟨i,rfl⟩:∃i:Nat,na=i:=⟨na.toNat,by omega⟩
   have hi:i<N:=by omega
   have hat:=kE (P:=prog) (b:=bb) (len:=N) aR hi
   have h6:kb=1→¬(i:Int)=nb:=fun e1 e=>h2 ⟨e1,e⟩
   have tail:∀(s0:aA),s0=((st.aC b4 (.cells [.int .i64 1,.int .i64 i,.str sa,.slice (tsa.map Tm.av)])).aC b5 (.cells [.int .i64 kb,.int .i64 nb,.str sb',.slice (tsb.map Tm.av)]))→r=true →
    ∃D D',s0 bb=some (.cells D)∧i*4+4≤D.length∧aP D (i*4) [.int .i64 kb,.int .i64 nb,.str sb',.slice (tsb.map Tm.av)]=D'∧AN N bb st σ' (s0.aC bb (.cells D')):=by
    rintro _ rfl rfl
    unfold jO at h3
    split at h3
    · cases h3
    · cases h3
      obtain⟨D,D',e1,e2,e3,e4⟩:=(hS' (.cells [.int .i64 1,.int .i64 i,.str sa,.slice (tsa.map Tm.av)]) (.cells [.int .i64 kb,.int .i64 nb,.str sb',.slice (tsb.map Tm.av)])).set hi (.mk kb nb sb' tsb)
      refine⟨D,D',e1,e2,by rw[←e3,bA];try rfl,e4,fun x o hx hxb=>?_⟩
      rw[aA.aF _ _ hxb]
      exact(hQ _ _).2 x o hx hxb
   by_cases h5:kb=1
   · subst h5
     simp -implicitDefEqProofs only[f6,h6 rfl,gB,gL,h54.symm,aB,seval,mO]
     refine hcw.to ?_
     cases r with
     | false=>
      simp -implicitDefEqProofs only[aB,seval]
      unfold jO at h3
      split at h3
      · cases h3
        exact gD _ _
      · cases h3
     | true=>
      obtain⟨D,D',e1,e2,e3,e4⟩:=tail _ rfl rfl
      simp -implicitDefEqProofs only[hat,e1,e2,aP,h54.symm,aB,seval,mO]
      rw[←e3] at e4
      exact e4
   · simp -implicitDefEqProofs only[f6,h5,gB,gL,h54.symm,aB,seval,mO]
     refine hcw.to ?_
     cases r with
     | false=>
      simp -implicitDefEqProofs only[aB,seval]
      unfold jO at h3
      split at h3
      · cases h3
        exact gD _ _
      · cases h3
     | true=>
      obtain⟨D,D',e1,e2,e3,e4⟩:=tail _ rfl rfl
      simp -implicitDefEqProofs only[hat,e1,e2,aP,h54.symm,aB,seval,mO]
      rw[←e3] at e4
      exact e4
 · subst h2
   have hsw:=aJA h1 rfl
   simp only[D9,bA] at hsw
   simp -implicitDefEqProofs only[f6,h1,gB,gL,h54.symm,aB,seval,mO]
   refine(hsw _ (hS' _ _)).mono ?_
   rintro _ s2 ⟨rfl,hp⟩
   simp -implicitDefEqProofs only[aB,seval]
   exact(hQ _ _).trans hp
 · rw[sR] at h3
   simp only[Tm.k,Tm.n,Tm.s,Tm.ts] at h3
   obtain⟨rfl,rfl,rfl,hlen⟩:=h3
   have c7:decide ((tsa.length:Int)=(tsb.length:Int))=true:=by simp [hlen]
   simp -implicitDefEqProofs only[f6,gB,c7,gL,h54.symm,aE,h1,aB,seval,mO]
   have hS0:=hS' (.cells [.int .i64 ka,.int .i64 na,.str sa,.slice (tsa.map Tm.av)]) (.cells [.int .i64 ka,.int .i64 na,.str sa,.slice (tsb.map Tm.av)])
   have hQ0:=hQ (.cells [.int .i64 ka,.int .i64 na,.str sa,.slice (tsa.map Tm.av)]) (.cells [.int .i64 ka,.int .i64 na,.str sa,.slice (tsb.map Tm.av)])
   have e4:((st.aC b4 (.cells [.int .i64 ka,.int .i64 na,.str sa,.slice (tsa.map Tm.av)])).aC b5 (.cells [.int .i64 ka,.int .i64 na,.str sa,.slice (tsb.map Tm.av)])) b4=some (.cells [.int .i64 ka,.int .i64 na,.str sa,.slice (tsa.map Tm.av)]):=by rw[aA.aF _ _ h54.symm,aA.aJ]
   have e5:((st.aC b4 (.cells [.int .i64 ka,.int .i64 na,.str sa,.slice (tsa.map Tm.av)])).aC b5 (.cells [.int .i64 ka,.int .i64 na,.str sa,.slice (tsb.map Tm.av)])) b5=some (.cells [.int .i64 ka,.int .i64 na,.str sa,.slice (tsb.map Tm.av)]):=aA.aJ _ _ _
   generalize (st.aC b4 (.cells [.int .i64 ka,.int .i64 na,.str sa,.slice (tsa.map Tm.av)])).aC b5 (.cells [.int .i64 ka,.int .i64 na,.str sa,.slice (tsb.map Tm.av)])=s0 at *
   refine dL (σ:=Sub×List Int×aA) [1000000,3,4] [2,3,4] tsa
    (fun i p=>cJ p.1∧cK (bD N) p.1∧AN N bb s0 p.1 p.2.2∧dR g p.1 (tsa.drop i) (tsb.drop i)=some (r,σ',p.2.1))
    (fun i _=>[(6,.bool false),(7,.int .i64 i)]) (fun _ p=>p.2.2) (by decide +kernel)
    ⟨(σ,add,s0),⟨hg,hok,AN.refl hS0,h4⟩,aN.mk (by simp -implicitDefEqProofs only[aB,↓aY,seval])⟩ (fun i x p hx hlt bB hdr hinv=>?_) (fun p hge hinv=>?_)
   case refine_2=>
    obtain⟨σi,rest,si⟩:=p
    obtain⟨i1,i2,i3,i5⟩:=hinv
    simp only at i1 i2 i3 i5
    have f4:=i3.2 b4 _ e4 h4b
    rw[gT,hlen,gT] at i5
    simp only[dR,Option.some.injEq,Prod.mk.injEq] at i5
    obtain⟨rfl,rfl,rfl⟩:=i5
    simp -implicitDefEqProofs only[hge,f4,aE,aB,seval,mO]
    exact hQ0.trans i3
   obtain⟨σi,rest,si⟩:=p
   obtain⟨i1,i2,i3,i5⟩:=hinv
   simp only at i1 i2 i3 i5
   obtain⟨y,hy⟩:∃y,tsb[i]?=some y:=⟨_,dZ (by omega)⟩
   have xE:tsb.drop i=y::tsb.drop (i+1):=by
    obtain⟨h1,h2⟩:=eE.1 hy
    rw[pE h1,h2]
   rw[hdr,xE,dR] at i5
   have f4:=i3.2 b4 _ e4 h4b
   have f5:=i3.2 b5 _ e5 h5b
   have hw:=bG (n:=(i:Int)+1)
   simp -implicitDefEqProofs only[bB,aE,f4,aB,seval,mO]
   refine wP [(0,1),(2,1),(5,1),(7,1),(10,1),(1,2),(3,1),(4,2),(6,2),(8,1),(9,2),(11,0),(12,1)] [0,2,5,7,10,1,3,4,6,8,9,12] mixed ?_
   simp -implicitDefEqProofs only[f4,f5,bH (av:=Tm.av) aR hx (aO x),bH (av:=Tm.av) aR hy (aO y),aB,seval,mO]
   cases hu:c9 g σi x y with
   | none=>rw[hu] at i5;cases i5
   | some p1=>
    obtain⟨r1,σ1,tr1⟩:=p1
    rw[hu] at i5
    have hx1:bD N x:=hka h1 x (cG hx)
    have hy1:bD N y:=hkb h2 y (cG hy)
    have hU:=wA i1 hu
    have hA:=(MF (p9 N) g).1 σi x y r1 σ1 tr1 i1 hu i2 hx1 hy1
    refine(IH σi x y r1 σ1 tr1 i1 i2 hx1 hy1 hu si i3.1).mono ?_
    rintro _ s2 ⟨rfl,hp2⟩
    cases r1 with
    | false=>
     simp only[Option.some.injEq,Prod.mk.injEq] at i5
     obtain⟨rfl,rfl,rfl⟩:=i5
     simp -implicitDefEqProofs only[aB,seval]
     exact hQ0.trans (i3.trans hp2)
    | true=>
     simp only at i5
     cases hu2:dR g σ1 (tsa.drop (i+1)) (tsb.drop (i+1)) with
     | none=>rw[hu2] at i5;cases i5
     | some p2=>
      obtain⟨r2,σ2,tr2⟩:=p2
      rw[hu2] at i5
      simp only[Option.some.injEq,Prod.mk.injEq] at i5
      obtain⟨rfl,rfl,_⟩:=i5
      simp -implicitDefEqProofs only[aB,seval]
      exact⟨(σ1,tr2,s2),⟨hU.gJ,hA,i3.trans hp2,hu2⟩,aN.mk (by simp -implicitDefEqProofs only[hw,aB,seval])⟩
 · have hd:ka=kb→na=nb→sa=sb'→¬(tsa.length:Int)=(tsb.length:Int):=by
    intro e1 e2 e3 e4
    have:tV (Tm.mk ka na sa tsa) (Tm.mk kb nb sb' tsb)=true:=sR.2 ⟨e1,e2,e3,by simp only[Tm.ts];omega⟩
    rw[h3] at this;cases this
   by_cases e1:ka=kb
   · by_cases e2:na=nb
     · by_cases e3:sa=sb'
       · have e4:=hd e1 e2 e3
         subst e1 e2 e3
         simp -implicitDefEqProofs only[gB,f6,gL,h54.symm,h1,aE,e4,aB,seval,mO]
         exact gD _ _
       · subst e1 e2
         simp -implicitDefEqProofs only[gB,f6,gL,h54.symm,h1,e3,aB,seval,mO]
         exact gD _ _
     · subst e1
       simp -implicitDefEqProofs only[gB,f6,gL,h54.symm,h1,e2,aB,seval,mO]
       exact gD _ _
   · clear hd
     simp -implicitDefEqProofs only[gB,gL,h54.symm,h1,h2,e1,aB,seval,mO]
     exact gD _ _
theorem U4(N:Nat)(hN:N≤1048576)(bb:Nat):∀(g:Nat) (σ:Sub) (a b:Tm) (r:Bool) (σ':Sub) (add:List Int),cJ σ→cK (bD N) σ→bD N a→bD N b→c9 g σ a b=some (r,σ',add)→D9 N 306 bb σ a b r σ'
 | 0,σ,a,b,r,σ',add,hg,hok,ha,hb,h=>by simp only[c9] at h;cases h
 | g+1,σ,a,b,r,σ',add,hg,hok,ha,hb,h=>by
  refine aJR N hN g bb (U4 N hN bb g) σ a b r σ' add hg hok ha hb h fun h1 h2=>?_
  obtain⟨rk,B,G⟩:=hg.rs
  obtain⟨fa,wa⟩:=G.wk a
  obtain⟨fb,wb⟩:=G.wk b
  have eb:=aNZ wb
  have ea:=aNZ wa
  have hbn:jO σ (wk σ b).n (wk σ a)=(r,σ',add):=by
   rcases MD h with h | h | h | h | h
   · exact absurd h.1 h1
   · exact absurd h.1 h1
   · exact h.2.2
   · exact absurd h2 h.2.1
   · exact absurd h2 h.2.1
  refine aJR N hN 0 bb (fun σ a b r σ' add _ _ _ _ h=>by simp only[c9] at h;cases h) σ (wk σ b) (wk σ a) r σ' add hg hok (wb.all (p:=bD N) hok hb) (wa.all (p:=bD N) hok ha) ?_ fun h3=>?_
  · rw[c9,eb,ea,aG (fun h=>h1 h.2.1),aH h2,hbn]
  · rw[eb] at h3;exact absurd h2 h3
theorem aPI(σ:Sub)(x y z:Tm):uW σ x y z=if(qX x y).2=0 then rW σ z (qX x y).1 else((qX x y).2,σ,[]):=by
 unfold uW qX
 split
 · simp
 split
 · simp
 cases mG x y<;>rfl
def qP(N bb:Nat)(st:aA)(x:Int×Sub×List Int)(r:AV)(st':aA):Prop:=r=.int .i64 x.1∧AN N bb st x.2.1 st'
theorem qP.same{N bb:Nat}{st:aA}{σ:Sub}{r:AV}(h:e9 N st bb σ)(k:Int)(hr:r=.int .i64 k):qP N bb st (k,σ,[]) r st:=⟨hr,AN.refl h⟩
theorem EQ{N:Nat}(hN:N≤1048576){σ:Sub}(hg:cJ σ)(ho:cK (bD N) σ)(a b:Tm)(ha:bD N a)(hb:bD N b)(bb:Nat)(st:aA)(hS:e9 N st bb σ) :
 aD prog 306 [a.av,b.av,.mslice bb 0 N 4] st (fun r st'=>r=.bool (iQ σ a b).1∧AN N bb st (iQ σ a b).2.1 st'):=by
 obtain⟨r,σ',tr',hU⟩:=tD hg ho ha hb
 obtain⟨g,gQ⟩:=hU.run
 rw[hU.eq]
 exact U4 N hN bb g σ a b r σ' tr' hg ho ha hb gQ st hS
abbrev qH:=zi tI_3 (zi zI_3 (zi a7 (zi tI_4 (zi zI_4 (zi cL (zi tI_9 (zi zI_9 (zi d9 (zi tI_31 (zi zI_31 (zi aR (zi bO (zi bP (zi cF (zi tI_66 (zi zI_66 (zi b9 (zi cA (zi cB (zi cC bZ))))))))))))))))))))
theorem aP0{N:Nat}(hN:N≤1048576){σ:Sub}(hg:cJ σ)(ho:cK (bD N) σ)(n:Int)(s:ByteArray)(ks:List Tm)(hb:isBuiltin s (ks.length:Int)=true)(hne:s≠⟨#[92,61]⟩)(hv:∀x∈ks,bD N x)(bb:Nat)(st:aA)(hS:e9 N st bb σ) :
 aD prog 270 [(Tm.mk 3 n s ks).av,.mslice bb 0 N 4] st (qP N bb st (cZ σ s ks)):=by
 have hcs:=UX hb
 have CJ:=fun x y (hxy:ks= [x,y])=>aR2 n s x y (hv x (by simp [hxy])).1 (hv y (by simp [hxy])).1
 have aIJ:=fun x y z (hxy:ks= [x,y,z])=>aR1 n s x y z (hv y (by simp [hxy])).1
 have aIL:=fun x (hxy:ks= [x]) h=>aR7 n s x h
 simp only[bA] at CJ aIJ aIL ⊢
 refine wF [1000000] 2 func270 ntmps270 rfl rfl ?_
 intro _
 simp -implicitDefEqProofs only[aB,seval,qH]
 refine aT (fun h=>?_) (fun h=>?_)
 · have hs:s=⟨#[116,114,117,101]⟩:=by simpa using h
   have hk:=KF (ts:=ks) (by subst hs;simpa [isBuiltin] using hb)
   subst hk
   simp -implicitDefEqProofs only[aB,seval]
   exact qP.same hS _ (by simp [gZ,hs])
 have ht:s≠⟨#[116,114,117,101]⟩:=by simpa using h
 simp -implicitDefEqProofs only[aB,seval]
 refine aT (fun h=>?_) (fun h=>?_)
 · have hs:s=⟨#[102,97,105,108]⟩:=by simpa using h
   have hk:=KF (ts:=ks) (by subst hs;simpa [isBuiltin] using hb)
   subst hk
   simp -implicitDefEqProofs only[aB,seval]
   exact qP.same hS _ (by simp [gZ,hs])
 have hf:s≠⟨#[102,97,105,108]⟩:=by simpa using h
 simp -implicitDefEqProofs only[aB,seval]
 refine aT (fun h=>?_) (fun h=>?_)
 · have hs:s=⟨#[61]⟩:=by simpa using h
   obtain⟨x,y,rfl⟩:=t8 (ts:=ks) (by subst hs;simp [isBuiltin] at hb;omega)
   have e:cZ σ s [x,y]=rW σ x y:=by subst hs;rfl
   rw[e]
   have dW:dM prog 31 (.slice [x.av,y.av]) (.int .i64 0)=some (.pptr x.av):=bH (av:=Tm.av) (l:=[x,y]) (i:=0) aR rfl (aO x)
   have f8:dM prog 31 (.slice [x.av,y.av]) (.int .i64 1)=some (.pptr y.av):=bH (av:=Tm.av) (l:=[x,y]) (i:=1) aR rfl (aO y)
   simp -implicitDefEqProofs only[aB,seval]
   refine wX [(0,1),(1,1),(2,1),(3,1),(4,1),(5,1),(6,1),(7,1),(8,1),(9,0),(10,0),(11,1)] [0,1,2,3,4,5,6,7,8,11] dH mixed rfl fV ?_
   simp -implicitDefEqProofs only[dW,f8,cE,aO,aB,seval,qH]
   refine(EQ hN hg ho x y (hv x (by simp)) (hv y (by simp)) bb _ hS).mono ?_
   rintro _ s2 ⟨rfl,hP⟩
   simp -implicitDefEqProofs only[aB,seval]
   refine⟨fV,?_⟩
   refine(sH _ _).to ?_
   simp -implicitDefEqProofs only[aB,seval]
   exact⟨fV,rfl,hP⟩
 have he:s≠⟨#[61]⟩:=by simpa using h
 simp -implicitDefEqProofs only[aB,seval]
 refine aT (fun h=>absurd (by simpa using h) hne) (fun h=>?_)
 simp -implicitDefEqProofs only[aB,seval]
 refine aT (fun h=>?_) (fun h=>?_)
 · have hs:s=⟨#[61,61]⟩:=by simpa using h
   obtain⟨x,y,rfl⟩:=t8 (ts:=ks) (by subst hs;simp [isBuiltin] at hb;omega)
   have e:cZ σ s [x,y]=(gZ (x.same y),σ,[]):=by subst hs;rfl
   rw[e]
   have dW:dM prog 31 (.slice [x.av,y.av]) (.int .i64 0)=some (.pptr x.av):=bH (av:=Tm.av) (l:=[x,y]) (i:=0) aR rfl (aO x)
   have f8:dM prog 31 (.slice [x.av,y.av]) (.int .i64 1)=some (.pptr y.av):=bH (av:=Tm.av) (l:=[x,y]) (i:=1) aR rfl (aO y)
   simp -implicitDefEqProofs only[aB,seval]
   refine yQ mixed (by decide +kernel) (by decide +kernel) ?_
   simp -implicitDefEqProofs only[dW,f8,cE,aO,aB,seval,qH]
   refine kC (WF x y _) ?_
   simp -implicitDefEqProofs only[aB,seval]
   refine kC (sH _ _) ?_
   simp -implicitDefEqProofs only[aB,seval]
   exact qP.same hS _ rfl
 have hee:s≠⟨#[61,61]⟩:=by simpa using h
 simp -implicitDefEqProofs only[aB,seval]
 refine aT (fun h=>?_) (fun h=>?_)
 · have hs:s=⟨#[105,115]⟩:=by simpa using h
   obtain⟨x,y,rfl⟩:=t8 (ts:=ks) (by subst hs;simp [isBuiltin] at hb;omega)
   have e:cZ σ s [x,y]=if y.ev.2≠0 then(y.ev.2,σ,[]) else rW σ x (nB y.ev.1):=by subst hs;rfl
   rw[e]
   have hy:=hv y (by simp)
   have hin:=KD (N:=N) (Tm.tR y hy.1)
   have har:=fun st=>IM y st hy.1
   generalize y.ev.1=a at *
   generalize y.ev.2=ca at *
   have dW:dM prog 31 (.slice [x.av,y.av]) (.int .i64 0)=some (.pptr x.av):=bH (av:=Tm.av) (l:=[x,y]) (i:=0) aR rfl (aO x)
   have f8:dM prog 31 (.slice [x.av,y.av]) (.int .i64 1)=some (.pptr y.av):=bH (av:=Tm.av) (l:=[x,y]) (i:=1) aR rfl (aO y)
   simp -implicitDefEqProofs only[f8,cE,aO,aB,seval,qH]
   refine(har _).to ?_
   simp -implicitDefEqProofs only[aB,seval]
   refine aT (fun h4=>?_) (fun h4=>?_)
   · simp -implicitDefEqProofs only[aB,seval]
     have h4':ca≠0:=by simpa using h4
     rw[aH h4']
     exact qP.same hS _ rfl
   have h4':ca=0:=by simpa using h4
   subst h4'
   rw[aG (by simp)]
   simp -implicitDefEqProofs only[aB,seval]
   refine wX [(0,1),(1,1),(2,1),(3,1),(4,1),(6,1),(5,0),(7,0),(8,0),(9,1)] [0,1,2,3,4,6,9] dH mixed rfl fV ?_
   simp -implicitDefEqProofs only[dW,cE,aO,aB,seval,qH]
   refine(aRT a _).to ?_
   rw[←aYD]
   simp -implicitDefEqProofs only[aB,seval]
   refine⟨fV,?_⟩
   refine(EQ hN hg ho x (nB a) (hv x (by simp)) hin bb _ hS).mono ?_
   rintro _ s2 ⟨rfl,hP⟩
   simp -implicitDefEqProofs only[aB,seval]
   refine⟨fV,?_⟩
   refine(sH _ _).to ?_
   simp -implicitDefEqProofs only[aB,seval]
   exact⟨fV,rfl,hP⟩
 have his:s≠⟨#[105,115]⟩:=by simpa using h
 simp -implicitDefEqProofs only[aB,seval]
 refine aT (fun h=>?_) (fun h=>?_)
 · have hs:s=⟨#[97,114,103]⟩:=by simpa using h
   obtain⟨x,y,z,rfl⟩:=aJQ (ts:=ks) (by subst hs;simp [isBuiltin] at hb;omega)
   have e:cZ σ s [x,y,z]=uW σ x y z:=rfl
   rw[e,aPI]
   have hz:=hv z (by simp)
   have hy:=hv y (by simp)
   have hga:=aIJ x y z rfl
   have hgv:(qX x y).2=0→bD N (qX x y).1:=fun h=>by
    unfold qX at h ⊢
    split at h
    · cases h
    rename_i h1
    rw[aG h1]
    split at h
    · cases h
    rename_i h2
    rw[aG h2]
    cases hu:mG x y with
    | none=>rw[hu] at h;cases h
    | some u=>exact p9 N y (fun h=>h1 (.inr h)) hy u (UM hu)
   generalize (qX x y).1=u at *
   generalize (qX x y).2=cu at *
   have y8:dM prog 31 (.slice [x.av,y.av,z.av]) (.int .i64 2)=some (.pptr z.av):=bH (av:=Tm.av) (l:=[x,y,z]) (i:=2) aR rfl (aO z)
   simp only[bR,bQ] at hga
   simp -implicitDefEqProofs only[aB,seval,qH]
   refine(hga _).to ?_
   simp -implicitDefEqProofs only[aO,Tm.eN,Tm.d5,aB,↓aY,seval,qH]
   refine aT (fun h4=>?_) (fun h4=>?_)
   · simp -implicitDefEqProofs only[aB,seval]
     have h4':cu≠0:=by simpa using h4
     rw[aG h4']
     exact qP.same hS _ rfl
   have h4':cu=0:=by simpa using h4
   subst h4'
   rw[aH rfl]
   simp -implicitDefEqProofs only[aB,seval]
   refine wX [(0,1),(1,1),(2,1),(3,1),(4,1),(5,1),(6,0),(7,0),(8,1)] [0,1,2,3,4,5,8] dH mixed rfl fV ?_
   simp -implicitDefEqProofs only[y8,cE,aO,aB,seval,qH]
   refine(EQ hN hg ho z u hz (hgv rfl) bb _ hS).mono ?_
   rintro _ s2 ⟨rfl,hP⟩
   simp -implicitDefEqProofs only[aB,seval]
   refine⟨fV,?_⟩
   refine(sH _ _).to ?_
   simp -implicitDefEqProofs only[aB,seval]
   exact⟨fV,rfl,hP⟩
 have aH8:s≠⟨#[97,114,103]⟩:=by simpa using h
 simp -implicitDefEqProofs only[aB,seval,qH]
 refine(aR3 s _).to ?_
 simp -implicitDefEqProofs only[aB,seval]
 refine aT (fun h=>?_) (fun h=>?_)
 · have hlen:ks.length=2:=by
    rcases hcs with ⟨h2,h3⟩ | ⟨h2,h3⟩ | ⟨h2,h3⟩ | ⟨h2,h3⟩
    · exact h2
    · simp [ht,hf] at h3
    · rcases h3 with rfl | rfl | rfl | rfl<;>exact absurd h (by decide)
    · exact absurd h3 aH8
   obtain⟨x,y,rfl⟩:=t8 hlen
   have e:cZ σ s [x,y]=(wU s x y,σ,[]):=by simp only[cZ];rw[aH h]
   rw[e]
   have hc:=CJ x y rfl
   simp only[bR,bQ] at hc
   simp -implicitDefEqProofs only[aB,seval,qH]
   refine(hc _).to ?_
   simp -implicitDefEqProofs only[aB,seval]
   exact qP.same hS _ rfl
 · have hlen:ks.length=1∧(s=⟨#[118,97,114]⟩∨s=⟨#[110,111,110,118,97,114]⟩∨s=⟨#[97,116,111,109]⟩∨s=⟨#[105,110,116]⟩):=by
    rcases hcs with ⟨h2,h3⟩ | ⟨h2,h3⟩ | ⟨h2,h3⟩ | ⟨h2,h3⟩
    · simp [h,he,hne,hee,his] at h3
    · simp [ht,hf] at h3
    · exact⟨h2,h3⟩
    · exact absurd h3 aH8
   obtain⟨x,rfl⟩:=F7 hlen.1
   have e:cZ σ s [x]=(gZ (s8 s x),σ,[]):=rfl
   rw[e]
   have hc:=aIL x rfl hlen.2
   simp only[bR,bQ] at hc
   simp -implicitDefEqProofs only[aB,seval,qH]
   refine(hc _).to ?_
   simp -implicitDefEqProofs only[aB,seval]
   exact qP.same hS _ rfl
theorem UO(N:Nat)(σ:Sub):uV 4 (cP N σ):=by
 intro e h
 simp only[cP,bY] at h
 obtain⟨i,_,rfl⟩:=h
 refine⟨IP _,?_⟩
 cases σ (i:Int) with
 | none=>rfl
 | some u=>exact Tm.d5 u
theorem EM(N:Nat)(σ:Sub):∀e∈cP N σ,e.cD=false:=by
 intro e h
 simp only[cP,bY] at h
 obtain⟨i,_,rfl⟩:=h
 cases σ (i:Int) with
 | none=>rfl
 | some u=>exact Tm.eN u
theorem tJ(N:Nat)(σ:Sub):(cP N σ).length=N:=by simp [cP]
theorem NI{N:Nat}(h0:0<N)(hN:N≤1048576)(σ:Sub){st:aA}{K:AV→aA→Prop}(hK:∀b,st b=none→e9 N (st.aC b (.cells ((cP N σ).flatMap AV.cells))) b σ→K (.mslice b 0 N 4) (st.aC b (.cells ((cP N σ).flatMap AV.cells)))) :
 iZ prog 31 st (.fslice []) (.slice (cP N σ)) K:=by
 have hl:=tJ N σ
 refine f9 (P:=prog) (st:=st) (b:=0) (l:=[]) (xs:=cP N σ) (x:=.slice (cP N σ)) (K:=K) aR bO bP rfl rfl (UO N σ) (by simp) (by simp) (by simp only[bL,hl];omega) (by simp only[bL,hl];omega) (fun b hb=>?_)
 have hne: []++cP N σ≠[]:=by
  rw[eU]
  intro e
  rw[e] at hl
  simp at hl
  omega
 rw[oF hne,j4 hne,eU,hl]
 exact hK b (hb hne) (aA.aJ _ _ _)
theorem aP2{N:Nat}(h0:0<N)(hN:N≤1048576){σ:Sub}(hg:cJ σ)(ho:cK (bD N) σ)(n:Int)(s:ByteArray)(x y:Tm)(hs:s=⟨#[92,61]⟩)(hx:bD N x)(hy:bD N y)(st:aA) :
 aD prog 270 [(Tm.mk 3 n s [x,y]).av,.slice (cP N σ)] st (fun r st'=>r=.int .i64 (gZ (!(iQ σ x y).1))∧st'=st):=by
 have ht:s≠⟨#[116,114,117,101]⟩:=by subst hs;decide
 have hf:s≠⟨#[102,97,105,108]⟩:=by subst hs;decide
 have he:s≠⟨#[61]⟩:=by subst hs;decide
 refine aD.done ?_
 simp only[bA 3,bR,bQ]
 refine wF [1000000] 2 func270 ntmps270 rfl rfl ?_
 intro _
 have dW:dM prog 31 (.slice [x.av,y.av]) (.int .i64 0)=some (.pptr x.av):=bH (av:=Tm.av) (l:=[x,y]) (i:=0) aR rfl (aO x)
 have f8:dM prog 31 (.slice [x.av,y.av]) (.int .i64 1)=some (.pptr y.av):=bH (av:=Tm.av) (l:=[x,y]) (i:=1) aR rfl (aO y)
 simp -implicitDefEqProofs only[aB,seval,qH]
 refine aT (fun h=>absurd (by simpa using h) ht) (fun h=>?_)
 simp -implicitDefEqProofs only[aB,seval]
 refine aT (fun h=>absurd (by simpa using h) hf) (fun h=>?_)
 simp -implicitDefEqProofs only[aB,seval]
 refine aT (fun h=>absurd (by simpa using h) he) (fun h=>?_)
 simp -implicitDefEqProofs only[aB,seval]
 refine aT (fun h=>?_) (fun h=>absurd hs (by simpa using h))
 simp -implicitDefEqProofs only[aB,seval]
 refine wX [(0,1),(1,1),(2,1),(3,1),(4,1),(5,1),(6,1),(7,1),(8,1),(9,1),(10,0),(11,0),(12,1),(13,0),(14,1)] [0,1,2,3,4,5,6,7,8,9,12,14] dH mixed rfl fV ?_
 simp -implicitDefEqProofs only[dW,f8,cE,aO,aB,seval,qH]
 refine NI h0 hN σ fun b hb hA0=>?_
 have hD0:aM (st.aC b (.cells ((cP N σ).flatMap AV.cells))) st:=(aM.refl _).aC hb
 generalize st.aC b (.cells ((cP N σ).flatMap AV.cells))=s0 at *
 simp -implicitDefEqProofs only[aB,seval]
 refine⟨fV,?_⟩
 refine(EQ hN hg ho x y hx hy b _ hA0).mono ?_
 rintro _ s2 ⟨rfl,hA,hk⟩
 simp -implicitDefEqProofs only[aB,seval]
 refine⟨fV,?_⟩
 refine(sH _ _).to ?_
 simp -implicitDefEqProofs only[aB,seval]
 refine⟨fV,rfl,fun q=>?_⟩
 have key:∀o,st q=some o→s2 q=some o:=fun o h=>hk q o ((hD0 q).2 o h) (by rintro rfl;rw[hb] at h;cases h)
 refine⟨fun h=>?_,key⟩
 cases hq:st q with
 | none=>rfl
 | some o=>rw[key o hq] at h;cases h
theorem aP1{N:Nat}(h0:0<N)(hN:N≤1048576){σ:Sub}(hg:cJ σ)(ho:cK (bD N) σ)(n:Int)(s:ByteArray)(ks:List Tm)(hb:isBuiltin s (ks.length:Int)=true)(hv:∀x∈ks,bD N x)(bb:Nat)(st:aA)(hS:e9 N st bb σ) :
 aD prog 270 [(Tm.mk 3 n s ks).av,.mslice bb 0 N 4] st (qP N bb st (cZ σ s ks)):=by
 by_cases hs:s=⟨#[92,61]⟩
 · obtain⟨x,y,rfl⟩:=t8 (ts:=ks) (by subst hs;simp [isBuiltin] at hb;omega)
   have e:cZ σ s [x,y]=(gZ (!(iQ σ x y).1),σ,[]):=by subst hs;rfl
   rw[e]
   have hc:=aP2 h0 hN hg ho n s x y hs (hv x (by simp)) (hv y (by simp)) dH
   refine(aD.OP (args':=[(Tm.mk 3 n s [x,y]).av,.mslice bb 0 N 4]) (st:=st) rfl hc fun h vs S V=>?_).mono ?_
   · simp only[cV] at V ⊢
     obtain⟨v,vs',rfl,V1,w,ws',rfl,V2,rfl⟩:=V
     refine⟨v,[w],rfl,V1.mono ((aM.dH st).step h),w,[],rfl,?_,rfl⟩
     have h2:=V2.fz S hS (EM N σ) ⟨4,BQ N σ⟩
     have h3:(AV.mslice bb 0 N 4).fz bb (cP N σ)=.slice (cP N σ):=by simp [AV.fz,tJ]
     rw[h3] at h2
     exact h2.mono ((aM.dH (st.erase bb)).step h)
   · rintro _ _ ⟨rfl,rfl⟩
     exact qP.same hS _ rfl
 · exact aP0 hN hg ho n s ks hb hs hv bb st hS
abbrev DK:=zi tI_3 (zi zI_3 (zi a7 (zi tI_31 (zi zI_31 (zi aR (zi bO (zi bP (zi cF (zi tI_66 (zi zI_66 (zi b9 (zi cA (zi cB (zi cC bZ))))))))))))))
theorem aPY{N:Nat}{σ:Sub}(hok:cK (cH N) σ){f:Nat}{t u:Tm}(hw:fM σ f t u)(ht:cH N t)(st:aA):aD prog 354 [t.av,.slice (cP N σ)] st (fun r st'=>r=u.av∧st'=st):=by
 refine aD.done ?_
 refine wF [1000000,2] 2 func354 ntmps354 rfl rfl ?_
 intro _
 have hlen:(cP N σ).length=N:=by simp [cP]
 simp -implicitDefEqProofs only[aB,seval,DK]
 intro b2 h2 b4 h4
 have hne:b4≠b2:=by rintro rfl;rw[aA.aJ] at h4;cases h4
 have hn4:st b4=none:=by rw[aA.aF st _ hne] at h4;exact h4
 refine pC (σ:=Nat×Tm) [1000000,2] [1,2,4] (fun p=>fM σ p.1 p.2 u∧cH N p.2) (fun p=>[]) (fun p=>(st.aC b2 (.cells p.2.av.cells)).aC b4 (.cells [.int .i64 0,.int .i64 0,.str ⟨#[]⟩,.fslice []])) (fun p=>p.1) (by decide +kernel) ⟨(f,t),⟨hw,ht⟩,aN.mk (by simp -implicitDefEqProofs only[aB,seval])⟩ ?_
 rintro⟨g,t⟩ ⟨hw,ht⟩
 obtain⟨k,n,s,ts⟩:=t
 simp only at hw ht
 simp only[bA]
 have tW:k≠1∨σ n=none→u=.mk k n s ts:=fun h=>by
  cases hw with
  | stop _=>rfl
  | go h1 h2 _=>
   simp only[Tm.k] at h1
   rcases h with h | h
   · exact absurd h1 h
   · rw[show σ n=some _ from h2] at h;cases h
 simp -implicitDefEqProofs only[hne.symm,aB,seval,DK]
 refine cU (fun h=>?_) (fun h=>?_)
 case refine_2=>
  simp -implicitDefEqProofs only[h,aP,hne.symm,aB,seval,DK]
  simp only[mC,cM] at h
  rw[tW (.inl h),←bA]
  exact⟨Tm.soft _,((aM.refl _).aC h2).aC hn4⟩
 simp only[bM] at h
 subst h
 obtain⟨hn0,hn1,_⟩:=ht.var
 obtain⟨i,rfl⟩:∃i:Nat,n=i:=⟨n.toNat,by omega⟩
 have hi:i<N:=by omega
 have hi':decide ((i:Int)<(N:Int))=true:=by simp;omega
 simp -implicitDefEqProofs only[f6,hi',gL,hne.symm,hlen,aB,seval,DK]
 have hat:dM prog 31 (.slice (cP N σ)) (.int .i64 (i:Int))=some (.pptr (cellOf (σ (i:Int)))):=bH (av:=fun i:Nat=>cellOf (σ (i:Int))) aR (List.getElem?_range hi) (IP _)
 cases hw with
 | stop hs=>
  rw[show σ (i:Int)=none from hs rfl] at hat
  simp only[cellOf] at hat
  simp -implicitDefEqProofs only[hat,f6,aP,hne.symm,aB,seval,DK]
  exact⟨by rw[←bA,Tm.soft],((aM.refl _).aC h2).aC hn4⟩
 | go h1 h2' h3=>
  simp only[Tm.n] at h2'
  have ho:=hok _ _ h2'
  rename_i g' u'
  obtain⟨k',n',s',ts'⟩:=u'
  have hk':¬k'=0:=by have:=ho.kind.1;omega
  rw[h2'] at hat
  simp only[cellOf,bA] at hat
  simp -implicitDefEqProofs only[hat,hk',gB,aP,hne.symm,aB,seval,DK]
  rw[aA.xW hne,aA.nZ _ _ _ hne]
  refine⟨(g',.mk k' n' s' ts'),Nat.lt_succ_self _,⟨h3,ho⟩,?_⟩
  simp only[bA]
  exact aN.mk (by simp -implicitDefEqProofs only[aB,seval])
abbrev tA:=zi tI_3 (zi zI_3 (zi a7 (zi tI_9 (zi zI_9 (zi d9 (zi tI_31 (zi zI_31 (zi aR (zi bO (zi bP (zi cF (zi tI_66 (zi zI_66 (zi b9 (zi cA (zi cB (zi cC bZ)))))))))))))))))
theorem U3{N:Nat}{σ:Sub}{R:Int→Tm}{rk:Int→Nat}{B:Nat}(G:Good σ R rk B)(hok:cK (bD N) σ) :
 ∀(room:Nat) (t:Tm) (st:aA),room≤120→bD N t→aD prog 302 [t.av,.slice (cP N σ),.int .i64 (room:Int)] st (Full (t.aK R) room st)
 | room,t,st,hr,ht=>by
  have IH:=fun(KX:Nat) (hlt:KX<room) (x:Tm) st=>U3 G hok KX x st
  obtain⟨f,hw⟩:=G.wk t
  generalize wk σ t=u at *
  have J4:cK (cH N) σ:=fun n u hu=>(hok n u hu).1
  have hsu:=hw.all (p:=bD N) hok ht
  have hcw:=fun st=>aPY J4 hw ht.1 st
  obtain⟨k,n,s,ts⟩:=u
  have hv:=aH0 G hw (hsu.1.2.1)
  rw[hv]
  obtain⟨hlen,oQ⟩:=Tm.o9 (hsu.1.small)
  have a6C:=hsu.1.kind.2
  have hkn:=hsu.1.all.2
  have hkk:∀x∈ts,bD N x:=fun x hx=>by
   refine⟨hkn x hx,?_⟩
   have:=hsu.2
   rw[Tm.kG] at this
   have:=qF (f:=Tm.nodes) hx
   omega
  refine aD.oJ (aD.fin ?_)
  refine wF [1000000,3,8] 3 func302 ntmps302 rfl rfl ?_
  intro _
  simp -implicitDefEqProofs only[aB,seval,tA]
  intro b3 h3 b6 h6
  have h63:b6≠b3:=by rintro rfl;rw[aA.aJ] at h6;cases h6
  have hn6:st b6=none:=by rw[aA.aF st _ h63] at h6;exact h6
  have hwr:∀z:Int,-1≤z→z≤200→IntKind.i64.wrap z=z:=fun z h1 h2=>wrap64 (by omega) (by omega)
  have hw1:=hwr ((room:Int) - 1) (by omega) (by omega)
  refine aT (fun h=>?_) (fun h=>?_)
  · simp only[bM] at h
    obtain rfl:room=0:=by omega
    simp -implicitDefEqProofs only[aP,aB,↓aY,seval,tA]
    refine⟨0,[],_,rfl,by simp,by simp,⟨4,by simp⟩,st,(fun x=>by by_cases e3:x=b3<;>by_cases e6:x=b6<;>simp_all [aA.aC]),rfl,Tm.zero,-1,?_,Int.le_refl _,?_⟩
    · simp only[Tm.zero,bA,iK,mH,f7,oL,pR,bR,bQ]
    · rw[aG (by rw[Tm.kG];omega)];decide
  simp only[cM] at h
  simp -implicitDefEqProofs only[h63.symm,aB,seval,tA]
  refine(hcw _).to ?_
  simp only[bA]
  simp -implicitDefEqProofs only[aP,h63.symm,hw1,aB,↓aY,seval,tA]
  intro b8 h8
  have h83:b8≠b3:=by rintro rfl;simp [aA.aC] at h8
  have h86:b8≠b6:=by rintro rfl;simp [aA.aC,h63] at h8
  have hn8:st b8=none:=by rw[aA.aF _ _ h83,aA.aF _ _ h86,aA.aF _ _ h83] at h8;exact h8
  rw[aA.xW h63]
  have hW6:((st.aC b6 (.cells [.int .i64 0,.int .i64 0,.str ⟨#[]⟩,.fslice []])).aC b3 (.cells [.int .i64 k,.int .i64 n,.str s,.slice (ts.map Tm.av)])) b6=some (.cells [.int .i64 0,.int .i64 0,.str ⟨#[]⟩,.fslice []]):=by rw[aA.aF _ _ h63,aA.aJ]
  have hW3:((st.aC b6 (.cells [.int .i64 0,.int .i64 0,.str ⟨#[]⟩,.fslice []])).aC b3 (.cells [.int .i64 k,.int .i64 n,.str s,.slice (ts.map Tm.av)])) b3=some (.cells [.int .i64 k,.int .i64 n,.str s,.slice (ts.map Tm.av)]):=aA.aJ _ _ _
  have hWd:∀Y Z,aM ((((st.aC b6 (.cells [.int .i64 0,.int .i64 0,.str ⟨#[]⟩,.fslice []])).aC b3 (.cells [.int .i64 k,.int .i64 n,.str s,.slice (ts.map Tm.av)])).aC b8 Z).aC b6 Y) st:=fun Y Z x=>by
   by_cases e3:x=b3<;>by_cases e6:x=b6<;>by_cases e8:x=b8<;>simp_all [aA.aC]
  generalize ((st.aC b6 (.cells [.int .i64 0,.int .i64 0,.str ⟨#[]⟩,.fslice []])).aC b3 (.cells [.int .i64 k,.int .i64 n,.str s,.slice (ts.map Tm.av)]))=W at *
  have xH:(Tm.mk k n s (ts.map (Tm.aK R))).nodes=1+aL Tm.nodes (ts.map (Tm.aK R)):=Tm.kG _ _ _ _
  refine dL (σ:=Nat×List Tm×Int) [1000000,3,8] [1,3,6,7,8] ts
   (fun i p=>(p.2.1.map Tm.av≠[]→(W.aC b8 (.cells ([.int .i64 k,.int .i64 n,.str s]++ [bS 4 p.1 (p.2.1.map Tm.av)]))) p.1=none)∧p.2.1.length=i∧-1≤p.2.2 ∧
    (0≤p.2.2→p.2.1=(ts.take i).map (Tm.aK R)∧p.2.2=(room:Int) - 1 - aL Tm.nodes p.2.1)∧(p.2.2<0→room<1+aL Tm.nodes (ts.map (Tm.aK R))))
   (fun i p=>[(9,.int .i64 p.2.2),(10,.int .i64 i)])
   (fun i p=>kO W b8 p.1 [.int .i64 k,.int .i64 n,.str s] (p.2.1.map Tm.av)) (by decide +kernel)
   ⟨(0,[],(room:Int) - 1),⟨fun h=>absurd rfl h,rfl,by simp only;omega,fun _=>⟨by simp,by simp [aL]⟩,fun h=>by simp only at h;omega⟩,aN.mk (by simp -implicitDefEqProofs only[aB,↓aY,seval])⟩ (fun i x p hx hlt bB xE hinv=>?_) (fun p hge hinv=>?_)
  · obtain⟨b,acc,left⟩:=p
    obtain⟨i1,i2,i3,i4,i5⟩:=hinv
    simp only at i1 i2 i3 i4 i5
    have h3o:=nC i1 (x:=b3) (by rw[hW3];simp) h83.symm
    rw[hW3] at h3o
    simp -implicitDefEqProofs only[bB,f6,gL,aE,h3o,aB,seval,tA]
    refine aT (fun h9=>?_) (fun h9=>?_)
    case refine_2=>
     simp only[cM] at h9
     have hbo:=lM i1
     have h6o:=nC i1 (x:=b6) (by rw[hW6];simp) h86.symm
     rw[hW6] at h6o
     simp -implicitDefEqProofs only[aP,hbo,h6o,j5,aB,seval,tA]
     obtain⟨g5,g6⟩:=t7 (o:=.cells [.int .i64 k,.int .i64 n,.str s,bS 4 b (acc.map Tm.av)]) i1 (show W b6≠none by rw[hW6];simp) h86.symm
     refine⟨b,_,_,g5,g6,rT _,⟨4,iP _⟩,st,hWd _ _,rfl,.mk k n s acc,left,?_,i3,?_⟩
     · simp only[mH,iK,bR,bQ,f7,oL,nL,bA]
     · rw[xH]
       skip
       rw[aG (by have:=i5 (by omega);omega)]
       omega
    simp only[bM] at h9
    obtain⟨e1,e2⟩:=i4 h9
    have eX:=cG hx
    have hsl:=a15 Tm.nodes (ts.map (Tm.aK R)) (i+1)
    rw[←D3,eH,hx] at hsl
    simp only[HP,mX,bR,bQ,DG,aL,←e1] at hsl
    obtain⟨KX,rfl⟩:∃r:Nat,left=r:=⟨left.toNat,by omega⟩
    have c7:(acc.map Tm.av).length=i:=by rw[aE,i2]
    have hw:=bG (n:=(i:Int)+1)
    have hbo:=lM i1
    simp -implicitDefEqProofs only[h3o,bH (av:=Tm.av) aR hx (aO x),cE,aO,aB,seval,tA]
    refine(IH KX (by omega) x _ (by omega) (hkk x eX)).mono ?_
    rintro _ _ ⟨rfl,y,aYN,rfl,hl1,hl2⟩
    simp -implicitDefEqProofs only[cE,aO,Tm.d5,Tm.eN,hbo,qR,aB,↓aY,seval,tA]
    refine f9 aR bO bP rfl rfl (g9 (aO _) (Tm.d5 _)) (iP _) i1 (by simp only[c7,a8,bL];omega) (by simp only[c7,a8,bL];omega) (fun b' hb'=>?_)
    rw[show acc.map Tm.av++ [y.av]=(acc++ [y]).map Tm.av by simp] at hb' ⊢
    obtain⟨g1,g2,g3⟩:=vM hb'
    simp only[gH,eU] at g1 g3
    simp -implicitDefEqProofs only[g3,qS,j5,g1,hw,aP,aB,seval,tA]
    refine⟨(b',acc++ [y],aYN),⟨g2,by simp [i2],hl1,fun h=>?_,fun h=>?_⟩,aN.mk (by simp -implicitDefEqProofs only[aB,seval])⟩
    · simp only at h
      split at hl2
      · obtain⟨rfl,hl3⟩:=hl2
        refine⟨by rw[eH,hx];simp [e1],?_⟩
        simp only[DG,aL]
        omega
      · omega
    · simp only at h
      split at hl2
      · omega
      · omega
  · obtain⟨b,acc,left⟩:=p
    obtain⟨i1,i2,i3,i4,i5⟩:=hinv
    simp only at i1 i2 i3 i4 i5
    rw[dQ] at i4
    have h3o:=nC i1 (x:=b3) (by rw[hW3];simp) h83.symm
    rw[hW3] at h3o
    simp -implicitDefEqProofs only[hge,aE,h3o,aB,seval,tA]
    have hbo:=lM i1
    have h6o:=nC i1 (x:=b6) (by rw[hW6];simp) h86.symm
    rw[hW6] at h6o
    simp -implicitDefEqProofs only[aP,hbo,h6o,j5,aB,seval,tA]
    obtain⟨g5,g6⟩:=t7 (o:=.cells [.int .i64 k,.int .i64 n,.str s,bS 4 b (acc.map Tm.av)]) i1 (show W b6≠none by rw[hW6];simp) h86.symm
    refine⟨b,_,_,g5,g6,rT _,⟨4,iP _⟩,st,hWd _ _,rfl,.mk k n s acc,left,?_,i3,?_⟩
    · simp only[mH,iK,bR,bQ,f7,oL,nL,bA]
    · rw[xH]
      skip
      rcases Int.lt_or_le left 0 with h9 | h9
      · rw[aG (by have:=i5 h9;omega)];exact h9
      · obtain⟨e1,e2⟩:=i4 h9
        rw[←e1] at i5 ⊢
        rw[aH (by omega)]
        exact⟨rfl,by omega⟩
termination_by room=>room
decreasing_by exact hlt
abbrev bJ (l:List Tm):AV:=.agg [.slice (l.map Tm.av)]
theorem SS:∀(a b:List Tm) (l:List Int),bX (a++b) l=bX b (bX a l)
 | [],_,_=>rfl
 | t::a,b,l=>by simp only[gH,bX,SS a b]
abbrev RQ:=zi tI_3 (zi zI_3 (zi a7 (zi tI_31 (zi zI_31 (zi aR (zi bO (zi bP (zi cF (zi tI_46 (zi zI_46 (zi cW (zi eJ (zi eF (zi eY (zi tI_66 (zi zI_66 (zi b9 (zi cA (zi cB (zi cC bZ))))))))))))))))))))
theorem V8(q:List Tm)(st:aA)(hwf:∀t∈q,t.wf=true)(hsz:aL Tm.nodes q≤1099511627776):aD prog 157 [.slice (q.map Tm.av)] st (fun r st'=>r=.slice ((bX q []).map iv)∧st'=st):=by
 refine aD.done ?_
 refine wF [1000000] 1 func157 ntmps157 rfl rfl ?_
 simp only[dK,AV.fits,dT,aE]
 intro ⟨hl,_⟩
 simp -implicitDefEqProofs only[aB,seval,RQ]
 refine qJ (σ:=Unit) [1000000] [0,2] q 1 3 (fun i _=>(bX (q.take i) []).map iv) (fun _ _=>True) (fun i _=>[(4,.int .i64 i)]) (fun _ _=>st) (fun i _ _ e he=>by simp only[bY] at he;obtain⟨t,_,rfl⟩:=he;exact⟨rfl,rfl⟩) (by decide +kernel) ⟨(),0,trivial,fun h=>absurd rfl h,aN.mk (by simp -implicitDefEqProofs only[lJ,jJ,bX,bQ,aB,↓aY,seval])⟩ (fun i x s b hx hlt bB hdr hinv hb=>?_) (fun s b hge hinv=>?_)
 case refine_2=>
  simp -implicitDefEqProofs only[hge,f7,iL,pR,nN,dQ,aE,aB,seval,RQ]
  exact⟨rfl,aM.refl _⟩
 have hw:=bG (n:=(i:Int)+1)
 have hat:=bH (av:=Tm.av) aR hx (aO x)
 have hst:=uD Tm.nodes hx
 have hvl:=xU (q.take i) []
 simp only[bL,gU] at hvl
 have htk:x.vars (bX (q.take i) [])=bX (q.take (i+1)) []:=by
  rw[eH,hx,SS]
  try rfl
 simp -implicitDefEqProofs only[bB,aE,hat,aB,seval,RQ]
 refine(ET x (bX (q.take i) []) b st (hwf x (cG hx)) hb (by omega)).mono ?_
 rintro _ _ ⟨b',rfl,rfl,hb'⟩
 rw[htk] at hb' ⊢
 simp -implicitDefEqProofs only[aB,seval]
 exact⟨(),b',hb',aN.mk (by simp -implicitDefEqProofs only[hw,aB,seval])⟩
end Go.AW
namespace Go.AW
theorem bU.of{h:bF}{st st':aA}(hk:∀x,st x=none→st' x=none):bU h st h st':=⟨cO _,fun x _ e=>⟨rfl,hk x e⟩,fun _ c _ _ e=>⟨c,e,rfl⟩⟩
theorem fL.aVE{φ:AF}{st:aA}{b c:Nat}{es cs:List AV}(hbc:b≠c)(h1:st b=some (.cells (es.flatMap AV.cells)))(h2:∀e∈es,e.cD=false)(h3:jG es)(hc:st c=some (.cells cs)) :
 fL φ st φ ((st.erase b).aC c (.cells (j8 b es cs))):=fun h tmps S F=>by
 have T2:bU h (st.erase b) h ((st.erase b).aC c (.cells (j8 b es cs))):=bU.of fun x hx=>by
  have:x≠c:=by rintro rfl;simp [aA.erase,dF hbc,hc] at hx
  rw[aA.aF _ _ this];exact hx
 have T:bU h st h ((st.erase b).aC c (.cells (j8 b es cs))):=((jP st b).step h).trans T2
 refine⟨fun x o hx=>?_,T,fun d=>(F d).mono T⟩
 by_cases e:x=c
 · subst e
   rw[aA.aJ] at hx
   cases hx
   obtain⟨hl,c0,t,e1,e2,vs,e3,e4⟩:=S x _ hc
   refine⟨hl,c0,t,e1,?_,vs,e3,aZ.mono T2 _ _ (aZ.fz S h1 h2 h3 cs vs e4)⟩
   rw[y6,aE];exact e2
 · rw[aA.aF _ _ e] at hx
   have hx':st x=some o:=by
    simp only[aA.erase] at hx
    split at hx
    · cases hx
    · exact hx
   obtain⟨hl,y⟩:=S x o hx'
   exact⟨hl,kL.mono T rfl y⟩
theorem aT0{s0 st:aA}{b:Nat}{l:List AV}(D:aM s0 st):aM (bV s0 b l) (bV st b l):=by
 cases l with
 | nil=>exact D
 | cons y l=>
  intro x
  simp only[bV]
  by_cases e:x=b
  · subst e;simp [aA.aJ]
  · rw[aA.aF _ _ e,aA.aF _ _ e];exact D x
end Go.AW
namespace Go.AW
open Go.Proofs.Tryz
abbrev a6M:=zi tI_3 (zi zI_3 (zi a7 (zi tI_46 (zi zI_46 (zi cW (zi eJ (zi eF (zi eY (zi tI_66 (zi zI_66 (zi b9 (zi cA (zi cB (zi cC (zi bZ (zi tI_116 zI_116))))))))))))))))
mutual
def Tm.sh(m:Int):Tm→Tm
 | .mk k n s ts=>.mk k (if k=1 then IntKind.i64.wrap (n+m) else n) s (L0 m ts)
def L0(m:Int):List Tm→List Tm
 | []=>[]
 | t::ts=>t.sh m::L0 m ts
end
theorem aNE(m:Int):∀ts:List Tm,L0 m ts=ts.map (Tm.sh m)
 | []=>rfl
 | t::ts=>by simp only[L0,bR,aNE m ts]
theorem Tm.RA(m k n:Int)(s:ByteArray)(ts:List Tm):(Tm.mk k n s ts).sh m=.mk k (if k=1 then IntKind.i64.wrap (n+m) else n) s (ts.map (Tm.sh m)):=by simp only[Tm.sh,aNE]
abbrev pB:=zi tI_3 (zi zI_3 (zi a7 (zi tI_9 (zi zI_9 (zi d9 (zi tI_31 (zi zI_31 (zi aR (zi bO (zi bP (zi cF (zi tI_66 (zi zI_66 (zi b9 (zi cA (zi cB (zi cC bZ)))))))))))))))))
theorem NU(m:Int):∀(t:Tm) (st:aA),t.small=true→aD prog 301 [t.av,.int .i64 m] st (fun r st'=>r=(t.sh m).av∧st'=st)
 | .mk k n s ts,st,hsm=>by
  obtain⟨hlen,oQ⟩:=Tm.o9 hsm
  have IH:=fun(x:Tm) (hx:x∈ts) st=>NU m x st (oQ x hx)
  refine aD.pQ (aD.fin ?_)
  simp only[bA]
  refine wF [1000000,5] 2 func301 ntmps301 rfl rfl ?_
  simp only[dK,AV.fits,dT,aE]
  intro ⟨_,_,_,hl,_⟩
  simp -implicitDefEqProofs only[aP,aB,↓aY,seval,pB]
  intro b2 hb2 c hc
  have hne:c≠b2:=by rintro rfl;rw[aA.aJ] at hc;cases hc
  have hn2:st c=none:=by rw[aA.aF st _ hne] at hc;exact hc
  have pX:b2≠c:=dF hne
  have hS:(st.aC b2 (.cells [AV.int .i64 0,AV.int .i64 0,AV.str ⟨#[]⟩,AV.fslice []])) b2≠none:=by rw[aA.aJ];simp
  refine aT (fun h=>?_) (fun h=>?_)
  · simp only[bM] at h
    simp -implicitDefEqProofs only[aP,eA,aB,seval,pB]
    refine dL (σ:=Nat) [1000000] [1,2,4,5] ts (fun i b=>(((ts.take i).map (Tm.sh m)).map Tm.av≠[]→(aA.aC (st.aC b2 (.cells [AV.int .i64 0,AV.int .i64 0,AV.str ⟨#[]⟩,AV.fslice []])) c (.cells ([AV.int .i64 k,AV.int .i64 (IntKind.i64.wrap (n+m)),AV.str s]++ [bS 4 b (((ts.take i).map (Tm.sh m)).map Tm.av)]))) b=none)) (fun i b=>[(6,.int .i64 i)]) (fun i b=>kO (st.aC b2 (.cells [AV.int .i64 0,AV.int .i64 0,AV.str ⟨#[]⟩,AV.fslice []])) c b [AV.int .i64 k,AV.int .i64 (IntKind.i64.wrap (n+m)),AV.str s] (((ts.take i).map (Tm.sh m)).map Tm.av)) (by decide +kernel)
     ⟨0,fun h=>absurd rfl h,aN.mk (by simp -implicitDefEqProofs only[aB,↓aY,seval])⟩ (fun i x b hx hlt bB hdr hinv=>?_) (fun b hge hinv=>?_)
    case refine_1=>
     have hw:=bG (n:=(i:Int)+1)
     have c7:(((ts.take i).map (Tm.sh m)).map Tm.av).length=i:=by simp only[aE,dI];omega
     have htk:(ts.take (i+1)).map (Tm.sh m)=(ts.take i).map (Tm.sh m)++ [(Tm.sh m) x]:=by rw[eH,hx];simp
     have hbo:=lM hinv
     simp -implicitDefEqProofs only[aE,bB,aB,seval,pB]
     refine wP [(0,1),(2,1),(4,1),(7,1),(1,2),(3,2),(5,1),(6,2),(8,2),(9,1),(10,0),(11,1),(12,0)] [0,2,4,7,1,3,5,6,8,9,11] mixed ?_
     simp -implicitDefEqProofs only[bH (av:=Tm.av) aR hx (aO x),cE,aO,hbo,qR,gU,aB,seval,pB]
     refine kC (IH x (cG hx) _) ?_
     simp -implicitDefEqProofs only[cE,aO,Tm.eN,gU,aB,seval,pB]
     refine f9 aR bO bP rfl rfl (g9 (aO _) (Tm.d5 _)) (iP _) hinv (by simp only[c7,a8,bL];omega) (by simp only[c7,a8,bL];omega) (fun b' hb'=>?_)
     rw[show(((ts.take i).map (Tm.sh m)).map Tm.av)++ [((Tm.sh m) x).av]=((ts.take (i+1)).map (Tm.sh m)).map Tm.av by rw[htk];simp] at hb' ⊢
     obtain⟨g1,g2,g3⟩:=vM hb'
     simp only[gH,eU] at g1 g3
     simp -implicitDefEqProofs only[g3,qS,j5,aP,g1,hw,aP,aB,seval,pB]
     exact⟨b',g2,aN.mk (by simp -implicitDefEqProofs only[aB,seval])⟩
    have hbo:=lM hinv
    rw[dQ] at hinv hbo ⊢
    simp -implicitDefEqProofs only[aE,hge,aB,seval,pB]
    simp -implicitDefEqProofs only[hbo,aP,aB,seval,pB]
    have h1:=nC hinv hS pX
    rw[aA.aJ] at h1
    simp -implicitDefEqProofs only[h1,j5,aB,seval]
    obtain⟨h2,h3⟩:=t7 (o:=.cells [AV.int .i64 k,AV.int .i64 (IntKind.i64.wrap (n+m)),AV.str s,bS 4 b ((ts.map (Tm.sh m)).map Tm.av)]) hinv hS pX
    refine⟨b,_,_,h2,h3,rT _,⟨4,iP _⟩,?_,(((aM.refl _).aC hb2).aC hn2).aC hb2⟩
    simp only[iK,bR,bQ,f7,oL,nL,←bA]
    rw[Tm.RA,aH h]
  · simp only[cM] at h
    simp -implicitDefEqProofs only[aB,seval]
    refine dL (σ:=Nat) [1000000] [1,2,4,5] ts (fun i b=>(((ts.take i).map (Tm.sh m)).map Tm.av≠[]→(aA.aC (st.aC b2 (.cells [AV.int .i64 0,AV.int .i64 0,AV.str ⟨#[]⟩,AV.fslice []])) c (.cells ([AV.int .i64 k,AV.int .i64 (n),AV.str s]++ [bS 4 b (((ts.take i).map (Tm.sh m)).map Tm.av)]))) b=none)) (fun i b=>[(6,.int .i64 i)]) (fun i b=>kO (st.aC b2 (.cells [AV.int .i64 0,AV.int .i64 0,AV.str ⟨#[]⟩,AV.fslice []])) c b [AV.int .i64 k,AV.int .i64 (n),AV.str s] (((ts.take i).map (Tm.sh m)).map Tm.av)) (by decide +kernel)
     ⟨0,fun h=>absurd rfl h,aN.mk (by simp -implicitDefEqProofs only[aB,↓aY,seval])⟩ (fun i x b hx hlt bB hdr hinv=>?_) (fun b hge hinv=>?_)
    case refine_1=>
     have hw:=bG (n:=(i:Int)+1)
     have c7:(((ts.take i).map (Tm.sh m)).map Tm.av).length=i:=by simp only[aE,dI];omega
     have htk:(ts.take (i+1)).map (Tm.sh m)=(ts.take i).map (Tm.sh m)++ [(Tm.sh m) x]:=by rw[eH,hx];simp
     have hbo:=lM hinv
     simp -implicitDefEqProofs only[aE,bB,aB,seval,pB]
     refine wP [(0,1),(2,1),(4,1),(7,1),(1,2),(3,2),(5,1),(6,2),(8,2),(9,1),(10,0),(11,1),(12,0)] [0,2,4,7,1,3,5,6,8,9,11] mixed ?_
     simp -implicitDefEqProofs only[bH (av:=Tm.av) aR hx (aO x),cE,aO,hbo,qR,gU,aB,seval,pB]
     refine kC (IH x (cG hx) _) ?_
     simp -implicitDefEqProofs only[cE,aO,Tm.eN,gU,aB,seval,pB]
     refine f9 aR bO bP rfl rfl (g9 (aO _) (Tm.d5 _)) (iP _) hinv (by simp only[c7,a8,bL];omega) (by simp only[c7,a8,bL];omega) (fun b' hb'=>?_)
     rw[show(((ts.take i).map (Tm.sh m)).map Tm.av)++ [((Tm.sh m) x).av]=((ts.take (i+1)).map (Tm.sh m)).map Tm.av by rw[htk];simp] at hb' ⊢
     obtain⟨g1,g2,g3⟩:=vM hb'
     simp only[gH,eU] at g1 g3
     simp -implicitDefEqProofs only[g3,qS,j5,aP,g1,hw,aP,aB,seval,pB]
     exact⟨b',g2,aN.mk (by simp -implicitDefEqProofs only[aB,seval])⟩
    have hbo:=lM hinv
    rw[dQ] at hinv hbo ⊢
    simp -implicitDefEqProofs only[aE,hge,aB,seval,pB]
    simp -implicitDefEqProofs only[hbo,aP,aB,seval,pB]
    have h1:=nC hinv hS pX
    rw[aA.aJ] at h1
    simp -implicitDefEqProofs only[h1,j5,aB,seval]
    obtain⟨h2,h3⟩:=t7 (o:=.cells [AV.int .i64 k,AV.int .i64 (n),AV.str s,bS 4 b ((ts.map (Tm.sh m)).map Tm.av)]) hinv hS pX
    refine⟨b,_,_,h2,h3,rT _,⟨4,iP _⟩,?_,(((aM.refl _).aC hb2).aC hn2).aC hb2⟩
    simp only[iK,bR,bQ,f7,oL,nL,←bA]
    rw[Tm.RA,aG h]
termination_by t=>SizeOf.sizeOf t
decreasing_by have:=List.sizeOf_lt_of_mem hx;simp only[Tm.mk.sizeOf_spec];omega
abbrev aL6:=zi tI_3 (zi zI_3 (zi a7 (zi tI_29 (zi zI_29 (zi eP (zi gO (zi gP (zi gV (zi tI_84 (zi zI_84 (zi lB (zi lC kV))))))))))))
theorem aQC(l:List Cl)(g:FuncId)(cY:List AV)(p:Cl→Bool)(st:aA)(hc:∀x∈l,aD prog g ([bK x]++cY) st (fun r st'=>r=.bool (p x)∧st'=st)) :
 aD prog 215 [.slice (l.map bK),.func g cY] st (fun r st'=>∃j:Int,r=.int .i64 j∧decide (0≤j)=l.any p∧st'=st):=by
 refine wF [] 2 func215 ntmps215 rfl rfl ?_
 simp only[dK,AV.fits,dT,aE]
 intro ⟨hl,_⟩
 simp -implicitDefEqProofs only[aE,aB,seval,aL6]
 refine dL (σ:=Unit) [] [0,1,7] l (fun i _=>(l.drop i).any p=l.any p) (fun i _=>[(8,.int .i64 i)]) (fun _ _=>st) (by decide +kernel) ⟨(),rfl,aN.mk (by simp -implicitDefEqProofs only[aB,↓aY,seval])⟩ (fun i x _ hx hlt bB hdr hinv=>?_) (fun _ hge hinv=>?_)
 case refine_2=>
  simp -implicitDefEqProofs only[hge,aB,seval]
  rw[gT] at hinv
  exact⟨-1,rfl,by rw[←hinv];try rfl⟩
 rw[hdr,yA] at hinv
 have hw:=bG (n:=(i:Int)+1)
 simp -implicitDefEqProofs only[bB,bH (av:=bK) eP hx (gA x),sJ,gA,aB,seval,aL6]
 refine(hc x (cG hx)).to ?_
 simp -implicitDefEqProofs only[aB,seval]
 refine aT (fun h=>?_) (fun h=>?_)
 · simp -implicitDefEqProofs only[aB,seval]
   exact⟨i,rfl,by rw[←hinv,h];simp⟩
 · rw[h,qL] at hinv
   simp -implicitDefEqProofs only[aB,seval]
   exact⟨(),hinv,aN.mk (by simp -implicitDefEqProofs only[hw,aB,seval])⟩
theorem aP3(l:List Cl)(g:FuncId)(cY:List AV)(p:Cl→Bool)(st:aA)(hc:∀x∈l,aD prog g ([bK x]++cY) st (fun r st'=>r=.bool (p x)∧st'=st)) :
 aD prog 140 [.slice (l.map bK),.func g cY] st (fun r st'=>r=.bool (l.any p)∧st'=st):=by
 refine wF [] 2 func140 ntmps140 rfl rfl ?_
 intro _
 simp -implicitDefEqProofs only[aB,seval]
 refine(aQC l g cY p st hc).mono ?_
 rintro _ _ ⟨j,rfl,hj,rfl⟩
 simp -implicitDefEqProofs only[hj,aB,seval]
abbrev RZ:=zi tI_4 (zi zI_4 (zi cL (zi tI_31 (zi zI_31 (zi aR (zi bO (zi bP (zi cF (zi tI_66 (zi zI_66 (zi b9 (zi cA (zi cB (zi cC (zi bZ (zi tI_84 (zi zI_84 (zi lB (zi lC kV)))))))))))))))))))
theorem aQ8(c:Cl)(st:aA):aD prog 142 [bK c] st (fun r st'=>r=.bool (pO c)∧st'=st):=by
 obtain⟨⟨k,n,s,ts⟩,b⟩:=c
 have hv:=fun st=>VK (.mk k n s ts) st
 have hp:=fun st=>VO k n s ts st
 simp only[bA] at hv hp
 have hg:=fun st=>VD b st
 simp only[m7,pO,QP]
 simp only[mM] at hg
 generalize (Tm.mk k n s ts).valid=v at *
 refine wF [1000000] 1 func142 ntmps142 rfl rfl ?_
 intro _
 simp -implicitDefEqProofs only[aB,seval,RZ]
 refine(hv _).to ?_
 cases v with
 | false=>simp -implicitDefEqProofs only[mB,aB,seval]
 | true=>
  simp -implicitDefEqProofs only[gL,iY,aB,seval,RZ]
  refine(hp _).to ?_
  cases hpl:qB k s (ts.length:Int) with
  | false=>simp -implicitDefEqProofs only[mB,aB,seval]
  | true=>
   simp -implicitDefEqProofs only[gL,iY,aB,seval,RZ]
   refine(hg _).to ?_
   simp -implicitDefEqProofs only[aB,seval]
abbrev a2E:=zi tI_4 (zi zI_4 (zi cL (zi tI_84 (zi zI_84 (zi lB (zi lC kV))))))
theorem aQJ(c:Cl)(st:aA):aD prog 141 [bK c] st (fun r st'=>r=.bool (!pO c)∧st'=st):=by
 refine wF [1000000] 1 func141 ntmps141 rfl rfl ?_
 intro _
 simp -implicitDefEqProofs only[BX,sJ,gA,aB,seval,a2E]
 refine(aQ8 c st).to ?_
 simp -implicitDefEqProofs only[aB,seval]
abbrev a2F:=zi tI_3 (zi zI_3 (zi a7 (zi tI_4 (zi zI_4 (zi cL (zi tI_29 (zi zI_29 (zi eP (zi gO (zi gP gV))))))))))
theorem VH(p:List Cl)(st:aA):aD prog 58 [.slice (p.map bK)] st (fun r st'=>r=.bool (nV p)∧st'=st):=by
 refine wF [1000000] 1 func58 ntmps58 rfl rfl ?_
 simp only[dK,AV.fits,dT,aE]
 intro _
 unfold nV
 simp -implicitDefEqProofs only[aE,aB,seval,a2F]
 refine cU (fun h=>?_) (fun h=>?_)
 · simp only[bM] at h
   rw[show decide (p.length≤20)=true by simp;omega]
   simp -implicitDefEqProofs only[h,aB,seval]
   refine(aP3 p _ [] (fun t=> !pO t) st fun x _=>aQJ x st).to ?_
   simp -implicitDefEqProofs only[NH,aB,seval]
 · simp only[mC,cM] at h
   rw[show decide (p.length≤20)=false by simp;omega]
   simp -implicitDefEqProofs only[h,aB,seval]
   rfl
abbrev DI:=zi tI_3 (zi zI_3 (zi a7 (zi tI_4 (zi zI_4 (zi cL (zi tI_31 (zi zI_31 (zi aR (zi bO (zi bP (zi cF (zi tI_66 (zi zI_66 (zi b9 (zi cA (zi cB (zi cC (zi bZ (zi tI_84 (zi zI_84 (zi lB (zi lC kV))))))))))))))))))))))
theorem aSS(c:Cl)(st:aA):aD prog 143 [bK c] st (fun r st'=>r=.bool (pO c)∧st'=st):=by
 obtain⟨⟨k,n,s,ts⟩,l⟩:=c
 have hv:=fun st=>N2 (.mk k n s ts) st
 have hp:=fun st=>VW k n s ts st
 simp only[bA] at hv hp
 simp only[m7,pO,QP]
 generalize (Tm.mk k n s ts).valid=v at *
 refine wF [1000000] 1 func143 ntmps143 rfl rfl ?_
 simp only[dK,AV.fits,dT,aE]
 intro ⟨_,_,_,_,hl,_⟩
 have tW:l.all Tm.goal=true∨l.length>6→(decide ((l.length:Int)≤6)&&v&&qB k s (ts.length:Int))=(v&&qB k s (ts.length:Int)&&(decide (l.length≤6)&&l.all Tm.goal)):=fun h=>by
  by_cases h6:l.length≤6
  · have hg:l.all Tm.goal=true:=h.resolve_right (by omega)
    rw[hg,show decide ((l.length:Int)≤6)=true from tN (by omega),show decide (l.length≤6)=true from tN h6]
    simp
  · rw[show decide ((l.length:Int)≤6)=false from rB (by omega),show decide (l.length≤6)=false from rB h6]
    simp
 simp -implicitDefEqProofs only[aB,seval,DI]
 refine dL (σ:=Unit) [1000000] [1] l (fun i _=>i≤7∧(l.take i).all Tm.goal=true) (fun i _=>[(2,.bool false),(3,.int .i64 i)]) (fun _ _=>st) (by decide +kernel) ⟨(),⟨by omega,by simp⟩,aN.mk (by simp -implicitDefEqProofs only[aB,↓aY,seval])⟩ (fun i x _ hx hlt bB hdr hinv=>?_) (fun _ hge hinv=>?_)
 · obtain⟨i1,i2⟩:=hinv
   have hw:=bG (n:=(i:Int)+1)
   by_cases h7:i≤6
   · have h7':decide ((i:Int)≤6)=true:=tN (by omega)
     have hat:=bH (av:=Tm.av) aR hx (aO x)
     simp -implicitDefEqProofs only[bB,f6,gL,aE,h7',hat,cE,aO,aB,seval,DI]
     refine(WE x st).to ?_
     simp -implicitDefEqProofs only[aB,seval]
     refine aT (fun h2=>?_) (fun h2=>?_)
     · simp only[gW] at h2
       simp -implicitDefEqProofs only[aB,seval]
       have:l.all Tm.goal=false:=uU hx h2
       rw[this];simp
     · simp only[kJ] at h2
       simp -implicitDefEqProofs only[aB,seval]
       refine⟨(),⟨by omega,?_⟩,aN.mk (by simp -implicitDefEqProofs only[hw,aB,seval])⟩
       rw[eH,hx,A0,i2]
       simp [h2]
   · have h7':decide ((i:Int)≤6)=false:=rB (by omega)
     have h8:decide ((l.length:Int)≤6)=false:=rB (by omega)
     rw[←tW (.inr (by omega)),h8]
     simp -implicitDefEqProofs only[bB,f6,gL,h8,mB,aE,h7',aB,seval,DI]
 · obtain⟨i1,i2⟩:=hinv
   rw[dQ] at i2
   rw[←tW (.inl i2)]
   cases h8:decide ((l.length:Int)≤6) with
   | false=>
    simp -implicitDefEqProofs only[hge,aE,h8,mB,aB,seval,DI]
   | true=>
    simp -implicitDefEqProofs only[hge,gL,aE,h8,iY,aB,seval,DI]
    refine(hv _).to ?_
    cases v with
    | false=>simp -implicitDefEqProofs only[mB,aB,seval]
    | true=>
     simp -implicitDefEqProofs only[gL,iY,aB,seval,DI]
     refine(hp _).to ?_
     simp -implicitDefEqProofs only[aB,seval]
abbrev R5:=zi tI_3 (zi zI_3 (zi a7 (zi tI_4 (zi zI_4 (zi cL (zi tI_29 (zi zI_29 (zi eP (zi gO (zi gP (zi gV (zi tI_84 (zi zI_84 (zi lB (zi lC kV)))))))))))))))
theorem aSU(l:List Cl)(st:aA):aD prog 59 [.slice (l.map bK)] st (fun r st'=>r=.bool (nV l)∧st'=st):=by
 refine wF [1000000] 1 func59 ntmps59 rfl rfl ?_
 simp only[dK,AV.fits,dT,aE]
 intro ⟨hl,_⟩
 simp -implicitDefEqProofs only[aB,seval]
 refine dL (σ:=Unit) [1000000] [0] l (fun i _=>i≤21∧(l.take i).all pO=true) (fun i _=>[(2,.bool false),(3,.int .i64 i)]) (fun _ _=>st) (by decide +kernel) ⟨(),⟨by omega,by simp⟩,aN.mk (by simp -implicitDefEqProofs only[aB,↓aY,seval])⟩ (fun i x _ hx hlt bB hdr hinv=>?_) (fun _ hge hinv=>?_)
 · obtain⟨i1,i2⟩:=hinv
   have hw:=bG (n:=(i:Int)+1)
   by_cases h7:i≤20
   · have h7':decide ((i:Int)≤20)=true:=tN (by omega)
     have hat:=bH (av:=bK) eP hx (gA x)
     simp -implicitDefEqProofs only[bB,f6,gL,aE,h7',hat,sJ,gA,aB,seval,R5]
     refine(aSS x st).to ?_
     simp -implicitDefEqProofs only[aB,seval]
     refine aT (fun h2=>?_) (fun h2=>?_)
     · simp only[gW] at h2
       simp -implicitDefEqProofs only[aB,seval]
       have:l.all pO=false:=uU hx h2
       simp only[nV,this,x8]
     · simp only[kJ] at h2
       simp -implicitDefEqProofs only[aB,seval]
       refine⟨(),⟨by omega,?_⟩,aN.mk (by simp -implicitDefEqProofs only[hw,aB,seval])⟩
       rw[eH,hx,A0,i2]
       simp [h2]
   · have h7':decide ((i:Int)≤20)=false:=rB (by omega)
     have h8:decide ((l.length:Int)≤20)=false:=rB (by omega)
     have h9:decide (l.length≤20)=false:=rB (by omega)
     simp -implicitDefEqProofs only[bB,f6,gL,aE,h7',h8,nV,h9,mB,aB,seval,R5]
 · obtain⟨i1,i2⟩:=hinv
   rw[dQ] at i2
   simp -implicitDefEqProofs only[hge,aE,aB,seval,R5]
   simp only[nV,i2,AT,AV.bool.injEq,decide_eq_decide]
   omega
end Go.AW
namespace Go.AW
theorem NM{P:Program}{N:Nat}{x y:Code}{Q:Exit→AF→aA→Prop}{φ:AF}{st:aA}(e:fC P N x (DO (fC P N y Q) Q) φ st):fC P N (.seq x y) Q φ st:=fun a w R=>by
 refine wp_seq (wp_mono (e a w R) ?_)
 rintro ex a' w' ⟨φ',st',R',T,s,q⟩
 cases ex with
 | normal=>exact wp_mono (q a' w' R') fun _ _ _ h=>h.mono T s
 | _=>exact⟨φ',st',R',T,s,q⟩
theorem aO1{P:Program}{g:FuncId}{fn:Func}{c:Code}{args:List AV}{st:aA}{N:Nat}{rs:List ResultVar}{K:AV→aA→Prop}(hf:P.funcs[g]?=some fn)(hN:fn.ntmps=N)(hr:fn.results=rs.toArray)(hb:fn.body=some c)(hn:(fn.name == "runtime.NumGoroutine")=false)
 (xB:args.length≤N) (e:dK args→fC P N c (DA P rs.toArray K) (qW 0 args) st):aD P g args st K:=by
 subst hN
 rw[←hr] at e
 refine⟨⟨fn,hf,by simp [hb],hn⟩,fun w vs S V=>?_⟩
 have e:=e V.fits
 have hl:=V.length
 have R:Rel fn.ntmps { tmps:=vs.toArray++Array.replicate (fn.ntmps - vs.toArray.size) undef,defers:=[] } w (qW 0 args) st:=by
  refine⟨by simp;omega,rfl,NJ args vs 0 V fun j v hj=>?_,S⟩
  obtain⟨hjl,hjv⟩:=eE.1 hj
  simp [Array.getElem?_append,hjl,hjv]
 refine calls_of_wp hf hb (wp_mono (e _ w R) ?_)
 rintro ex a' w' ⟨φ',st',R',T,s,q⟩
 have fin:(match oD P φ' st' fn.results.toList with | some xs=>DR K st' xs | none=>False)→a'.defers= []∧∃v,(results fn a'.tmps).run P w'=.ok v w' ∧
  (∃v2 r st2,(Ending.returned v)=.returned v2∧aQ w'.heap st2 r v2∧cI w'.heap st2∧bU w.heap st w'.heap st2∧eW w w'∧K r st2):=by
  intro q
  split at q
  · rename_i xs hx
    obtain⟨v,r,r1,r2,r3⟩:=aK3 R'.frame R'.store hx q
    exact⟨R'.defers,v,r1,v,r,st',rfl,r2,R'.store,T,s,r3⟩
  · cases q
 cases ex with
 | normal=>exact fin q
 | ret=>exact fin q
 | _=>exact q.elim
theorem aQ.a1Q{h:bF}{st:aA}{es:List AV}{v:Value}(y:aQ h st (.slice es) v):∃a n c,v=.slice a n c∧(es≠[]→a.isNone=false):=by
 obtain⟨y0,y1⟩:=y
 have hv:v.cells.toList= [v]:=by cases v<;>first | rfl | (simp [AV.isAgg,iX] at y0)
 unfold VC at y1
 rw[hv] at y1
 rcases y1 with ⟨⟨p,e⟩,rfl⟩ | ⟨b,off,cap,e,_⟩
 · exact⟨p,0,0,by simpa using e,fun h=>absurd rfl h⟩
 · exact⟨_,_,_,by simpa using e,fun _=>rfl⟩
theorem aPO{P:Program}{N:Nat}{id i d d':Nat}{t e ty ty' tx:TypeId}{pos pos':String}{aft qT:Array Edge}{es:List AV}{Q:Exit→AF→aA→Prop}{φ:AF}{st:aA}(ht:P.underlying t=some (.slice e))
 (hd:d<N) (hd':d'<N) (hx:φ i=.slice es) (k:∀c:Bool,(es≠[]→c=false)→Q .normal ((φ.aC d (.slice es)).aC d' (.bool c)) st) :
 fC P N (.region id #[⟨some d,.move (.tmp i),ty,pos,aft,none⟩,⟨some d',.binOp .eql t (.tmp d) (.const (.slice none 0 0)) tx,ty',pos',qT,none⟩] false) Q φ st:=fun a w R=>by
 refine wp_region_list ?_
 have hN:∀(j q:Nat),((#[⟨some d,.move (.tmp i),ty,pos,aft,none⟩,⟨some d',.binOp .eql t (.tmp d) (.const (.slice none 0 0)) tx,ty',pos',qT,none⟩]:Array Oper)[j]?).bind (·.dst)=some q→q<N:=by
  intro j q e
  match j with
  | 0=>simp at e;subst e;exact hd
  | 1=>simp at e;subst e;exact hd'
  | j+2=>simp at e
 refine qQ (mt:=[]) (K:=fun φ' st'=>φ'=φ.aC d (.slice es)∧st'=st) hN (by simp [nM,hd]) R (by
  show φ.put (some d) (φ i)=_∧_
  rw[hx]
  exact⟨rfl,rfl⟩) ?_
 rintro a1 w1 _ _ R1 T1 s1 ⟨rfl,rfl⟩
 have y:=R1.frame d
 rw[AF.aJ] at y
 obtain⟨p,n,c,hv,hp⟩:=y.a1Q
 have hv':a1.eval (.tmp d)=.slice p n c:=hv
 unfold wpList
 rw[aH (by rfl)]
 refine .inl ?_
 have gQ:(execOp a1.eval ⟨some d',.binOp .eql t (.tmp d) (.const (.slice none 0 0)) tx,ty',pos',qT,none⟩).run P w1=.ok (.value (.bool p.isNone)) w1:=by
  simp only[execOp,hv']
  rw[show a1.eval (.const (.slice none 0 0))=.slice none 0 0 from rfl]
  simp [eqGuard_at_slice,Lib.run_eql_slice_nil w1 t e p n c 0 0 ht]
 simp only[Oper.wp,gQ,Oper.upon]
 unfold wpList
 exact⟨_,_,R1.put (o:=⟨some d',.binOp .eql t (.tmp d) (.const (.slice none 0 0)) tx,ty',pos',qT,none⟩) (by simp [nM,hd']) (bU.refl _ _) R1.store aQ.kW,T1,s1,k _ hp⟩
def aS:AV→List Nat
 | .mslice b _ _ _=>[b]
 | _=>[]
def fH(st:aA)(w:Nat)(q:AV)(l:List AV):Prop:=
 (q=.fslice []∧l= [])∨∃b cs,q=.mslice b 0 l.length w∧st b=Option.some (.cells cs)∧cs.take (l.length*w)=l.flatMap AV.cells∧l.length*w≤cs.length
theorem fH.shape{st:aA}{w:Nat}{q:AV}{l:List AV}(h:fH st w q l):q.isAgg=false∧q.width=1∧q.cD=false∧q.cells= [q]∧q.storable=true:=by
 rcases h with ⟨rfl,_⟩ | ⟨b',cs,rfl,_⟩<;>exact⟨rfl,rfl,rfl,rfl,rfl⟩
theorem fH.aU{st st':aA}{w:Nat}{q:AV}{l:List AV}(h:fH st w q l)(hk:∀b∈aS q,st' b=st b):fH st' w q l:=by
 rcases h with h | ⟨b,cs,rfl,hb,h2⟩
 · exact .inl h
 · exact .inr ⟨b,cs,rfl,by rw[hk b (by simp [aS])];exact hb,h2⟩
theorem fH.some{st:aA}{w:Nat}{q:AV}{l:List AV}(h:fH st w q l):∀b∈aS q,∃cs,st b=Option.some (.cells cs):=by
 intro b hb
 rcases h with ⟨rfl,_⟩ | ⟨b',cs,rfl,hb',_⟩
 · simp [aS] at hb
 · simp only[aS,cQ,dD,dN] at hb;subst hb;exact⟨cs,hb'⟩
theorem fH.len{P:Program}{t e:TypeId}{st:aA}{w:Nat}{q:AV}{l:List AV}(h:fH st w q l)(hu:P.underlying t=Option.some (.slice e)):jZ P t q=Option.some (.int .i64 (l.length:Int)):=by
 rcases h with ⟨rfl,rfl⟩ | ⟨b,cs,rfl,_⟩<;>simp only[jZ,hu,bL]
theorem fH.append{P:Program}{t:TypeId}{ag:Bool}{bytes w:Nat}{zs:List AV}{st:aA}{q:AV}{l:List AV}{x:AV}{K:AV→aA→Prop}(hI:eI P t=Option.some (ag,w))(hB:eB P t=Option.some bytes)(hZ:eZ P t=Option.some zs)(hz:zs.length=w)(hb8:bytes≤4096)
 (h:fH st w q l) (hx:x.width=w) (hxs:x.cells.all AV.storable=true) (hl:l.length≤1073741824)
 (hK:∀q' st',fH st' w q' (l++ [x])→(∀y,y∉aS q→y∉aS q'→st' y=st y)→(∀y∈aS q',y∈aS q∨st y=none)→K q' st'):iZ P t st q (.fslice [x]) K:=by
 have eL:uV w [x]:=by intro e he;simp only[cQ,dD,dN] at he;subst he;exact⟨hx,hxs⟩
 have xC:(l.length+1)*bytes≤140737488355328:=by
  have:=HO (show l.length+1≤1073741825 by omega) hb8
  omega
 have hxc:x.cells.length=w:=by rw[pN,hx]
 unfold iZ
 simp only[hI,hB,hZ,wJ]
 refine⟨hz,eL,?_⟩
 rcases h with ⟨rfl,rfl⟩ | ⟨b,cs,rfl,hb,hcs,hcl⟩
 · simp only[bL,a8,gU] at xC ⊢
   refine⟨by omega,by omega,by simp,fun h=>by simp at h,fun _ b hb=>?_⟩
   refine hK _ _ (.inr ⟨b,x.cells,rfl,by rw[aA.aJ];simp,?_,?_⟩) (fun y _ hy=>?_) (fun y hy=>?_)
   · simp only[eU,a8,bL,gU,Nat.one_mul,pF,List.flatMap_nil,fA]
     rw[←hxc,dQ]
   · simp only[eU,a8,bL,gU,Nat.one_mul]
     omega
   · simp only[aS,cQ,dD,dN] at hy
     rw[aA.aF _ _ hy]
   · simp only[aS,cQ,dD,dN] at hy
     subst hy;exact .inr hb
 · simp only[a8,bL,gU,hb]
   have hH:cs.take (l.length*w)++ [x].flatMap AV.cells=(l++ [x]).flatMap AV.cells:=by rw[hcs];simp
   have hlen:((l++ [x]).flatMap AV.cells).length=(l++ [x]).length*w:=by
    rw[←hH,dP,dI,jX hcl]
    simp only[pF,List.flatMap_nil,fA,hxc,dP,a8,bL]
    rw[r9];omega
   refine⟨trivial,xC,by omega,hcl,?_,fun b' hb'=>?_⟩
   · rw[hH]
     refine hK _ _ (.inr ⟨b,_,by simp,aA.aJ _ _ _,by rw[mY (by rw[hlen];exact cO _)],by rw[hlen];exact cO _⟩) (fun y hy _=>?_) (fun y hy=>.inl hy)
     simp only[aS,cQ,dD,dN] at hy
     rw[aA.aF _ _ hy]
   · rw[hH]
     refine hK _ _ (.inr ⟨b',_,by simp,aA.aJ _ _ _,by rw[mY (by rw[hlen];exact cO _)],by rw[hlen];exact cO _⟩) (fun y hy hy'=>?_) (fun y hy=>?_)
     · simp only[aS,cQ,dD,dN] at hy hy'
       rw[aA.aF _ _ hy']
       simp [aA.erase,hy]
     · simp only[aS,cQ,dD,dN] at hy
       subst hy;exact .inr hb'
def wV(k:Nat):AV→AV
 | .mslice b o _ w=>.mslice b o k w
 | a=>a
theorem fH.take{st:aA}{w:Nat}{q:AV}{l:List AV}(h:fH st w q l){k:Nat}(hk:k≤l.length)(hw:∀e∈l,e.width=w):fH st w (wV k q) (l.take k):=by
 rcases h with ⟨rfl,rfl⟩ | ⟨b,cs,rfl,hb,hcs,hcl⟩
 · exact .inl ⟨rfl,by simp⟩
 · have hlk:(l.take k).length=k:=by rw[dI];omega
   have h1:k*w≤l.length*w:=yJ w hk
   refine .inr ⟨b,cs,by rw[hlk];try rfl,hb,?_,by rw[hlk];omega⟩
   rw[hlk]
   have h2:cs.take (k*w)=(cs.take (l.length*w)).take (k*w):=by rw[yG,jX h1]
   rw[h2,hcs]
   have h3:l.flatMap AV.cells=(l.take k).flatMap AV.cells++(l.drop k).flatMap AV.cells:=by rw[←r7,n9]
   have h4:((l.take k).flatMap AV.cells).length=k*w:=by rw[lK (n:=w) (es:=l.take k) (fun e he=>hw e (pG he)),hlk]
   rw[h3,D5 h4]
theorem C4(k:Nat)(q:AV):aS (wV k q)=aS q:=by cases q<;>rfl
theorem fH.at{st:aA}{w:Nat}{q:AV}{l:List AV}(h:fH st w q l)(hw:∀e∈l,e.width=w){i:Nat}{e:AV}(he:l[i]?=.some e) :
 ∃b cs,q=.mslice b 0 l.length w∧st b=.some (.cells cs)∧i*w+w≤cs.length∧(cs.drop (i*w)).take w=e.cells:=by
 obtain⟨hi,hei⟩:=eE.1 he
 rcases h with ⟨rfl,rfl⟩ | ⟨b,cs,rfl,hb,hcs,hcl⟩
 · simp at he
 · have h1:(i+1)*w≤l.length*w:=yJ w hi
   rw[r9,Nat.one_mul] at h1
   refine⟨b,cs,rfl,hb,by omega,?_⟩
   have h2:l=l.take i++e::l.drop (i+1):=by rw[←hei,←pE hi,n9]
   have hA:((l.take i).flatMap AV.cells).length=i*w:=by
    rw[lK (n:=w) (es:=l.take i) (fun e he=>hw e (pG he)),dI,jX (by omega)]
   have hE:e.cells.length=w:=by rw[pN];exact hw e (cG he)
   have h3:(cs.drop (i*w)).take w=((cs.take (l.length*w)).drop (i*w)).take w:=by
    rw[List.drop_take,yG,jX (by omega)]
   rw[h3,hcs,h2]
   simp only[r7,pF]
   rw[List.drop_left' hA,D5 hE]
end Go.AW
