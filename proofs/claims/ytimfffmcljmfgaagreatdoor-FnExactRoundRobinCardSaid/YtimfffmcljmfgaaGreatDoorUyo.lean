import Derived.Test.YtimfffmcljmfgaaGreatDoorUym
import Derived.Test.YtimfffmcljmfgaaGreatDoorUyk
import Derived.Test.YtimfffmcljmfgaaGreatDoorUyn
import Derived.Test.YtimfffmcljmfgaaGreatDoorUyl
set_option linter.unusedSimpArgs false
set_option linter.unusedVariables false
set_option maxRecDepth 100000
namespace Go.AW
open Go.Proofs.Tryz
def mD(c m:Nat)(st:aA)(q:AV)(tr:List Int)(x:Int×Sub×List Int)(r:AV)(st':aA):Prop:=r=.int .i64 x.1∧uO c m st q x.2.1 (tr++x.2.2) st'
theorem mD.same{c m:Nat}{st:aA}{q:AV}{σ:Sub}{tr:List Int}(h:fR st c m q σ tr){r:AV}(k:Int)(hr:r=.int .i64 k):mD c m st q tr (k,σ,[]) r st:=⟨hr,q,by rw[fA];exact h,lW.refl _ _ _ _⟩
theorem fR.aNK{P:Program}{t e:TypeId}{st:aA}{c m:Nat}{q:AV}{σ:Sub}{tr:List Int}(h:fR st c m q σ tr)(hu:P.underlying t=some (.slice e)):jZ P t q=some (.int .i64 (tr.length:Int)):=by
 rcases h.eT with ⟨rfl,rfl⟩ | ⟨b,cs,rfl,_⟩<;>simp only[jZ,hu,bL]
theorem EW{N:Nat}{σ:Sub}(hg:cJ σ)(ho:cK (bD N) σ)(a b:Tm)(ha:bD N a)(hb:bD N b)(c m:Nat)(q:AV)(tr:List Int)(st:aA)(hS:fR st c m q σ tr)(hl:tr.length+N≤1099511627776) :
 aD prog 360 [.ptr c 0,a.av,b.av] st (fun r st'=>r=.bool (iQ σ a b).1∧uO c m st q (iQ σ a b).2.1 (tr++(iQ σ a b).2.2) st'):=by
 obtain⟨r,σ',tr',hU⟩:=tD hg ho ha hb
 obtain⟨g,gQ⟩:=hU.run
 have hlen:=CW hU.mU.nodup hU.fP
 rw[hU.eq]
 exact WK g σ a b r σ' tr' hg (ho.imp fun t ht=>ht.1.small) ha.1.small hb.1.small gQ c m q tr st hS (by omega)
abbrev lF:=zi tI_3 (zi zI_3 (zi a7 (zi tI_4 (zi zI_4 (zi cL (zi tI_9 (zi zI_9 (zi d9 (zi tI_31 (zi zI_31 (zi aR (zi bO (zi bP (zi cF (zi tI_46 (zi zI_46 (zi cW (zi eJ (zi eF (zi eY (zi tI_66 (zi zI_66 (zi b9 (zi cA (zi cB (zi cC (zi bZ (zi tI_227 (zi zI_227 (zi tI_304 (zi zI_304 (zi B9 (zi CA BR)))))))))))))))))))))))))))))))))
theorem aQK{N:Nat}{σ:Sub}(hg:cJ σ)(ho:cK (bD N) σ)(n:Int)(s:ByteArray)(ks:List Tm)(hb:isBuiltin s (ks.length:Int)=true)(hv:∀x∈ks,bD N x)(c m:Nat)(q:AV)(tr:List Int)(st:aA)(hS:fR st c m q σ tr)(hl:tr.length+N≤1099511627776) :
 aD prog 308 [.ptr c 0,(Tm.mk 3 n s ks).av] st (mD c m st q tr (cZ σ s ks)):=by
 have PF:=aQR 3 n s ks
 have hcs:=UX hb
 have CJ:=fun x y (hxy:ks= [x,y]) h=>aQQ n s x y h (hv x (by simp [hxy])).1 (hv y (by simp [hxy])).1
 simp only[bA] at PF CJ ⊢
 refine wF [1000000] 2 func308 ntmps308 rfl rfl ?_
 intro _
 simp -implicitDefEqProofs only[aB,seval,lF]
 refine(PF _).to ?_
 simp -implicitDefEqProofs only[aB,seval]
 refine aT (fun h=>?_) (fun h=>?_)
 · have h':ks.length=2∧fP qZ s=true:=by simp at h;exact⟨by omega,h.2⟩
   obtain⟨x,y,rfl⟩:=t8 h'.1
   have e:cZ σ s [x,y]=(wU s x y,σ,[]):=by simp only[cZ];rw[aH h'.2]
   rw[e]
   have hc:=CJ x y rfl h'.2
   simp only[bR,bQ] at hc
   simp -implicitDefEqProofs only[aB,↓aY,seval,lF]
   refine(hc _).to ?_
   simp -implicitDefEqProofs only[aB,seval]
   exact mD.same hS _ rfl
 have hnc:ks.length=2→fP qZ s=false:=fun h2=>by simpa [h2] using h
 clear PF CJ h
 simp -implicitDefEqProofs only[aB,seval,lF]
 refine aT (fun h=>?_) (fun h=>?_)
 · have hs:s=⟨#[116,114,117,101]⟩:=by simpa using h
   have hk:=KF (ts:=ks) (by subst hs;simpa [isBuiltin] using hb)
   subst hk
   simp -implicitDefEqProofs only[aB,seval]
   exact mD.same hS _ (by simp [gZ,hs])
 have ht:s≠⟨#[116,114,117,101]⟩:=by simpa using h
 simp -implicitDefEqProofs only[aB,seval]
 refine aT (fun h=>?_) (fun h=>?_)
 · have hs:s=⟨#[102,97,105,108]⟩:=by simpa using h
   have hk:=KF (ts:=ks) (by subst hs;simpa [isBuiltin] using hb)
   subst hk
   simp -implicitDefEqProofs only[aB,seval]
   exact mD.same hS _ (by simp [gZ,hs])
 have hf:s≠⟨#[102,97,105,108]⟩:=by simpa using h
 simp -implicitDefEqProofs only[aB,seval]
 refine aT (fun h=>?_) (fun h=>?_)
 · have hs:s=⟨#[61]⟩:=by simpa using h
   obtain⟨x,y,rfl⟩:=t8 (ts:=ks) (by subst hs;simp [isBuiltin] at hb;omega)
   have e:cZ σ s [x,y]=rW σ x y:=by simp only[cZ];rw[aG (by rw[hnc rfl];simp),aH hs]
   rw[e]
   have dW:dM prog 31 (.slice [x.av,y.av]) (.int .i64 0)=some (.pptr x.av):=bH (av:=Tm.av) (l:=[x,y]) (i:=0) aR rfl (aO x)
   have f8:dM prog 31 (.slice [x.av,y.av]) (.int .i64 1)=some (.pptr y.av):=bH (av:=Tm.av) (l:=[x,y]) (i:=1) aR rfl (aO y)
   simp -implicitDefEqProofs only[aB,↓aY,seval]
   refine wX [(0,1),(1,1),(2,1),(3,1),(4,1),(5,1),(6,1),(7,0),(8,0),(9,1)] [0,1,2,3,4,5,6,9] dH mixed rfl fV ?_
   simp -implicitDefEqProofs only[dW,f8,cE,aO,aB,seval,lF]
   refine(EW hg ho x y (hv x (by simp)) (hv y (by simp)) c m q tr _ hS hl).mono ?_
   rintro _ s2 ⟨rfl,hP⟩
   simp -implicitDefEqProofs only[aB,seval]
   refine⟨fV,?_⟩
   refine(oH _ _).to ?_
   simp -implicitDefEqProofs only[aB,seval]
   exact⟨fV,rfl,hP⟩
 have he:s≠⟨#[61]⟩:=by simpa using h
 simp -implicitDefEqProofs only[aB,seval]
 refine aT (fun h=>?_) (fun h=>?_)
 · have hs:s=⟨#[92,61]⟩:=by simpa using h
   obtain⟨x,y,rfl⟩:=t8 (ts:=ks) (by subst hs;simp [isBuiltin] at hb;omega)
   have e:cZ σ s [x,y]=(gZ (!(iQ σ x y).1),σ,[]):=by simp only[cZ];rw[aG (by rw[hnc rfl];simp),aG he,aH hs]
   rw[e]
   have e1:=hS.sub.cells
   have hql:=hS.aNK eY
   obtain⟨hqa,hqw,hqj,hqc,hqs⟩:=hS.shape
   have dW:dM prog 31 (.slice [x.av,y.av]) (.int .i64 0)=some (.pptr x.av):=bH (av:=Tm.av) (l:=[x,y]) (i:=0) aR rfl (aO x)
   have f8:dM prog 31 (.slice [x.av,y.av]) (.int .i64 1)=some (.pptr y.av):=bH (av:=Tm.av) (l:=[x,y]) (i:=1) aR rfl (aO y)
   simp -implicitDefEqProofs only[e1,hql,hqa,aB,↓aY,seval,lF]
   refine wX [(0,1),(1,1),(2,1),(3,1),(4,1),(5,1),(6,1),(7,0),(8,1)] [0,1,2,3,4,5,6,8] dH mixed rfl fV ?_
   simp -implicitDefEqProofs only[dW,f8,cE,aO,aB,seval,lF]
   refine(EW hg ho x y (hv x (by simp)) (hv y (by simp)) c m q tr _ hS hl).mono ?_
   rintro _ s2 ⟨rfl,hP⟩
   obtain⟨r,σ',add,hU⟩:=tD hg ho (hv x (by simp)) (hv y (by simp))
   rw[hU.eq] at hP ⊢
   obtain⟨q',hS2,hQ2⟩:=hP
   have aVO:=CW hU.mU.nodup hU.fP
   simp -implicitDefEqProofs only[aB,seval]
   refine⟨fV,?_⟩
   refine(N4 σ' (tr++add) tr.length (by simp) c m q' s2 hS2 (by rw[dP];omega)).mono ?_
   rintro _ s3 ⟨rfl,q2,hS3,hb3,hk3⟩
   rw[A1,D4,show σ'.out add=σ from funext fun n=>hU.out n] at hS3
   simp -implicitDefEqProofs only[aB,seval]
   refine(oH _ _).to ?_
   simp -implicitDefEqProofs only[aB,seval]
   refine⟨rfl,q2,by rw[fA];exact hS3,fun b o h h1 h2 h3=>hk3 b o (hQ2.frame b o h h1 h2 h3) h1 h2,fun b hb'=>hQ2.fresh b (hb3 b hb')⟩
 have hne:s≠⟨#[92,61]⟩:=by simpa using h
 simp -implicitDefEqProofs only[aB,seval]
 refine aT (fun h=>?_) (fun h=>?_)
 · have hs:s=⟨#[61,61]⟩:=by simpa using h
   obtain⟨x,y,rfl⟩:=t8 (ts:=ks) (by subst hs;simp [isBuiltin] at hb;omega)
   have e:cZ σ s [x,y]=(gZ (x.same y),σ,[]):=by simp only[cZ];rw[aG (by rw[hnc rfl];simp),aG he,aG hne,aH hs]
   rw[e]
   have dW:dM prog 31 (.slice [x.av,y.av]) (.int .i64 0)=some (.pptr x.av):=bH (av:=Tm.av) (l:=[x,y]) (i:=0) aR rfl (aO x)
   have f8:dM prog 31 (.slice [x.av,y.av]) (.int .i64 1)=some (.pptr y.av):=bH (av:=Tm.av) (l:=[x,y]) (i:=1) aR rfl (aO y)
   simp -implicitDefEqProofs only[aB,↓aY,seval]
   refine yQ mixed (by decide +kernel) (by decide +kernel) ?_
   simp -implicitDefEqProofs only[dW,f8,cE,aO,aB,seval,lF]
   refine kC (VJ x y _) ?_
   simp -implicitDefEqProofs only[aB,seval]
   refine kC (oH _ _) ?_
   simp -implicitDefEqProofs only[aB,seval]
   exact mD.same hS _ rfl
 have hee:s≠⟨#[61,61]⟩:=by simpa using h
 simp -implicitDefEqProofs only[aB,seval]
 refine aT (fun h=>?_) (fun h=>?_)
 · have hs:s=⟨#[105,115]⟩:=by simpa using h
   obtain⟨x,y,rfl⟩:=t8 (ts:=ks) (by subst hs;simp [isBuiltin] at hb;omega)
   have e:cZ σ s [x,y]=if y.ev.2≠0 then(y.ev.2,σ,[]) else rW σ x (nB y.ev.1):=by simp only[cZ];rw[aG (by rw[hnc rfl];simp),aG he,aG hne,aG hee]
   rw[e]
   have hy:=hv y (by simp)
   have hin:=KD (N:=N) (Tm.tR y hy.1)
   have har:=fun st=>IE y st hy.1
   generalize y.ev.1=a at *
   generalize y.ev.2=ca at *
   have dW:dM prog 31 (.slice [x.av,y.av]) (.int .i64 0)=some (.pptr x.av):=bH (av:=Tm.av) (l:=[x,y]) (i:=0) aR rfl (aO x)
   have f8:dM prog 31 (.slice [x.av,y.av]) (.int .i64 1)=some (.pptr y.av):=bH (av:=Tm.av) (l:=[x,y]) (i:=1) aR rfl (aO y)
   simp -implicitDefEqProofs only[f8,cE,aO,aB,↓aY,seval,lF]
   refine(har _).to ?_
   simp -implicitDefEqProofs only[aB,seval]
   refine aT (fun h4=>?_) (fun h4=>?_)
   · simp -implicitDefEqProofs only[aB,seval]
     have h4':ca≠0:=by simpa using h4
     rw[aH h4']
     exact mD.same hS _ rfl
   have h4':ca=0:=by simpa using h4
   subst h4'
   rw[aG (by simp)]
   simp -implicitDefEqProofs only[aB,seval]
   refine wX [(0,1),(1,1),(2,1),(3,1),(4,1),(5,0),(6,0),(7,0),(8,1)] [0,1,2,3,4,8] dH mixed rfl fV ?_
   simp -implicitDefEqProofs only[dW,cE,aO,aB,seval,lF]
   refine(aSJ a _).to ?_
   simp -implicitDefEqProofs only[aB,seval]
   refine⟨fV,?_⟩
   refine(EW hg ho x (nB a) (hv x (by simp)) hin c m q tr _ hS hl).mono ?_
   rintro _ s2 ⟨rfl,hP⟩
   simp -implicitDefEqProofs only[aB,seval]
   refine⟨fV,?_⟩
   refine(oH _ _).to ?_
   simp -implicitDefEqProofs only[aB,seval]
   exact⟨fV,rfl,hP⟩
 have his:s≠⟨#[105,115]⟩:=by simpa using h
 simp -implicitDefEqProofs only[aB,seval]
 refine aT (fun h=>?_) (fun h=>?_)
 · have hs:s=⟨#[118,97,114]⟩:=by simpa using h
   obtain⟨x,rfl⟩:=F7 (ts:=ks) (by subst hs;simp [isBuiltin] at hb;omega)
   have e:cZ σ s [x]=(gZ (s8 s x),σ,[]):=rfl
   rw[e]
   subst hs
   obtain⟨xk,xn,xs,xt⟩:=x
   have dW:dM prog 31 (.slice [(Tm.mk xk xn xs xt).av]) (.int .i64 0)=some (.pptr (Tm.mk xk xn xs xt).av):=bH (av:=Tm.av) (l:=[Tm.mk xk xn xs xt]) (i:=0) aR rfl (aO _)
   have eat:=ES xk xn xs xt
   simp only[bA] at dW eat
   simp only[bR,bQ,bA]
   simp -implicitDefEqProofs only[dW,aB,↓aY,seval,lF]
   refine(oH _ _).to ?_
   simp -implicitDefEqProofs only[aB,seval]
   exact mD.same hS _ rfl
 have hva:s≠⟨#[118,97,114]⟩:=by simpa using h
 simp -implicitDefEqProofs only[aB,seval]
 refine aT (fun h=>?_) (fun h=>?_)
 · have hs:s=⟨#[110,111,110,118,97,114]⟩:=by simpa using h
   obtain⟨x,rfl⟩:=F7 (ts:=ks) (by subst hs;simp [isBuiltin] at hb;omega)
   have e:cZ σ s [x]=(gZ (s8 s x),σ,[]):=rfl
   rw[e]
   subst hs
   obtain⟨xk,xn,xs,xt⟩:=x
   have dW:dM prog 31 (.slice [(Tm.mk xk xn xs xt).av]) (.int .i64 0)=some (.pptr (Tm.mk xk xn xs xt).av):=bH (av:=Tm.av) (l:=[Tm.mk xk xn xs xt]) (i:=0) aR rfl (aO _)
   have eat:=ES xk xn xs xt
   simp only[bA] at dW eat
   simp only[bR,bQ,bA]
   simp -implicitDefEqProofs only[dW,aB,↓aY,seval,lF]
   refine(oH _ _).to ?_
   simp -implicitDefEqProofs only[aB,seval]
   exact mD.same hS _ rfl
 have hnv:s≠⟨#[110,111,110,118,97,114]⟩:=by simpa using h
 simp -implicitDefEqProofs only[aB,seval]
 refine aT (fun h=>?_) (fun h=>?_)
 · have hs:s=⟨#[97,116,111,109]⟩:=by simpa using h
   obtain⟨x,rfl⟩:=F7 (ts:=ks) (by subst hs;simp [isBuiltin] at hb;omega)
   have e:cZ σ s [x]=(gZ (s8 s x),σ,[]):=rfl
   rw[e]
   subst hs
   obtain⟨xk,xn,xs,xt⟩:=x
   have dW:dM prog 31 (.slice [(Tm.mk xk xn xs xt).av]) (.int .i64 0)=some (.pptr (Tm.mk xk xn xs xt).av):=bH (av:=Tm.av) (l:=[Tm.mk xk xn xs xt]) (i:=0) aR rfl (aO _)
   have eat:=ES xk xn xs xt
   simp only[bA] at dW eat
   simp only[bR,bQ,bA]
   simp -implicitDefEqProofs only[dW,aB,↓aY,seval,lF]
   refine(eat _).to ?_
   simp -implicitDefEqProofs only[aB,seval]
   refine(oH _ _).to ?_
   simp -implicitDefEqProofs only[aB,seval]
   exact mD.same hS _ rfl
 have hat:s≠⟨#[97,116,111,109]⟩:=by simpa using h
 simp -implicitDefEqProofs only[aB,seval]
 refine aT (fun h=>?_) (fun h=>?_)
 · have hs:s=⟨#[105,110,116]⟩:=by simpa using h
   obtain⟨x,rfl⟩:=F7 (ts:=ks) (by subst hs;simp [isBuiltin] at hb;omega)
   have e:cZ σ s [x]=(gZ (s8 s x),σ,[]):=rfl
   rw[e]
   subst hs
   obtain⟨xk,xn,xs,xt⟩:=x
   have dW:dM prog 31 (.slice [(Tm.mk xk xn xs xt).av]) (.int .i64 0)=some (.pptr (Tm.mk xk xn xs xt).av):=bH (av:=Tm.av) (l:=[Tm.mk xk xn xs xt]) (i:=0) aR rfl (aO _)
   have eat:=ES xk xn xs xt
   simp only[bA] at dW eat
   simp only[bR,bQ,bA]
   simp -implicitDefEqProofs only[dW,aB,↓aY,seval,lF]
   refine(oH _ _).to ?_
   simp -implicitDefEqProofs only[aB,seval]
   exact mD.same hS _ rfl
 have hint:s≠⟨#[105,110,116]⟩:=by simpa using h
 have hs:s=⟨#[97,114,103]⟩∧ks.length=3:=by
  rcases hcs with ⟨h2,h3⟩ | ⟨h2,h3⟩ | ⟨h2,h3⟩ | ⟨h2,h3⟩
  · rw[hnc h2] at h3
    simp [he,hne,hee,his] at h3
  · simp [ht,hf] at h3
  · simp [hva,hnv,hat,hint] at h3
  · exact⟨h3,h2⟩
 obtain⟨hs,hk3⟩:=hs
 obtain⟨x,y,z,rfl⟩:=aJQ hk3
 have hz:=hv z (by simp)
 have hy:=hv y (by simp)
 have e:cZ σ s [x,y,z]=uW σ x y z:=rfl
 rw[e]
 unfold uW
 have dW:dM prog 31 (.slice [x.av,y.av,z.av]) (.int .i64 0)=some (.pptr x.av):=bH (av:=Tm.av) (l:=[x,y,z]) (i:=0) aR rfl (aO x)
 have f8:dM prog 31 (.slice [x.av,y.av,z.av]) (.int .i64 1)=some (.pptr y.av):=bH (av:=Tm.av) (l:=[x,y,z]) (i:=1) aR rfl (aO y)
 have y8:dM prog 31 (.slice [x.av,y.av,z.av]) (.int .i64 2)=some (.pptr z.av):=bH (av:=Tm.av) (l:=[x,y,z]) (i:=2) aR rfl (aO z)
 clear hcs hb hnc hv e
 obtain⟨xk,xn,xs,xt⟩:=x
 obtain⟨yk,yn,ys,yt⟩:=y
 have hyl:yt.length≤4:=by
  exact hy.1.kind.2
 rw[bA] at dW
 simp only[bA xk,bA yk] at dW f8 y8
 simp only[bR,bQ,bA xk,bA yk,Tm.k,Tm.ts]
 simp -implicitDefEqProofs only[dW,aB,↓aY,seval,lF]
 refine cU (fun h=>?_) (fun h=>?_)
 case refine_2=>
  have h':xk=1:=by simpa using h
  simp -implicitDefEqProofs only[h,aB,seval]
  rw[aH (.inl h')]
  exact mD.same hS _ rfl
 have hx1:xk≠1:=by simpa using h
 simp -implicitDefEqProofs only[h,f8,aB,seval,lF]
 refine aT (fun h1=>?_) (fun h1=>?_)
 · have h':yk=1:=by simpa using h1
   simp -implicitDefEqProofs only[aB,seval]
   rw[aH (.inr h')]
   exact mD.same hS _ rfl
 have hy1:yk≠1:=by simpa using h1
 rw[aG (fun h2=>h2.elim hx1 hy1)]
 have h3:∀s2,(xk≠2∨yk≠3∨yt.length=0)→s2=st→mD c m st q tr (if xk≠2∨yk≠3∨yt.length=0 then((3:Int),σ,[]) else match mG (.mk xk xn xs xt) (.mk yk yn ys yt) with | some u=>rW σ z u | none=>(1,σ,[])) (.int .i64 3) s2:=fun s2 hh e=>by
  subst e
  rw[aH hh]
  exact mD.same hS _ rfl
 simp -implicitDefEqProofs only[dW,aB,seval,lF]
 refine cU (fun h4=>?_) (fun h4=>?_)
 case refine_2=>
  have h':xk≠2:=by simpa using h4
  simp -implicitDefEqProofs only[h4,aB,seval]
  exact h3 _ (.inl h') rfl
 have hx2:xk=2:=by simpa using h4
 simp -implicitDefEqProofs only[h4,f8,aB,seval,lF]
 refine cU (fun h5=>?_) (fun h5=>?_)
 case refine_2=>
  have h':yk≠3:=by simpa using h5
  simp -implicitDefEqProofs only[h5,aB,seval]
  exact h3 _ (.inr (.inl h')) rfl
 have hy3:yk=3:=by simpa using h5
 simp -implicitDefEqProofs only[h5,f8,aE,aB,seval,lF]
 refine aT (fun h6=>?_) (fun h6=>?_)
 · have h':yt.length=0:=by simp at h6;simp [h6]
   simp -implicitDefEqProofs only[aB,seval]
   exact h3 _ (.inr (.inr h')) rfl
 have hyt:yt.length≠0:=by simp at h6;simpa using h6
 clear h3
 rw[aG (by simp [hx2,hy3];intro h7;simp [h7] at hyt)]
 simp -implicitDefEqProofs only[aB,seval]
 refine yQ mixed (by decide +kernel) (by decide +kernel) ?_
 simp -implicitDefEqProofs only[dW,f8,aE,aB,seval,lF]
 refine kC (yS xn 1 _ _) ?_
 simp -implicitDefEqProofs only[aB,seval]
 refine aT (fun h7=>?_) (fun h7=>?_)
 · have h':¬(1≤xn∧xn≤yt.length):=by simp at h7;omega
   have ea:mG (.mk xk xn xs xt) (.mk yk yn ys yt)=none:=aG h'
   rw[ea]
   simp -implicitDefEqProofs only[aB,seval]
   exact mD.same hS _ rfl
 have h':1≤xn∧xn≤yt.length:=by simp at h7;omega
 obtain⟨i,hi⟩:∃i:Nat,xn - 1=i:=⟨(xn - 1).toNat,by omega⟩
 have hlt:i<yt.length:=by omega
 obtain⟨u,hu⟩:∃u,yt[i]?=some u:=⟨_,dZ hlt⟩
 have ea:mG (.mk xk xn xs xt) (.mk yk yn ys yt)=some u:=by
  refine(aH h').trans ?_
  show yt[(xn - 1).toNat]?=some u
  rw[hi,jV,hu]
 rw[ea]
 have huv:bD N u:=p9 N (.mk yk yn ys yt) hy1 hy u (cG hu)
 have hw:IntKind.i64.wrap (xn - 1)=(i:Int):=by rw[wrap64 (by omega) (by omega)];exact hi
 have O5:=bH (av:=Tm.av) (P:=prog) aR hu (aO u)
 simp -implicitDefEqProofs only[aB,seval]
 refine wX [(0,1),(1,1),(2,1),(3,1),(4,1),(5,1),(6,1),(7,1),(8,1),(9,1),(10,1),(11,1),(12,1),(13,1),(14,1),(15,0),(16,0),(17,1)] [0,1,2,3,4,5,6,7,8,9,10,11,12,13,14,17] dH mixed rfl fV ?_
 simp -implicitDefEqProofs only[dW,f8,y8,O5,hw,cE,aO,aB,seval,lF]
 refine(EW hg ho z u hz huv c m q tr _ hS hl).mono ?_
 rintro _ s2 ⟨rfl,hP⟩
 simp -implicitDefEqProofs only[aB,seval]
 refine⟨fV,?_⟩
 refine(oH _ _).to ?_
 simp -implicitDefEqProofs only[aB,seval]
 exact⟨fV,rfl,hP⟩
abbrev aMX:=zi tI_3 (zi zI_3 (zi a7 (zi tI_66 (zi zI_66 (zi b9 (zi cA (zi cB (zi cC bZ))))))))
theorem aS6(n:Int)(F:Nat)(h0:0≤n)(h1:n≤1048576)(hF:F≤536870912)(st:aA):aD prog 362 [.int .i64 n,.pptr (.int .i64 (F:Int))] st (fun r st'=>r=(vr (n+(F:Int))).av∧st'=st):=by
 refine aD.done ?_
 refine wF [1000000] 2 func362 ntmps362 rfl rfl ?_
 intro _
 have hw:=bG (n:=n+(F:Int))
 simp -implicitDefEqProofs only[hw,aB,seval,aMX]
 intro b3 h3
 refine(N5 _ _).to ?_
 simp -implicitDefEqProofs only[aP,Tm.d5,Tm.fN,rO (Tm.fN _),qU (cE _),aB,seval,aMX]
 exact⟨by simp only[Tm.soft],(aM.refl _).aC h3⟩
theorem N0{F:Nat}(hF:F≤536870912)(t:Tm)(h:bD 26 t)(st:aA):aD prog 112 [t.av,.func 362 [.pptr (.int .i64 (F:Int))]] st (fun r st'=>r=(c8 F t).av∧st'=st):=
 NW (fun v=>vr (v+(F:Int))) _ _ rfl t st h.1.small fun n hn s=>aS6 n F (h.1.2.2 n hn).1 (by have:=(h.1.2.2 n hn).2;omega) hF s
theorem aHZ{b:Nat}{L:List AV}(l:List IG):(d7 l).fin b L=d7 l:=by
 cases l with
 | nil=>rw[d7];unfold AV.fin;split<;>rfl
 | cons g l=>obtain⟨⟨k,n,s,ts⟩,cut,up⟩:=g;rw[sO];exact CB
abbrev mS:=zi tI_3 (zi zI_3 (zi a7 (zi tI_4 (zi zI_4 (zi cL (zi tI_29 (zi zI_29 (zi eP (zi gO (zi gP (zi gV (zi tI_31 (zi zI_31 (zi aR (zi bO (zi bP (zi cF (zi tI_46 (zi zI_46 (zi cW (zi eJ (zi eF (zi eY (zi tI_66 (zi zI_66 (zi b9 (zi cA (zi cB (zi cC (zi bZ (zi tI_84 (zi zI_84 (zi lB (zi lC (zi kV (zi tI_174 (zi zI_174 (zi tI_227 (zi zI_227 (zi tI_256 (zi zI_256 (zi tI_257 (zi zI_257 (zi yV (zi I2 (zi I6 (zi SY (zi tI_258 (zi zI_258 (zi B3 (zi I3 (zi I7 (zi SZ (zi tI_260 (zi zI_260 (zi E7 (zi E8 (zi FB (zi FC (zi FD (zi FF (zi FG (zi FH (zi FI (zi FJ (zi E9 (zi FA (zi EP (zi tI_304 (zi zI_304 (zi B9 (zi CA (zi BR (zi tI_324 (zi zI_324 (zi aHD (zi aHE (zi aHF (zi UU (zi tI_327 (zi zI_327 (zi aHG (zi aHH (zi aHI (zi aHJ (zi aHK (zi aHL UV)))))))))))))))))))))))))))))))))))))))))))))))))))))))))))))))))))))))))))))))))))))))
set_option maxHeartbeats 2000000 in
theorem WJ{p:List Cl}(hp:∀c∈p,fQ c∧c.2.length≤6){M:Nat}(hM:M≤268435456){st0 st:aA}{S c m:Nat}{qt qc qn:AV}{q:List Tm}{idx:Bool}{fuel used mx:Int}{nd:List AV}{i:IS}(h:dA st0 st S c m qt qc qn p q idx fuel used mx nd i)
 (goal:Tm) (at':Nat) (rest:List IG) (list:List Nat) (hg:cJ i.σ) (ho:cK (bD i.fresh) i.σ) (hgo:bD i.fresh goal) (hl:∀x∈list,x<p.length) (hll:list.length≤1048576) (ha:at'<i.nn) (hX:IX p M i) (hMl:i.fresh+26*oU i.chs+26*list.length≤M) (hch:i.chs.length≤524288) (hnn:i.nn≤524288) :
 aD prog 310 [.ptr S 0,goal.av,.int .i64 (at':Int),.slice (list.map nv),d7 rest] st (fun r st'=>r=.bool (fE p goal at' rest list i).1∧∃qt' qc' mx' nd',dA st0 st' S c m qt' qc' qn p q idx fuel used mx' nd' (fE p goal at' rest list i).2):=by
 obtain⟨bN,rfl⟩:=h.nodes ha
 obtain⟨gk,gn,gs',gts⟩:=goal
 obtain⟨g1,g2,g3,g4,g5,g6⟩:=oM rest
 generalize hT:fE p (.mk gk gn gs' gts) at' rest list i=T
 simp only[bA]
 have hun:prog.underlying 46=some (.slice 3):=by kernel_rfl
 have gM:st S=some (.cells [.ptr c 0,.slice (p.map bK),.slice (q.map Tm.av),.bool idx,.bool false,.int .i64 fuel,.int .i64 used,.int .i64 i.fresh,d7 i.goals,qc,.mslice bN 0 nd.length 6,.int .i64 mx]):=h.cell
 have hcc:=h.sto.sub.cells
 have htl:=h.sto.aNK (P:=prog) hun
 obtain⟨t1,t2,t3,t4,t5⟩:=h.sto.shape
 refine aD.oJ ?_
 refine wF [1000000] 5 func310 ntmps310 rfl rfl ?_
 intro _
 simp -implicitDefEqProofs only[aE,gM,hcc,htl,t1,aB,seval,mS]
 refine dL (σ:=aA×AV) [1000000] [0,2,3,4,6,11,28,29] list (fun k s=>dA st0 s.1 S c m s.2 qc (.mslice bN 0 nd.length 6) p q idx fuel used mx nd { i with fresh:=i.fresh+26*k }∧fE p (.mk gk gn gs' gts) at' rest (list.drop k) { i with fresh:=i.fresh+26*k }=T)
  (fun k s=>[(10,.bool false),(30,.int .i64 k)]) (fun k s=>s.1) (by decide +kernel) ⟨(st,qt),⟨h,hT⟩,aN.mk (by simp -implicitDefEqProofs only[aB,↓aY,seval])⟩ (fun k x s hx hlt bB hdr hinv=>?_) (fun s hge hinv=>?_)
 case refine_2=>
  simp -implicitDefEqProofs only[hge,aB,seval]
  obtain⟨hi,he⟩:=hinv
  rw[gT] at he
  unfold fE at he
  subst he
  exact⟨s.1,aM.refl _,rfl,_,_,_,_,hi⟩
 obtain⟨st,qt⟩:=s
 obtain⟨h,hT⟩:=hinv
 simp only at h hT
 obtain⟨t1,t2,t3,t4,t5⟩:=h.sto.shape
 obtain⟨n1,n2,n3,n4,n5⟩:=h.acC.shape
 obtain⟨m1,m2,m3,m4,m5⟩:=h.acN.shape
 obtain⟨l1,l2,l3,l4,l5,l6⟩:=oM i.goals
 have hxl:=hl x (cG hx)
 obtain⟨cl,hcx⟩:∃cl,p[x]?=some cl:=⟨_,dZ hxl⟩
 obtain⟨sQ,pY⟩:=hp cl (cG hcx)
 rw[hdr,fE.eq_def] at hT
 simp only[hcx] at hT
 have hat:dM prog 46 (.slice (list.map nv)) (.int .i64 (k:Int))=some (.pptr (.int .i64 (x:Int))):=bH (av:=nv) cW hx rfl
 have y9:=bH (av:=bK) (P:=prog) eP hcx (gA cl)
 have hw:=bG (n:=(k:Int)+1)
 generalize hF:i.fresh+26*k=F at *
 have hFM:F+26≤M:=by have:=aJU i.chs 0;omega
 have aXR:=bG (n:=(F:Int)+26)
 have gM:st S=some (.cells [.ptr c 0,.slice (p.map bK),.slice (q.map Tm.av),.bool idx,.bool false,.int .i64 fuel,.int .i64 used,.int .i64 F,d7 i.goals,qc,.mslice bN 0 nd.length 6,.int .i64 mx]):=h.cell
 obtain⟨⟨ck,cn,cs',cts⟩,bd⟩:=cl
 rw[m7] at y9
 simp -implicitDefEqProofs only[bB,aP,gM,hat,aXR,aB,↓aY,seval,mS]
 have h2:=h.put (gl:=i.goals) (F:=F+26) (fuel':=fuel) (used':=used) (mx':=mx) (cs:=[.ptr c 0,.slice (p.map bK),.slice (q.map Tm.av),.bool idx,.bool false,.int .i64 fuel,.int .i64 used,.int .i64 ((F:Int)+26),d7 i.goals,qc,.mslice bN 0 nd.length 6,.int .i64 mx]) rfl
 generalize st.aC S (.cells [.ptr c 0,.slice (p.map bK),.slice (q.map Tm.av),.bool idx,.bool false,.int .i64 fuel,.int .i64 used,.int .i64 ((F:Int)+26),d7 i.goals,qc,.mslice bN 0 nd.length 6,.int .i64 mx])=V at *
 simp only at h2
 have rH:V S=some (.cells [.ptr c 0,.slice (p.map bK),.slice (q.map Tm.av),.bool idx,.bool false,.int .i64 fuel,.int .i64 used,.int .i64 ((F:Int)+26),d7 i.goals,qc,.mslice bN 0 nd.length 6,.int .i64 mx]):=h2.cell
 refine wX [(0,1),(1,1),(2,1),(3,1),(4,1),(5,1),(6,1),(7,1),(8,1),(9,1),(10,1),(11,1),(12,1),(13,1),(14,0),(15,0),(16,1)] [0,1,2,3,4,5,6,7,8,9,10,11,12,13,16] (one S (.cells [.ptr c 0,.slice (p.map bK),.slice (q.map Tm.av),.bool idx,.bool false,.int .i64 fuel,.int .i64 used,.int .i64 ((F:Int)+26),d7 i.goals,qc,.mslice bN 0 nd.length 6,.int .i64 mx])) mixed rfl (g8 rH) ?_
 simp -implicitDefEqProofs only[vP,y9,aB,seval,mS]
 have hsh:=fun st=>N0 (F:=F) (by omega) (.mk ck cn cs' cts) sQ.head st
 have hhd:bD ((F+26:Nat):Int) (c8 F (.mk ck cn cs' cts)):=(sQ.c8 F (.mk ck cn cs' cts) (by simp)).mono (by have:=sQ.fr.1;omega)
 have htr:=h2.sto
 obtain⟨r,σ',add,U⟩:=tD (N:=F+26) hg (fun n u e=>(ho n u e).mono (by omega)) (hgo.mono (by omega)) hhd
 have htl:i.tr.length≤i.fresh:=hX.SV
 have hun:=EW (N:=F+26) hg (fun n u e=>(ho n u e).mono (by omega)) (.mk gk gn gs' gts) (c8 F (.mk ck cn cs' cts)) (hgo.mono (by omega)) hhd c m qt i.tr V h2.sto (by omega)
 rw[U.eq] at hT hun
 simp only at hT hun
 have F1:=U.zT
 have hso:=U.vW
 clear U
 generalize hy:c8 F (.mk ck cn cs' cts)=y at *
 obtain⟨yk,yn,ys,yt⟩:=y
 simp only[bA] at hsh hun ⊢
 refine(hsh _).to ?_
 simp -implicitDefEqProofs only[aB,seval]
 refine⟨g8 rH,?_⟩
 refine hun.mono ?_
 rintro _ s2 ⟨rfl,hP⟩
 obtain⟨qt2,h3⟩:=h2.post hP
 have CH:s2 S=some (.cells [.ptr c 0,.slice (p.map bK),.slice (q.map Tm.av),.bool idx,.bool false,.int .i64 fuel,.int .i64 used,.int .i64 ((F:Int)+26),d7 i.goals,qc,.mslice bN 0 nd.length 6,.int .i64 mx]):=h3.cell
 simp -implicitDefEqProofs only[aB,seval]
 refine⟨g8 CH,?_⟩
 refine aT (fun hr=>?_) (fun hr=>?_)
 · have hr':r=false:=by simpa using hr
   rw[aG (by rw[hr'];simp)] at hT
   simp -implicitDefEqProofs only[CH,aB,seval,mS]
   have hud:=N4 σ' (i.tr++add) i.tr.length (by simp) c m qt2 s2 h3.sto (by
    have:=h3.sto
    have:add.length≤F+26:=CW hso.nodup hso.fP
    rw[dP];omega)
   refine hud.mono ?_
   rintro _ s4 ⟨rfl,qt4,hS4,hb4,hf4⟩
   simp -implicitDefEqProofs only[hw,aB,seval]
   have h5:=h3.HA hS4 (fun b o hb e1 e2 _=>hf4 b o hb e1 e2) (fun b hb=>.inl (hb4 b hb))
   simp only[A1,D4,F1] at h5
   refine⟨(s4,qt4),⟨?_,?_⟩,aN.mk (by simp -implicitDefEqProofs only[aB,seval])⟩
   · rw[show i.fresh+26*(k+1)=F+26 by omega];exact h5
   · rw[show i.fresh+26*(k+1)=F+26 by omega];exact hT
 have hr':r=true:=by simpa using hr
 have aW4:nd.length=i.nn:=h3.ndl
 rw[aH hr'] at hT
 have F5:prog.underlying 257=some (.slice 327):=by kernel_rfl
 have PY:prog.underlying 258=some (.slice 324):=by kernel_rfl
 have hlC:=h3.acC.len F5
 have hlN:=h3.acN.len PY
 rw[aE] at hlC
 rw[h3.ndl] at hlN
 simp only at hlC hlN
 have aH9:=kE (P:=prog) (b:=bN) (w:=6) (i:=at') B3 (len:=nd.length) (by rw[h3.ndl];exact ha)
 simp -implicitDefEqProofs only[aE,CH,hlC,hw,n1,aB,seval,mS]
 refine aT (fun h7=>?_) (fun h7=>?_)
 · have h':k+1<list.length:=by simp at h7;omega
   have hdn:list.drop (k+1)≠[]:=by intro e;have:=gI List.length e;simp at this;omega
   rw[aG hdn] at hT
   have hsl:=fun(φ:AF) (d:Nat) (h:φ d=.int .i64 ((k:Int)+1))=>aLO h' h
   refine wX [(0,1),(1,1),(2,1),(3,1),(4,1),(5,1),(6,1),(7,1),(8,1),(9,1),(10,1),(11,1),(12,1),(13,1),(14,1),(15,1),(16,1),(17,1),(18,1),(19,1),(20,0),(21,1),(22,1),(23,2)] [0,1,2,3,4,5,6,7,8,9,10,11,12,13,14,15,16,17,18,19,21,22] (one S (.cells [.ptr c 0,.slice (p.map bK),.slice (q.map Tm.av),.bool idx,.bool false,.int .i64 fuel,.int .i64 used,.int .i64 ((F:Int)+26),d7 i.goals,qc,.mslice bN 0 nd.length 6,.int .i64 mx])) mixed rfl (g8 CH) ?_
   simp -implicitDefEqProofs only[hsl,hw,g3,g4,n1,m1,vP,aB,seval,mS]
   refine fH.append yV I2 I6 rfl (by decide) h3.acC rfl (aX3 ⟨.mk gk gn gs' gts,at',rest,list.drop (k+1),i.tr.length,nd.length⟩) (by rw[aE];simp only;omega) (fun qc5 s5 gK hf hn=>?_)
   have aV0:(i.chs.map rI)++ [rI ⟨.mk gk gn gs' gts,at',rest,list.drop (k+1),i.tr.length,nd.length⟩]=(i.chs++ [(⟨.mk gk gn gs' gts,at',rest,list.drop (k+1),i.tr.length,nd.length⟩:IC)]).map rI:=by simp
   have gK:=aV0▸gK
   obtain⟨c1,c2,c3,c4,c5⟩:=gK.shape
   have hS5:s5 S=s2 S:=hf S h3.parts.2.2.2.2.1 (fun hb=>by
    rcases hn S hb with h' | h'
    · exact h3.parts.2.2.2.2.1 h'
    · rw[CH] at h';cases h')
   have aIK:=hS5.trans CH
   have aWI:=g8 aIK
   simp -implicitDefEqProofs only[aP,aIK,c4,c5,m1,aA.aJ,aB,seval,mS]
   refine⟨aWI,?_⟩
   have h5:=h3.a0C gK hf hn (cs:=[.ptr c 0,.slice (p.map bK),.slice (q.map Tm.av),.bool idx,.bool false,.int .i64 fuel,.int .i64 used,.int .i64 ((F:Int)+26),d7 i.goals,qc5,.mslice bN 0 nd.length 6,.int .i64 mx]) rfl
   generalize s5.aC S (.cells [.ptr c 0,.slice (p.map bK),.slice (q.map Tm.av),.bool idx,.bool false,.int .i64 fuel,.int .i64 used,.int .i64 ((F:Int)+26),d7 i.goals,qc5,.mslice bN 0 nd.length 6,.int .i64 mx])=V5 at *
   rw[show(⟨.mk gk gn gs' gts,at',rest,list.drop (k+1),i.tr.length,nd.length⟩:IC)=⟨.mk gk gn gs' gts,at',rest,list.drop (k+1),i.tr.length,i.nn⟩ by rw[aW4]] at h5
   obtain⟨csN,hbN,hcN⟩:=h5.nodeAt
   obtain⟨c1,c2,c3,c4,c5⟩:=(h5).acC.shape
   have hSN:S≠bN:=fun e=>(h5).parts.2.2.2.2.2.1 (by rw[e];simp [aS])
   have sP:=h5.cell
   simp only[gS] at sP
   rw[show((F+26:Nat):Int)=(F:Int)+26 from rfl] at sP
   simp -implicitDefEqProofs only[aP,aE,sP,hbN,hSN,aH9,y9,aB,seval,mS]
   refine⟨by omega,?_⟩
   obtain⟨nd6,h6⟩:=(h5).aLF (x:=.int .i64 (x:Int)) (k:=at'*6+5) rfl hbN (by omega)
   have PS:=h6.ndl
   simp only at PS
   rw[show aP csN (at'*6+5) [.int .i64 (x:Int)]=List.take (at'*6+5) csN++ [AV.int IntKind.i64 (x:Int)]++List.drop (at'*6+5+1) csN from rfl] at h6
   generalize aA.aC _ bN (.cells (List.take (at'*6+5) csN++ [AV.int IntKind.i64 (x:Int)]++List.drop (at'*6+5+1) csN))=V6 at *
   have j9:=h6.cell
   simp only[gS] at j9
   rw[show((F+26:Nat):Int)=(F:Int)+26 from rfl] at j9
   refine qJ (σ:=Unit) [1000000] [0,2,3,4,6,10,11,12,13,14,15,16,28,29,30,31,32,33,34,35,36,37,38,39,40,41,42,43,44,45,46,47,48,49,50,51,52,53,54,55,56,57,58,59,60,61,62,63,64,65,66,67,68,70,71,72,73,74,75,76,77,78,79,80,81,82,83,84,85,86,87,88,89,90,91,92,93,94,95,96,97,98,99,100,101,102,103,104,105,106,107,108,109,110,111,112,113,114,115,116,117,118,119] bd 4 17 (fun j _=>((bd.take j).map (c8 F)).map Tm.av) (fun _ _=>True) (fun j _=>[(120,.int .i64 j)]) (fun _ _=>V6) (fun j _ _ e he=>by simp only[bY] at he;obtain⟨t,_,rfl⟩:=he;exact⟨Tm.eN _,aO _⟩) (by decide +kernel) ⟨(),0,trivial,fun h=>absurd rfl h,aN.mk (by simp -implicitDefEqProofs only[lJ,jJ,bQ,aB,↓aY,seval])⟩ (fun j y5 _ b5 hx5 aWW PP aWD PO hb5=>?_) (fun _ b5 PM PO=>?_)
   · have hw5:=wrap64 (n:=(j:Int)+1) (by simp only at pY;omega) (by simp only at pY;omega)
     have OZ:=bH (av:=Tm.av) (P:=prog) aR hx5 (aO y5)
     have FX:(((bd.take j).map (c8 F)).map Tm.av).length=j:=by simp only[aE,dI];omega
     have hyb:=sQ.body y5 (cG hx5)
     simp -implicitDefEqProofs only[PP,OZ,cE,aO,Tm.d5,Tm.eN,aB,↓aY,seval,mS]
     refine(N0 (F:=F) (by omega) y5 hyb.1 _).to ?_
     simp -implicitDefEqProofs only[cE,aO,Tm.eN,aB,seval,mS]
     refine f9 aR bO bP rfl rfl (g9 (aO _) (Tm.d5 _)) (iP _) hb5 (by simp only[FX,a8,bL];simp only at pY;omega) (by simp only[FX,a8,bL];simp only at pY;omega) (fun b' hb'=>?_)
     rw[show(((bd.take j).map (c8 F)).map Tm.av)++ [(c8 F y5).av]=((bd.take (j+1)).map (c8 F)).map Tm.av by rw[eH,hx5];simp] at hb' ⊢
     simp -implicitDefEqProofs only[aB,seval]
     exact⟨(),b',hb',aN.mk (by simp -implicitDefEqProofs only[hw5,aB,seval])⟩
   · have zD:=fun st=>NZ (bd.map (c8 F)) i.chs.length at' rest (by simp only[aE];simp only at pY;omega) st
     simp -implicitDefEqProofs only[PM,iK,f7,vC,oL,iL,pR,CB,JN,aHO,nN,dQ,aHZ,aB,seval]
     refine(zD _).to ?_
     have h7:=h6.put (gl:=(bd.map (c8 F)).map (fun t=>(⟨t,i.chs.length,at'⟩:IG))++rest) (F:=F+26) (fuel':=fuel) (used':=used) (mx':=mx) rfl
     simp only[gS] at h7
     rw[show((F+26:Nat):Int)=(F:Int)+26 from rfl] at h7
     have hgl:(bd.map (c8 F)).map (fun t=>(⟨t,i.chs.length,at'⟩:IG))++rest=bd.map (fun t=>(⟨c8 F t,i.chs.length,at'⟩:IG))++rest:=by rw[r8];try rfl
     rw[hgl] at h7 ⊢
     generalize bd.map (fun t=>(⟨c8 F t,i.chs.length,at'⟩:IG))++rest=NG at *
     obtain⟨u1,u2,u3,u4,u5,u6⟩:=oM NG
     have FW:=h7.acC.len F5
     simp only[aE] at FW
     simp -implicitDefEqProofs only[aP,j9,u4,u5,aB,seval,mS]
     generalize aA.aC V6 S _=V7 at h7 ⊢
     have m9:=h7.cell
     simp only[gS] at m9
     rw[show((F+26:Nat):Int)=(F:Int)+26 from rfl] at m9
     refine wX [(0,1),(1,1),(2,1),(3,1),(4,1),(5,1),(6,1),(7,1),(8,1),(9,1),(10,0),(11,1),(12,1),(13,2)] [0,1,2,3,4,5,6,7,8,9,11,12] _ mixed rfl (g8 m9) ?_
     simp -implicitDefEqProofs only[aP,m9,FW,c1,vP,aB,seval,mS]
     refine⟨g8 m9,?_⟩
     subst hT
     exact⟨_,aM.refl _,rfl,qt2,_,_,nd6,h7.put (gl:=NG) (F:=F+26) rfl⟩
 · have h':list.drop (k+1)= []:=D0 (by simp at h7;omega)
   rw[aH h'] at hT
   obtain⟨csN,hbN,hcN⟩:=h3.nodeAt
   obtain⟨c1,c2,c3,c4,c5⟩:=(h3).acC.shape
   have hSN:S≠bN:=fun e=>(h3).parts.2.2.2.2.2.1 (by rw[e];simp [aS])
   have sP:=h3.cell
   simp only[gS] at sP
   rw[show((F+26:Nat):Int)=(F:Int)+26 from rfl] at sP
   simp -implicitDefEqProofs only[aP,aE,sP,hbN,hSN,aH9,y9,m1,aB,seval,mS]
   refine⟨by omega,?_⟩
   obtain⟨nd6,h6⟩:=(h3).aLF (x:=.int .i64 (x:Int)) (k:=at'*6+5) rfl hbN (by omega)
   have PS:=h6.ndl
   simp only at PS
   rw[show aP csN (at'*6+5) [.int .i64 (x:Int)]=List.take (at'*6+5) csN++ [AV.int IntKind.i64 (x:Int)]++List.drop (at'*6+5+1) csN from rfl] at h6
   generalize aA.aC _ bN (.cells (List.take (at'*6+5) csN++ [AV.int IntKind.i64 (x:Int)]++List.drop (at'*6+5+1) csN))=V6 at *
   have j9:=h6.cell
   simp only[gS] at j9
   rw[show((F+26:Nat):Int)=(F:Int)+26 from rfl] at j9
   refine qJ (σ:=Unit) [1000000] [0,2,3,4,6,10,11,12,13,14,15,16,28,29,30,31,32,33,34,35,36,37,38,39,40,41,42,43,44,45,46,47,48,49,50,51,52,53,54,55,56,57,58,59,60,61,62,63,64,65,66,67,68,70,71,72,73,74,75,76,77,78,79,80,81,82,83,84,85,86,87,88,89,90,91,92,93,94,95,96,97,98,99,100,101,102,103,104,105,106,107,108,109,110,111,112,113,114,115,116,117,118,119] bd 4 17 (fun j _=>((bd.take j).map (c8 F)).map Tm.av) (fun _ _=>True) (fun j _=>[(120,.int .i64 j)]) (fun _ _=>V6) (fun j _ _ e he=>by simp only[bY] at he;obtain⟨t,_,rfl⟩:=he;exact⟨Tm.eN _,aO _⟩) (by decide +kernel) ⟨(),0,trivial,fun h=>absurd rfl h,aN.mk (by simp -implicitDefEqProofs only[lJ,jJ,bQ,aB,↓aY,seval])⟩ (fun j y5 _ b5 hx5 aWW PP aWD PO hb5=>?_) (fun _ b5 PM PO=>?_)
   · have hw5:=wrap64 (n:=(j:Int)+1) (by simp only at pY;omega) (by simp only at pY;omega)
     have OZ:=bH (av:=Tm.av) (P:=prog) aR hx5 (aO y5)
     have FX:(((bd.take j).map (c8 F)).map Tm.av).length=j:=by simp only[aE,dI];omega
     have hyb:=sQ.body y5 (cG hx5)
     simp -implicitDefEqProofs only[PP,OZ,cE,aO,Tm.d5,Tm.eN,aB,↓aY,seval,mS]
     refine(N0 (F:=F) (by omega) y5 hyb.1 _).to ?_
     simp -implicitDefEqProofs only[cE,aO,Tm.eN,aB,seval,mS]
     refine f9 aR bO bP rfl rfl (g9 (aO _) (Tm.d5 _)) (iP _) hb5 (by simp only[FX,a8,bL];simp only at pY;omega) (by simp only[FX,a8,bL];simp only at pY;omega) (fun b' hb'=>?_)
     rw[show(((bd.take j).map (c8 F)).map Tm.av)++ [(c8 F y5).av]=((bd.take (j+1)).map (c8 F)).map Tm.av by rw[eH,hx5];simp] at hb' ⊢
     simp -implicitDefEqProofs only[aB,seval]
     exact⟨(),b',hb',aN.mk (by simp -implicitDefEqProofs only[hw5,aB,seval])⟩
   · have zD:=fun st=>NZ (bd.map (c8 F)) i.chs.length at' rest (by simp only[aE];simp only at pY;omega) st
     simp -implicitDefEqProofs only[PM,iK,f7,vC,oL,iL,CB,JN,aHO,nN,dQ,aHZ,aB,seval]
     refine(zD _).to ?_
     have h7:=h6.put (gl:=(bd.map (c8 F)).map (fun t=>(⟨t,i.chs.length,at'⟩:IG))++rest) (F:=F+26) (fuel':=fuel) (used':=used) (mx':=mx) rfl
     simp only[gS] at h7
     rw[show((F+26:Nat):Int)=(F:Int)+26 from rfl] at h7
     have hgl:(bd.map (c8 F)).map (fun t=>(⟨t,i.chs.length,at'⟩:IG))++rest=bd.map (fun t=>(⟨c8 F t,i.chs.length,at'⟩:IG))++rest:=by rw[r8];try rfl
     rw[hgl] at h7 ⊢
     generalize bd.map (fun t=>(⟨c8 F t,i.chs.length,at'⟩:IG))++rest=NG at *
     obtain⟨u1,u2,u3,u4,u5,u6⟩:=oM NG
     have FW:=h7.acC.len F5
     simp only[aE] at FW
     simp -implicitDefEqProofs only[aP,j9,u4,u5,aB,seval,mS]
     generalize aA.aC V6 S _=V7 at h7 ⊢
     have m9:=h7.cell
     simp only[gS] at m9
     rw[show((F+26:Nat):Int)=(F:Int)+26 from rfl] at m9
     refine wX [(0,1),(1,1),(2,1),(3,1),(4,1),(5,1),(6,1),(7,1),(8,1),(9,1),(10,0),(11,1),(12,1),(13,2)] [0,1,2,3,4,5,6,7,8,9,11,12] _ mixed rfl (g8 m9) ?_
     simp -implicitDefEqProofs only[aP,m9,FW,c1,vP,aB,seval,mS]
     refine⟨g8 m9,?_⟩
     subst hT
     exact⟨_,aM.refl _,rfl,qt2,_,_,nd6,h7.put (gl:=NG) (F:=F+26) rfl⟩
theorem aXX(p:List Cl)(s:IS):gE p s.chs.length s=match s.chs.getLast? with
 | none=>none
 | some c=>if(fE p c.goal c.node c.rest c.list (s.pop c)).1=true then some (fE p c.goal c.node c.rest c.list (s.pop c)).2 else gE p (s.chs.length - 1) (fE p c.goal c.node c.rest c.list (s.pop c)).2:=by
 obtain⟨gl,σ,tr,chs,F,nn⟩:=s
 cases chs with
 | nil=>rfl
 | cons c l=>rw[a8,gE];try rfl
structure TC (p:List Cl) (M:Nat) (st0:aA) (S c m:Nat) (q:List Tm) (idx:Bool) (fuel used:Int) (T:Option IS) (st:aA) (qt qc qn:AV) (mx:Int) (nd:List AV) (i:IS) (cs:List RC):Prop where
 s:dA st0 st S c m qt qc qn p q idx fuel used mx nd i
 r:iB i.fresh cs i.chs i.σ i.tr
 x:IX p M i
 t:gE p i.chs.length i=T
 n:i.chs.length≤524288∧i.nn≤524288
def TD(st0 st':aA)(S c m:Nat)(p:List Cl)(q:List Tm)(idx:Bool)(fuel used:Int)(r:AV):Option IS→Prop
 | some i'=>r=.int .i64 (-1)∧∃qt qc qn mx nd,dA st0 st' S c m qt qc qn p q idx fuel used mx nd i'
 | none=>r=.int .i64 0∧∃qt qc qn mx nd i',dA st0 st' S c m qt qc qn p q idx fuel used mx nd i'
abbrev G2:=zi tI_3 (zi zI_3 (zi a7 (zi tI_46 (zi zI_46 (zi cW (zi eJ (zi eF (zi eY (zi tI_66 (zi zI_66 (zi b9 (zi cA (zi cB (zi cC (zi bZ (zi tI_174 (zi zI_174 (zi tI_227 (zi zI_227 (zi tI_256 (zi zI_256 (zi tI_257 (zi zI_257 (zi yV (zi I2 (zi I6 (zi SY (zi tI_258 (zi zI_258 (zi B3 (zi I3 (zi I7 (zi SZ (zi tI_260 (zi zI_260 (zi E7 (zi E8 (zi FB (zi FC (zi FD (zi FF (zi FG (zi FH (zi FI (zi FJ (zi E9 (zi FA (zi EP (zi tI_327 (zi zI_327 (zi aHG (zi aHH (zi aHI (zi aHJ (zi aHK (zi aHL UV))))))))))))))))))))))))))))))))))))))))))))))))))))))))
set_option maxHeartbeats 2000000 in
theorem IF{p:List Cl}(hp:∀c∈p,fQ c∧c.2.length≤6){M:Nat}(hM:M≤16777216){st0:aA}{S c m:Nat}{q:List Tm}{idx:Bool}{fuel used:Int}{T:Option IS}(st:aA)(qt qc qn:AV)(mx:Int)(nd:List AV)(i:IS)(cs:List RC)
 (hI:TC p M st0 S c m q idx fuel used T st qt qc qn mx nd i cs) :
 aD prog 245 [.ptr S 0] st (fun r st'=>TD st0 st' S c m p q idx fuel used r T):=by
 refine aD.oJ ?_
 refine wF [1000000] 1 func245 ntmps245 rfl rfl ?_
 intro _
 simp -implicitDefEqProofs only[aB,seval]
 refine pC (σ:=aA×AV×AV×AV×Int×List AV×IS×List RC) [1000000] [0] (fun x=>TC p M st0 S c m q idx fuel used T x.1 x.2.1 x.2.2.1 x.2.2.2.1 x.2.2.2.2.1 x.2.2.2.2.2.1 x.2.2.2.2.2.2.1 x.2.2.2.2.2.2.2) (fun x=>[(2,.int .i64 0)]) (fun x=>x.1) (fun x=>x.2.2.2.2.2.2.1.chs.length) (by decide +kernel) ⟨(st,qt,qc,qn,mx,nd,i,cs),hI,aN.mk (by simp -implicitDefEqProofs only[aB,seval])⟩ ?_
 clear hI
 rintro⟨st,qt,qc,qn,mx,nd,i,cs⟩ ⟨hs,hr,hx,ht,hn1,hn2⟩
 simp only at hs hr hx ht hn1 hn2
 simp only
 obtain⟨gl,τ,tr,ch,F,nn⟩:=i
 obtain⟨t1,t2,t3,t4,t5⟩:=hs.sto.shape
 obtain⟨n1,n2,n3,n4,n5⟩:=hs.acC.shape
 obtain⟨m1,m2,m3,m4,m5⟩:=hs.acN.shape
 obtain⟨l1,l2,l3,l4,l5,l6⟩:=oM gl
 have F5:prog.underlying 257=some (.slice 327):=by kernel_rfl
 have hlC:=hs.acC.len F5
 rw[aE] at hlC
 simp only at hlC hr hx ht hn1 hn2
 have gM:=hs.cell
 simp only[gS] at gM
 replace ht:=(aXX p ⟨gl,τ,tr,ch,F,nn⟩).symm.trans ht
 simp only at ht
 cases hr with
 | nil=>
  simp only[List.getLast?_nil] at ht
  subst ht
  simp only[bL] at hlC
  simp -implicitDefEqProofs only[gM,hlC,n1,vA,↓HK,List.contains,List.elem,rY,gN,sub,x7,↓reduceIte,reduceCtorEq,G2]
  refine aT (fun h=>absurd h (by decide)) (fun h=>?_)
  simp -implicitDefEqProofs only[aB,seval]
  exact⟨st,aM.refl _,rfl,_,_,_,_,_,_,hs⟩
 | @snoc cs ds cR d _ _ C h1 h2=>
  obtain⟨hP,hMl,hnt,htn,htr,hli⟩:=hx.pop
  have e3:(IS.pop ⟨gl,τ,tr,ds++ [d],F,nn⟩ d)=⟨gl,τ.out (tr.drop d.eT),tr.take d.eT,ds,F,d.taken⟩:=by simp only[IS.pop,MP]
  simp only[List.getLast?_append,List.getLast?_singleton,Option.some_or,e3] at ht
  obtain⟨bC,csC,rfl,hbC,aWU,htk⟩:=hs.acC.at (P0 _) (i:=ds.length) (e:=rI d) (by simp)
  have hlm:((ds++ [d]).map rI).length=ds.length+1:=by simp
  rw[hlm] at hs gM hlC
  have hSb:S≠bC:=fun e=>hs.parts.2.2.2.2.1 (by rw[e];simp [aS])
  have hdl:ds.length+1≤524288:=by simp only[dP,a8,bL] at hn1;omega
  have hw:IntKind.i64.wrap ((ds.length:Int)+1 - 1)=(ds.length:Int):=by rw[wrap64 (by omega) (by omega)];omega
  have aVS:=kE (P:=prog) (b:=bC) (w:=9) (i:=ds.length) yV (len:=ds.length+1) (by omega)
  have FT:=fun(φ:AF) (dd:Nat) (h:φ dd=.int .i64 (ds.length:Int))=>RH (b:=bC) (n:=ds.length+1) (k:=ds.length) yV h (by omega)
  obtain⟨⟨dk,dn,ds',dts⟩,IZ,I0,OC,E0,B0⟩:=d
  rw[aJF] at htk
  simp only at htn htr hnt hli hMl hP
  obtain⟨g1,g2,g3,g4,g5,g6⟩:=oM I0
  have aXO:(csC.drop (ds.length*9)).take 9= [.int .i64 dk,.int .i64 dn,.str ds',.slice (dts.map Tm.av),.int .i64 (IZ:Int),d7 I0,.slice (OC.map nv),.int .i64 (E0:Int),.int .i64 (B0:Int)]:=htk
  simp -implicitDefEqProofs only[dP,a8,bL,gM,hlC,aB,seval,G2]
  refine aT (fun h=>?_) (fun h=>absurd h (by simp))
  simp -implicitDefEqProofs only[aP,dP,a8,bL,gM,hlC,hbC,aWU,aXO,aVS,FT,hw,g5,aB,↓aY,seval,G2]
  have hs2:=hs.WX (k:=ds.length) (gl:=gl) (by simp only[dP,a8,bL];omega) (cs:=gS c p q idx fuel used F (d7 gl) (.mslice bC 0 ds.length 9) qn mx) rfl
  simp only[D4,gS] at hs2
  generalize aA.aC st S _=V at hs2 ⊢
  have rH:=hs2.cell
  simp only[gS,wV] at rH hs2
  have htl:=hs2.sto.eT
  refine wX [(0,1),(1,1),(2,1),(3,1),(4,1),(5,1),(6,2)] [0,1,2,3,4,5] _ mixed rfl (g8 rH) ?_
  simp -implicitDefEqProofs only[vP,aB,seval,G2]
  refine(N4 τ tr E0 htr c m qt V hs2.sto (by have:=hx.SV;have:=hx.phi;simp only at *;omega)).mono ?_
  rintro _ s4 ⟨rfl,qt4,hS4,hb4,hf4⟩
  have hs4:=hs2.HA hS4 (fun b o hb e1 e2 _=>hf4 b o hb e1 e2) (fun b hb=>.inl (hb4 b hb))
  have PD:=hs4.cell
  simp only[gS] at PD
  obtain⟨q1,q2,q3,q4,q5⟩:=hs4.sto.shape
  have aV7:=fun(φ:AF) (dd:Nat) (h:φ dd=.int .i64 (B0:Int))=>aLL B3 hs4.acN h (by rw[hs4.ndl];exact htn)
  simp -implicitDefEqProofs only[aB,seval]
  have hAN:=hs4.acN.take (k:=B0) (by rw[hs4.ndl];exact htn) hs4.ndw
  obtain⟨e1',e2',e3',e4',e5'⟩:=hAN.shape
  have hs6:=hs4.aTT (k:=B0) htn rfl
  simp only[gS] at hs6
  obtain⟨ρ,Sm,e1,hok,hG,e2⟩:=h1
  simp only at e1 e2
  have CP:=WJ hp (show M≤268435456 by omega) hs6 (.mk dk dn ds' dts) IZ I0 OC Sm.g2 Sm.o2 (e1▸Sm.zX hok) hli (by omega) hnt hP hMl (by first | omega | (simp only;omega)) (by first | omega | (simp only;omega))
  simp only[bA] at CP
  have F3:=MA (fun c h=>(hp c h).1) (nn:=B0) (at':=IZ) (tr:=tr.take E0) hok hG cR.left F gl Sm C
  rw[←e1,←e2] at F3
  refine wX [(0,1),(1,1),(2,1),(3,1),(4,1),(5,1),(6,1),(7,1),(8,1),(9,1),(10,2)] [0,1,2,3,4,5,6,7,8,9] _ mixed rfl (g8 PD) ?_
  simp -implicitDefEqProofs only[aP,PD,aV7,e4',e5',m1,g1,g2,vP,aB,seval,G2]
  refine CP.mono ?_
  rintro _ s7 ⟨rfl,qt7,qc7,mx7,nd7,hs7⟩
  simp -implicitDefEqProofs only[aB,seval]
  refine aT (fun h=>?_) (fun h=>?_)
  · simp -implicitDefEqProofs only[aB,seval]
    rw[aH h] at ht
    subst ht
    exact⟨s7,aM.refl _,rfl,_,_,_,_,_,hs7⟩
  · rw[aG (by rw[h];simp)] at ht
    cases hrt:iD p cs cR.goal cR.rest cR.σ cR.N cR.left with
    | some s=>
     rw[e2,hrt] at F3
     obtain⟨i2,k1,_⟩:=F3
     rw[←e2] at k1
     rw[k1] at h
     cases h
    | none=>
     rw[e2,hrt] at F3
     obtain⟨F',hF,k1⟩:=F3
     rw[←e2] at k1
     have hX7:=KB (fun c h=>(hp c h).1) (rest:=I0) OC _ hli (at':=IZ) (by simp only;exact hnt) (by simp only;exact hMl) hP Sm.g2 Sm.o2 (e1▸Sm.zX hok)
     rw[k1] at hs7 ht hX7
     simp -implicitDefEqProofs only[aB,seval]
     refine⟨(s7,qt7,qc7,_,mx7,nd7,⟨gl,τ.out (tr.drop E0),tr.take E0,ds,F',B0⟩,cs),by simp only;omega,⟨hs7,C.mono hF,hX7,?_,by simp only;omega,by simp only;omega⟩,aN.mk (by simp -implicitDefEqProofs only[aB,seval])⟩
     simpa using ht
theorem Q0{p:List Cl}(hp:∀c∈p,fQ c∧c.2.length≤6){B:Nat}(hB:B≤524288){cs:List RC}{goal:Tm}{rest:List RG}{σ:Sub}{N:Nat}(hg:cJ σ)(ho:cK (bD N) σ)(hd:∀n,¬(0≤n∧n<(N:Int))→σ n=none)
 (hgo:bD N goal) (hr:∀g∈rest,bD N g.t∧g.t.k=3) (h0:0<N) (hN:N+26≤B) (hrl:rest.length+26≤B) (hcl:cs.length+1≤B) (hcs:∀c∈cs,wI p c∧c.N+26≤B∧c.rest.length+26≤B∧0<c.N) :
 ∀(left:List Nat),(∀i∈left,i<p.length)→left.length≤1048576→∀s,iD p cs goal rest σ N left=some s→pJ p B s
 | [],_,_,s,h=>by simp [iD] at h
 | i::l,hle,hll,s,h=>by
  have hil:=hle i (by simp)
  obtain⟨x,hx⟩:∃x,p[i]?=some x:=⟨_,dZ hil⟩
  obtain⟨hX,h6⟩:=hp x (cG hx)
  have hl':∀j∈l,j<p.length:=fun j hj=>hle j (by simp [hj])
  rw[iD.eq_def] at h
  simp only[hx] at h
  split at h
  case isFalse=>exact Q0 hp hB hg ho hd hgo hr h0 hN hrl hcl hcs l hl' (by simp at hll;omega) s h
  cases h
  have hfr:=hX.fr.1
  have hsh:=hX.c8 N
  obtain⟨r,σ',tr,U⟩:=tD (N:=N+nO x) hg (ho.upN (by omega)) (hgo.mono (by omega)) (hsh x.1 (by simp))
  rw[U.eq]
  have S:=U.vW
  refine⟨S.gJ,S.ok,fun n hn=>?_,?_,by simp only;omega,by simp only;omega,?_,?_,?_⟩
  · simp only at hn ⊢
    rw[S.aU n (fun h=>hn (S.fP n h))]
    exact hd n (fun h=>hn (by omega))
  · intro g hg'
    simp only[dS,bY] at hg'
    rcases hg' with ⟨t,ht,rfl⟩ | hg'
    · exact⟨hsh t (MR _ ht),by rw[aLI];exact(hX.body t ht).2⟩
    · exact⟨(hr g hg').1.mono (by simp only;omega),(hr g hg').2⟩
  · simp only[dP,aE];omega
  · simp only
    split
    · omega
    · simp only[dP,a8,bL];omega
  · simp only
    split
    · exact hcs
    · intro c hc
      rcases dS.1 hc with hc | hc
      · exact hcs c hc
      · simp only[cQ,dD,dN] at hc
        subst hc
        exact⟨⟨hg,ho,hd,hgo,hr,hl',by simp only;omega,by simp only;simp at hll;omega⟩,hN,hrl,h0⟩
theorem a0G(p:List Cl)(chs:List RC):fF p chs.length chs=match chs.getLast? with
 | none=>none
 | some c=>match iD p chs.dropLast c.goal c.rest c.σ c.N c.left with
  | some s=>some s
  | none=>fF p chs.dropLast.length chs.dropLast:=by
 cases chs with
 | nil=>rfl
 | cons c l=>
  rw[a8,fF]
  have:(c::l).dropLast.length=l.length:=by simp
  rw[this]
  try rfl
theorem aKX{p:List Cl}(hp:∀c∈p,fQ c∧c.2.length≤6){B:Nat}(hB:B≤524288):∀(n:Nat) (chs:List RC),chs.length≤B→(∀c∈chs,wI p c∧c.N+26≤B∧c.rest.length+26≤B∧0<c.N)→∀s,fF p n chs=some s→pJ p B s
 | 0,_,_,_,s,h=>by simp [fF] at h
 | n+1,chs,hl,hc,s,h=>by
  rw[fF] at h
  split at h
  · cases h
  · rename_i c tY
    have hm:=MS tY
    have hne:chs≠[]:=by rintro rfl;simp at hm
    have hdl:chs.dropLast.length+1=chs.length:=by
     have:=List.length_pos_iff.2 hne
     simp;omega
    have hcd:∀c∈chs.dropLast,wI p c∧c.N+26≤B∧c.rest.length+26≤B∧0<c.N:=fun c h=>hc c (MQ _ h)
    obtain⟨k,h1,h2,h3⟩:=hc c hm
    split at h
    · rename_i s' hs
      cases h
      exact Q0 hp hB k.gJ k.ok k.uZ k.goal k.rest h3 h1 h2 (by omega) hcd c.left k.left k.aYV s hs
    · exact aKX hp hB n _ (by omega) hcd s h
theorem pJ.up{p:List Cl}{B C:Nat}{s:RS}(h:pJ p B s)(hC:B≤C):pJ p C s:=
 ⟨h.gJ,h.ok,h.uZ,h.goals,h.pos,by have:=h.hN;omega,by have:=h.gl;omega,by have:=h.oI;omega,fun c hc=>by
  obtain⟨h1,h2,h3,h4⟩:=h.chs c hc
  exact⟨h1,by omega,by omega,h4⟩⟩
theorem pJ.back{p:List Cl}(hp:∀c∈p,fQ c∧c.2.length≤6){B:Nat}(hB:B≤524288){s s':RS}(h:pJ p B s)(e:fF p s.chs.length s.chs=some s'):pJ p B s':=
 aKX hp hB _ _ h.oI h.chs s' e
theorem JP{N:Nat}{σ:Sub}(hg:cJ σ)(ho:cK (bD N) σ){t:Tm}(ht:bD N t)(hf:eK (t.aK (rs σ))=true):bD N (t.aK (rs σ)):=by
 obtain⟨rk,B,G⟩:=hg.rs
 unfold eK at hf
 simp only[cT,bM] at hf
 exact⟨ht.1.aK fun v hv=>G.lP ho.lP v (ht.1.2.2 v hv).1 (ht.1.2.2 v hv).2,hf.2⟩
theorem pJ.step{p:List Cl}(hp:∀c∈p,fQ c∧c.2.length≤6)(hpl:p.length≤1048576){B:Nat}(hB:B+26≤524288){cnd:Tm→List Nat→List Nat}(hc:∀t l,(∀i∈cnd t l,i∈l)∧(cnd t l).length≤l.length){s s':RS}{g:RG}{rest:List RG}(hgs:s.goals=g::rest)(h:pJ p B s)
 (e:iC p cnd s g rest=.go s'):pJ p (B+26) s':=by
 have hgm:g∈s.goals:=by rw[hgs];simp
 have hrm:∀x∈rest,x∈s.goals:=fun x hx=>by rw[hgs];simp [hx]
 have hgl:=h.gl
 rw[hgs,a8] at hgl
 have hU:=h.up (C:=B+26) (by omega)
 unfold iC at e
 split at e
 · cases e
 rename_i eL
 have PK:eK (g.t.aK (rs s.σ))=true:=by simpa using eL
 have hok:=JP h.gJ h.ok (h.goals g hgm).1 PK
 generalize g.t.aK (rs s.σ)=t at *
 split at e
 · cases e
   exact⟨hU.gJ,hU.ok,hU.uZ,fun x hx=>hU.goals x (hrm x hx),hU.pos,hU.hN,by simp only;omega,by simp only[dI];have:=hU.oI;omega,fun c hc=>hU.chs c (pG hc)⟩
 split at e
 · split at e
   · cases e
     have S:=K1 h.gJ h.ok t.s t.ts fun x hx=>by
      obtain⟨k,n,s',ts⟩:=t
      by_cases hk:k=1
      · obtain⟨_,_,_,h2⟩:=(show cH s.N (.mk 1 n s' ts) from hk▸hok.1).var
        simp only[Tm.ts] at hx
        rw[h2] at hx;cases hx
      · exact p9 _ (.mk k n s' ts) hk hok x hx
     exact⟨S.gJ,S.ok,fun n hn=>by simp only at hn ⊢;rw[S.aU n (fun h=>hn (S.fP n h))];exact hU.uZ n hn,fun x hx=>hU.goals x (hrm x hx),hU.pos,hU.hN,by simp only;omega,hU.oI,hU.chs⟩
   · split at e<;>cases e
 split at e
 · cases e
 split at e
 case h_2=>cases e
 rename_i s2 hs
 cases e
 obtain⟨c1,c2⟩:=hc t (d6 p t)
 have hfl:(d6 p t).length≤p.length:=by rw[JR];exact JS p t p.length
 refine Q0 hp (by omega) h.gJ h.ok h.uZ hok (fun x hx=>h.goals x (hrm x hx)) h.pos (by have:=h.hN;omega) (by omega) (by have:=h.oI;omega) hU.chs _ (fun i hi=>?_) (by omega) s' hs
 have:=c1 i hi
 unfold d6 at this
 have:=(List.mem_filter.1 this).1
 exact uL.1 this
def mW(n:Nat)(l:List RG):Prop:=l.Pairwise (fun a b=>b.aU≤a.aU)∧∀g∈l,g.aU≤n
theorem mW.up{n m:Nat}{l:List RG}(h:mW n l)(hm:n≤m):mW m l:=⟨h.1,fun g hg=>pH (h.2 g hg) hm⟩
theorem mW.tail{n:Nat}{g:RG}{l:List RG}(h:mW n (g::l)):mW n l∧mW g.aU l:=by
 obtain⟨h1,h2⟩:=h
 rw[List.pairwise_cons] at h1
 exact⟨⟨h1.2,fun x hx=>h2 x (by simp [hx])⟩,h1.2,h1.1⟩
theorem mW.body{n:Nat}{l:List RG}(h:mW n l)(f:Tm→Tm)(bd:List Tm):mW n (bd.map (fun t=>(⟨f t,n⟩:RG))++l):=by
 refine⟨List.pairwise_append.2 ⟨?_,h.1,fun a ha b hb=>?_⟩,fun g hg=>?_⟩
 · rw[List.pairwise_map]
   exact List.pairwise_of_forall fun _ _=>cO _
 · obtain⟨t,_,rfl⟩:=bY.1 ha
   exact h.2 b hb
 · rcases dS.1 hg with hg | hg
   · obtain⟨t,_,rfl⟩:=bY.1 hg
     exact cO _
   · exact h.2 g hg
structure yK (s:RS):Prop where
 goals:mW s.chs.length s.goals
 chs:∀i c,s.chs[i]?=some c→mW i c.rest
theorem QY{p:List Cl}{cs:List RC}{goal:Tm}{rest:List RG}{σ:Sub}{N:Nat}(hr:mW cs.length rest)(hc:∀i c,cs[i]?=some c→mW i c.rest) :
 ∀(left:List Nat) s,iD p cs goal rest σ N left=some s→yK s
 | [],s,h=>by simp [iD] at h
 | i::l,s,h=>by
  rw[iD.eq_def] at h
  simp only at h
  split at h
  · cases h
  rename_i x hx
  split at h
  case isFalse=>exact QY hr hc l s h
  cases h
  have hb:=hr.body (c8 N) x.2
  refine⟨?_,?_⟩
  · simp only
    split
    · exact hb
    · exact hb.up (by simp)
  · simp only
    intro j c hj
    split at hj
    · exact hc j c hj
    · rw[List.getElem?_append] at hj
      split at hj
      · exact hc j c hj
      · rename_i hlt
        have hj0:j - cs.length=0:=by
         have:=(eE.1 hj).1
         simp at this;omega
        rw[hj0] at hj
        simp only[A5,Option.some.injEq] at hj
        subst hj
        exact hr.up (by omega)
theorem aKV{p:List Cl}:∀(n:Nat) (chs:List RC),(∀i c,chs[i]?=some c→mW i c.rest)→∀s,fF p n chs=some s→yK s
 | 0,_,_,s,h=>by simp [fF] at h
 | n+1,chs,hc,s,h=>by
  rw[fF] at h
  split at h
  · cases h
  · rename_i c tY
    have hd:∀i c,chs.dropLast[i]?=some c→mW i c.rest:=fun i c hi=>hc i c (by
     rw[List.dropLast_eq_take,List.getElem?_take] at hi
     split at hi
     · exact hi
     · cases hi)
    rw[List.getLast?_eq_getElem?] at tY
    have hk:=hc _ _ tY
    split at h
    · rename_i s' hs
      cases h
      exact QY (by rw[List.length_dropLast];exact hk) hd _ s hs
    · exact aKV n _ hd s h
theorem yK.step{p:List Cl}{cnd:Tm→List Nat→List Nat}{s s':RS}{g:RG}{rest:List RG}(hgs:s.goals=g::rest)(h:yK s)(e:iC p cnd s g rest=.go s'):yK s':=by
 have hg:=h.goals
 rw[hgs] at hg
 obtain⟨h1,h2⟩:=hg.tail
 have h3:=hg.2 g (by simp)
 unfold iC at e
 split at e
 · cases e
 split at e
 · cases e
   refine⟨?_,fun i c hi=>?_⟩
   · simp only[dI]
     exact h2.up (by omega)
   · simp only[List.getElem?_take] at hi
     split at hi
     · exact h.chs i c hi
     · cases hi
 split at e
 · split at e
   · cases e
     exact⟨h1,h.chs⟩
   · split at e<;>cases e
 split at e
 · cases e
 split at e
 case h_2=>cases e
 rename_i s2 hs
 cases e
 exact QY h1 h.chs _ s' hs
def A9(s:RS):Prop:=26≤s.N∧∀c∈s.chs,26≤c.N
theorem QZ{p:List Cl}{cs:List RC}{goal:Tm}{rest:List RG}{σ:Sub}{N:Nat}(hN:26≤N)(hc:∀c∈cs,26≤c.N) :
 ∀(left:List Nat) s,iD p cs goal rest σ N left=some s→A9 s
 | [],s,h=>by simp [iD] at h
 | i::l,s,h=>by
  rw[iD.eq_def] at h
  simp only at h
  split at h
  · cases h
  rename_i x hx
  split at h
  case isFalse=>exact QZ hN hc l s h
  cases h
  refine⟨by simp only;omega,?_⟩
  simp only
  split
  · exact hc
  · intro c h
    rcases dS.1 h with h | h
    · exact hc c h
    · simp only[cQ,dD,dN] at h
      subst h;exact hN
theorem aKW{p:List Cl}:∀(n:Nat) (chs:List RC),(∀c∈chs,26≤c.N)→∀s,fF p n chs=some s→A9 s
 | 0,_,_,s,h=>by simp [fF] at h
 | n+1,chs,hc,s,h=>by
  rw[fF] at h
  split at h
  · cases h
  · rename_i c tY
    have hd:∀c∈chs.dropLast,26≤c.N:=fun c h=>hc c (MQ _ h)
    split at h
    · rename_i s' hs
      cases h
      exact QZ (hc c (MS tY)) hd _ s hs
    · exact aKW n _ hd s h
theorem A9.step{p:List Cl}{cnd:Tm→List Nat→List Nat}{s s':RS}{g:RG}{rest:List RG}(h:A9 s)(e:iC p cnd s g rest=.go s'):A9 s':=by
 unfold iC at e
 split at e
 · cases e
 split at e
 · cases e
   exact⟨h.1,fun c hc=>h.2 c (pG hc)⟩
 split at e
 · split at e
   · cases e
     exact h
   · split at e<;>cases e
 split at e
 · cases e
 split at e
 case h_2=>cases e
 rename_i s2 hs
 cases e
 exact QZ h.1 h.2 _ s' hs
structure lU (p:List Cl) (B:Nat) (s:RS):Prop where
 a:pJ p B s
 k:yK s
 l:A9 s
theorem lU.step{p:List Cl}(hp:∀c∈p,fQ c∧c.2.length≤6)(hpl:p.length≤1048576){B:Nat}(hB:B+26≤524288){cnd:Tm→List Nat→List Nat}(hc:∀t l,(∀i∈cnd t l,i∈l)∧(cnd t l).length≤l.length){s s':RS}{g:RG}{rest:List RG}(hgs:s.goals=g::rest)(h:lU p B s)
 (e:iC p cnd s g rest=.go s'):lU p (B+26) s':=⟨h.a.step hp hpl hB hc hgs e,h.k.step hgs e,h.l.step e⟩
theorem lU.back{p:List Cl}(hp:∀c∈p,fQ c∧c.2.length≤6){B:Nat}(hB:B≤524288){s s':RS}(h:lU p B s)(e:fF p s.chs.length s.chs=some s'):lU p B s':=
 ⟨h.a.back hp hB e,aKV _ _ h.k.chs s' e,aKW _ _ h.l.2 s' e⟩
theorem lU.up{p:List Cl}{B C:Nat}{s:RS}(h:lU p B s)(hC:B≤C):lU p C s:=⟨h.a.up hC,h.k,h.l⟩
theorem lU.start{p:List Cl}{q:List Tm}(hq:∀t∈q,bD 26 t∧t.k=3)(h6:q.length≤6):lU p 26 (lR q):=by
 refine⟨⟨cJ.none,fun n u h=>(by cases h),fun n _=>rfl,?_,(by show 0<26;omega),cO _,?_,nI _,fun c hc=>(by cases hc)⟩,⟨⟨?_,?_⟩,fun i c hi=>(by cases hi)⟩,⟨cO _,fun c hc=>(by cases hc)⟩⟩
 · intro g hg
   simp only[lR,bY] at hg
   obtain⟨t,ht,rfl⟩:=hg
   exact hq t ht
 · simp only[lR,aE];omega
 · simp only[lR,List.pairwise_map]
   exact List.pairwise_of_forall fun _ _=>cO _
 · intro g hg
   simp only[lR,bY] at hg
   obtain⟨t,ht,rfl⟩:=hg
   exact nI _
end Go.AW
namespace Go.AW
theorem IX.node{p:List Cl}{M:Nat}{i:IS}(h:IX p M i):IX p M { i with nn:=i.nn+1 }:=
 ⟨h.tnd,h.tin,h.phi,fun c hc=>by obtain⟨h1,h2,h3,h4⟩:=h.ch c hc;exact⟨h1,by simp only;omega,h3,h4⟩,h.mono⟩
theorem IX.more{p:List Cl}{M:Nat}{i:IS}{σ':Sub}{add:List Int}{gl:List IG}(h:IX p M i)(S:mE (i.fresh:Int) i.σ σ' add):IX p M { i with goals:=gl,σ:=σ',tr:=i.tr++add }:=by
 refine⟨jW.2 ⟨h.tnd,S.nodup,fun a ha b hb e=>?_⟩,fun n hn=>?_,h.phi,fun c hc=>?_,h.mono⟩
 · subst e
   exact(h.tin a ha).2 (S.new a hb).1
 · simp only[dS] at hn
   rcases hn with hn | hn
   · have h1:=h.tin n hn
     have hna:n∉add:=fun ha=>h1.2 (S.new n ha).1
     exact⟨h1.1,by simp only;rw[S.aU n hna];exact h1.2⟩
   · exact⟨S.fP n hn,(S.new n hn).2⟩
 · obtain⟨h1,h2,h3,h4⟩:=h.ch c hc
   exact⟨h1,h2,by simp only[dP];omega,h4⟩
theorem IX.cut{p:List Cl}{M:Nat}{i:IS}{gl:List IG}(h:IX p M i)(k:Nat):IX p M { i with goals:=gl,chs:=i.chs.take k }:=
 ⟨h.tnd,h.tin,by have:=aJU i.chs k;have:=h.phi;simp only;omega,fun c hc=>h.ch c (pG hc),h.mono.sublist (List.take_sublist _ _)⟩
def MX(p:List Cl)(M:Nat):wD→Prop
 | .go s=>IX p M s
 | .fail s=>IX p M s
 | .stop _=>True
theorem aX0{p:List Cl}(hp:∀c∈p,fQ c)(hpl:p.length≤20){cnd:Tm→List Nat→List Nat}(hc:∀t l,(∀i∈cnd t l,i∈l)∧(cnd t l).length≤l.length){M:Nat}{i:IS}{g:IG}{rest:List IG}(h:IX p M i)(hg:cJ i.σ)(ho:cK (bD i.fresh) i.σ)(hgo:bD i.fresh g.t) :
 MX p (M+520) (lL p cnd i g rest):=by
 have hU:=h.up (M':=M+520) (by omega)
 unfold lL
 split
 · trivial
 rename_i eL
 have PK:eK (g.t.aK (rs i.σ))=true:=by simpa using eL
 have hok:=JP hg ho hgo PK
 generalize g.t.aK (rs i.σ)=t at *
 split
 · exact(hU.cut (gl:=rest) g.cut).node
 split
 · have S:=K1 hg ho t.s t.ts fun x hx=>by
    obtain⟨k,n,s',ts⟩:=t
    by_cases hk:k=1
    · obtain⟨_,_,_,h2⟩:=(show cH i.fresh (.mk 1 n s' ts) from hk▸hok.1).var
      simp only[Tm.ts] at hx
      rw[h2] at hx;cases hx
    · exact p9 _ (.mk k n s' ts) hk hok x hx
   split
   · exact(hU.more (gl:=rest) S).node
   · split
     · exact(hU.more (gl:=i.goals) S).node
     · trivial
 split
 · trivial
 obtain⟨c1,c2⟩:=hc t (d6 p t)
 have hfl:(d6 p t).length≤p.length:=by
  have:=List.length_filter_le (fun j=>match p[j]? with | some c=>FU c t | none=>false) (List.range p.length)
  rw[List.length_range] at this
  exact this
 have hr:∀x∈cnd t (d6 p t),x<p.length:=fun x hx=>by
  have:=c1 x hx
  unfold d6 at this
  exact uL.1 (List.mem_filter.1 this).1
 have hT:=KB hp (rest:=rest) (cnd t (d6 p t)) { i with nn:=i.nn+1 } hr (at':=i.nn) (by simp only;omega) (by have:=h.phi;simp only;omega) hU.node hg ho hok
 split
 · exact hT
 · exact hT
end Go.AW
namespace Go.AW
open Go.Proofs.Tryz
theorem aJE{p:List Cl}{goal:Tm}{at':Nat}{rest:List IG}:∀(l:List Nat) (s:IS),(fE p goal at' rest l s).1=false→∃F,(fE p goal at' rest l s).2= { s with fresh:=F }
 | [],s,_=>⟨s.fresh,by rw[fE.eq_def]⟩
 | j::l,s,h=>by
  rw[fE.eq_def] at h ⊢
  simp only at h ⊢
  split at h
  · exact⟨s.fresh,rfl⟩
  · split at h
    · cases h
    · rename_i hu
      rw[aG hu]
      obtain⟨F,e⟩:=aJE l { s with fresh:=s.fresh+26 } h
      exact⟨F,e⟩
theorem KC{p:List Cl}{goal:Tm}{at':Nat}{rest:List IG}:∀(l:List Nat) (s:IS),(fE p goal at' rest l s).2.nn=s.nn
 | [],s=>by rw[fE.eq_def]
 | j::l,s=>by
  rw[fE.eq_def]
  simp only
  split
  · rfl
  · split
    · rfl
    · exact KC l { s with fresh:=s.fresh+26 }
theorem Rl.facts{s:RS}{i:IS}(h:Rl s i):cJ i.σ∧cK (bD i.fresh) i.σ∧i.chs.length=s.chs.length∧i.goals.length=s.goals.length:=by
 obtain⟨ρ,S,G,C⟩:=h
 have:=gI List.length G.1
 simp only[aE] at this
 exact⟨S.g2,S.o2,C.len,this⟩
theorem Rl.goal{s:RS}{i:IS}{h:IG}{hs:List IG}(hR:Rl s i)(hh:i.goals=h::hs):bD i.fresh h.t∧h.t.k=3∧∃g gs,s.goals=g::gs∧h.cut=g.aU:=by
 obtain⟨ρ,S,G,C⟩:=hR
 rw[hh] at G
 cases hg:s.goals with
 | nil=>rw[hg] at G;exact absurd G.1 (by simp)
 | cons g gs=>
  rw[hg] at G
  have he:=(uK G.1).1
  simp only[Prod.mk.injEq] at he
  obtain⟨e1,e2⟩:=he
  obtain⟨h1,h2⟩:=G.2 g (by simp)
  rw[e1]
  exact⟨S.zX h1,by rw[xM];exact h2,g,gs,rfl,e2⟩
section
variable {p:List Cl} (hp:∀c∈p,fQ c) {cnd:Tm→List Nat→List Nat} (hc:∀(ρ:Int→Int) (t:Tm) (l:List Nat),cnd (bT ρ t) l=cnd t l)
include hp hc
theorem Rl.step{s:RS}{i:IS}{h:IG}{hs:List IG}(hR:Rl s i)(hh:i.goals=h::hs):∃g gs,s.goals=g::gs∧match lL p cnd i h hs with
 | .stop e=>iC p cnd s g gs=.stop e
 | .go i'=>∃s',iC p cnd s g gs=.go s'∧Rl s' i'
 | .fail i'=>iC p cnd s g gs=.fail∧iB i'.fresh s.chs i'.chs i'.σ i'.tr:=by
 obtain⟨_,_,g,gs,hg,_⟩:=hR.goal hh
 obtain⟨h',hs',e,k⟩:=aLV hp hc hR hg
 rw[hh] at e
 cases e
 refine⟨g,gs,hg,?_⟩
 cases hr:iC p cnd s g gs with
 | stop e=>rw[hr] at k;simp only at k;rw[k]
 | go s'=>rw[hr] at k;simp only at k;obtain⟨i',e,k⟩:=k;rw[e];exact⟨s',rfl,k⟩
 | fail=>rw[hr] at k;simp only at k;obtain⟨i',e,k⟩:=k;rw[e];exact⟨rfl,k⟩
end
theorem aU8(p:List Cl)(t:Tm):(d6 p t).length≤p.length:=by
 have:=List.length_filter_le (fun j=>match p[j]? with | some c=>FU c t | none=>false) (List.range p.length)
 rw[List.length_range] at this
 exact this
theorem ON(p:List Cl)(t:Tm):∀x∈d6 p t,x<p.length:=fun x hx=>by
 unfold d6 at hx
 exact uL.1 (List.mem_filter.1 hx).1
theorem aJD{p:List Cl}{N:Nat}{i':IS}:∀(n:Nat) (i:IS),(∀c∈i.chs,c.taken≤N)→gE p n i=some i'→i'.nn≤N
 | 0,i,_,e=>by simp [gE] at e
 | n+1,i,h,e=>by
  rw[gE] at e
  split at e
  · cases e
  · rename_i c hl
    split at e
    · cases e
      rw[KC]
      exact h c (MS hl)
    · rename_i hf
      obtain⟨F,e2⟩:=aJE _ _ (by simpa using hf)
      rw[e2] at e
      exact aJD n _ (fun c hc=>h c (MQ _ hc)) e
def MW(k:Nat):wD→Prop
 | .go s=>s.nn=k
 | .fail s=>s.nn=k
 | .stop _=>True
theorem aX1{p:List Cl}{cnd:Tm→List Nat→List Nat}{i:IS}{g:IG}{rest:List IG}:MW (i.nn+1) (lL p cnd i g rest):=by
 unfold lL
 split
 · trivial
 split
 · exact rfl
 split
 · split
   · exact rfl
   · split
     · exact rfl
     · trivial
 split
 · trivial
 split
 · exact KC _ _
 · exact KC _ _
def TP:wD→Prop
 | .stop e=>e≠-1
 | _=>True
theorem aX2{p:List Cl}{cnd:Tm→List Nat→List Nat}{i:IS}{g:IG}{rest:List IG}:TP (lL p cnd i g rest):=by
 unfold lL
 split
 · exact(by decide:(3:Int)≠-1)
 split
 · trivial
 split
 · split
   · trivial
   · split
     · trivial
     · show oK _≠-1
       unfold oK
       split
       · decide
       · split
         · decide
         · split<;>decide
 split
 · exact(by decide:(8:Int)≠-1)
 split<;>trivial
structure RI (p:List Cl) (B M k:Nat) (s:RS) (i:IS):Prop where
 r:Rl s i
 a:lU p B s
 x:IX p M i
 n:i.nn≤k
theorem RI.oI{p:List Cl}{B M k:Nat}{s:RS}{i:IS}(h:RI p B M k s i):i.chs.length≤B:=by rw[h.r.facts.2.2.1];exact h.a.a.oI
theorem RI.cr{p:List Cl}{B M k:Nat}{s:RS}{i:IS}(h:RI p B M k s i):iB i.fresh s.chs i.chs i.σ i.tr:=by obtain⟨_,_,_,C⟩:=h.r;exact C
theorem RI.cut{p:List Cl}{B M k:Nat}{s:RS}{i:IS}{g:IG}{gs:List IG}(h:RI p B M k s i)(hg:i.goals=g::gs):g.cut≤i.chs.length:=by
 obtain⟨_,_,g',gs',e,e2⟩:=h.r.goal hg
 rw[e2,h.r.facts.2.2.1]
 have:=h.a.k.goals.2 g' (by rw[e];simp)
 exact this
section
variable {p:List Cl} (hp:∀c∈p,fQ c∧c.2.length≤6) (hpl:p.length≤20) {cnd:Tm→List Nat→List Nat} (hc:∀(ρ:Int→Int) (t:Tm) (l:List Nat),cnd (bT ρ t) l=cnd t l) (hd:∀t l,(∀i∈cnd t l,i∈l)∧(cnd t l).length≤l.length)
include hp
theorem RI.UW{B M k:Nat}(hB:B≤524288){s:RS}{i i':IS}(ha:lU p B s)(hC:iB i.fresh s.chs i.chs i.σ i.tr)(hx:IX p M i)(hn:i.nn≤k)(e:gE p i.chs.length i=some i'):∃s',RI p B M k s' i':=by
 have hp1:=fun c h=>(hp c h).1
 have key:=NP hp1 i.chs.length s.chs i hC
 cases hr:fF p i.chs.length s.chs with
 | none=>rw[hr] at key;simp only at key;rw[key] at e;cases e
 | some s'=>
  rw[hr] at key
  obtain⟨i2,e2,R⟩:=key
  rw[e2] at e
  cases e
  rw[hC.len] at hr
  exact⟨s',R,ha.back hp hB hr,aJC hp1 _ s.chs i hC hx i' e2,aJD _ i (fun c hc=>pH (hx.ch c hc).2.1 hn) e2⟩
theorem RI.back{B M k:Nat}(hB:B≤524288){s:RS}{i i':IS}(h:RI p B M k s i)(e:gE p i.chs.length i=some i'):∃s',RI p B M k s' i':=
 RI.UW hp hB h.a h.cr h.x h.n e
include hpl hc hd
theorem RI.step{B M k:Nat}(hB:B+26≤524288){s:RS}{i:IS}{g:IG}{gs:List IG}(h:RI p B M k s i)(hg:i.goals=g::gs):match lL p cnd i g gs with
 | .stop e=>True
 | .go i'=>∃s',RI p (B+26) (M+520) (k+1) s' i'
 | .fail i'=>iB i'.fresh s.chs i'.chs i'.σ i'.tr∧IX p (M+520) i'∧i'.nn≤k+1∧∀i2,gE p i'.chs.length i'=some i2→∃s',RI p (B+26) (M+520) (k+1) s' i2:=by
 have hp1:=fun c h=>(hp c h).1
 have hn:=aX1 (p:=p) (cnd:=cnd) (i:=i) (g:=g) (rest:=gs)
 have hx:=aX0 hp1 hpl hd (rest:=gs) h.x h.r.facts.1 h.r.facts.2.1 (h.r.goal hg).1
 obtain⟨g',gs',e,k⟩:=h.r.step hp1 hc hg
 have hk:=h.n
 cases hs:lL p cnd i g gs with
 | stop e=>trivial
 | go i'=>
  rw[hs] at hn hx k
  simp only[MW,MX] at hn hx k
  obtain⟨s',e1,R⟩:=k
  exact⟨s',R,h.a.step hp (by omega) hB hd e e1,hx,by omega⟩
 | fail i'=>
  rw[hs] at hn hx k
  simp only[MW,MX] at hn hx k
  obtain⟨e1,C⟩:=k
  exact⟨C,hx,by omega,fun i2 e2=>RI.UW hp hB (h.a.up (by omega)) C hx (by omega) e2⟩
end
theorem RI.start{p:List Cl}{q:List Tm}(hq:∀t∈q,bD 26 t∧t.k=3)(h6:q.length≤6):RI p 26 26 0 (lR q) (nR q):=by
 refine⟨aLU hq,lU.start hq h6,⟨lS,fun n hn=>(by cases hn),(by show 26+26*oU []≤26;simp [oU]),fun c hc=>(by cases hc),List.Pairwise.nil⟩,cO _⟩
theorem aXZ{p:List Cl}{cnd:Tm→List Nat→List Nat}{vars:List Int}{most fuel:Nat}{s:IS}(hg:s.goals= []):iT p cnd vars most fuel s=if most=0 then([],1) else match iJ s.σ vars with
 | none=>([],3)
 | some a=>match gE p s.chs.length s with
  | none=>([a],0)
  | some s'=>(a::(iT p cnd vars (most - 1) fuel s').1,(iT p cnd vars (most - 1) fuel s').2):=by
 rw[iT.eq_def,hg]
 simp only
 split<;>rfl
theorem aXY{p:List Cl}{cnd:Tm→List Nat→List Nat}{vars:List Int}{most fuel:Nat}{s:IS}{g:IG}{rest:List IG}(hg:s.goals=g::rest):iT p cnd vars most fuel s=if fuel=0 then([],2) else match lL p cnd s g rest with
 | .stop e=>([],e)
 | .go s'=>iT p cnd vars most (fuel - 1) s'
 | .fail s'=>match gE p s'.chs.length s' with
  | none=>([],0)
  | some s''=>iT p cnd vars most (fuel - 1) s'':=by
 rw[iT.eq_def,hg]
 simp only
 split<;>rfl
section
variable {st0 st:aA} {S c m:Nat} {qt qc qn:AV} {p:List Cl} {q:List Tm} {idx:Bool} {fuel used mx:Int} {nd:List AV} {i:IS}
theorem dA.acc{b:Nat}{l:List AV}(h:dA st0 st S c m qt qc qn p q idx fuel used mx nd i)(hb:l≠[]→st b=none):dA (bV st0 b l) (bV st b l) S c m qt qc qn p q idx fuel used mx nd i:=by
 cases l with
 | nil=>exact h
 | cons x l=>
  have hn:=hb (by simp)
  have hne:∀a∈iN S c m qt qc qn,bV st b (x::l) a=st a:=fun a ha=>oE (by rintro rfl;exact h.held a ha hn)
  have aW5:∀a∈iN S c m qt qc qn,bV st0 b (x::l) a=st0 a:=fun a ha=>oE (by rintro rfl;exact h.held a ha hn)
  refine⟨by rw[hne S (dY.2 (.inl rfl))];exact h.cell,h.sto.CQ (hne c (dY.2 (.inr (.inl rfl)))) (hne m (dY.2 (.inr (.inr (.inl rfl))))) (fun b hb=>hne b (dY.2 (.inr (.inr (.inr (.inl hb)))))),
   h.acC.aU fun b hb=>hne b (dY.2 (.inr (.inr (.inr (.inr (.inl hb)))))),h.acN.aU fun b hb=>hne b (dY.2 (.inr (.inr (.inr (.inr (.inr hb)))))),h.ndl,h.ndw,h.dis,fun a ha=>by rw[aW5 a ha];exact h.new a ha,fun a o ha=>?_⟩
  by_cases e:a=b
  · subst e
    rw[j4 (by simp),aA.aJ] at ha ⊢
    exact ha
  · rw[oE e] at ha ⊢
    exact h.aU a o ha
theorem dA.AK{b:Nat}{l:List AV}{st2:aA}(h:dA (bV st0 b l) st2 S c m qt qc qn p q idx fuel used mx nd i)(hb:l≠[]→st0 b=none):∃s,st2=bV s b l∧(l≠[]→s b=none)∧dA st0 s S c m qt qc qn p q idx fuel used mx nd i:=by
 cases l with
 | nil=>exact⟨st2,rfl,fun h=>absurd rfl h,h⟩
 | cons x l=>
  have hn:=hb (by simp)
  have h2:st2 b=some (.cells ((x::l).flatMap AV.cells)):=h.aU b _ (by rw[j4 (by simp),aA.aJ])
  have hbn:b∉iN S c m qt qc qn:=fun hm=>by
   have:=h.new b hm
   rw[j4 (by simp),aA.aJ] at this
   cases this
  obtain⟨s',hs'⟩:∃s':aA,∀y,s' y=if y=b then none else st2 y:=⟨_,fun _=>rfl⟩
  have hne:∀a∈iN S c m qt qc qn,s' a=st2 a:=fun a ha=>by rw[hs',aG (by rintro rfl;exact hbn ha)]
  refine⟨s',?_,fun _=>by rw[hs',aH rfl],?_⟩
  · funext y
    by_cases e:y=b
    · subst e;rw[j4 (by simp),aA.aJ,h2]
    · rw[oE e,hs',aG e]
  · refine⟨by rw[hne S (dY.2 (.inl rfl))];exact h.cell,h.sto.CQ (hne c (dY.2 (.inr (.inl rfl)))) (hne m (dY.2 (.inr (.inr (.inl rfl))))) (fun b hb=>hne b (dY.2 (.inr (.inr (.inr (.inl hb)))))),
     h.acC.aU fun b hb=>hne b (dY.2 (.inr (.inr (.inr (.inr (.inl hb)))))),h.acN.aU fun b hb=>hne b (dY.2 (.inr (.inr (.inr (.inr (.inr hb)))))),h.ndl,h.ndw,h.dis,fun a ha=>?_,fun a o ha=>?_⟩
    · have:=h.new a ha
      rwa [oE (by rintro rfl;exact hbn ha)] at this
    · have e:a≠b:=by rintro rfl;rw[hn] at ha;cases ha
      rw[hs',aG e]
      exact h.aU a o (by rw[oE e];exact ha)
theorem JD{st:aA}{b:Nat}{o:AO}(h:st b=none):fJ st (st.aC b o):=fun x p hx=>by
 rw[aA.aF _ _ (by rintro rfl;rw[h] at hx;cases hx)];exact hx
theorem MB{S b:Nat}(hne:S≠b)(X Y:AO):∃s0:aA,s0 S=some X∧s0 b=some Y∧∀st:aA,st S=some X→st b=some Y→fJ s0 st:=by
 refine⟨(one S X).aC b Y,by rw[aA.aF _ _ hne];exact vP,aA.aJ _ _ _,fun st h1 h2 x p hx=>?_⟩
 by_cases e:x=b
 · subst e;rw[aA.aJ] at hx;cases hx;exact h2
 · rw[aA.aF _ _ e] at hx;exact g8 h1 x p hx
theorem dA.box{b:Nat}{o:AO}(h:dA st0 st S c m qt qc qn p q idx fuel used mx nd i)(hn:st b=none):dA (st0.aC b o) (st.aC b o) S c m qt qc qn p q idx fuel used mx nd i:=by
 have hne:∀(s:aA) a,a∈iN S c m qt qc qn→(s.aC b o) a=s a:=fun s a ha=>aA.aF _ _ (by rintro rfl;exact h.held a ha hn)
 refine⟨by rw[hne _ S (dY.2 (.inl rfl))];exact h.cell,h.sto.CQ (hne _ c (dY.2 (.inr (.inl rfl)))) (hne _ m (dY.2 (.inr (.inr (.inl rfl))))) (fun b hb=>hne _ b (dY.2 (.inr (.inr (.inr (.inl hb)))))),
  h.acC.aU fun b hb=>hne _ b (dY.2 (.inr (.inr (.inr (.inr (.inl hb)))))),h.acN.aU fun b hb=>hne _ b (dY.2 (.inr (.inr (.inr (.inr (.inr hb)))))),h.ndl,h.ndw,h.dis,fun a ha=>by rw[hne _ a ha];exact h.new a ha,fun a o' ha=>?_⟩
 by_cases e:a=b
 · subst e
   rw[aA.aJ] at ha ⊢
   exact ha
 · rw[aA.aF _ _ e] at ha ⊢
   exact h.aU a o' ha
theorem dA.unbox{b:Nat}{o:AO}(h:dA (st0.aC b o) st S c m qt qc qn p q idx fuel used mx nd i)(hn:st0 b=none):dA st0 st S c m qt qc qn p q idx fuel used mx nd i:=by
 refine⟨h.cell,h.sto,h.acC,h.acN,h.ndl,h.ndw,h.dis,fun a ha=>?_,fun a o' ha=>?_⟩
 · have:=h.new a ha
   by_cases e:a=b
   · subst e;exact hn
   · rwa [aA.aF _ _ e] at this
 · have e:a≠b:=by rintro rfl;rw[hn] at ha;cases ha
   exact h.aU a o' (by rw[aA.aF _ _ e];exact ha)
end
theorem aLN{φ:AF}{t:TypeId}{ag:Bool}{w d k:Nat}{es:List AV}(hI:eI prog t=some (ag,w))(h:φ d=.int .i64 (k:Int))(hk:k≤es.length):fD prog φ t (.slice es) none (some (.tmp d)) none=some (.slice (es.take k)):=by
 have he:φ.eval (.tmp d)=.int .i64 (k:Int):=h
 unfold fD
 rw[aG (by simp [nT])]
 simp only[mF,hI]
 rw[aG (by simp)]
 simp only[dB,he]
 rw[aH (by omega)]
 simp
def HQ(a:AV):Prop:=(∃l,a=.slice l)∨a=.fslice []
theorem HQ.facts{a:AV}(h:HQ a):a.isAgg=false∧a.width=1∧a.cD=false∧a.cells= [a]∧a.storable=true∧∃l,a.soft=.slice l:=by
 rcases h with ⟨l,rfl⟩ | rfl
 · exact⟨rfl,rfl,rfl,rfl,rfl,l,rfl⟩
 · exact⟨rfl,rfl,rfl,rfl,rfl,[],rfl⟩
abbrev uE:=zi tI_3 (zi zI_3 (zi a7 (zi tI_4 (zi zI_4 (zi cL (zi tI_29 (zi zI_29 (zi eP (zi gO (zi gP (zi gV (zi tI_164 (zi zI_164 (zi wY (zi E2 (zi E3 (zi SX (zi tI_166 (zi zI_166 (zi E4 (zi E5 (zi E6 (zi EO (zi tI_254 (zi zI_254 (zi OH (zi OI (zi OJ (zi OK NO)))))))))))))))))))))))))))))
theorem VY{p:List Cl}(hp:∀c∈p,fQ c∧c.2.length≤6){B:Nat}(hB:B≤524288)(gs0:List RG)(σ0:List AV)(chs:List RC)(hl:chs.length≤B)(hc:∀c∈chs,wI p c∧c.N+26≤B∧c.rest.length+26≤B∧0<c.N)(st:aA) :
 aD prog 161 [.slice (p.map bK),.agg [.slice (gs0.map eG),.slice σ0,.slice (chs.map fG)]] st (fun r st'=>st'=st∧match fF p chs.length chs with
  | some s=>r=.tup [nW s,.bool true]
  | none=>∃l1 l2 l3,r=.tup [.agg [.slice l1,.slice l2,.slice l3],.bool false]):=by
 refine aD.oJ (aD.soft ?_)
 refine wF [1000000,3] 2 func161 ntmps161 rfl rfl ?_
 intro _
 simp -implicitDefEqProofs only[aB,seval,uE]
 intro b3 h3 b4 h4
 have hne:b4≠b3:=by rintro rfl;rw[aA.aJ] at h4;cases h4
 have PW:st b4=none:=by rw[aA.aF _ _ hne] at h4;exact h4
 rw[aA.nZ _ _ _ (dF hne)]
 generalize hW:st.aC b4 (.cells [.fslice [],.fslice [],.fslice []])=W
 have hW4:W b4=some (.cells [.fslice [],.fslice [],.fslice []]):=by rw[←hW];exact aA.aJ _ _ _
 have hW3:W b3=none:=by rw[←hW,aA.aF _ _ (dF hne)];exact h3
 have hDW:∀o o',aM ((W.aC b3 o).aC b4 o') st:=fun o o' q=>by
  by_cases q4:q=b4
  · subst q4;rw[aA.aJ,PW];simp
  rw[aA.aF _ _ q4]
  by_cases q3:q=b3
  · subst q3;rw[aA.aJ,h3];simp
  rw[aA.aF _ _ q3,←hW,aA.aF _ _ q4]
  simp
 have aIY:b3≠b4:=dF hne
 refine pC (σ:=List RC×AV×AV) [1000000,3] [0,3,4] (fun s=>s.1.length≤B∧(∀c∈s.1,wI p c∧c.N+26≤B∧c.rest.length+26≤B∧0<c.N)∧HQ s.2.1∧HQ s.2.2∧fF p s.1.length s.1=fF p chs.length chs) (fun s=>[(5,.bool false)]) (fun s=>W.aC b3 (.cells [s.2.1,s.2.2,.slice (s.1.map fG)])) (fun s=>s.1.length) (by decide +kernel) ⟨(chs,.slice (gs0.map eG),.slice σ0),⟨hl,hc,.inl ⟨_,rfl⟩,.inl ⟨_,rfl⟩,rfl⟩,aN.mk (by simp -implicitDefEqProofs only[aB,seval])⟩ ?_
 rintro⟨l,a,b⟩ ⟨hl1,hlc,ha,hb,hinv⟩
 simp only at hl1 hlc ha hb hinv
 obtain⟨a1,a2,a3,a4,a5,la,a6⟩:=ha.facts
 obtain⟨b1,b2,b3',b4',b5,lb,b6⟩:=hb.facts
 simp only
 rw[a0G] at hinv
 by_cases zB:l= []
 · subst zB
   simp only[List.getLast?_nil] at hinv
   simp -implicitDefEqProofs only[aA.aJ,vA,List.contains,List.elem,rY,gN,sub,↓reduceIte,reduceCtorEq,Nat.reduceEqDiff,uE]
   refine aT (fun h=>absurd h (by decide)) (fun h=>?_)
   simp -implicitDefEqProofs only[aP,hne,aA.aJ,hW4,a5,b5,aB,seval,uE]
   rw[←hinv]
   exact⟨st,hDW _ _,rfl,la,lb,[],by simp only[rM,sZ,vV,DE,bR,bQ,a6,b6]⟩
 obtain⟨c,tY⟩:∃c,l.getLast?=some c:=by
  cases h:l.getLast? with
  | none=>exact absurd (List.getLast?_eq_none_iff.1 h) zB
  | some c=>exact⟨c,rfl⟩
 have hlp:=List.length_pos_iff.2 zB
 have hcm:=MS tY
 obtain⟨aV4,hcN,hcr,hc0⟩:=hlc c hcm
 rw[tY] at hinv
 simp only at hinv
 have hat:=bH (av:=fG) (P:=prog) (l:=l) (i:=l.length - 1) (x:=c) wY (by rw[←List.getLast?_eq_getElem?];exact tY) (KU c)
 rw[show(((l.length - 1:Nat):Int))=(l.length:Int) - 1 by omega] at hat
 have hw:=bG (n:=(l.length:Int) - 1)
 have hdl:l.dropLast=l.take (l.length - 1):=List.dropLast_eq_take
 have a58:l.dropLast.length+1=l.length:=by simp;omega
 have hct:=V4 p hp [] [] l.dropLast c aV4 hc0 (by omega) (by omega)
 have hcs:=fun(φ:AF) (d:Nat) (h:φ d=.int .i64 ((l.length:Int) - 1))=>aLN (es:=l.map fG) (k:=l.length - 1) wY (h.trans (by congr 1;omega)) (by simp)
 rw[←D3,←hdl] at hcs
 generalize hx:iD p l.dropLast c.goal c.rest c.σ c.N c.left=x at hinv hct
 obtain⟨⟨ck,cn,cs',cts⟩,WW,WV,cσ,cN⟩:=c
 rw[Q5] at hct hat
 simp only[bQ] at hct
 simp -implicitDefEqProofs only[aE,aA.aJ,aB,seval,uE]
 refine aT (fun h=>?_) (fun h=>absurd hlp (by simpa using h))
 simp -implicitDefEqProofs only[aE,aA.aJ,hw,hat,aB,↓aY,seval,uE]
 cases x with
 | none=>
  have J2:∀st,aD prog 241 [.slice (p.map bK),.agg [.fslice [],.fslice [],.slice (l.dropLast.map fG)],.agg [.int .i64 ck,.int .i64 cn,.str cs',.slice (cts.map Tm.av),.slice (WW.map eG),.slice (WV.map nv),.slice (cP cN cσ)]] st (fun r st'=>r=.tup [.agg [.slice [],.slice [],.slice (l.dropLast.map fG)],.bool false]∧st'=st):=fun st=>
   aD.GU ((hct st).mono fun _ _ h=>⟨h.2,h.1⟩)
  simp only at hinv
  refine wP [(0,1),(1,1),(3,1),(2,2),(4,1),(5,1),(6,2),(7,1),(8,1),(9,1),(10,1),(11,0),(12,0),(13,1)] [0,1,3,2,4,5,6,7,8,9,10,13] mixed ?_
  simp -implicitDefEqProofs only[aA.aJ,hcs,aB,seval,uE]
  refine N7 J2 ?_
  simp -implicitDefEqProofs only[aP,aA.aJ,aB,seval,uE]
  intro b8 h8
  have h83:b8≠b3:=by rintro rfl;rw[aA.aJ] at h8;cases h8
  rw[aA.aF _ _ h83] at h8
  have h84:b8≠b4:=by rintro rfl;rw[hW4] at h8;cases h8
  have hs8:st b8=none:=by rw[←hW,aA.aF _ _ h84] at h8;exact h8
  have h38:=dF h83
  have h48:=dF h84
  simp -implicitDefEqProofs only[aP,h38,aA.aJ,hcs,aB,seval,uE]
  refine⟨(l.dropLast,.fslice [],.fslice []),by simp only;omega,⟨by simp only;omega,fun c h=>hlc c (MQ _ h),.inr rfl,.inr rfl,hinv⟩,aN.drop (fun q=>?_) (by simp -implicitDefEqProofs only[aB,seval])⟩
  by_cases q3:q=b3
  · subst q3;rw[aA.aJ,aA.aJ];simp
  rw[aA.aF _ _ q3,aA.aF _ _ q3]
  by_cases q8:q=b8
  · subst q8;rw[aA.aJ,h8];simp
  rw[aA.aF _ _ q8,aA.aF _ _ q3]
  simp
 | some s=>
  have J2:∀st,aD prog 241 [.slice (p.map bK),.agg [.fslice [],.fslice [],.slice (l.dropLast.map fG)],.agg [.int .i64 ck,.int .i64 cn,.str cs',.slice (cts.map Tm.av),.slice (WW.map eG),.slice (WV.map nv),.slice (cP cN cσ)]] st (fun r st'=>r=.tup [nW s,.bool true]∧st'=st):=fun st=>
   aD.GU ((hct st).mono fun _ _ h=>⟨h.2,h.1⟩)
  simp only at hinv
  simp only[nW] at J2
  refine wP [(0,1),(1,1),(3,1),(2,2),(4,1),(5,1),(6,2),(7,1),(8,1),(9,1),(10,1),(11,0),(12,0),(13,1)] [0,1,3,2,4,5,6,7,8,9,10,13] mixed ?_
  simp -implicitDefEqProofs only[aA.aJ,hcs,aB,seval,uE]
  refine N7 J2 ?_
  simp -implicitDefEqProofs only[aP,aA.aJ,aB,seval,uE]
  intro b8 h8
  have h83:b8≠b3:=by rintro rfl;rw[aA.aJ] at h8;cases h8
  rw[aA.aF _ _ h83] at h8
  have h84:b8≠b4:=by rintro rfl;rw[hW4] at h8;cases h8
  have hs8:st b8=none:=by rw[←hW,aA.aF _ _ h84] at h8;exact h8
  have h38:=dF h83
  have h48:=dF h84
  simp -implicitDefEqProofs only[hne,h48,hW4,aB,seval]
  refine⟨st,?_,rfl,?_⟩
  · have d1:aM W st:=by rw[←hW];exact(aM.refl _).aC PW
    exact((d1.aC h3).aC hs8).aC PW
  · rw[←hinv]
    simp only[rM,sZ,vV,DE,bR,bQ]
    rfl
theorem a1O{φ:AF}{t:TypeId}{ag:Bool}{w:Nat}{y:Operand}{e:AV}{es:List AV}(hI:eI prog t=some (ag,w))(h:φ.eval y=.int .i64 1)(hw:∀x∈es,x.width=w):fD prog φ t (.slice (e::es)) (some y) none none=some (.slice es):=by
 have hwo:uH (e::es) 1 w=true:=by
  unfold uH
  rw[A4]
  split
  · rename_i x hx
    simp [hw x (cG hx)]
  · rfl
 unfold fD
 rw[aG (by simp [nT])]
 simp only[mF,hI]
 rw[aG (by simp)]
 simp only[dB,h]
 rw[aH (by constructor<;>simp<;>omega)]
 simp [hwo]
abbrev a6N:=zi tI_3 (zi zI_3 a7)
theorem aR9(c:Int)(st:aA):aD prog 271 [.int .i64 c] st (fun r st'=>r=.int .i64 (oK c)∧st'=st):=by
 refine aD.done ?_
 refine wF [1000000] 1 func271 ntmps271 rfl rfl ?_
 intro _
 simp -implicitDefEqProofs only[aB,seval]
 unfold oK
 refine aT (fun h=>?_) (fun h=>?_)
 · simp -implicitDefEqProofs only[aB,seval]
   have h':c=2:=by simpa using h
   exact⟨by rw[aH h'];try rfl,aM.refl _⟩
 rw[aG (show ¬c=2 by simpa using h)]
 simp -implicitDefEqProofs only[aB,seval]
 refine aT (fun h=>?_) (fun h=>?_)
 · simp -implicitDefEqProofs only[aB,seval]
   have h':c=3:=by simpa using h
   exact⟨by rw[aH h'];try rfl,aM.refl _⟩
 rw[aG (show ¬c=3 by simpa using h)]
 simp -implicitDefEqProofs only[aB,seval]
 refine aT (fun h=>?_) (fun h=>?_)
 · simp -implicitDefEqProofs only[aB,seval]
   have h':c=4:=by simpa using h
   exact⟨by rw[aH h'];try rfl,aM.refl _⟩
 rw[aG (show ¬c=4 by simpa using h)]
 simp -implicitDefEqProofs only[aB,seval]
 exact⟨rfl,aM.refl _⟩
def tG(s0:RS)(x:RO)(r:AV):Prop:=match x with
 | .go s=>r=.tup [nW s,.int .i64 (-1)]
 | .fail=>r=.tup [nW s0,.int .i64 (-2)]
 | .stop e=>0≤e∧∃l1 l2 l3,r=.tup [.agg [.slice l1,.slice l2,.slice l3],.int .i64 e]
abbrev mQ:=zi tI_2 (zi zI_2 (zi MC (zi tI_3 (zi zI_3 (zi a7 (zi tI_4 (zi zI_4 (zi cL (zi tI_9 (zi zI_9 (zi d9 (zi tI_29 (zi zI_29 (zi eP (zi gO (zi gP (zi gV (zi tI_31 (zi zI_31 (zi aR (zi bO (zi bP (zi cF (zi tI_46 (zi zI_46 (zi cW (zi eJ (zi eF (zi eY (zi tI_66 (zi zI_66 (zi b9 (zi cA (zi cB (zi cC (zi bZ (zi tI_163 (zi zI_163 (zi u9 (zi yU (zi yW (zi HB (zi tI_164 (zi zI_164 (zi wY (zi E2 (zi E3 (zi SX (zi tI_166 (zi zI_166 (zi E4 (zi E5 (zi E6 (zi EO (zi tI_254 (zi zI_254 (zi OH (zi OI (zi OJ (zi OK (zi NO (zi tI_286 (zi zI_286 (zi aG7 (zi aG8 US)))))))))))))))))))))))))))))))))))))))))))))))))))))))))))))))))
theorem aSD{p:List Cl}(hp:∀c∈p,fQ c∧c.2.length≤6)(hpl:p.length≤1048576){B:Nat}(hB:B+26≤524288)(goals:List RG)(σ:Sub)(N:Nat)(chs:List RC)(g:RG)(rest:List RG)(hgs:goals=g::rest)(h:pJ p B ⟨goals,σ,N,chs⟩)(hK:yK ⟨goals,σ,N,chs⟩)(st:aA) :
 aD prog 208 [.slice (p.map bK),.agg [.slice (goals.map eG),.slice (cP N σ),.slice (chs.map fG)]] st (fun r st'=>st'=st∧tG ⟨goals,σ,N,chs⟩ (iC p (fun _ l=>l) ⟨goals,σ,N,chs⟩ g rest) r):=by
 subst hgs
 obtain⟨hg,ho,hd,hgo,h0,hN,hgl,hcl,hch⟩:=h
 simp only at hg ho hd hgo h0 hN hgl hcl hch
 obtain⟨hgx,hg3⟩:=hgo g (by simp)
 have CN:∀x∈rest,bD N x.t∧x.t.k=3:=fun x hx=>hgo x (by simp [hx])
 have hkp:=hK.goals.2 g (by simp)
 simp only at hkp
 have hsm:=V3 hg ho g.t hgx
 have hyk:(g.t.aK (rs σ)).k=3:=by rw[Tm.rJ _ (by omega)];exact hg3
 have hfo:=JP hg ho hgx
 generalize hR:iC p (fun _ l=>l) ⟨g::rest,σ,N,chs⟩ g rest=R
 unfold iC at hR
 dsimp only at hR
 obtain⟨⟨gk,gn,gs',gts⟩,aU⟩:=g
 simp only at hgx hg3 hkp hsm hyk hfo
 dsimp only at hR
 generalize (Tm.mk gk gn gs' gts).aK (rs σ)=y at *
 obtain⟨yk,yn,ys,yts⟩:=y
 obtain rfl:yk=3:=hyk
 have hat:dM prog 163 (.slice ((⟨.mk gk gn gs' gts,aU⟩::rest).map eG)) (.int .i64 0)=some (.pptr (eG ⟨.mk gk gn gs' gts,aU⟩)):=bH (av:=eG) (l:=⟨.mk gk gn gs' gts,aU⟩::rest) (i:=0) u9 rfl (DB _)
 have hs1:=fun(φ:AF) (y:Operand) (h:φ.eval y=.int .i64 1)=>a1O (e:=eG ⟨.mk gk gn gs' gts,aU⟩) (es:=rest.map eG) u9 h (by intro e he;simp only[bY] at he;obtain⟨t,_,rfl⟩:=he;exact DB t)
 rw[bR,zY] at hat
 rw[zY] at hs1
 rw[bR,zY]
 simp only[bA] at hsm
 refine aD.fin (aD.oJ ?_)
 refine wF [1000000] 2 func208 ntmps208 rfl rfl ?_
 intro _
 simp -implicitDefEqProofs only[a8,hat,hs1,aB,↓aY,seval,mQ]
 intro b4 h4
 refine(hsm _).mono ?_
 rintro _ _ ⟨rfl,x,rfl,hx⟩
 generalize eL:eK (.mk 3 yn ys yts)=fit at *
 have yY:∀(o:AO) (r:AV) (x:RO),tG ⟨⟨.mk gk gn gs' gts,aU⟩::rest,σ,N,chs⟩ x (r.fin 0 [])→∃s2,aM (st.aC b4 o) s2∧∃b l s0,s2=bV s0 b l∧(l≠[]→s0 b=none)∧(∀e∈l,e.cD=false)∧jG l∧s0=st∧tG ⟨⟨.mk gk gn gs' gts,aU⟩::rest,σ,N,chs⟩ x (r.fin b l):=fun o r x hr=>
  ⟨st,(aM.refl _).aC h4,0,[],st,rfl,by simp,by simp,⟨0,by simp⟩,rfl,hr⟩
 simp -implicitDefEqProofs only[a8,aO,Tm.d5,Tm.eN,aB,↓aY,seval,mQ]
 refine aT (fun h=>?_) (fun h=>?_)
 · have h':fit=false:=by simpa using h
   subst h'
   rw[aH rfl] at hR
   subst hR
   simp -implicitDefEqProofs only[aP,a8,aB,seval,mQ]
   exact yY _ _ _ ⟨by decide,_,_,_,by simp only[iK,mH,f7,iL,bR,bQ];rfl⟩
 obtain rfl:fit=true:=by simpa using h
 obtain rfl:=hx rfl
 simp only[bA]
 have hyo:=hfo rfl
 rw[aG (by simp)] at hR
 have FT:∀st,aD prog 269 [.agg [.int .i64 3,.int .i64 yn,.str ys,.slice (yts.map Tm.av)]] st (fun r st'=>r=.bool (q9 (.mk 3 yn ys yts))∧st'=st):=fun st=>by
  have:=VV 3 yn ys yts st
  rw[bA] at this
  exact this
 have hbi:=fun st=>N1 ys (yts.length:Int) st
 have aIQ:=fun st=>aRZ p (.mk 3 yn ys yts) hpl st
 have aI8:=fun hb=>aP1 (N:=N) h0 (by omega) hg ho yn ys yts hb (p9 N (.mk 3 yn ys yts) (by show(3:Int)≠1;decide) hyo)
 have htr:=V4 p hp
 simp only[bA] at aIQ aI8
 replace hR:(if q9 (.mk 3 yn ys yts)=true then RO.go ⟨rest,σ,N,chs.take aU⟩ else if isBuiltin ys (yts.length:Int)=true then(if(cZ σ ys yts).1=0 then RO.go ⟨rest,(cZ σ ys yts).2.1,N,chs⟩ else if(cZ σ ys yts).1=1 then RO.fail else RO.stop (oK (cZ σ ys yts).1)) else if d6 p (.mk 3 yn ys yts)= [] then RO.stop 8 else match iD p chs (.mk 3 yn ys yts) rest σ N (d6 p (.mk 3 yn ys yts)) with | some s'=>RO.go s' | none=>RO.fail)=R:=hR
 generalize hcu:q9 (.mk 3 yn ys yts)=cu at *
 have hs2:=fun(φ:AF) (d:Nat) (h:φ d=.int .i64 (aU:Int))=>aLN (es:=chs.map fG) (k:=aU) wY h (by simpa using hkp)
 rw[←D3] at hs2
 refine(FT _).to ?_
 simp -implicitDefEqProofs only[aB,seval]
 refine aT (fun h=>?_) (fun h=>?_)
 · rw[aH h] at hR
   subst h hR
   simp -implicitDefEqProofs only[aB,seval]
   refine wP [(0,1),(1,1),(3,1),(5,1),(2,2),(4,2),(6,2),(7,1),(8,1),(9,0),(10,1)] [0,1,3,5,2,4,6,7,8,10] mixed ?_
   simp -implicitDefEqProofs only[aP,a8,hs2,aB,seval,mQ]
   exact yY _ _ _ (by simp only[iK,mH,f7,iL,bR,bQ];rfl)
 rw[aG (by rw[h];simp)] at hR
 subst h
 simp -implicitDefEqProofs only[aE,aB,seval,mQ]
 refine(hbi _).to ?_
 simp -implicitDefEqProofs only[aB,seval]
 refine aT (fun h=>?_) (fun h=>?_)
 · have xG:=aI8 h
   rw[aH h] at hR
   simp -implicitDefEqProofs only[aB,seval,mQ]
   refine NI h0 (by omega) σ fun b hb hA0=>?_
   have hst:=aM.aC (aM.refl st) (o:=.cells [.fslice [],.fslice [],.fslice []]) h4
   generalize hW:st.aC b4 (.cells [.fslice [],.fslice [],.fslice []])=W at *
   have hW4:W b4=some (.cells [.fslice [],.fslice [],.fslice []]):=by rw[←hW];exact aA.aJ _ _ _
   have hT:aM (W.aC b (.cells ((cP N σ).flatMap AV.cells))) W:=(aM.refl _).aC hb
   generalize W.aC b (.cells ((cP N σ).flatMap AV.cells))=T at *
   have hb4:b≠b4:=by rintro rfl;rw[hW4] at hb;cases hb
   simp -implicitDefEqProofs only[a8,aB,seval,mQ]
   refine(xG b _ hA0).mono ?_
   rintro _ s2 ⟨rfl,hA,hk2⟩
   have aV3:=a1V σ ys yts
   generalize cZ σ ys yts=S at *
   obtain⟨c,σ',tr⟩:=S
   simp only at hA aV3 ⊢
   dsimp only at hR
   have hDs:aM s2 W:=by
    intro q
    have key:∀o,W q=some o→s2 q=some o:=fun o h=>hk2 q o ((hT q).2 o h) (by rintro rfl;rw[hb] at h;cases h)
    refine⟨fun h=>?_,key⟩
    cases hq:W q with
    | none=>rfl
    | some o=>rw[key o hq] at h;cases h
   have PV:=(hDs b4).2 _ hW4
   have aXN:st b=none:=by rw[←hW,aA.aF _ _ hb4] at hb;exact hb
   have aHN:∀(o:AO) (r:AV) (x:RO),tG ⟨⟨.mk gk gn gs' gts,aU⟩::rest,σ,N,chs⟩ x (r.fin 0 [])→∃s3,aM (s2.aC b4 o) s3∧∃b l s0,s3=bV s0 b l∧(l≠[]→s0 b=none)∧(∀e∈l,e.cD=false)∧jG l∧s0=st∧tG ⟨⟨.mk gk gn gs' gts,aU⟩::rest,σ,N,chs⟩ x (r.fin b l):=fun o r x hr=>
    ⟨st,(hDs.trans hst).aC h4,0,[],st,rfl,by simp,by simp,⟨0,by simp⟩,rfl,hr⟩
   simp -implicitDefEqProofs only[aB,seval]
   refine aT (fun h=>?_) (fun h=>?_)
   · have hc0:c=0:=by simpa using h
     subst hc0
     rw[aH rfl] at hR
     subst hR
     simp -implicitDefEqProofs only[aP,a8,PV,aB,seval,mQ]
     have nP:cP N σ'≠[]:=by intro e;have:=tJ N σ';rw[e] at this;simp at this;omega
     refine⟨st.aC b (.cells ((cP N σ').flatMap AV.cells)),fun q=>?_,b,cP N σ',st,by rw[j4 nP],fun _=>aXN,EM _ _,⟨4,BQ _ _⟩,rfl,?_⟩
     · by_cases q4:q=b4
       · subst q4;rw[aA.aJ,aA.aF _ _ (dF hb4),h4];simp
       rw[aA.aF _ _ q4]
       by_cases qb:q=b
       · subst qb;rw[aA.aJ,show s2 q=_ from hA];simp
       rw[aA.aF _ _ qb]
       exact(hDs.trans hst) q
     · simp only[iK,mH,f7,iL,bR,bQ,JM h0]
       rfl
   have hc0:c≠0:=by simpa using h
   rw[aG hc0] at hR
   simp -implicitDefEqProofs only[aB,seval]
   refine aT (fun h=>?_) (fun h=>?_)
   · have hc1:c=1:=by simpa using h
     subst hc1
     rw[aH rfl] at hR
     subst hR
     simp -implicitDefEqProofs only[aP,a8,PV,aB,seval,mQ]
     exact aHN _ _ _ (by simp only[tG,nW,bR,zY];simp only[iK,mH,f7,iL,bR,bQ])
   have hc1:c≠1:=by simpa using h
   rw[aG hc1] at hR
   subst hR
   have tW:0≤oK c:=by unfold oK;split;omega;split;omega;split;omega;omega
   simp -implicitDefEqProofs only[aB,seval]
   refine wP [(1,1),(0,2),(2,2),(3,0),(4,1)] [1,0,2,4] mixed ?_
   simp -implicitDefEqProofs only[a8,aB,seval,mQ]
   refine kC (aR9 c _) ?_
   simp -implicitDefEqProofs only[aP,a8,PV,aB,seval,mQ]
   exact aHN _ _ _ ⟨tW,_,_,_,by simp only[iK,mH,f7,iL,bR,bQ];rfl⟩
 rw[aG (by rw[h];simp)] at hR
 simp -implicitDefEqProofs only[a8,aB,seval,mQ]
 refine(aIQ _).to ?_
 have hcx:wI p ⟨.mk 3 yn ys yts,rest,d6 p (.mk 3 yn ys yts),σ,N⟩:=⟨hg,ho,hd,hyo,CN,fun i hi=>by
  unfold d6 at hi
  exact uL.1 (List.mem_filter.1 hi).1,by simp only;simp only[a8] at hgl;omega,by
  have:=JS p (.mk 3 yn ys yts) p.length
  rw[←JR] at this
  simp only;omega⟩
 have CO:=fun st=>htr (⟨.mk gk gn gs' gts,aU⟩::rest) (cP N σ) chs _ hcx h0 (by simp only;omega) (by omega) st
 rw[bR,zY,Q5] at CO
 simp only at CO
 generalize d6 p (.mk 3 yn ys yts)=left at *
 simp -implicitDefEqProofs only[aE,aB,seval,mQ]
 refine aT (fun h=>?_) (fun h=>?_)
 · have h':left= []:=by
    have:(left.length:Int)=0:=by simpa using h
    exact nG (by omega)
   rw[aH h'] at hR
   subst hR
   simp -implicitDefEqProofs only[aP,a8,aB,seval,mQ]
   exact yY _ _ _ ⟨by decide,_,_,_,by simp only[iK,mH,f7,iL,bR,bQ];rfl⟩
 have h':left≠[]:=by
  rintro rfl
  simp at h
 rw[aG h'] at hR
 generalize iD p chs (.mk 3 yn ys yts) rest σ N left=x at *
 simp -implicitDefEqProofs only[a8,aB,seval,mQ]
 cases x with
 | none=>
  simp only at hR CO
  subst hR
  refine(CO _).mono ?_
  rintro _ _ ⟨rfl,rfl⟩
  simp -implicitDefEqProofs only[aP,a8,aB,↓aY,seval,mQ]
  exact yY _ _ _ (by simp only[tG,nW,bR,zY];simp only[iK,mH,f7,iL,bR,bQ])
 | some s=>
  simp only[nW] at hR CO
  subst hR
  refine(CO _).mono ?_
  rintro _ _ ⟨rfl,rfl⟩
  simp -implicitDefEqProofs only[aP,a8,aB,↓aY,seval,mQ]
  exact yY _ _ _ (by simp only[iK,mH,f7,iL,bR,bQ];rfl)
theorem a1G{N:Int}{t:Tm}(h:cH N t):c8 0 t=t:=by
 have h1:c8 0 t=t.aK vr:=by
  unfold c8 bT
  congr 1
  funext v
  congr 1
  simp
 rw[h1,P9 t h.2.1]
theorem UP(N:Nat):cP N Sub.none=List.replicate N zt:=by
 apply A3
 intro i
 by_cases h:i<N
 · rw[yP N _ h,List.getElem?_replicate,aH h];try rfl
 · rw[A6 (by rw[tJ];omega),A6 (by simp;omega)]
abbrev SB:=zi tI_3 (zi zI_3 (zi a7 (zi tI_31 (zi zI_31 (zi aR (zi bO (zi bP (zi cF (zi tI_163 (zi zI_163 (zi u9 (zi yU (zi yW (zi HB (zi tI_166 (zi zI_166 (zi E4 (zi E5 (zi E6 EO)))))))))))))))))))
theorem aSC(q:List Tm)(hq:∀t∈q,bD 26 t)(h6:q.length≤6)(st:aA):aD prog 158 [.slice (q.map Tm.av)] st (fun r st'=>r=nW (lR q)∧st'=st):=by
 have hgo:∀st,aD prog 237 [.slice (q.map Tm.av),.int .i64 0,.int .i64 0,.fslice []] st (fun r st'=>r=.slice ((lR q).goals.map eG)∧st'=st):=fun st=>
  aD.GU ((V0 q 0 0 [] hq h6 (by omega) (by simp) st).mono fun _ _ h=>⟨by
   rw[h.1]
   unfold lR
   rw[fA]
   congr 2
   exact qM fun t ht=>by rw[a1G (hq t ht).1],h.2⟩)
 refine aD.pQ (aD.fin (aD.oJ ?_))
 refine wF [1000000,3] 1 func158 ntmps158 rfl rfl ?_
 intro _
 simp -implicitDefEqProofs only[aB,seval,SB]
 intro b2 h2
 simp -implicitDefEqProofs only[sC,aP,vA,↓I9,↓HK,List.contains,List.elem,x6,pD,qK,↓reduceIte,reduceCtorEq,Nat.reduceEqDiff,Nat.reduceAdd,Nat.reduceLT,Nat.reduceBEq,SB]
 refine⟨by omega,by omega,by omega,fun bb hbb=>?_⟩
 rw[show Int.toNat 26=26 from rfl,F9 _ (by simp)]
 have hb2:bb≠b2:=by rintro rfl;rw[aA.aJ] at hbb;cases hbb
 have J1:(List.replicate 26 [AV.int .i64 0,.int .i64 0,.str ⟨#[]⟩,.fslice []]).flatten=(cP 26 Sub.none).flatMap AV.cells:=by
  rw[UP];try rfl
 rw[J1]
 have h22:(st.aC b2 (AO.cells [AV.fslice [],AV.fslice [],AV.fslice []])) b2=some (AO.cells [AV.fslice [],AV.fslice [],AV.fslice []]):=aA.aJ _ _ _
 have hD2:aM (st.aC b2 (AO.cells [AV.fslice [],AV.fslice [],AV.fslice []])) st:=(aM.refl _).aC h2
 intro b3 h3
 have h3b:b3≠bb:=by rintro rfl;rw[aA.aJ] at h3;cases h3
 rw[aA.aF _ _ h3b] at h3
 have h32:b3≠b2:=by rintro rfl;rw[aA.aJ] at h3;cases h3
 have hs3:st b3=none:=by rw[aA.aF _ _ h32] at h3;exact h3
 have hsb:st bb=none:=by rw[aA.aF _ _ hb2] at hbb;exact hbb
 refine(hgo _).to ?_
 have e1:=dF h3b
 have e2:=dF h32
 have e3:=dF hb2
 simp -implicitDefEqProofs only[aP,e2,e3,aA.aJ,aB,seval,SB]
 have nP:cP 26 Sub.none≠[]:=by rw[UP];simp
 refine⟨st.aC bb (.cells ((cP 26 Sub.none).flatMap AV.cells)),fun q'=>?_,bb,cP 26 Sub.none,st,by rw[j4 nP],fun _=>hsb,EM _ _,⟨4,BQ _ _⟩,?_,aM.refl _⟩
 · by_cases q2:q'=b2
   · subst q2;rw[aA.aJ,aA.aF _ _ e3,h2];simp
   rw[aA.aF _ _ q2]
   by_cases q3:q'=b3
   · subst q3;rw[aA.aJ,aA.aF _ _ h3b,hs3];simp
   simp only[aA.aF _ _ q3]
   by_cases qb:q'=bb
   · subst qb;rw[aA.aJ,aA.aJ];simp
   rw[aA.aF _ _ qb,aA.aF _ _ qb,aA.aF _ _ q2]
   simp
 · simp only[iK,iL,pR,bR,bQ,JM (show 0<26 by omega)]
   rfl
end Go.AW
