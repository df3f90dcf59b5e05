import Derived.Test.YtimfffmcljmfgaaGreatDoorUxy
import Derived.Test.YtimfffmcljmfgaaGreatDoorUxi
import Derived.Test.YtimfffmcljmfgaaGreatDoorUxh
import Derived.Test.YtimfffmcljmfgaaGreatDoorUxr
import Derived.Test.YtimfffmcljmfgaaGreatDoorUxs
import Derived.Test.YtimfffmcljmfgaaGreatDoorUxz
set_option linter.unusedSimpArgs false
set_option linter.unusedVariables false
set_option maxRecDepth 100000
namespace Go.AW
open Go.Proofs.Tryz
section
variable {H:Type} {enc:TypeId×Value→H} {w:World}
theorem a0Q:prog.cellsOf 5=1:=by kernel_rfl
theorem a8H(n:Nat):Reads enc prog w 5 n iZ:=by
 intro cs x h
 obtain⟨k,rfl,_,hw⟩:=DataW.trod_int m6 h
 simp only[Lit.wf,IntKind.min,IntKind.max,IntKind.signed,IntKind.bits,cF,bK] at hw
 refine⟨⟨k.toNat,?_⟩,?_⟩
 · simp at hw;omega
 · have:(((k.toNat:Nat)):Int)=k:=by simp at hw;omega
   simp only[iZ,this,VC]
theorem WR(n:Nat):Reads enc prog w 40 n (fun l:List Bt=>.slice (l.map iZ)):=
 a8I zH a0Q (by omega) MK fun m _=>a8H m
end
section
variable {H:Type} {enc:TypeId×Value→H} {w:World}
theorem YM{r:Reach}{b0:Nat}{t e:TypeId}{v:Value}(ht:prog.underlying t=some (.slice e))(h:Value.okWide prog w r b0 t v):kI v=false:=by
 cases v<;>first | rfl | (simp [Value.okWide,ht,Cell.okWide,Cell.ok] at h)
end
theorem VR(i:Nat):∀(W:List Nat) (A:List (List Tm)),W.length=A.length→(jK i W A).length=W.count i
 | [],_,_=>by simp [jK]
 | w::W,[],h=>by simp at h
 | w::W,a::A,h=>by
  have:=VR i W A (by simpa using h)
  simp only[jK]
  by_cases e:w=i
  · subst e
    rw[aH rfl,List.count_cons_self,aX,this]
  · rw[aE e,List.count_cons_of_ne e,this]
theorem a8S{L:List Ss}{n m:Int}(hn:1≤n)(hm:1≤m):(fY L n).2.2=(fY L m).2.2∧∀i,i<L.length→(fY L n).1.count i=(fY L m).1.count i:=by
 have he:mU L n=mU L m:=by unfold mU;rw[fQ hn,fQ hm]
 unfold fY
 by_cases h:mU L n=true
 case neg=>
  rw[aE h,aE (by rw[←he];exact h)]
  exact⟨rfl,fun _ _=>rfl⟩
 have h':mU L m=true:=he▸h
 rw[aH h,aH h']
 obtain⟨a1,a2,a3,a4⟩:=O1 h
 obtain⟨b1,b2,b3,b4⟩:=O1 h'
 refine⟨a3.trans b3.symm,fun i hi=>?_⟩
 obtain⟨s,hs⟩:∃s,L[i]?=some s:=⟨_,eA hi⟩
 simp only
 rw[←VR i _ _ a1.wl,←VR i _ _ b1.wl,a4 i s hs,b4 i s hs]
theorem aC0{i k w:Nat}{W:List Nat}(h:W[k]?=some w):(W.take (k+1)).count i=(W.take k).count i+(if w=i then 1 else 0):=by
 rw[eD,h,List.count_append]
 congr 1
 by_cases e:w=i
 · subst e;rw[aH rfl];simp
 · rw[aE e];simp [e]
theorem aCZ(i k:Nat)(W:List Nat):(W.take k).count i≤W.length:=mK List.count_le_length (by rw[dE];omega)
abbrev zE:=zi tI_3 (zi zI_3 (zi aY (zi tI_4 (zi zI_4 (zi cJ (zi tI_26 (zi zI_26 (zi fZ (zi jF (zi jG (zi mZ (zi tI_40 (zi zI_40 (zi tD (zi AL (zi AP (zi zH (zi tI_46 (zi zI_46 (zi cZ (zi eG (zi eE (zi eT (zi tI_49 (zi zI_49 (zi lD (zi qQ (zi qS vQ))))))))))))))))))))))))))))
set_option maxHeartbeats 4000000 in
theorem aXK(code more:List Bt)(st:aA):aD prog 7 [.slice (code.map iZ),.slice (more.map iZ)] st (fun r _=>r=.bool true):=by
 refine wF [1000000] 2 func7 ntmps7 rfl rfl ?_
 simp only[eW,AV.fits,fC,aF]
 intro ⟨_,hml,_⟩
 simp -implicitDefEqProofs only[aF,aB,seval,zE]
 refine cX (fun h0=>?_) (fun h0=>?_)
 case refine_2=>
  simp -implicitDefEqProofs only[h0,aB,seval]
 simp -implicitDefEqProofs only[h0,aF,aB,seval,zE]
 refine aP (fun h1=>?_) (fun h1=>?_)
 · simp -implicitDefEqProofs only[aB,seval]
 simp -implicitDefEqProofs only[aB,seval]
 refine(aA2 code _).mono ?_
 rintro _ s1 ⟨⟨L,n,hL,hds,rfl⟩,rfl⟩
 obtain⟨m,hm⟩:∃m,m=more.length % 9:=⟨_,rfl⟩
 have hm9:m<9:=by omega
 have hr:((more.length:Int)).tmod 9=(m:Int):=by rw[hm,show(9:Int)=((9:Nat):Int) from rfl,PV]
 have hwm:=bE (n:=1+(m:Int))
 have hsm:∀s∈L,PC s:=fun s hs=>(hds s hs).small
 have hsp:=aCG L n (by omega) hsm
 have him:=fun st=>SD L n (by omega) st
 have N3:=fun st=>SD L (1+(m:Int)) (by omega) st
 have hok:=O0 L n
 have aPO:=O0 L (1+(m:Int))
 have aPV:=fun h=>a8S (L:=L) (n:=n) (m:=1+(m:Int)) h (by omega)
 generalize fY L (1+(m:Int))=V2 at *
 generalize fY L n=V at *
 obtain⟨W,A,E⟩:=V
 obtain⟨W2,A2,E2⟩:=V2
 simp only at hsp him hok aPV N3 aPO
 obtain⟨ok1,ok2,ok3,ok4⟩:=hok
 obtain⟨pk1,pk2,pk3,pk4⟩:=aPO
 unfold HW at him N3
 have hpw:∀st,aD prog 41 [.slice (W.map nv),.slice (W.map nv)] st (fun r st'=>r=.bool true∧st'=st):=fun st=>by rw[aQ1];exact MU _ st
 have hpe:=MU E
 have hpa:=SO A
 have C5:=fun st=>(him st).KB
 have a38:=fun st=>(N3 st).KB
 clear him N3
 simp -implicitDefEqProofs only[aB,seval]
 refine(C5 _).to ?_
 simp -implicitDefEqProofs only[aB,seval]
 refine(hsp _).to ?_
 simp -implicitDefEqProofs only[aB,seval]
 refine(hpw _).to ?_
 simp -implicitDefEqProofs only[kP,aB,seval]
 refine(hpa _).to ?_
 simp -implicitDefEqProofs only[kP,aB,seval]
 refine(hpe _).to ?_
 simp -implicitDefEqProofs only[kP,aB,seval]
 refine aP (fun hne=>?_) (fun hne=>?_)
 · simp -implicitDefEqProofs only[aB,seval]
   refine(hpw _).to ?_
   simp -implicitDefEqProofs only[aB,seval]
   refine(hpa _).to ?_
   simp -implicitDefEqProofs only[aB,seval]
   refine(hpe _).to ?_
   simp -implicitDefEqProofs only[aB,seval]
 obtain⟨e1,e2⟩:=aPV (by simp only[dJ] at hne;omega)
 subst e1
 simp -implicitDefEqProofs only[aF,hr,hwm,aB,seval,zE]
 refine(a38 _).to ?_
 simp -implicitDefEqProofs only[aB,seval]
 refine d8 (σ:=Unit) [1000000] [5,7,9,13,15] L (fun _ _=>True) (fun i _=>[(4,.bool false),(16,.int .i64 i)]) (fun _ _=>s1) (by decide +kernel) ⟨(),trivial,aM.mk (by simp -implicitDefEqProofs only[aB,↓aU,seval])⟩ (fun i s _ hx hlt bL a3W _=>?_) (fun _ hge _=>?_)
 case refine_2=>
  simp -implicitDefEqProofs only[hge,aF,aB,seval,zE]
  refine(hpe _).to ?_
  simp -implicitDefEqProofs only[aB,seval]
 have aO7:=e2 i hlt
 simp -implicitDefEqProofs only[bL,aF,aB,seval,zE]
 refine d8 (σ:=Unit) [1000000] [4,5,7,9,13,15,16,18,91,92,93,94] W (fun _ _=>True) (fun k _=>[(17,.int .i64 ((W.take k).count i:Nat)),(19,.int .i64 k)]) (fun _ _=>s1) (by decide +kernel) ⟨(),trivial,aM.mk (by simp -implicitDefEqProofs only[jR,List.count_nil,aB,↓aU,seval])⟩ (fun k w _ hw hkl JW aPA _=>?_) (fun _ hge _=>?_)
 case refine_1=>
  have JR:dG prog 46 (.slice ((W).map nv)) (.int .i64 (k:Int))=some (.pptr (.int .i64 (w:Int))):=bP (av:=nv) cZ hw rfl
  have hnx:=aC0 (i:=i) hw
  have hle:=aCZ i k W
  have hw1:=bE (n:=(k:Int)+1)
  have hw2:=bE (n:=((((W).take k).count i:Nat):Int)+1)
  simp -implicitDefEqProofs only[JW,aF,JR,aB,seval,zE]
  refine aP (fun hwi=>?_) (fun hwi=>?_)
  · have uZ:w=i:=by simp only[bK] at hwi;omega
    rw[aH uZ] at hnx
    simp -implicitDefEqProofs only[hw1,hw2,aB,seval]
    exact⟨(),aM.mk (by simp -implicitDefEqProofs only[hnx,aB,seval])⟩
  have uZ:w≠i:=by simp only[dJ] at hwi;omega
  rw[aE uZ] at hnx
  have hnx:((W).take (k+1)).count i=((W).take k).count i:=hnx
  simp -implicitDefEqProofs only[hw1,aB,seval]
  exact⟨(),aM.mk (by simp -implicitDefEqProofs only[hnx,aB,seval])⟩
 simp -implicitDefEqProofs only[hge,dZ,aF,aB,seval,zE]
 refine d8 (σ:=Unit) [1000000] [4,5,7,9,13,15,16,17,19,91,92,93,94,97,98,99,100,101,102,103,104,105,106,107,108,109,110] W2 (fun _ _=>True) (fun k _=>[(18,.int .i64 ((W2.take k).count i:Nat)),(20,.int .i64 k)]) (fun _ _=>s1) (by decide +kernel) ⟨(),trivial,aM.mk (by simp -implicitDefEqProofs only[jR,List.count_nil,aB,↓aU,seval])⟩ (fun k w _ hw hkl JW aPA _=>?_) (fun _ hge _=>?_)
 case refine_1=>
  have JR:dG prog 46 (.slice ((W2).map nv)) (.int .i64 (k:Int))=some (.pptr (.int .i64 (w:Int))):=bP (av:=nv) cZ hw rfl
  have hnx:=aC0 (i:=i) hw
  have hle:=aCZ i k W2
  have hw1:=bE (n:=(k:Int)+1)
  have hw2:=bE (n:=((((W2).take k).count i:Nat):Int)+1)
  simp -implicitDefEqProofs only[JW,aF,JR,aB,seval,zE]
  refine aP (fun hwi=>?_) (fun hwi=>?_)
  · have uZ:w=i:=by simp only[bK] at hwi;omega
    rw[aH uZ] at hnx
    simp -implicitDefEqProofs only[hw1,hw2,aB,seval]
    exact⟨(),aM.mk (by simp -implicitDefEqProofs only[hnx,aB,seval])⟩
  have uZ:w≠i:=by simp only[dJ] at hwi;omega
  rw[aE uZ] at hnx
  have hnx:((W2).take (k+1)).count i=((W2).take k).count i:=hnx
  simp -implicitDefEqProofs only[hw1,aB,seval]
  exact⟨(),aM.mk (by simp -implicitDefEqProofs only[hnx,aB,seval])⟩
 simp -implicitDefEqProofs only[hge,dZ,aF,aB,seval,zE]
 have hw1:=bE (n:=(i:Int)+1)
 simp -implicitDefEqProofs only[aO7,bV,kP,hw1,aB,seval]
 exact⟨(),aM.mk (by simp -implicitDefEqProofs only[aB,seval])⟩
end Go.AW
