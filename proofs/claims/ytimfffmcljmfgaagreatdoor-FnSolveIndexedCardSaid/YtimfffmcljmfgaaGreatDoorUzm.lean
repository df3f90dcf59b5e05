import Derived.Test.YtimfffmcljmfgaaGreatDoorUzk
import Derived.Test.YtimfffmcljmfgaaGreatDoorUzl
import Derived.Test.YtimfffmcljmfgaaGreatDoorUzf
import Derived.Test.YtimfffmcljmfgaaGreatDoorUzj
set_option linter.unusedSimpArgs false
set_option linter.unusedVariables false
set_option maxRecDepth 100000
namespace Go.AW
open Go.Proofs.Tryz
abbrev bBO:=zi tI_3 (zi zI_3 (zi aZ (zi tI_4 (zi zI_4 cG))))
theorem pY(b:Bool)(st:aB):aD prog 359 [.bool b] st (fun r st'=>r=.int .i64 (jA b)∧st'=st):=by
 refine wF [1000000] 1 func359 ntmps359 rfl rfl ?_
 intro _
 simp -implicitDefEqProofs only[aA,seval]
 cases b
 · simp -implicitDefEqProofs only[jA,aA,seval]
 · simp -implicitDefEqProofs only[jA,aA,seval]
abbrev a7M:=zi tI_2 (zi zI_2 (zi KA (zi tI_3 (zi zI_3 (zi aZ (zi tI_66 (zi zI_66 (zi bS (zi bT (zi bU (zi bV bR)))))))))))
theorem aX9(n:Int)(st:aB):aD prog 297 [.int .i64 n] st (fun r st'=>r=(oP n).av∧st'=st):=by
 refine aD.done ?_
 refine wF [1000000] 1 func297 ntmps297 rfl rfl ?_
 intro _
 simp -implicitDefEqProofs only[aG,aA,seval,a7M]
 intro b hb
 unfold oP
 exact⟨by simp only[aY,eG,d7,mR,nX,aW,aU,aU],(aL.refl _).aC hb⟩
abbrev V8:=zi tI_3 (zi zI_3 (zi aZ (zi tI_4 (zi zI_4 (zi cG (zi tI_9 (zi zI_9 (zi cF (zi tI_31 (zi zI_31 (zi aO (zi bH (zi bJ (zi bZ (zi tI_66 (zi zI_66 (zi bS (zi bT (zi bU (zi bV (zi bR (zi tI_147 (zi zI_147 (zi jO (zi nC (zi nE n8))))))))))))))))))))))))))
theorem aVY(k n:Int)(s:ByteArray)(ts:List Tm)(st:aB):aD prog 357 [(Tm.mk k n s ts).av] st (fun r st'=>r=.bool (decide (k=3)&&decide ((ts.length:Int)=2)&&gQ sE s)∧st'=st):=by
 simp only[aY]
 refine wF [1000000] 1 func357 ntmps357 rfl rfl ?_
 intro _
 simp -implicitDefEqProofs only[aA,seval,V8]
 refine cS (fun h=>?_) (fun h=>?_)
 · simp -implicitDefEqProofs only[h,aF,aA,seval,V8]
   refine cS (fun h2=>?_) (fun h2=>?_)
   · simp -implicitDefEqProofs only[h2,aA,seval,V8]
     refine(Q7 sE s _).to ?_
     simp -implicitDefEqProofs only[aA,seval]
     simp [gQ]
   · simp -implicitDefEqProofs only[h2,aA,seval]
     simp []
 · simp -implicitDefEqProofs only[h,aA,seval]
   simp []
abbrev V9:=zi tI_3 (zi zI_3 (zi aZ (zi tI_4 (zi zI_4 (zi cG (zi tI_9 (zi zI_9 (zi cF (zi tI_31 (zi zI_31 (zi aO (zi bH (zi bJ (zi bZ (zi tI_66 (zi zI_66 (zi bS (zi bT (zi bU (zi bV bR))))))))))))))))))))
theorem aVX(n:Int)(s:ByteArray)(x y:Tm)(hs:gQ sE s=true){N:Int}(hx:cL N x)(hy:cL N y)(st:aB):aD prog 358 [(Tm.mk 3 n s [x,y]).av] st (fun r st'=>r=.int .i64 (zA s x y)∧st'=st):=by
 have eA:dM prog 31 (.slice [x.av,y.av]) (.int .i64 0)=some (.pptr x.av):=bO (av:=Tm.av) (l:=[x,y]) (i:=0) aO rfl (aK x)
 have g9:dM prog 31 (.slice [x.av,y.av]) (.int .i64 1)=some (.pptr y.av):=bO (av:=Tm.av) (l:=[x,y]) (i:=1) aO rfl (aK y)
 have hax:=fun st=>LR x st hx
 have hay:=fun st=>LR y st hy
 unfold zA both
 simp only[aY,aW,aU]
 refine wF [1000000] 1 func358 ntmps358 rfl rfl ?_
 intro _
 simp -implicitDefEqProofs only[eA,a7,aK,aA,seval,V9]
 refine(hax _).to ?_
 generalize x.ev.1=a at *
 generalize x.ev.2=ca at *
 generalize y.ev.1=b at *
 generalize y.ev.2=cb at *
 simp -implicitDefEqProofs only[aA,seval]
 refine aS (fun h4=>?_) (fun h4=>?_)
 · simp -implicitDefEqProofs only[aA,seval]
   have h4':ca≠0:=by simpa using h4
   rw[aH h4']
 have h4':ca=0:=by simpa using h4
 subst h4'
 rw[aE (by simp)]
 simp -implicitDefEqProofs only[g9,a7,aK,aA,seval,V9]
 refine(hay _).to ?_
 simp -implicitDefEqProofs only[aA,seval]
 refine aS (fun h5=>?_) (fun h5=>?_)
 · simp -implicitDefEqProofs only[aA,seval]
   have h5':cb≠0:=by simpa using h5
   rw[aH h5']
 have h5':cb=0:=by simpa using h5
 subst h5'
 rw[aE (by simp)]
 unfold L8
 simp -implicitDefEqProofs only[aA,seval,V9]
 refine aS (fun h6=>?_) (fun h6=>?_)
 · simp -implicitDefEqProofs only[aA,seval]
   rw[aH (by simpa using h6)]
   refine(pY _ _).to ?_
   simp -implicitDefEqProofs only[aA,seval]
 rw[aE (by simpa using h6)]
 simp -implicitDefEqProofs only[aA,seval]
 refine aS (fun h7=>?_) (fun h7=>?_)
 · simp -implicitDefEqProofs only[aA,seval]
   rw[aH (by simpa using h7)]
   refine(pY _ _).to ?_
   simp -implicitDefEqProofs only[aA,seval]
 rw[aE (by simpa using h7)]
 simp -implicitDefEqProofs only[aA,seval]
 refine aS (fun h8=>?_) (fun h8=>?_)
 · simp -implicitDefEqProofs only[aA,seval]
   rw[aH (by simpa using h8)]
   refine(pY _ _).to ?_
   simp -implicitDefEqProofs only[aA,seval]
 rw[aE (by simpa using h8)]
 simp -implicitDefEqProofs only[aA,seval]
 refine aS (fun h9=>?_) (fun h9=>?_)
 · simp -implicitDefEqProofs only[aA,seval]
   rw[aH (by simpa using h9)]
   refine(pY _ _).to ?_
   simp -implicitDefEqProofs only[aA,seval]
 rw[aE (by simpa using h9)]
 simp -implicitDefEqProofs only[aA,seval]
 refine(pY _ _).to ?_
 simp -implicitDefEqProofs only[aA,seval]
theorem NM{ts:List Tm}(h:ts.length=0):ts= []:=oB h
theorem IV{ts:List Tm}(h:ts.length=1):∃x,ts= [x]:=by
 match ts,h with
 | [x],_=>exact⟨x,rfl⟩
theorem wA{ts:List Tm}(h:ts.length=2):∃x y,ts= [x,y]:=by
 match ts,h with
 | [x,y],_=>exact⟨x,y,rfl⟩
theorem aOP{ts:List Tm}(h:ts.length=3):∃x y z,ts= [x,y,z]:=by
 match ts,h with
 | [x,y,z],_=>exact⟨x,y,z,rfl⟩
theorem aTE{σ:Sub}{f:Nat}{t u:Tm}(h:gN σ f t u):wk σ u=u:=(gN.stop h.end).wk
end Go.AW
namespace Go.AW

end Go.AW
namespace Go.AW
open Go.Proofs.Tryz
theorem a7E{α:Type}(f:α→Nat)(l:List α)(i:Nat):aR f (l.take i)≤aR f l:=by
 have:=FW f (l.take i) (l.drop i)
 rw[rX] at this
 omega
def Full(v:Tm)(room:Nat)(st:aB)(r:AV)(st':aB):Prop:=
 st'=st∧∃(x:Tm) (left:Int),r=.tup [x.av,.int .i64 left]∧-1≤left∧if v.nodes≤room then x=v∧left=(room:Int) - v.nodes else left<0
abbrev Bt:=Fin 256
def iS(b:Bt):AV:=.int .u8 (b.val:Int)
theorem LP(b:Bt):(iS b).width=1:=rfl
def dS(st:aB)(c:Nat)(bs:List Bt)(p:Nat):Prop:=st c=some (.cells [.slice (bs.map iS),.int .i64 (p:Int)])
def cE(bs:List Bt)(p:Nat):AO:=.cells [.slice (bs.map iS),.int .i64 (p:Int)]
theorem W2(a b:Nat):(a:Int).tmod (b:Int)=((a % b:Nat):Int):=(Int.ofNat_tmod a b).symm
theorem aRA(a b:Nat):(a:Int).tdiv (b:Int)=((a / b:Nat):Int):=(Int.ofNat_tdiv a b).symm
theorem aT5(a b:Nat)(ha:a<2 ^ 62)(hb:b<2 ^ 62):∃m:Nat,G5 .i64 (a:Int) (b:Int)=(m:Int):=by
 have hx:=Nat.xor_lt_two_pow ha hb
 refine⟨a ^^^ b,?_⟩
 unfold G5
 show IntKind.i64.wrap (((BitVec.ofInt 64 (a:Int) ^^^ BitVec.ofInt 64 (b:Int)).toNat:Nat):Int)=_
 rw[BitVec.ofInt_natCast,BitVec.ofInt_natCast,BitVec.toNat_xor,BitVec.toNat_ofNat,BitVec.toNat_ofNat,Nat.mod_eq_of_lt (by omega),Nat.mod_eq_of_lt (by omega)]
 rw[wrap64 (by omega) (by omega)]
abbrev JQ:=zi tI_3 (zi zI_3 (zi aZ (zi tI_5 (zi zI_5 (zi lO (zi tI_40 (zi zI_40 (zi qZ (zi xI (zi xK (zi wN (zi tI_116 (zi zI_116 (zi tI_184 (zi zI_184 (zi aME (zi aMF ZC)))))))))))))))))
theorem oG(bs:List Bt)(c p:Nat)(hp:p≤1099511627776)(n:Nat)(hn:1≤n)(hn2:n≤1048576)(st:aB)(h:dS st c bs p) :
 aD prog 96 [.ptr c 0,.int .i64 (n:Int)] st (fun r st'=>∃k:Nat,k<n∧r=.int .i64 (k:Int)∧st'=st.aC c (cE bs (p+1))):=by
 unfold dS at h
 refine wF [1000000] 2 func96 ntmps96 rfl rfl ?_
 intro _
 have hw1:IntKind.i64.wrap ((p:Int)+1)=(p:Int)+1:=wrap64 (by omega) (by omega)
 simp -implicitDefEqProofs only[aG,h,hw1,aA,seval,JQ]
 have hn1:¬(n:Int)<1:=by omega
 have hw2:IntKind.i64.wrap ((p:Int)+1 - 1)=(p:Int):=by rw[wrap64 (by omega) (by omega)];omega
 have hst:∀(q:aB),q c=some (.cells [.slice (bs.map iS),.int .i64 ((p:Int)+1)])→True:=fun _ _=>trivial
 have hrd:cE bs (p+1)=.cells [.slice (bs.map iS),.int .i64 ((p:Int)+1)]:=by simp [cE]
 rw[hrd]
 refine cS (fun h1=>?_) (fun h1=>?_)
 case refine_2=>simp [hn1] at h1
 simp -implicitDefEqProofs only[b9,jF,hn1,aF,aA,seval,JQ]
 refine aS (fun h2=>?_) (fun h2=>?_)
 · simp -implicitDefEqProofs only[aA,seval]
   exact⟨0,by omega,rfl⟩
 simp -implicitDefEqProofs only[hw2,aF,aA,seval,JQ]
 have hbl:bs.length≠0:=by simpa using h2
 refine aS (fun h3=>?_) (fun h3=>?_)
 · simp only[bL] at h3
   obtain⟨x,hx⟩:∃x,bs[p]?=some x:=⟨_,dZ (by omega)⟩
   have hx2:=x.isLt
   have hb1:IntKind.i64.wrap (x.val:Int)=(x.val:Int):=wrap64 (by omega) (by omega)
   have hn0:¬(n:Int)=0:=by omega
   have TA:dM prog 40 (.slice (bs.map iS)) (.int .i64 (p:Int))=some (.pptr (.int .u8 x.val)):=bO (av:=iS) qZ hx (LP x)
   simp -implicitDefEqProofs only[TA,tP,hb1,hn0,aA,seval,JQ]
   exact⟨x.val % n,Nat.mod_lt _ (by omega),by rw[W2]⟩
 · simp only[cP] at h3
   obtain⟨x,hx⟩:∃x,bs[p % bs.length]?=some x:=⟨_,dZ (Nat.mod_lt _ (by omega))⟩
   obtain⟨y,hy⟩:∃y,bs[(p*7+3) % bs.length]?=some y:=⟨_,dZ (Nat.mod_lt _ (by omega))⟩
   have hx2:=x.isLt
   have hy2:=y.isLt
   have hl0:¬(bs.length:Int)=0:=by omega
   simp -implicitDefEqProofs only[aA,seval]
   refine GD [(0,1),(1,1),(2,1),(3,1),(4,1),(5,1),(6,1),(7,1),(8,1),(9,1),(10,1),(11,1),(12,1),(13,1),(14,1),(15,1),(16,1),(17,1),(18,1),(19,1),(20,1),(21,1),(22,1),(23,1),(24,1),(25,1),(26,1),(27,1),(28,1),(29,1),(30,1),(31,1),(32,1),(33,1),(34,1),(35,1),(36,1),(37,1),(38,1),(39,1),(40,1),(41,1),(42,1),(43,1),(44,1),(45,1)] [0,1,2,3,4,5,6,7,8,9,10,11,12,13,14,15,16,17,18,19,20,21,22,23,24,25,26,27,28,29,30,31,32,33,34,35,36,37,38,39,40,41,42,43,44,45] (fE.aC c (.cells [.slice (bs.map iS),.int .i64 ((p:Int)+1)])) mixed (by decide +kernel) (by decide +kernel) (by decide +kernel) rfl (gH (aB.aP _ _ _)) ?_
   have e7:IntKind.i64.wrap ((p:Int)*7)=(p:Int)*7:=wrap64 (by omega) (by omega)
   have e8:IntKind.i64.wrap ((p:Int)*7+3)=(p:Int)*7+3:=wrap64 (by omega) (by omega)
   have e9:((p:Int)*7+3).tmod (bs.length:Int)=(((p*7+3) % bs.length:Nat):Int):=by rw[←W2];congr 1
   have f1:IntKind.i64.wrap ((x.val:Int)*131)=(x.val:Int)*131:=wrap64 (by omega) (by omega)
   have f2:IntKind.i64.wrap ((y.val:Int)*1117)=(y.val:Int)*1117:=wrap64 (by omega) (by omega)
   have f3:IntKind.i64.wrap ((x.val:Int)*131+(y.val:Int)*1117)=(x.val:Int)*131+(y.val:Int)*1117:=wrap64 (by omega) (by omega)
   have f4:IntKind.i64.wrap ((p:Int)*29)=(p:Int)*29:=wrap64 (by omega) (by omega)
   have f5:IntKind.i64.wrap ((x.val:Int)*131+(y.val:Int)*1117+(p:Int)*29)=(x.val:Int)*131+(y.val:Int)*1117+(p:Int)*29:=wrap64 (by omega) (by omega)
   have hb1:IntKind.i64.wrap (x.val:Int)=(x.val:Int):=wrap64 (by omega) (by omega)
   have hb2:IntKind.i64.wrap (y.val:Int)=(y.val:Int):=wrap64 (by omega) (by omega)
   generalize hjx:p % bs.length=jx at *
   generalize hjy:(p*7+3) % bs.length=jy at *
   have e10:(p:Int).tmod (bs.length:Int)=(jx:Int):=by rw[W2,hjx]
   have TA:dM prog 40 (.slice (bs.map iS)) (.int .i64 (jx:Int))=some (.pptr (.int .u8 x.val)):=bO (av:=iS) qZ hx (LP x)
   have a09:dM prog 40 (.slice (bs.map iS)) (.int .i64 (jy:Int))=some (.pptr (.int .u8 y.val)):=bO (av:=iS) qZ hy (LP y)
   have hdv:p / bs.length≤p:=Nat.div_le_self _ _
   generalize hq:p / bs.length=q at *
   have hqq:IntKind.i64.wrap ((p:Int).tdiv (bs.length:Int))=(q:Int):=by rw[aRA,hq,wrap64 (by omega) (by omega)]
   have f6:IntKind.i64.wrap ((q:Int)*53)=(q:Int)*53:=wrap64 (by omega) (by omega)
   obtain⟨z,hz,hz2⟩:∃z:Nat,(x.val:Int)*131+(y.val:Int)*1117+(p:Int)*29+(q:Int)*53=(z:Int)∧z<2 ^ 61:=⟨x.val*131+y.val*1117+p*29+q*53,by omega,by omega⟩
   have f7:IntKind.i64.wrap ((x.val:Int)*131+(y.val:Int)*1117+(p:Int)*29+(q:Int)*53)=(z:Int):=by rw[hz];exact wrap64 (by omega) (by omega)
   have bBL:z / 64≤z:=Nat.div_le_self _ _
   obtain⟨m,hm⟩:=aT5 z (z / 64) (by omega) (by omega)
   have f8:IntKind.i64.wrap ((z:Int).tdiv 64)=((z / 64:Nat):Int):=by rw[show(64:Int)=((64:Nat):Int) from rfl,aRA,wrap64 (by omega) (by omega)]
   generalize z / 64=z2 at *
   have hn0:¬(n:Int)=0:=by omega
   simp -implicitDefEqProofs only[aF,hl0,e7,e8,e9,e10,f1,f2,f3,f4,f5,f6,f7,f8,hm,hn0,TA,a09,hb1,hb2,hqq,tP,aA,seval,JQ]
   exact⟨m % n,Nat.mod_lt _ (by omega),rfl⟩
abbrev aRF:=zi tI_3 (zi zI_3 (zi aZ (zi tI_46 (zi zI_46 (zi dK (zi fM (zi fJ (zi fX (zi tI_116 zI_116)))))))))
theorem aX8(l:List Int)(h1:1≤l.length)(h2:l.length≤1048576)(bs:List Bt)(c p:Nat)(hp:p≤1099511627776)(st:aB)(h:dS st c bs p) :
 aD prog 94 [.ptr c 0,.slice (l.map iv)] st (fun r st'=>∃x∈l,r=.int .i64 x∧st'=st.aC c (cE bs (p+1))):=by
 refine wF [1000000] 2 func94 ntmps94 rfl rfl ?_
 intro _
 simp -implicitDefEqProofs only[aF,aA,seval,aRF]
 refine(oG bs c p hp l.length h1 h2 st h).mono ?_
 rintro _ _ ⟨k,hk,rfl,rfl⟩
 obtain⟨x,hx⟩:∃x,l[k]?=some x:=⟨_,dZ hk⟩
 have hat:=bO (av:=iv) dK hx rfl
 simp -implicitDefEqProofs only[hat,aA,seval,aRF]
 exact⟨x,cJ hx,rfl⟩
theorem y8(l:List Int)(h1:1≤l.length)(h2:l.length≤1048576)(bs:List Bt)(c p:Nat)(hp:p≤1099511627776)(st:aB)(h:dS st c bs p) :
 aD prog 94 [.ptr c 0,.fslice (l.map iv)] st (fun r st'=>∃x∈l,r=.int .i64 x∧st'=st.aC c (cE bs (p+1))):=
 aD.qP (by simp only[iL,AV.soft];exact aX8 l h1 h2 bs c p hp st h)
abbrev aRE:=zi tI_3 (zi zI_3 (zi aZ (zi tI_9 (zi zI_9 (zi cF (zi tI_116 (zi zI_116 (zi tI_147 (zi zI_147 (zi jO (zi nC (zi nE n8))))))))))))
theorem aYB(l:List ByteArray)(h1:1≤l.length)(h2:l.length≤1048576)(bs:List Bt)(c p:Nat)(hp:p≤1099511627776)(st:aB)(h:dS st c bs p) :
 aD prog 184 [.ptr c 0,.slice (l.map AV.str)] st (fun r st'=>∃x∈l,r=.str x∧st'=st.aC c (cE bs (p+1))):=by
 refine wF [1000000] 2 func184 ntmps184 rfl rfl ?_
 intro _
 simp -implicitDefEqProofs only[aF,aA,seval,aRE]
 refine(oG bs c p hp l.length h1 h2 st h).mono ?_
 rintro _ _ ⟨k,hk,rfl,rfl⟩
 obtain⟨x,hx⟩:∃x,l[k]?=some x:=⟨_,dZ hk⟩
 have hat:=bO (av:=AV.str) jO hx rfl
 simp -implicitDefEqProofs only[hat,aA,seval,aRE]
 exact⟨x,cJ hx,rfl⟩
theorem HI(l:List ByteArray)(h1:1≤l.length)(h2:l.length≤1048576)(bs:List Bt)(c p:Nat)(hp:p≤1099511627776)(st:aB)(h:dS st c bs p) :
 aD prog 184 [.ptr c 0,.fslice (l.map AV.str)] st (fun r st'=>∃x∈l,r=.str x∧st'=st.aC c (cE bs (p+1))):=
 aD.qP (by simp only[iL,AV.soft];exact aYB l h1 h2 bs c p hp st h)
abbrev WH:=zi tI_3 (zi zI_3 (zi aZ (zi tI_40 (zi zI_40 (zi qZ (zi xI (zi xK (zi wN (zi tI_116 (zi zI_116 (zi tI_184 (zi zI_184 (zi aME (zi aMF ZC))))))))))))))
theorem aWL(bs:List Bt)(st:aB):aD prog 93 [.slice (bs.map iS)] st (fun r st'=>∃c bs',r=.ptr c 0∧st c=none∧st'=st.aC c (cE bs' 0)):=by
 refine wF [1000000,10] 1 func93 ntmps93 rfl rfl ?_
 simp only[d5,AV.fits,d9,aF]
 intro ⟨hl,_⟩
 have hs:bs.length>2000→∀φ,iK prog φ 40 (.slice (bs.map iS)) none (some (.const (.int .i64 2000))) none=some (.slice ((bs.take 2000).map iS)):=fun h φ=>by
  have h2:((0:Int)≤2000∧(2000:Int)≤(bs.map iS).length):=⟨by omega,by rw[aF];omega⟩
  have h3:d8 φ (some (.const (.int .i64 2000))) (bs.map iS).length (bs.map iS).length=some 2000:=by
   show(if((0:Int)≤2000∧(2000:Int)≤(bs.map iS).length) then some (Int.toNat 2000) else none)=some 2000
   exact aH h2
  unfold iK oY
  rw[aE (by simp [rH])]
  simp only[qZ]
  have h4:d8 φ none (bs.map iS).length (bs.map iS).length=some (bs.map iS).length:=rfl
  rw[h4]
  simp only[h3]
  have h5:d8 φ none 0 2000=some 0:=rfl
  rw[h5]
  simp
 simp -implicitDefEqProofs only[aF,aA,seval,WH]
 refine aS (fun h=>?_) (fun h=>?_)
 · simp only[bL] at h
   have hs':=hs (by omega)
   simp -implicitDefEqProofs only[hs',aA,seval,WH]
   intro b hb
   exact⟨b,bs.take 2000,rfl,hb,by simp [cE]⟩
 · simp -implicitDefEqProofs only[aA,seval,WH]
   intro b hb
   exact⟨b,bs,rfl,hb,by simp [cE]⟩
abbrev a7P:=zi tI_3 (zi zI_3 (zi aZ (zi tI_66 (zi zI_66 (zi bS (zi bT (zi bU (zi bV bR))))))))
theorem LV(n:Int)(st:aB):aD prog 181 [.int .i64 n] st (fun r st'=>r=(vr n).av∧st'=st):=by
 refine aD.done ?_
 refine wF [1000000] 1 func181 ntmps181 rfl rfl ?_
 intro _
 simp -implicitDefEqProofs only[aG,aA,seval,a7P]
 intro b hb
 exact⟨by simp only[vr,aY,eG,d7,mR,nX,aW,aU],(aL.refl _).aC hb⟩
abbrev a7Q:=zi tI_2 (zi zI_2 (zi KA (zi tI_3 (zi zI_3 (zi aZ (zi tI_66 (zi zI_66 (zi bS (zi bT (zi bU (zi bV bR)))))))))))
theorem EA(n:Int)(st:aB):aD prog 182 [.int .i64 n] st (fun r st'=>r=(Tm.mk 2 n ⟨#[]⟩ []).av∧st'=st):=by
 refine aD.done ?_
 refine wF [1000000] 1 func182 ntmps182 rfl rfl ?_
 intro _
 simp -implicitDefEqProofs only[aG,aA,seval,a7Q]
 intro b hb
 exact⟨by simp only[aY,eG,d7,mR,nX,aW,aU],(aL.refl _).aC hb⟩
abbrev OD:=zi tI_3 (zi zI_3 (zi aZ (zi tI_9 (zi zI_9 (zi cF (zi tI_31 (zi zI_31 (zi aO (zi bH (zi bJ (zi bZ (zi tI_66 (zi zI_66 (zi bS (zi bT (zi bU (zi bV bR)))))))))))))))))
theorem aWZ(s:ByteArray)(l:List Tm)(hl:l.length≤1048576)(st:aB):aD prog 183 [.str s,.slice (l.map Tm.av)] st (fun r st'=>r=(Tm.mk 3 0 s l).av∧st'=st):=by
 refine aD.sF (aD.fin ?_)
 refine wF [1000000] 2 func183 ntmps183 rfl rfl ?_
 intro _
 simp -implicitDefEqProofs only[aA,seval,OD]
 intro b hb
 change kY prog 31 (a8 (st.aC b (.cells [.int .i64 0,.int .i64 0,.str ⟨#[]⟩,.fslice []])) 0 []) (bM 4 0 []) (.slice (l.map Tm.av)) _
 refine fG aO bH bJ rfl rfl (by intro e he;simp only[cU] at he;obtain⟨t,_,rfl⟩:=he;exact⟨aK _,cB _⟩) (by simp) (fun h=>absurd rfl h) (by simp only[bA,aF];omega) (by simp only[bA,aF];omega) (fun b' hb'=>?_)
 rw[eS] at hb' ⊢
 have hne:l.map Tm.av≠[]→b≠b':=fun h e=>by have:=hb' h;rw[←e,aB.aP] at this;cases this
 have h1:a8 (st.aC b (.cells [.int .i64 0,.int .i64 0,.str ⟨#[]⟩,.fslice []])) b' (l.map Tm.av) b=some (.cells [.int .i64 0,.int .i64 0,.str ⟨#[]⟩,.fslice []]):=by
  by_cases h:l.map Tm.av= []
  · rw[h,yY,aB.aP]
  · rw[pU (hne h),aB.aP]
 simp -implicitDefEqProofs only[aG,h1,m9,eP,vD,aA,seval,OD]
 rw[pV hne,c7]
 exact⟨b',l.map Tm.av,st.aC b _,rfl,fun h=>by rw[aB.aJ _ _ (c9 (hne h))];have:=hb' h;rwa [aB.aJ _ _ (c9 (hne h))] at this,jJ _,⟨4,eD _⟩,by simp only[aY,gJ,eT,jP,mI,aW,aU],(aL.refl _).aC hb⟩
theorem tX(s:ByteArray)(l:List Tm)(hl:l.length≤1048576)(st:aB):aD prog 183 [.str s,.fslice (l.map Tm.av)] st (fun r st'=>r=(Tm.mk 3 0 s l).av∧st'=st):=
 aD.qP (by simp only[iL,AV.soft];exact aWZ s l hl st)
theorem aW0(s:ByteArray)(st:aB):aD prog 183 [.str s,.fslice []] st (fun r st'=>r=.agg [.int .i64 3,.int .i64 0,.str s,.fslice []]∧st'=st):=by
 refine aD.drop ?_
 refine wF [1000000] 2 func183 ntmps183 rfl rfl ?_
 intro _
 simp -implicitDefEqProofs only[aA,seval,OD]
 intro b hb
 change kY prog 31 (a8 (st.aC b (.cells [.int .i64 0,.int .i64 0,.str ⟨#[]⟩,.fslice []])) 0 []) (bM 4 0 []) (.fslice ([]:List AV)) _
 refine fG aO bH bJ rfl rfl (by simp [w8]) (by simp) (fun h=>absurd rfl h) (by simp) (by simp) (fun b' hb'=>?_)
 simp only[gI,kB,yY]
 simp -implicitDefEqProofs only[aG,aA,seval,OD]
 exact(aL.refl _).aC hb
abbrev Dn (t:Tm):Prop:=t.cv=true∧t.small=true
theorem SM(n:Int):Dn (vr n):=by
 refine⟨Tm.oZ.2 ⟨fun _=>⟨rfl,rfl⟩,fun x hx=>by cases hx⟩,?_⟩
 simp [vr,Tm.small,J5]
theorem zE{k n:Int}{s:ByteArray}{ts:List Tm}(hk:k≠1)(hl:ts.length≤1048576)(h:∀x∈ts,Dn x):Dn (.mk k n s ts):=by
 refine⟨Tm.oZ.2 ⟨fun h=>absurd h hk,fun x hx=>(h x hx).1⟩,?_⟩
 simp only[Tm.small,J6,cK,bL,eW]
 exact⟨hl,fun x hx=>(h x hx).2⟩
def Dr(bs:List Bt)(c p m:Nat)(st:aB)(Q:AV→Prop)(r:AV)(st':aB):Prop:=∃p',p≤p'∧p'≤p+m∧st'=st.aC c (cE bs p')∧Q r
def PW(r:AV):Prop:=∃t:Tm,Dn t∧r=t.av
theorem dS.aC{st:aB}{c p:Nat}{bs:List Bt}{b:Nat}{o:AO}(h:dS st c bs p)(hb:b≠c):dS (st.aC b o) c bs p:=by unfold dS;rw[aB.aJ _ _ (c9 hb)];exact h
theorem dS.new{st:aB}{c p:Nat}{bs:List Bt}:dS (st.aC c (cE bs p)) c bs p:=aB.aP _ _ _
theorem dS.ne{st:aB}{c p:Nat}{bs:List Bt}{b:Nat}(h:dS st c bs p)(hb:st b=none):b≠c:=by rintro rfl;rw[dS,hb] at h;cases h
abbrev mS:=zi tI_3 (zi zI_3 (zi aZ (zi tI_4 (zi zI_4 (zi cG (zi tI_9 (zi zI_9 (zi cF (zi tI_31 (zi zI_31 (zi aO (zi bH (zi bJ (zi bZ (zi tI_46 (zi zI_46 (zi dK (zi fM (zi fJ (zi fX (zi tI_66 (zi zI_66 (zi bS (zi bT (zi bU (zi bV (zi bR (zi tI_116 (zi zI_116 (zi tI_147 (zi zI_147 (zi jO (zi nC (zi nE n8))))))))))))))))))))))))))))))))))
theorem aAE(bs:List Bt)(c:Nat):∀(d p:Nat) (st:aB),d≤10→p+4 ^ (d+2)≤1099511627776→dS st c bs p→aD prog 103 [.ptr c 0,.int .i64 (d:Int)] st (Dr bs c p (4 ^ (d+2)) st PW)
 | d,p,st,hd,hp,hR=>by
  have IH:=fun(d':Nat) (hlt:d'<d) p st=>aAE bs c d' p st
  refine aD.nB (aD.fin ?_)
  refine wF [1000000,5] 2 func103 ntmps103 rfl rfl ?_
  intro _
  simp -implicitDefEqProofs only[aA,seval,mS]
  intro b4 h4
  have h4c:=hR.ne h4
  have hR':=fun o=>hR.aC (o:=o) h4c
  have v6:64≤4 ^ (d+2)∨d=0:=by
   cases d with
   | zero=>exact .inr rfl
   | succ d=>
    left
    have:4 ^ (d+1+2)=64*4 ^ d:=by rw[show d+1+2=d+3 by omega,Nat.pow_add];omega
    have:=Nat.one_le_two_pow (n:=d);have:1≤4 ^ d:=Nat.one_le_pow _ _ (by omega);omega
  have a2T:16≤4 ^ (d+2):=by rcases v6 with h | rfl<;>omega
  have kT:∀(o o':AO) (q:Nat) (t:Tm),p≤q→q≤p+4 ^ (d+2)→Dn t→∃b l s0,((st.aC b4 o).aC c (cE bs q)).aC b4 o'=a8 s0 b l∧(l≠[]→s0 b=none)∧(∀e∈l,e.cH=false)∧iR l∧∃s2,aL s0 s2∧Dr bs c p (4 ^ (d+2)) st PW (AV.fin b l t.av) s2:=fun o o' q t h1 h2 h3=>by
   refine⟨0,[],_,rfl,by simp,by simp,⟨4,by simp⟩,st.aC c (cE bs q),?_,q,h1,h2,rfl,t,h3,Tm.xL t 0⟩
   intro x
   by_cases e4:x=b4<;>by_cases ec:x=c<;>simp_all [aB.aC]
  refine cS (fun h=>?_) (fun h=>?_)
  case refine_2=>
   simp -implicitDefEqProofs only[h,aA,seval]
   have hRq:=hR' (.cells [.int .i64 0,.int .i64 0,.str ⟨#[]⟩,.fslice []])
   have hq:p+1≤1099511627776:=by omega
   have:=h4c.symm
   refine(oG bs c (p) (by omega) 4 (by omega) (by omega) _ hRq).mono ?_
   rintro _ _ ⟨k,hk,rfl,rfl⟩
   try rw[c7]
   simp -implicitDefEqProofs only[aA,seval]
   refine aS (fun h1=>?_) (fun h1=>?_)
   · simp -implicitDefEqProofs only[aA,seval]
     refine(oG bs c (p+1) (by omega) 4 (by omega) (by omega) _ dS.new).mono ?_
     rintro _ _ ⟨k2,hk2,rfl,rfl⟩
     rw[c7]
     simp -implicitDefEqProofs only[aA,seval]
     refine(LV (k2:Int) _).to ?_
     simp -implicitDefEqProofs only[bY,cB,fB (bY _),eX (a7 _),aG,h4c,aA,seval,mS]
     exact kT _ _ _ (vr k2) (by omega) (by omega) (SM _)
   simp -implicitDefEqProofs only[aA,seval]
   refine aS (fun h2=>?_) (fun h2=>?_)
   · simp -implicitDefEqProofs only[aA,seval,mS]
     refine(y8 [0,1,7,-3,999,-999] (by simp) (by simp) bs c (p+1) (by omega) _ dS.new).mono ?_
     rintro _ _ ⟨x,hx,rfl,rfl⟩
     rw[c7]
     simp -implicitDefEqProofs only[aA,seval]
     refine(EA x _).to ?_
     simp -implicitDefEqProofs only[bY,cB,fB (bY _),eX (a7 _),aG,h4c,aA,seval,mS]
     exact kT _ _ _ (.mk 2 x ⟨#[]⟩ []) (by omega) (by omega) (zE (by omega) (by simp) (by simp))
   · simp -implicitDefEqProofs only[aA,seval,mS]
     refine(HI [⟨#[97]⟩,⟨#[98]⟩,⟨#[110,105,108]⟩,⟨#[91,93]⟩,⟨#[102,111,111]⟩,⟨#[43]⟩] (by simp) (by simp) bs c (p+1) (by omega) _ dS.new).mono ?_
     rintro _ _ ⟨x,hx,rfl,rfl⟩
     rw[c7]
     simp -implicitDefEqProofs only[aA,seval]
     refine(tX x [] (by simp) _).to ?_
     simp -implicitDefEqProofs only[bY,cB,fB (bY _),eX (a7 _),aG,h4c,aA,seval,mS]
     exact kT _ _ _ (.mk 3 0 x []) (by omega) (by omega) (zE (by omega) (by simp) (by simp))
  simp -implicitDefEqProofs only[h,aA,seval]
  have hd2:2≤d:=by simp at h;omega
  have hwx:∀z:Int,z=(d:Int)→IntKind.i64.wrap (z - 1)=z - 1:=fun z hz=>wrap64 (by omega) (by omega)
  obtain⟨d',rfl⟩:∃d',d=d'+1:=⟨d - 1,by omega⟩
  have hpd:4 ^ (d'+1+2)=4*4 ^ (d'+2):=by rw[show d'+1+2=d'+2+1 by omega,Nat.pow_succ];omega
  have hp4:4≤4 ^ (d'+2):=by have:1≤4 ^ d':=Nat.one_le_pow _ _ (by omega);rw[Nat.pow_add];omega
  have hwd:IntKind.i64.wrap (((d'+1:Nat):Int) - 1)=(d':Int):=by rw[wrap64 (by omega) (by omega)];omega
  have UF:IntKind.i64.wrap ((d':Int)+1 - 1)=(d':Int):=by rw[wrap64 (by omega) (by omega)];omega
  have IHd:=fun p st=>IH d' (KV _) p st
  generalize hM:4 ^ (d'+2)=M at *
  rw[hpd] at hp a2T
  refine(oG bs c p (by omega) 4 (by omega) (by omega) _ (hR' _)).mono ?_
  rintro _ _ ⟨k,hk,rfl,rfl⟩
  simp -implicitDefEqProofs only[aA,seval]
  refine aS (fun h1=>?_) (fun h1=>?_)
  · have hRq:dS ((st.aC b4 (.cells [.int .i64 0,.int .i64 0,.str ⟨#[]⟩,.fslice []])).aC c (cE bs (p+1))) c bs (p+1):=dS.new
    simp -implicitDefEqProofs only[aA,seval]
    refine(oG bs c (p+1) (by omega) 4 (by omega) (by omega) _ hRq).mono ?_
    rintro _ _ ⟨k,hk,rfl,rfl⟩
    try rw[c7]
    simp -implicitDefEqProofs only[aA,seval]
    refine aS (fun h1=>?_) (fun h1=>?_)
    · simp -implicitDefEqProofs only[aA,seval]
      refine(oG bs c (p+1+1) (by omega) 4 (by omega) (by omega) _ dS.new).mono ?_
      rintro _ _ ⟨k2,hk2,rfl,rfl⟩
      rw[c7]
      simp -implicitDefEqProofs only[aA,seval]
      refine(LV (k2:Int) _).to ?_
      simp -implicitDefEqProofs only[bY,cB,fB (bY _),eX (a7 _),aG,h4c,aA,seval,mS]
      exact kT _ _ _ (vr k2) (by omega) (by omega) (SM _)
    simp -implicitDefEqProofs only[aA,seval]
    refine aS (fun h2=>?_) (fun h2=>?_)
    · simp -implicitDefEqProofs only[aA,seval,mS]
      refine(y8 [0,1,7,-3,999,-999] (by simp) (by simp) bs c (p+1+1) (by omega) _ dS.new).mono ?_
      rintro _ _ ⟨x,hx,rfl,rfl⟩
      rw[c7]
      simp -implicitDefEqProofs only[aA,seval]
      refine(EA x _).to ?_
      simp -implicitDefEqProofs only[bY,cB,fB (bY _),eX (a7 _),aG,h4c,aA,seval,mS]
      exact kT _ _ _ (.mk 2 x ⟨#[]⟩ []) (by omega) (by omega) (zE (by omega) (by simp) (by simp))
    · simp -implicitDefEqProofs only[aA,seval,mS]
      refine(HI [⟨#[97]⟩,⟨#[98]⟩,⟨#[110,105,108]⟩,⟨#[91,93]⟩,⟨#[102,111,111]⟩,⟨#[43]⟩] (by simp) (by simp) bs c (p+1+1) (by omega) _ dS.new).mono ?_
      rintro _ _ ⟨x,hx,rfl,rfl⟩
      rw[c7]
      simp -implicitDefEqProofs only[aA,seval]
      refine(tX x [] (by simp) _).to ?_
      simp -implicitDefEqProofs only[bY,cB,fB (bY _),eX (a7 _),aG,h4c,aA,seval,mS]
      exact kT _ _ _ (.mk 3 0 x []) (by omega) (by omega) (zE (by omega) (by simp) (by simp))
  · simp -implicitDefEqProofs only[aA,seval]
    refine(oG bs c (p+1) (by omega) 3 (by omega) (by omega) _ dS.new).mono ?_
    rintro _ _ ⟨k2,hk2,rfl,rfl⟩
    rw[c7]
    simp -implicitDefEqProofs only[aA,seval]
    refine aS (fun h2=>?_) (fun h2=>?_)
    · simp -implicitDefEqProofs only[UF,aA,seval]
      refine(IHd (p+1+1) _ (by omega) (by omega) dS.new).mono ?_
      rintro _ _ ⟨p1,hp1,a2R,rfl,t1,ht1,rfl⟩
      rw[c7]
      simp -implicitDefEqProofs only[UF,aA,seval]
      refine(IHd p1 _ (by omega) (by omega) dS.new).mono ?_
      rintro _ _ ⟨p2,hp2,bBH,rfl,t2,ht2,rfl⟩
      rw[c7]
      simp -implicitDefEqProofs only[aA,seval,mS]
      refine(tX ⟨#[46]⟩ [t1,t2] (by simp) _).to ?_
      simp -implicitDefEqProofs only[bY,cB,fB (bY _),eX (a7 _),aG,h4c,aA,seval,mS]
      exact kT _ _ _ (.mk 3 0 ⟨#[46]⟩ [t1,t2]) (by omega) (by omega) (zE (by omega) (by simp) (by intro x hx;simp only[c8,dX,eC] at hx;rcases hx with rfl | rfl<;>assumption))
    · simp -implicitDefEqProofs only[aA,seval,mS]
      refine(HI [⟨#[102]⟩,⟨#[103]⟩,⟨#[115]⟩,⟨#[43]⟩,⟨#[61]⟩,⟨#[105,115]⟩,⟨#[102,111,111]⟩] (by simp) (by simp) bs c (p+1+1) (by omega) _ dS.new).mono ?_
      rintro _ _ ⟨x,_,rfl,rfl⟩
      rw[c7]
      simp -implicitDefEqProofs only[aA,seval]
      refine(aW0 x _).to ?_
      simp -implicitDefEqProofs only[aG,aA,↓aX,seval,mS]
      intro b5 h5
      have h54:b5≠b4:=by rintro rfl;simp [aB.aC,h4c] at h5
      have h5c:b5≠c:=by rintro rfl;simp [aB.aC] at h5
      have hn5:st b5=none:=by rw[aB.aJ _ _ h5c,aB.aJ _ _ h54] at h5;exact h5
      refine(y8 [2,1,3,2] (by simp) (by simp) bs c (p+1+1+1) (by omega) _ (dS.new.aC h5c)).mono ?_
      rintro _ _ ⟨y,hy,rfl,rfl⟩
      obtain⟨n,rfl,hn⟩:∃n:Nat,y=n∧n≤3:=by
       simp only[c8,dX,eC] at hy
       rcases hy with rfl | rfl | rfl | rfl
       · exact⟨2,rfl,by omega⟩
       · exact⟨1,rfl,by omega⟩
       · exact⟨3,rfl,by omega⟩
       · exact⟨2,rfl,by omega⟩
      rw[aB.yK h5c,aB.nL _ _ _ h5c]
      have hW4:∀q,((st.aC b4 (.cells [.int .i64 0,.int .i64 0,.str ⟨#[]⟩,.fslice []])).aC c (cE bs q)) b4=some (.cells [.int .i64 0,.int .i64 0,.str ⟨#[]⟩,.fslice []]):=fun q=>by rw[aB.aJ _ _ h4c,aB.aP]
      simp -implicitDefEqProofs only[aA,seval]
      refine iN (σ:=Nat×Nat×List Tm×Nat) [1000000,5] [0,1,4,5]
       (fun s=>(s.2.2.1.map Tm.av≠[]→(aB.aC ((st.aC b4 (.cells [.int .i64 0,.int .i64 0,.str ⟨#[]⟩,.fslice []])).aC c (cE bs s.2.2.2)) b5 (.cells ([.int .i64 3,.int .i64 0,.str x]++ [bM 4 s.2.1 (s.2.2.1.map Tm.av)]))) s.2.1=none)∧s.2.2.1.length+s.1≤3∧(∀t∈s.2.2.1,Dn t)∧p≤s.2.2.2∧s.2.2.2+s.1*M≤p+4*M)
       (fun s=>[(6,.int .i64 s.1)]) (fun s=>f9 ((st.aC b4 (.cells [.int .i64 0,.int .i64 0,.str ⟨#[]⟩,.fslice []])).aC c (cE bs s.2.2.2)) b5 s.2.1 [.int .i64 3,.int .i64 0,.str x] (s.2.2.1.map Tm.av)) (fun s=>s.1) (by decide +kernel)
       ⟨(n,0,[],p+1+1+1+1),⟨fun h=>absurd rfl h,by simpa using hn,by simp,by simp only;omega,?_⟩,aN.mk (by simp -implicitDefEqProofs only[aA,seval])⟩ ?_
      · simp only
        have:=rZ M hn
        omega
      rintro⟨i,b,acc,q⟩ ⟨i1,i2,i3,i4,i5⟩
      simp only at i1 i2 i3 i4 i5
      simp -implicitDefEqProofs only[aA,seval]
      refine aS (fun h3=>?_) (fun h3=>?_)
      · simp only[bL] at h3
        have hbo:=fA i1
        have hSc:((st.aC b4 (.cells [.int .i64 0,.int .i64 0,.str ⟨#[]⟩,.fslice []])).aC c (cE bs q)) c≠none:=by rw[aB.aP];simp
        have hRk:dS (f9 ((st.aC b4 (.cells [.int .i64 0,.int .i64 0,.str ⟨#[]⟩,.fslice []])).aC c (cE bs q)) b5 b [.int .i64 3,.int .i64 0,.str x] (acc.map Tm.av)) c bs q:=by
         unfold dS
         rw[iA i1 hSc h5c.symm,aB.aP]
         try rfl
        have hM1:M≤i*M:=by have:=rZ M (show 1≤i by omega);omega
        have hMi:(i - 1)*M+M=i*M:=by rw[←pS];congr 1;omega
        have hwi:IntKind.i64.wrap ((i:Int) - 1)=((i - 1:Nat):Int):=by rw[wrap64 (by omega) (by omega)];omega
        have dA:(acc.map Tm.av).length≤3:=by rw[aF];omega
        simp -implicitDefEqProofs only[aA,seval]
        refine GD [(0,1),(1,1),(2,1),(3,1),(4,1),(5,0),(6,1),(7,0),(8,1),(9,2)] [0,1,2,3,4,6,8] (fE.aC b5 (.cells [.int .i64 3,.int .i64 0,.str x,bM 4 b (acc.map Tm.av)])) mixed (by decide +kernel) (by decide +kernel) (by decide +kernel) rfl (gH hbo) ?_
        simp -implicitDefEqProofs only[UF,mE,aA,seval,mS]
        refine(IHd q _ (by omega) (by omega) hRk).mono ?_
        rintro _ _ ⟨q',hq1,hq2,rfl,t,ht,rfl⟩
        obtain⟨e1,i1'⟩:=rI (o:=cE bs q') i1 hSc h5c.symm
        rw[c7] at e1 i1'
        rw[e1]
        simp -implicitDefEqProofs only[a7,aK,cM,aA,seval,mS]
        refine⟨gH (fA i1'),?_⟩
        refine fG aO bH bJ rfl rfl (gA (aK _) (cB _)) (eD _) i1' (by simp only[aQ,bA];omega) (by simp only[aQ,bA];omega) (fun b' hb'=>?_)
        rw[show acc.map Tm.av++ [t.av]=(acc++ [t]).map Tm.av by simp] at hb' ⊢
        obtain⟨g1,g2,g3⟩:=pG hb'
        simp only[fQ,eS] at g1 g3
        simp -implicitDefEqProofs only[aG,eP,m9,aA,seval,mS]
        refine⟨gH g3,?_⟩
        simp -implicitDefEqProofs only[g3,g1,hwi,aA,seval]
        refine⟨(i - 1,b',acc++ [t],q'),by simp only;omega,⟨g2,by simp only[dL,aQ,bA];omega,fun u hu=>?_,by simp only;omega,by simp only;omega⟩,aN.mk (by simp -implicitDefEqProofs only[aA,seval])⟩
        rcases fF.1 hu with hu | hu
        · exact i3 u hu
        · simp only[c8,dX,eC] at hu
          subst hu
          exact ht
      · have hbo:=fA i1
        have h4o:=iA i1 (x:=b4) (by rw[hW4];simp) h54.symm
        rw[hW4] at h4o
        simp -implicitDefEqProofs only[aG,hbo,h4o,eP,aA,seval,mS]
        obtain⟨g5,g6⟩:=lB (o:=.cells [.int .i64 3,.int .i64 0,.str x,bM 4 b (acc.map Tm.av)]) i1 (show((st.aC b4 (.cells [.int .i64 0,.int .i64 0,.str ⟨#[]⟩,.fslice []])).aC c (cE bs q)) b4≠none by rw[hW4];simp) h54.symm
        refine⟨b,_,_,g5,g6,jJ _,⟨4,eD _⟩,st.aC c (cE bs q),?_,q,i4,by omega,rfl,.mk 3 0 x acc,zE (by omega) (by omega) i3,?_⟩
        · intro y
          by_cases e4:y=b4<;>by_cases ec:y=c<;>by_cases e5:y=b5<;>simp_all [aB.aC]
        · simp only[gJ,aW,aU,eT,jP,jE,aY]
termination_by d=>d
decreasing_by exact hlt
abbrev bBP:=zi tI_3 (zi zI_3 (zi aZ (zi tI_4 (zi zI_4 cG))))
theorem tY(b:Bool)(st:aB):aD prog 325 [.bool b] st (fun r st'=>r=.int .i64 (jA b)∧st'=st):=by
 refine wF [1000000] 1 func325 ntmps325 rfl rfl ?_
 intro _
 simp -implicitDefEqProofs only[aA,seval]
 cases b
 · simp -implicitDefEqProofs only[jA,aA,seval]
 · simp -implicitDefEqProofs only[jA,aA,seval]
abbrev bBQ:=zi tI_4 (zi zI_4 (zi cG (zi tI_9 (zi zI_9 cF))))
theorem aXK(s:ByteArray)(st:aB):aD prog 329 [.str s] st (fun r st'=>r=.bool (gQ sE s)∧st'=st):=by
 have hin:gQ sE s=(decide (s=⟨#[60]⟩)||(decide (s=⟨#[62]⟩)||(decide (s=⟨#[61,60]⟩)||(decide (s=⟨#[62,61]⟩)||decide (s=⟨#[61,58,61]⟩))))):=by
  simp only[gQ,sE,DP,List.any_nil,GE]
 rw[hin]
 refine wF [1000000] 1 func329 ntmps329 rfl rfl ?_
 intro _
 simp -implicitDefEqProofs only[aA,seval]
 refine cS (fun h1=>?_) (fun h1=>?_)
 case refine_2=>
  simp -implicitDefEqProofs only[h1,aA,seval]
  simp at h1;simp [h1]
 simp -implicitDefEqProofs only[h1,aA,seval]
 refine cS (fun h2=>?_) (fun h2=>?_)
 case refine_2=>
  simp -implicitDefEqProofs only[h2,aA,seval]
  simp at h2;simp [h2]
 simp -implicitDefEqProofs only[h2,aA,seval]
 refine cS (fun h3=>?_) (fun h3=>?_)
 case refine_2=>
  simp -implicitDefEqProofs only[h3,aA,seval]
  simp at h3;simp [h3]
 simp -implicitDefEqProofs only[h3,aA,seval]
 refine cS (fun h4=>?_) (fun h4=>?_)
 case refine_2=>
  simp -implicitDefEqProofs only[h4,aA,seval]
  simp at h4;simp [h4]
 simp -implicitDefEqProofs only[h4,aA,seval]
theorem aXM(s:ByteArray)(a b:Int)(st:aB):aD prog 372 [.str s,.int .i64 a,.int .i64 b] st (fun r st'=>r=.bool (L8 s a b)∧st'=st):=by
 unfold L8
 refine wF [1000000] 3 func372 ntmps372 rfl rfl ?_
 intro _
 simp -implicitDefEqProofs only[aA,seval]
 refine aS (fun h6=>?_) (fun h6=>?_)
 · simp -implicitDefEqProofs only[aA,seval]
   rw[aH (by simpa using h6)]
 rw[aE (by simpa using h6)]
 simp -implicitDefEqProofs only[aA,seval]
 refine aS (fun h7=>?_) (fun h7=>?_)
 · simp -implicitDefEqProofs only[aA,seval]
   rw[aH (by simpa using h7)]
 rw[aE (by simpa using h7)]
 simp -implicitDefEqProofs only[aA,seval]
 refine aS (fun h8=>?_) (fun h8=>?_)
 · simp -implicitDefEqProofs only[aA,seval]
   rw[aH (by simpa using h8)]
 rw[aE (by simpa using h8)]
 simp -implicitDefEqProofs only[aA,seval]
 refine aS (fun h9=>?_) (fun h9=>?_)
 · simp -implicitDefEqProofs only[aA,seval]
   rw[aH (by simpa using h9)]
 rw[aE (by simpa using h9)]
 simp -implicitDefEqProofs only[aA,seval]
abbrev WA:=zi tI_3 (zi zI_3 (zi aZ (zi tI_4 (zi zI_4 (zi cG (zi tI_9 (zi zI_9 (zi cF (zi tI_31 (zi zI_31 (zi aO (zi bH (zi bJ (zi bZ (zi tI_66 (zi zI_66 (zi bS (zi bT (zi bU (zi bV bR))))))))))))))))))))
theorem aXJ(n:Int)(s:ByteArray)(x y:Tm){N:Int}(hx:cL N x)(hy:cL N y)(st:aB):aD prog 330 [(Tm.mk 3 n s [x,y]).av] st (fun r st'=>r=.int .i64 (zA s x y)∧st'=st):=by
 have eA:dM prog 31 (.slice [x.av,y.av]) (.int .i64 0)=some (.pptr x.av):=bO (av:=Tm.av) (l:=[x,y]) (i:=0) aO rfl (aK x)
 have g9:dM prog 31 (.slice [x.av,y.av]) (.int .i64 1)=some (.pptr y.av):=bO (av:=Tm.av) (l:=[x,y]) (i:=1) aO rfl (aK y)
 have hax:=fun st=>LW x st hx
 have hay:=fun st=>LW y st hy
 unfold zA both
 simp only[aY,aW,aU]
 refine wF [1000000] 1 func330 ntmps330 rfl rfl ?_
 intro _
 simp -implicitDefEqProofs only[eA,a7,aK,aA,seval,WA]
 refine(hax _).to ?_
 generalize x.ev.1=a at *
 generalize x.ev.2=ca at *
 generalize y.ev.1=b at *
 generalize y.ev.2=cb at *
 simp -implicitDefEqProofs only[aA,seval]
 refine aS (fun h4=>?_) (fun h4=>?_)
 · simp -implicitDefEqProofs only[aA,seval]
   have h4':ca≠0:=by simpa using h4
   rw[aH h4']
 have h4':ca=0:=by simpa using h4
 subst h4'
 rw[aE (by simp)]
 simp -implicitDefEqProofs only[g9,a7,aK,aA,seval,WA]
 refine(hay _).to ?_
 simp -implicitDefEqProofs only[aA,seval]
 refine aS (fun h5=>?_) (fun h5=>?_)
 · simp -implicitDefEqProofs only[aA,seval]
   have h5':cb≠0:=by simpa using h5
   rw[aH h5']
 have h5':cb=0:=by simpa using h5
 subst h5'
 rw[aE (by simp)]
 simp -implicitDefEqProofs only[aA,seval,WA]
 refine(aXM s a b _).to ?_
 simp -implicitDefEqProofs only[aA,seval]
 refine(tY _ _).to ?_
 simp -implicitDefEqProofs only[aA,seval]
abbrev FX:=zi tI_3 (zi zI_3 (zi aZ (zi tI_4 (zi zI_4 (zi cG (zi tI_9 (zi zI_9 (zi cF (zi tI_31 (zi zI_31 (zi aO (zi bH (zi bJ (zi bZ (zi tI_66 (zi zI_66 (zi bS (zi bT (zi bU (zi bV bR))))))))))))))))))))
theorem aXO(n:Int)(s:ByteArray)(x:Tm)(hs:s=⟨#[118,97,114]⟩∨s=⟨#[110,111,110,118,97,114]⟩∨s=⟨#[97,116,111,109]⟩∨s=⟨#[105,110,116]⟩)(st:aB) :
 aD prog 331 [(Tm.mk 3 n s [x]).av] st (fun r st'=>r=.int .i64 (jA (uQ s x))∧st'=st):=by
 obtain⟨xk,xn,xs,xt⟩:=x
 have eA:dM prog 31 (.slice [(Tm.mk xk xn xs xt).av]) (.int .i64 0)=some (.pptr (Tm.mk xk xn xs xt).av):=bO (av:=Tm.av) (l:=[Tm.mk xk xn xs xt]) (i:=0) aO rfl (aK _)
 simp only[aY] at eA
 simp only[aW,aU,aY]
 refine wF [1000000] 1 func331 ntmps331 rfl rfl ?_
 intro _
 simp -implicitDefEqProofs only[eA,aA,↓aX,seval,FX]
 refine aS (fun h=>?_) (fun h=>?_)
 · have hs':s=⟨#[118,97,114]⟩:=by simpa using h
   subst hs'
   simp -implicitDefEqProofs only[aA,seval,FX]
   refine(tY _ _).to ?_
   simp -implicitDefEqProofs only[aA,seval]
   rfl
 have h1:s≠⟨#[118,97,114]⟩:=by simpa using h
 simp -implicitDefEqProofs only[aA,seval]
 refine aS (fun h=>?_) (fun h=>?_)
 · have hs':s=⟨#[110,111,110,118,97,114]⟩:=by simpa using h
   subst hs'
   simp -implicitDefEqProofs only[aA,seval,FX]
   refine(tY _ _).to ?_
   simp -implicitDefEqProofs only[aA,seval]
   rfl
 have h2:s≠⟨#[110,111,110,118,97,114]⟩:=by simpa using h
 simp -implicitDefEqProofs only[aA,seval]
 refine aS (fun h=>?_) (fun h=>?_)
 · have hs':s=⟨#[105,110,116]⟩:=by simpa using h
   subst hs'
   simp -implicitDefEqProofs only[aA,seval,FX]
   refine(tY _ _).to ?_
   simp -implicitDefEqProofs only[aA,seval]
   rfl
 have h3:s≠⟨#[105,110,116]⟩:=by simpa using h
 have hs':s=⟨#[97,116,111,109]⟩:=by simpa [h1,h2,h3] using hs
 subst hs'
 have et:uQ ⟨#[97,116,111,109]⟩ (Tm.mk xk xn xs xt)=(decide (xk=3)&&decide ((xt.length:Int)=0)):=rfl
 rw[et]
 simp -implicitDefEqProofs only[aA,seval,FX]
 refine cS (fun h4=>?_) (fun h4=>?_)
 · simp -implicitDefEqProofs only[h4,aF,aA,seval,FX]
   refine(tY _ _).to ?_
   simp -implicitDefEqProofs only[aA,seval]
 · simp -implicitDefEqProofs only[h4,aA,seval]
   refine(tY _ _).to ?_
   simp -implicitDefEqProofs only[aA,seval]
   simp at h4;simp []
def sC(x y:Tm):Tm×Int:=if x.k=1∨y.k=1 then(Tm.zero,2) else if x.k≠2∨y.k≠3∨y.ts.length=0 then(Tm.zero,3) else match nQ x y with
 | some u=>(u,0)
 | none=>(Tm.zero,1)
abbrev pO:=zi tI_3 (zi zI_3 (zi aZ (zi tI_31 (zi zI_31 (zi aO (zi bH (zi bJ (zi bZ (zi tI_66 (zi zI_66 (zi bS (zi bT (zi bU (zi bV bR))))))))))))))
theorem aXI{N:Int}(n:Int)(s:ByteArray)(x y z:Tm)(hy:cL N y)(st:aB):aD prog 328 [(Tm.mk 3 n s [x,y,z]).av] st (fun r st'=>r=.tup [(sC x y).1.av,.int .i64 (sC x y).2]∧st'=st):=by
 have eA:dM prog 31 (.slice [x.av,y.av,z.av]) (.int .i64 0)=some (.pptr x.av):=bO (av:=Tm.av) (l:=[x,y,z]) (i:=0) aO rfl (aK x)
 have g9:dM prog 31 (.slice [x.av,y.av,z.av]) (.int .i64 1)=some (.pptr y.av):=bO (av:=Tm.av) (l:=[x,y,z]) (i:=1) aO rfl (aK y)
 obtain⟨xk,xn,xs,xt⟩:=x
 obtain⟨yk,yn,ys,yt⟩:=y
 have hyl:yt.length≤4:=by
  exact hy.kind.2
 rw[aY] at eA
 simp only[aY xk,aY yk] at eA g9
 unfold sC
 simp only[aY 3,aW,aU,aY xk,aY yk,Tm.k,Tm.ts]
 refine aD.done ?_
 refine wF [1000000] 1 func328 ntmps328 rfl rfl ?_
 intro _
 simp -implicitDefEqProofs only[eA,g9,aA,↓aX,seval,pO]
 intro b hb
 have p8:∀o (p:Tm×Int) (k:Int),p=(Tm.zero,k)→(AV.tup [.agg [.int .i64 0,.int .i64 0,.str ⟨#[]⟩,.fslice []],.int .i64 k]).soft=.tup [p.1.av,.int .i64 p.2]∧aL (st.aC b o) st:=fun o p k e=>by
  rw[e]
  exact⟨by simp only[Tm.zero,aY,eG,eJ,d7,mR,nX,aW,aU,aU],(aL.refl _).aC hb⟩
 refine cS (fun h=>?_) (fun h=>?_)
 case refine_2=>
  have h':xk=1:=by simpa using h
  simp -implicitDefEqProofs only[h,aG,aA,seval,pO]
  exact p8 _ _ 2 (aH (.inl h'))
 have hx1:xk≠1:=by simpa using h
 simp -implicitDefEqProofs only[h,aA,seval,pO]
 refine aS (fun h1=>?_) (fun h1=>?_)
 · have h':yk=1:=by simpa using h1
   simp -implicitDefEqProofs only[aG,aA,seval,pO]
   exact p8 _ _ 2 (aH (.inr h'))
 have hy1:yk≠1:=by simpa using h1
 rw[aE (fun h2=>h2.elim hx1 hy1)]
 simp -implicitDefEqProofs only[aA,seval,pO]
 refine cS (fun h4=>?_) (fun h4=>?_)
 case refine_2=>
  have h':xk≠2:=by simpa using h4
  simp -implicitDefEqProofs only[h4,aG,aA,seval,pO]
  exact p8 _ _ 3 (aH (.inl h'))
 have hx2:xk=2:=by simpa using h4
 simp -implicitDefEqProofs only[h4,aA,seval,pO]
 refine cS (fun h5=>?_) (fun h5=>?_)
 case refine_2=>
  have h':yk≠3:=by simpa using h5
  simp -implicitDefEqProofs only[h5,aG,aA,seval,pO]
  exact p8 _ _ 3 (aH (.inr (.inl h')))
 have hy3:yk=3:=by simpa using h5
 simp -implicitDefEqProofs only[h5,aF,aA,seval,pO]
 refine aS (fun h6=>?_) (fun h6=>?_)
 · have h':yt.length=0:=by simp at h6;simp [h6]
   simp -implicitDefEqProofs only[aG,aA,seval,pO]
   exact p8 _ _ 3 (aH (.inr (.inr h')))
 have hyt:yt.length≠0:=by simp at h6;simpa using h6
 rw[aE (by simp [hx2,hy3];intro h7;simp [h7] at hyt)]
 simp -implicitDefEqProofs only[aA,seval,pO]
 have hno:¬(1≤xn∧xn≤yt.length)→(match nQ (.mk xk xn xs xt) (.mk yk yn ys yt) with | some u=>(u,(0:Int)) | none=>(Tm.zero,1))=(Tm.zero,(1:Int)):=fun h'=>by
  have ea:nQ (.mk xk xn xs xt) (.mk yk yn ys yt)=none:=aE h'
  rw[ea]
 refine cS (fun h7=>?_) (fun h7=>?_)
 case refine_2=>
  have h':xn<1:=by simpa using h7
  simp -implicitDefEqProofs only[h7,aG,aA,seval,pO]
  exact p8 _ _ 1 (hno (by omega))
 have hl1:¬xn<1:=by simpa using h7
 simp -implicitDefEqProofs only[h7,aF,aA,seval,pO]
 refine aS (fun h8=>?_) (fun h8=>?_)
 · have h':(yt.length:Int)<xn:=by simpa using h8
   simp -implicitDefEqProofs only[aG,aA,seval,pO]
   exact p8 _ _ 1 (hno (by omega))
 have hl2:¬(yt.length:Int)<xn:=by simpa using h8
 have h':1≤xn∧xn≤yt.length:=by omega
 obtain⟨i,hi⟩:∃i:Nat,xn - 1=i:=⟨(xn - 1).toNat,by omega⟩
 have hlt:i<yt.length:=by omega
 obtain⟨u,hu⟩:∃u,yt[i]?=some u:=⟨_,dZ hlt⟩
 have ea:nQ (.mk xk xn xs xt) (.mk yk yn ys yt)=some u:=by
  refine(aH h').trans ?_
  show yt[(xn - 1).toNat]?=some u
  rw[hi,jU,hu]
 rw[ea]
 have hw:IntKind.i64.wrap (xn - 1)=(i:Int):=by rw[wrap64 (by omega) (by omega)];exact hi
 have S9:=bO (av:=Tm.av) (P:=prog) aO hu (aK u)
 simp -implicitDefEqProofs only[bY,cB,fB (bY _),eX (a7 _),S9,hw,a7,aK,aG,aA,seval,pO]
 exact⟨by simp only[eJ,d7,Tm.soft,aW,aU,Tm.soft],(aL.refl _).aC hb⟩
theorem a3Z(n:Int):(oP n).av=(Tm.mk 2 n ⟨#[]⟩ []).av:=rfl
def cY(N:Nat)(σ:Sub):List AV:=(List.range N).map fun i:Nat=>cellOf (σ (i:Int))
theorem D7(N:Nat)(σ:Sub):∀e∈cY N σ,e.width=4:=by intro e h;simp only[cY,cU] at h;obtain⟨i,_,rfl⟩:=h;exact L0 _
theorem BP(N:Nat)(σ:Sub){i:Nat}(h:i<N):(cY N σ)[i]?=some (cellOf (σ (i:Int))):=by
 simp only[cY,nO,List.getElem?_range h,oD]
theorem aUN(N:Nat)(σ:Sub){i:Nat}(h:i<N)(u:Tm):(cY N σ).set i u.av=cY N (σ.set (i:Int) u):=by
 apply KM
 intro j
 by_cases hj:j<N
 · rw[BP N _ hj,List.getElem?_set]
   by_cases e:i=j
   · subst e
     simp [cY,hj,Sub.set,cellOf]
   · rw[aE e,BP N _ hj]
     simp only[Sub.set]
     rw[aE (by omega)]
 · rw[yS (by simp [cY];omega),yS (by simp [cY];omega)]
def gD(N:Nat)(st:aB)(b:Nat)(σ:Sub):Prop:=st b=some (.cells ((cY N σ).flatMap AV.cells))
theorem gD.mid{N:Nat}{st:aB}{b:Nat}{σ:Sub}(h:gD N st b σ){i:Nat}(hi:i<N) :
 ∃A B,st b=some (.cells (A++(cellOf (σ (i:Int))).cells++B))∧A.length=i*4∧∀(u:Tm),gD N (st.aC b (.cells (A++u.av.cells++B))) b (σ.set (i:Int) u):=by
 obtain⟨A,B,h1,h2,h3⟩:=a0O (D7 N σ) (BP N σ hi)
 refine⟨A,B,by rw[←h1];exact h,h2,fun u=>?_⟩
 unfold gD
 rw[aB.aP,←aUN N σ hi,h3]
theorem gD.aC{N:Nat}{st:aB}{b x:Nat}{σ:Sub}{o:AO}(h:gD N st b σ)(hx:x≠b):gD N (st.aC x o) b σ:=by
 unfold gD
 rw[aB.aJ _ _ (c9 hx)]
 exact h
theorem gD.none{N:Nat}{st:aB}{b:Nat}{σ:Sub}(h:gD N st b σ){i:Nat}(hi:i<N)(hn:σ (i:Int)=Option.none) :
 ∃D,st b=some (.cells D)∧D[i*4+0]?=some (.int .i64 0)∧i*4+4≤D.length:=by
 obtain⟨A,B,e1,e2,_⟩:=h.mid hi
 rw[hn] at e1
 obtain⟨r1,r2,r3⟩:=ZB (B:=B) (C:=(cellOf Option.none).cells) e2 rfl
 exact⟨_,e1,r3,r1⟩
theorem gD.some{N:Nat}{st:aB}{b:Nat}{σ:Sub}(h:gD N st b σ){i:Nat}(hi:i<N){k n:Int}{s:ByteArray}{ts:List Tm}(hn:σ (i:Int)=Option.some (.mk k n s ts)) :
 ∃D,st b=Option.some (.cells D)∧D[i*4+0]?=Option.some (.int .i64 k)∧i*4+4≤D.length∧List.take 4 (List.drop (i*4) D)= [.int .i64 k,.int .i64 n,.str s,.slice (ts.map Tm.av)]:=by
 obtain⟨A,B,e1,e2,_⟩:=h.mid hi
 rw[hn] at e1
 simp only[cellOf,aY,AV.cells] at e1
 obtain⟨r1,r2,r3⟩:=ZB (B:=B) (C:=[.int .i64 k,.int .i64 n,.str s,.slice (ts.map Tm.av)]) e2 rfl
 exact⟨_,e1,r3,r1,r2⟩
theorem gD.set{N:Nat}{st:aB}{b:Nat}{σ:Sub}(h:gD N st b σ){i:Nat}(hi:i<N)(u:Tm) :
 ∃D D',st b=Option.some (.cells D)∧i*4+4≤D.length∧aG D (i*4) u.av.cells=D'∧gD N (st.aC b (.cells D')) b (σ.set (i:Int) u):=by
 obtain⟨A,B,e1,e2,e3⟩:=h.mid hi
 obtain⟨p1,p2⟩:=VD (B:=B) (C:=(cellOf (σ (i:Int))).cells) (x:=u.av.cells) e2 (aYU _) (bY u)
 exact⟨_,_,e1,p2,p1,e3 u⟩
abbrev FZ:=zi tI_3 (zi zI_3 (zi aZ (zi tI_31 (zi zI_31 (zi aO (zi bH (zi bJ (zi bZ (zi tI_66 (zi zI_66 (zi bS (zi bT (zi bU (zi bV bR))))))))))))))
theorem ZU{N:Nat}{σ:Sub}(hok:cW (cL N) σ){f:Nat}{t u:Tm}(hw:gN σ f t u)(ht:cL N t)(b:Nat)(st:aB)(hS:gD N st b σ):aD prog 354 [t.av,.mslice b 0 N 4] st (fun r st'=>r=u.av∧st'=st):=by
 refine aD.done ?_
 refine wF [1000000,2] 2 func354 ntmps354 rfl rfl ?_
 intro _
 simp -implicitDefEqProofs only[aA,seval,FZ]
 intro b2 h2 b4 h4
 have hne:b4≠b2:=by rintro rfl;rw[aB.aP] at h4;cases h4
 have hn4:st b4=none:=by rw[aB.aJ st _ hne] at h4;exact h4
 have hb2:b2≠b:=by rintro rfl;rw[gD,h2] at hS;cases hS
 have hb4:b4≠b:=by rintro rfl;rw[gD,hn4] at hS;cases hS
 refine iN (σ:=Nat×Tm) [1000000,2] [1,2,4] (fun p=>gN σ p.1 p.2 u∧cL N p.2) (fun p=>[]) (fun p=>(st.aC b2 (.cells p.2.av.cells)).aC b4 (.cells [.int .i64 0,.int .i64 0,.str ⟨#[]⟩,.fslice []])) (fun p=>p.1) (by decide +kernel) ⟨(f,t),⟨hw,ht⟩,aN.mk (by simp -implicitDefEqProofs only[aA,seval])⟩ ?_
 rintro⟨g,t⟩ ⟨hw,ht⟩
 obtain⟨k,n,s,ts⟩:=t
 simp only at hw ht
 simp only[aY]
 have kT:k≠1∨σ n=none→u=.mk k n s ts:=fun h=>by
  cases hw with
  | stop _=>rfl
  | go h1 h2 _=>
   simp only[Tm.k] at h1
   rcases h with h | h
   · exact absurd h1 h
   · rw[show σ n=some _ from h2] at h;cases h
 simp -implicitDefEqProofs only[hne.symm,aA,seval,FZ]
 refine cS (fun h=>?_) (fun h=>?_)
 case refine_2=>
  simp -implicitDefEqProofs only[h,aG,hne.symm,aA,seval,FZ]
  simp only[nM,cP] at h
  rw[kT (.inl h),←aY]
  exact⟨Tm.soft _,((aL.refl _).aC h2).aC hn4⟩
 simp only[bL] at h
 subst h
 obtain⟨hn0,hn1,_⟩:=ht.var
 obtain⟨i,rfl⟩:∃i:Nat,n=i:=⟨n.toNat,by omega⟩
 have hi:i<N:=by omega
 have hi':decide ((i:Int)<(N:Int))=true:=by simp;omega
 simp -implicitDefEqProofs only[bX,hi',jF,hne.symm,aA,seval,FZ]
 have hat:=pB (P:=prog) (b:=b) (len:=N) aO hi
 cases hw with
 | stop hs=>
  obtain⟨D,e1,e2,_⟩:=hS.none hi (hs rfl)
  simp -implicitDefEqProofs only[hat,e1,e2,bX,aG,hne.symm,hb2.symm,hb4.symm,aA,seval,FZ]
  exact⟨by rw[←aY,Tm.soft],((aL.refl _).aC h2).aC hn4⟩
 | go h1 h2' h3=>
  simp only[Tm.n] at h2'
  have ho:=hok _ _ h2'
  rename_i g' u'
  obtain⟨k',n',s',ts'⟩:=u'
  have hk':¬k'=0:=by have:=ho.kind.1;omega
  obtain⟨D,e1,e2,e3,e4⟩:=hS.some hi h2'
  have e5:i*4+0+4≤D.length:=e3
  simp -implicitDefEqProofs only[hat,e1,e2,e3,e4,hk',b9,aG,hne.symm,hb2.symm,hb4.symm,aA,seval,FZ]
  rw[aB.yK hne,aB.nL _ _ _ hne]
  refine⟨(g',.mk k' n' s' ts'),KV _,⟨h3,ho⟩,?_⟩
  simp only[aY]
  exact aN.mk (by simp -implicitDefEqProofs only[aA,seval])
theorem gD.acc{N:Nat}{st:aB}{b bW:Nat}{σ:Sub}{l:List AV}(h:gD N st b σ)(hb:l≠[]→st bW=Option.none):gD N (a8 st bW l) b σ:=by
 cases l with
 | nil=>exact h
 | cons x l=>exact h.aC (by rintro rfl;rw[gD,hb (by simp)] at h;cases h)
abbrev JR:=zi tI_3 (zi zI_3 (zi aZ (zi tI_4 (zi zI_4 (zi cG (zi tI_31 (zi zI_31 (zi aO (zi bH (zi bJ (zi bZ (zi tI_46 (zi zI_46 (zi dK (zi fM (zi fJ (zi fX (zi tI_66 (zi zI_66 (zi bS (zi bT (zi bU (zi bV bR)))))))))))))))))))))))
theorem aU5{N:Nat}{σ:Sub}{R:Int→Tm}{rk:Int→Nat}{B:Nat}(G:Good σ R rk B)(hok:cW (bF N) σ)(hN:N≤1048576){n:Int}(hn:σ n=none)(t:Tm)(ht:bF N t)(b:Nat)(st:aB)(hS:gD N st b σ) :
 aD prog 355 [.int .i64 n,t.av,.mslice b 0 N 4] st (fun r st'=>r=.bool (decide (n∈(t.aM R).vl))∧st'=st):=by
 refine aD.done ?_
 refine wF [1000000] 3 func355 ntmps355 rfl rfl ?_
 intro _
 simp -implicitDefEqProofs only[aA,seval,JR]
 have h0:=HG t [] 0 st (Tm.vP t (ht.1.2.1)) (fun h=>absurd rfl h) (by have:=ht.2;simp only[bA];omega)
 simp only[aU,kB,yY] at h0
 refine h0.mono ?_
 rintro _ _ ⟨b0,rfl,rfl,hb0⟩
 obtain⟨v1,v2,_⟩:=XL t (Tm.vP t (ht.1.2.1)) []
 simp -implicitDefEqProofs only[aA,seval]
 refine iN (σ:=Nat×List Int×Nat) [1000000] [0,2]
  (fun p=>p.1≤p.2.1.length∧p.2.1.Nodup∧(∀w∈p.2.1,w∈VN N)∧(p.2.1.map iv≠[]→st p.2.2=none)∧(∀w∈p.2.1.take p.1,w≠n∧∀u,σ w=some u→∀v∈u.vl,v∈p.2.1)∧(∀w∈p.2.1,n∈(R w).vl→n∈(t.aM R).vl)∧(n∈(t.aM R).vl→∃w∈p.2.1,n∈(R w).vl))
  (fun p=>[(6,.bool false),(7,bM 1 p.2.2 (p.2.1.map iv)),(8,.int .i64 p.1)]) (fun p=>a8 st p.2.2 (p.2.1.map iv)) (fun p=>N - p.1) (by decide +kernel)
  ⟨(0,t.vars [],b0),⟨kA _,v2 pR,fun w hw=>?_,hb0,by simp,fun w hw hm=>?_,fun hm=>?_⟩,aN.mk (by simp -implicitDefEqProofs only[aA,↓aX,seval])⟩ ?_
 · rcases (v1 w).1 hw with h | h
   · cases h
   · exact x8.2 (ht.1.2.2 w h)
 · rcases (v1 w).1 hw with h | h
   · cases h
   · exact(A4 t).2 ⟨w,h,hm⟩
 · obtain⟨w,hw,hm⟩:=(A4 t).1 hm
   exact⟨w,(v1 w).2 (.inr hw),hm⟩
 rintro⟨i,W,bW⟩ ⟨i1,i2,i3,i4,i5,i6,i7⟩
 simp only at i1 i2 i3 i4 i5 i6 i7
 have haL:=vE (w:=1) (b:=bW) (l:=W.map iv) fX
 have hWl:=FG i2 (fun m hm=>x8.1 (i3 m hm))
 simp -implicitDefEqProofs only[haL,aF,aA,seval]
 refine aS (fun h=>?_) (fun h=>?_)
 case refine_2=>
  simp only[cP,iY] at h
  obtain rfl:i=W.length:=by omega
  rw[eN] at i5
  simp -implicitDefEqProofs only[aA,seval]
  have hno:n∉(t.aM R).vl:=fun hm=>by
   obtain⟨w,hw,hnw⟩:=i7 hm
   exact a9F G i5 w hw hnw
  exact⟨by simp only[hno,b9,uP],aL.a8 (aL.refl _) i4⟩
 simp only[bL,iY] at h
 obtain⟨w,hx⟩:∃w,W[i]?=some w:=⟨_,dZ h⟩
 have iG:=cJ hx
 have hat:=YY (b:=bW) (l:=W.map iv) (i:=i) (x:=iv w) dK (by rw[nO,hx];try rfl)
 obtain⟨gP,qB⟩:=YZ (st:=st) (b:=bW) hx
 have hw:=bE (n:=(i:Int)+1)
 simp -implicitDefEqProofs only[hat,gP,qB,wU,aA,seval,JR]
 refine aS (fun h2=>?_) (fun h2=>?_)
 · simp only[bL] at h2
   subst h2
   simp -implicitDefEqProofs only[aA,seval]
   have hm:w∈(t.aM R).vl:=i6 w iG (by rw[G.free hn,A5];simp)
   exact⟨by simp only[hm,bX,uP],aL.a8 (aL.refl _) i4⟩
 simp only[cP] at h2
 simp -implicitDefEqProofs only[hat,gP,qB,wU,aA,seval,JR]
 obtain⟨hw0,hw1⟩:=x8.1 (i3 w iG)
 obtain⟨j,rfl⟩:∃j:Nat,w=j:=⟨w.toNat,by omega⟩
 have hj:j<N:=by omega
 have hj':decide ((j:Int)<(N:Int))=true:=by simp;omega
 have aNK:=pB (P:=prog) (b:=b) (len:=N) aO hj
 have hSA:=hS.acc i4
 have htk:W.take (i+1)=W.take i++ [(j:Int)]:=by rw[fS,hx];try rfl
 have step:∀W':List Int,(∀v∈W,v∈W')→(∀u,σ (j:Int)=some u→∀v∈u.vl,v∈W')→∀w∈W'.take (i+1),W'.take (i+1)=W.take (i+1)→w≠n∧∀u,σ w=some u→∀v∈u.vl,v∈W':=by
  intro W' qF nG w hw' hte
  rw[hte,htk] at hw'
  rcases fF.1 hw' with hw' | hw'
  · exact⟨(i5 w hw').1,fun u hu v hv=>qF v ((i5 w hw').2 u hu v hv)⟩
  · simp only[c8,dX,eC] at hw'
    subst hw'
    exact⟨h2,nG⟩
 cases hs:σ (j:Int) with
 | none=>
  obtain⟨D,e1,e2,_⟩:=hSA.none hj hs
  simp -implicitDefEqProofs only[hj',aNK,e1,e2,bX,jF,hat,gP,qB,wU,hw,aA,seval,JR]
  exact⟨(i+1,W,bW),by simp only;omega,⟨h,i2,i3,i4,fun w hw'=>step W (fun _ h=>h) (fun u hu=>by rw[hs] at hu;cases hu) w hw' rfl,i6,i7⟩,aN.mk (by simp -implicitDefEqProofs only[aA,seval])⟩
 | some u=>
  obtain⟨k',n',s',ts'⟩:=u
  have ho:=hok _ _ hs
  have hk':¬k'=0:=by have:=ho.1.kind.1;omega
  obtain⟨D,e1,e2,e3,e4⟩:=hSA.some hj hs
  simp -implicitDefEqProofs only[hj',aNK,e1,e2,e3,e4,hk',b9,jF,hat,gP,qB,wU,aA,seval,JR]
  have hwf:=Tm.vP _ (ho.1.2.1)
  have hc:=HG (.mk k' n' s' ts') W bW st hwf i4 (by have:=ho.2;omega)
  obtain⟨u1,u2,m,u3⟩:=XL _ hwf W
  rw[aY] at hc
  refine hc.mono ?_
  rintro _ _ ⟨b',rfl,rfl,hb'⟩
  generalize (Tm.mk k' n' s' ts').vars W=W' at *
  have hte:W'.take (i+1)=W.take (i+1):=by rw[u3,DQ (by omega)]
  have hbd:(Tm.mk k' n' s' ts').aM R=R (j:Int):=(G.bound hs).symm
  simp -implicitDefEqProofs only[hw,aA,seval]
  refine⟨(i+1,W',b'),by simp only;omega,⟨by rw[u3];simp only[dL];omega,u2 i2,fun w hw'=>?_,hb',fun w hw'=>step W' (fun v hv=>(u1 v).2 (.inl hv)) (fun u hu v hv=>?_) w hw' hte,fun w hw' hm=>?_,fun hm=>?_⟩,aN.mk (by simp -implicitDefEqProofs only[aA,seval])⟩
  · rcases (u1 w).1 hw' with h | h
    · exact i3 w h
    · exact x8.2 (ho.1.2.2 w h)
  · rw[hs] at hu
    cases hu
    exact(u1 v).2 (.inr hv)
  · rcases (u1 w).1 hw' with h | h
    · exact i6 w h hm
    · refine i6 (j:Int) iG ?_
      rw[←hbd]
      exact(A4 _).2 ⟨w,h,hm⟩
  · obtain⟨w,h,hm⟩:=i7 hm
    exact⟨w,(u1 w).2 (.inl h),hm⟩
def AN(N b:Nat)(st:aB)(σ':Sub)(st':aB):Prop:=gD N st' b σ'∧∀x o,st x=some o→x≠b→st' x=some o
theorem AN.refl{N b:Nat}{st:aB}{σ:Sub}(h:gD N st b σ):AN N b st σ st:=⟨h,fun _ _ h _=>h⟩
theorem AN.trans{N b:Nat}{st s2 s3:aB}{σ2 σ3:Sub}(x:AN N b st σ2 s2)(y:AN N b s2 σ3 s3):AN N b st σ3 s3:=⟨y.1,fun q o h hn=>y.2 q o (x.2 q o h hn) hn⟩
def GX(N:Nat)(f:Nat)(b:Nat)(σ:Sub)(a c:Tm)(r:Bool)(σ':Sub):Prop:=∀st,gD N st b σ→aD prog f [a.av,c.av,.mslice b 0 N 4] st (fun r' st'=>r'=.bool r∧AN N b st σ' st')
abbrev nY:=zi tI_3 (zi zI_3 (zi aZ (zi tI_4 (zi zI_4 (zi cG (zi tI_9 (zi zI_9 (zi cF (zi tI_31 (zi zI_31 (zi aO (zi bH (zi bJ (zi bZ (zi tI_66 (zi zI_66 (zi bS (zi bT (zi bU (zi bV bR))))))))))))))))))))
theorem aOQ(N:Nat)(hN:N≤1048576)(g:Nat)(bb:Nat)(IH:∀(σ:Sub) (a b:Tm) (r:Bool) (σ':Sub) (add:List Int),cT σ→cW (bF N) σ→bF N a→bF N b→dD g σ a b=some (r,σ',add)→GX N 306 bb σ a b r σ')
 (σ:Sub) (a b:Tm) (r:Bool) (σ':Sub) (add:List Int) (hg:cT σ) (hok:cW (bF N) σ) (ha0:bF N a) (hb0:bF N b) (h:dD (g+1) σ a b=some (r,σ',add))
 (aOA:(wk σ a).k≠1→(wk σ b).k=1→GX N 306 bb σ (wk σ b) (wk σ a) r σ'):GX N 306 bb σ a b r σ':=by
 intro st hS
 obtain⟨rk,B,G⟩:=hg.rs
 obtain⟨fa,wa⟩:=G.wk a
 obtain⟨fb,wb⟩:=G.wk b
 have NB:cW (cL N) σ:=fun n u hu=>(hok n u hu).1
 have hca:=fun st (hS:gD N st bb σ)=>ZU NB wa ha0.1 bb st hS
 have hcb:=fun st (hS:gD N st bb σ)=>ZU NB wb hb0.1 bb st hS
 have ea:=wa.end
 have eb:=wb.end
 have hsa:=wa.all (p:=bF N) hok ha0
 have hsb:=wb.all (p:=bF N) hok hb0
 replace h:=KC h
 generalize wk σ a=a1 at *
 generalize wk σ b=b1 at *
 clear wa wb
 refine wF [1000000,3,4] 3 func306 ntmps306 rfl rfl ?_
 intro fD
 simp -implicitDefEqProofs only[aA,seval,nY]
 intro b4 h4 b5 h5
 have h54:b5≠b4:=by rintro rfl;rw[aB.aP] at h5;cases h5
 have hn5:st b5=none:=by rw[aB.aJ st _ h54] at h5;exact h5
 have h4b:b4≠bb:=by rintro rfl;rw[gD,h4] at hS;cases hS
 have h5b:b5≠bb:=by rintro rfl;rw[gD,hn5] at hS;cases hS
 have hS':∀o o',gD N ((st.aC b4 o).aC b5 o') bb σ:=fun o o'=>(hS.aC h4b).aC h5b
 have hQ:∀o o',AN N bb st σ ((st.aC b4 o).aC b5 o'):=fun o o'=>⟨hS' o o',fun x p h _=>by
  rw[aB.aJ _ _ (by rintro rfl;rw[hn5] at h;cases h),aB.aJ _ _ (by rintro rfl;rw[h4] at h;cases h)];exact h⟩
 simp -implicitDefEqProofs only[bY,fB (bY a),eX (a7 a),h54.symm,aA,seval]
 refine(hca _ (hS' _ _)).to ?_
 simp -implicitDefEqProofs only[bY,fB (bY b),eX (a7 b),cB,aG,h54,h54.symm,aA,seval,nY]
 rw[aB.yK h54,aB.nL _ _ _ h54]
 refine(hcb _ (hS' _ _)).to ?_
 obtain⟨ka,na,sa,tsa⟩:=a1
 obtain⟨kb,nb,sb',tsb⟩:=b1
 obtain⟨hla,aNW⟩:=Tm.qO (hsa.1.small)
 obtain⟨hlb,aNX⟩:=Tm.qO (hsb.1.small)
 have iP:∀o o',AN N bb st σ ((st.aC b4 o).aC b5 o'):=hQ
 have hka:=fun h=>(rL N) _ h hsa
 have hkb:=fun h=>(rL N) _ h hsb
 simp only[aY]
 simp only[Tm.k,Tm.n,Tm.ts] at h ea eb aOA hka hkb
 simp -implicitDefEqProofs only[c7,aG,h54.symm,aA,seval,nY]
 have var:∀ {n:Int} {t:Tm},n∈VN N→σ n=none→bF N t→kQ σ n t=(r,σ',add)→∀s0,gD N s0 bb σ→aD prog 355 [.int .i64 n,t.av,.mslice bb 0 N 4] s0 (fun r' st'=>r'=.bool (!r)∧st'=s0):=by
  intro n t _ hn ht hb s0 hs0
  have:=aU5 G hok hN hn t ht bb s0 hs0
  unfold kQ at hb
  split at hb
  · rename_i hm
    cases hb
    simpa [hm] using this
  · rename_i hm
    cases hb
    simpa [hm] using this
 rcases h with ⟨h1,h2,h3,rfl,rfl,rfl⟩ | ⟨h1,h2,h3⟩ | ⟨h1,h2,h3⟩ | ⟨h1,h2,h3,h4⟩ | ⟨h1,h2,h3,rfl,rfl,rfl⟩
 · subst h1 h2 h3
   simp -implicitDefEqProofs only[bX,jF,h54.symm,aA,seval,nY]
   exact iP _ _
 · subst h1
   have hin:=x8.2 (hsa.1.2.2 na (by rw[Tm.oA rfl];simp))
   obtain⟨hn0,hn1⟩:=x8.1 hin
   have hcw:=var hin (ea rfl) hsb h3 _ (hS' (.cells [.int .i64 1,.int .i64 na,.str sa,.slice (tsa.map Tm.av)]) (.cells [.int .i64 kb,.int .i64 nb,.str sb',.slice (tsb.map Tm.av)]))
   have hna:=ea rfl
   rw[aY] at hcw
   obtain⟨i,rfl⟩:∃i:Nat,na=i:=⟨na.toNat,by omega⟩
   have hi:i<N:=by omega
   have hat:=pB (P:=prog) (b:=bb) (len:=N) aO hi
   have h6:kb=1→¬(i:Int)=nb:=fun e1 e=>h2 ⟨e1,e⟩
   have tail:∀(s0:aB),s0=((st.aC b4 (.cells [.int .i64 1,.int .i64 i,.str sa,.slice (tsa.map Tm.av)])).aC b5 (.cells [.int .i64 kb,.int .i64 nb,.str sb',.slice (tsb.map Tm.av)]))→r=true →
    ∃D D',s0 bb=some (.cells D)∧i*4+4≤D.length∧aG D (i*4) [.int .i64 kb,.int .i64 nb,.str sb',.slice (tsb.map Tm.av)]=D'∧AN N bb st σ' (s0.aC bb (.cells D')):=by
    rintro _ rfl rfl
    unfold kQ at h3
    split at h3
    · cases h3
    · cases h3
      obtain⟨D,D',e1,e2,e3,e4⟩:=(hS' (.cells [.int .i64 1,.int .i64 i,.str sa,.slice (tsa.map Tm.av)]) (.cells [.int .i64 kb,.int .i64 nb,.str sb',.slice (tsb.map Tm.av)])).set hi (.mk kb nb sb' tsb)
      refine⟨D,D',e1,e2,by rw[←e3,aY];try rfl,e4,fun x o hx hxb=>?_⟩
      rw[aB.aJ _ _ hxb]
      exact(hQ _ _).2 x o hx hxb
   by_cases h5:kb=1
   · subst h5
     simp -implicitDefEqProofs only[bX,h6 rfl,b9,jF,h54.symm,aA,seval,nY]
     refine hcw.to ?_
     cases r with
     | false=>
      simp -implicitDefEqProofs only[aA,seval]
      unfold kQ at h3
      split at h3
      · cases h3
        exact iP _ _
      · cases h3
     | true=>
      obtain⟨D,D',e1,e2,e3,e4⟩:=tail _ rfl rfl
      simp -implicitDefEqProofs only[hat,e1,e2,aG,h54.symm,aA,seval,nY]
      rw[←e3] at e4
      exact e4
   · simp -implicitDefEqProofs only[bX,h5,b9,jF,h54.symm,aA,seval,nY]
     refine hcw.to ?_
     cases r with
     | false=>
      simp -implicitDefEqProofs only[aA,seval]
      unfold kQ at h3
      split at h3
      · cases h3
        exact iP _ _
      · cases h3
     | true=>
      obtain⟨D,D',e1,e2,e3,e4⟩:=tail _ rfl rfl
      simp -implicitDefEqProofs only[hat,e1,e2,aG,h54.symm,aA,seval,nY]
      rw[←e3] at e4
      exact e4
 · subst h2
   have hsw:=aOA h1 rfl
   simp only[GX,aY] at hsw
   simp -implicitDefEqProofs only[bX,h1,b9,jF,h54.symm,aA,seval,nY]
   refine(hsw _ (hS' _ _)).mono ?_
   rintro _ s2 ⟨rfl,hp⟩
   simp -implicitDefEqProofs only[aA,seval]
   exact(hQ _ _).trans hp
 · rw[uH] at h3
   simp only[Tm.k,Tm.n,Tm.s,Tm.ts] at h3
   obtain⟨rfl,rfl,rfl,hlen⟩:=h3
   have dA:decide ((tsa.length:Int)=(tsb.length:Int))=true:=by simp [hlen]
   simp -implicitDefEqProofs only[bX,b9,dA,jF,h54.symm,aF,h1,aA,seval,nY]
   have hS0:=hS' (.cells [.int .i64 ka,.int .i64 na,.str sa,.slice (tsa.map Tm.av)]) (.cells [.int .i64 ka,.int .i64 na,.str sa,.slice (tsb.map Tm.av)])
   have hQ0:=hQ (.cells [.int .i64 ka,.int .i64 na,.str sa,.slice (tsa.map Tm.av)]) (.cells [.int .i64 ka,.int .i64 na,.str sa,.slice (tsb.map Tm.av)])
   have e4:((st.aC b4 (.cells [.int .i64 ka,.int .i64 na,.str sa,.slice (tsa.map Tm.av)])).aC b5 (.cells [.int .i64 ka,.int .i64 na,.str sa,.slice (tsb.map Tm.av)])) b4=some (.cells [.int .i64 ka,.int .i64 na,.str sa,.slice (tsa.map Tm.av)]):=by rw[aB.aJ _ _ h54.symm,aB.aP]
   have e5:((st.aC b4 (.cells [.int .i64 ka,.int .i64 na,.str sa,.slice (tsa.map Tm.av)])).aC b5 (.cells [.int .i64 ka,.int .i64 na,.str sa,.slice (tsb.map Tm.av)])) b5=some (.cells [.int .i64 ka,.int .i64 na,.str sa,.slice (tsb.map Tm.av)]):=aB.aP _ _ _
   generalize (st.aC b4 (.cells [.int .i64 ka,.int .i64 na,.str sa,.slice (tsa.map Tm.av)])).aC b5 (.cells [.int .i64 ka,.int .i64 na,.str sa,.slice (tsb.map Tm.av)])=s0 at *
   refine eH (σ:=Sub×List Int×aB) [1000000,3,4] [2,3,4] tsa
    (fun i p=>cT p.1∧cW (bF N) p.1∧AN N bb s0 p.1 p.2.2∧eE g p.1 (tsa.drop i) (tsb.drop i)=some (r,σ',p.2.1))
    (fun i _=>[(6,.bool false),(7,.int .i64 i)]) (fun _ p=>p.2.2) (by decide +kernel)
    ⟨(σ,add,s0),⟨hg,hok,AN.refl hS0,h4⟩,aN.mk (by simp -implicitDefEqProofs only[aA,↓aX,seval])⟩ (fun i x p hx hlt bQ hdr hinv=>?_) (fun p hge hinv=>?_)
   case refine_2=>
    obtain⟨σi,rest,si⟩:=p
    obtain⟨i1,i2,i3,i5⟩:=hinv
    simp only at i1 i2 i3 i5
    have f4:=i3.2 b4 _ e4 h4b
    rw[j8,hlen,j8] at i5
    simp only[eE,Option.some.injEq,Prod.mk.injEq] at i5
    obtain⟨rfl,rfl,rfl⟩:=i5
    simp -implicitDefEqProofs only[hge,f4,aF,aA,seval,nY]
    exact hQ0.trans i3
   obtain⟨σi,rest,si⟩:=p
   obtain⟨i1,i2,i3,i5⟩:=hinv
   simp only at i1 i2 i3 i5
   obtain⟨y,hy⟩:∃y,tsb[i]?=some y:=⟨_,dZ (by omega)⟩
   have CD:tsb.drop i=y::tsb.drop (i+1):=by
    obtain⟨h1,h2⟩:=fR.1 hy
    rw[pQ h1,h2]
   rw[hdr,CD,eE] at i5
   have f4:=i3.2 b4 _ e4 h4b
   have f5:=i3.2 b5 _ e5 h5b
   have hw:=bE (n:=(i:Int)+1)
   simp -implicitDefEqProofs only[bQ,aF,f4,aA,seval,nY]
   refine wP [(0,1),(2,1),(5,1),(7,1),(10,1),(1,2),(3,1),(4,2),(6,2),(8,1),(9,2),(11,0),(12,1)] [0,2,5,7,10,1,3,4,6,8,9,12] mixed ?_
   simp -implicitDefEqProofs only[f4,f5,bO (av:=Tm.av) aO hx (aK x),bO (av:=Tm.av) aO hy (aK y),aA,seval,nY]
   cases hu:dD g σi x y with
   | none=>rw[hu] at i5;cases i5
   | some p1=>
    obtain⟨r1,σ1,tr1⟩:=p1
    rw[hu] at i5
    have hx1:bF N x:=hka h1 x (cJ hx)
    have hy1:bF N y:=hkb h2 y (cJ hy)
    have hU:=yJ i1 hu
    have hA:=(PM (rL N) g).1 σi x y r1 σ1 tr1 i1 hu i2 hx1 hy1
    refine(IH σi x y r1 σ1 tr1 i1 i2 hx1 hy1 hu si i3.1).mono ?_
    rintro _ s2 ⟨rfl,hp2⟩
    cases r1 with
    | false=>
     simp only[Option.some.injEq,Prod.mk.injEq] at i5
     obtain⟨rfl,rfl,rfl⟩:=i5
     simp -implicitDefEqProofs only[aA,seval]
     exact hQ0.trans (i3.trans hp2)
    | true=>
     simp only at i5
     cases hu2:eE g σ1 (tsa.drop (i+1)) (tsb.drop (i+1)) with
     | none=>rw[hu2] at i5;cases i5
     | some p2=>
      obtain⟨r2,σ2,tr2⟩:=p2
      rw[hu2] at i5
      simp only[Option.some.injEq,Prod.mk.injEq] at i5
      obtain⟨rfl,rfl,_⟩:=i5
      simp -implicitDefEqProofs only[aA,seval]
      exact⟨(σ1,tr2,s2),⟨hU.gW,hA,i3.trans hp2,hu2⟩,aN.mk (by simp -implicitDefEqProofs only[hw,aA,seval])⟩
 · have hd:ka=kb→na=nb→sa=sb'→¬(tsa.length:Int)=(tsb.length:Int):=by
    intro e1 e2 e3 e4
    have:qA (Tm.mk ka na sa tsa) (Tm.mk kb nb sb' tsb)=true:=uH.2 ⟨e1,e2,e3,by simp only[Tm.ts];omega⟩
    rw[h3] at this;cases this
   by_cases e1:ka=kb
   · by_cases e2:na=nb
     · by_cases e3:sa=sb'
       · have e4:=hd e1 e2 e3
         subst e1 e2 e3
         simp -implicitDefEqProofs only[b9,bX,jF,h54.symm,h1,aF,e4,aA,seval,nY]
         exact iP _ _
       · subst e1 e2
         simp -implicitDefEqProofs only[b9,bX,jF,h54.symm,h1,e3,aA,seval,nY]
         exact iP _ _
     · subst e1
       simp -implicitDefEqProofs only[b9,bX,jF,h54.symm,h1,e2,aA,seval,nY]
       exact iP _ _
   · clear hd
     simp -implicitDefEqProofs only[b9,jF,h54.symm,h1,h2,e1,aA,seval,nY]
     exact iP _ _
theorem ZT(N:Nat)(hN:N≤1048576)(bb:Nat):∀(g:Nat) (σ:Sub) (a b:Tm) (r:Bool) (σ':Sub) (add:List Int),cT σ→cW (bF N) σ→bF N a→bF N b→dD g σ a b=some (r,σ',add)→GX N 306 bb σ a b r σ'
 | 0,σ,a,b,r,σ',add,hg,hok,ha,hb,h=>by simp only[dD] at h;cases h
 | g+1,σ,a,b,r,σ',add,hg,hok,ha,hb,h=>by
  refine aOQ N hN g bb (ZT N hN bb g) σ a b r σ' add hg hok ha hb h fun h1 h2=>?_
  obtain⟨rk,B,G⟩:=hg.rs
  obtain⟨fa,wa⟩:=G.wk a
  obtain⟨fb,wb⟩:=G.wk b
  have eb:=aTE wb
  have ea:=aTE wa
  have hbn:kQ σ (wk σ b).n (wk σ a)=(r,σ',add):=by
   rcases KC h with h | h | h | h | h
   · exact absurd h.1 h1
   · exact absurd h.1 h1
   · exact h.2.2
   · exact absurd h2 h.2.1
   · exact absurd h2 h.2.1
  refine aOQ N hN 0 bb (fun σ a b r σ' add _ _ _ _ h=>by simp only[dD] at h;cases h) σ (wk σ b) (wk σ a) r σ' add hg hok (wb.all (p:=bF N) hok hb) (wa.all (p:=bF N) hok ha) ?_ fun h3=>?_
  · rw[dD,eb,ea,aE (fun h=>h1 h.2.1),aH h2,hbn]
  · rw[eb] at h3;exact absurd h2 h3
theorem aUJ(σ:Sub)(x y z:Tm):w9 σ x y z=if(sC x y).2=0 then tB σ z (sC x y).1 else((sC x y).2,σ,[]):=by
 unfold w9 sC
 split
 · simp
 split
 · simp
 cases nQ x y<;>rfl
def r8(N bb:Nat)(st:aB)(x:Int×Sub×List Int)(r:AV)(st':aB):Prop:=r=.int .i64 x.1∧AN N bb st x.2.1 st'
theorem r8.same{N bb:Nat}{st:aB}{σ:Sub}{r:AV}(h:gD N st bb σ)(k:Int)(hr:r=.int .i64 k):r8 N bb st (k,σ,[]) r st:=⟨hr,AN.refl h⟩
theorem HD{N:Nat}(hN:N≤1048576){σ:Sub}(hg:cT σ)(ho:cW (bF N) σ)(a b:Tm)(ha:bF N a)(hb:bF N b)(bb:Nat)(st:aB)(hS:gD N st bb σ) :
 aD prog 306 [a.av,b.av,.mslice bb 0 N 4] st (fun r st'=>r=.bool (iD σ a b).1∧AN N bb st (iD σ a b).2.1 st'):=by
 obtain⟨r,σ',tr',hU⟩:=tC hg ho ha hb
 obtain⟨g,mJ⟩:=hU.run
 rw[hU.eq]
 exact ZT N hN bb g σ a b r σ' tr' hg ho ha hb mJ st hS
abbrev rP:=zi tI_3 (zi zI_3 (zi aZ (zi tI_4 (zi zI_4 (zi cG (zi tI_9 (zi zI_9 (zi cF (zi tI_31 (zi zI_31 (zi aO (zi bH (zi bJ (zi bZ (zi tI_66 (zi zI_66 (zi bS (zi bT (zi bU (zi bV bR))))))))))))))))))))
theorem aU6{N:Nat}(hN:N≤1048576){σ:Sub}(hg:cT σ)(ho:cW (bF N) σ)(n:Int)(s:ByteArray)(ks:List Tm)(hb:isBuiltin s (ks.length:Int)=true)(hne:s≠⟨#[92,61]⟩)(hv:∀x∈ks,bF N x)(bb:Nat)(st:aB)(hS:gD N st bb σ) :
 aD prog 270 [(Tm.mk 3 n s ks).av,.mslice bb 0 N 4] st (r8 N bb st (dH σ s ks)):=by
 have hcs:=ZL hb
 have E5:=fun x y (hxy:ks= [x,y])=>aXJ n s x y (hv x (by simp [hxy])).1 (hv y (by simp [hxy])).1
 have aNP:=fun x y z (hxy:ks= [x,y,z])=>aXI n s x y z (hv y (by simp [hxy])).1
 have aNR:=fun x (hxy:ks= [x]) h=>aXO n s x h
 simp only[aY] at E5 aNP aNR ⊢
 refine wF [1000000] 2 func270 ntmps270 rfl rfl ?_
 intro _
 simp -implicitDefEqProofs only[aA,seval,rP]
 refine aS (fun h=>?_) (fun h=>?_)
 · have hs:s=⟨#[116,114,117,101]⟩:=by simpa using h
   have hk:=NM (ts:=ks) (by subst hs;simpa [isBuiltin] using hb)
   subst hk
   simp -implicitDefEqProofs only[aA,seval]
   exact r8.same hS _ (by simp [jA,hs])
 have ht:s≠⟨#[116,114,117,101]⟩:=by simpa using h
 simp -implicitDefEqProofs only[aA,seval]
 refine aS (fun h=>?_) (fun h=>?_)
 · have hs:s=⟨#[102,97,105,108]⟩:=by simpa using h
   have hk:=NM (ts:=ks) (by subst hs;simpa [isBuiltin] using hb)
   subst hk
   simp -implicitDefEqProofs only[aA,seval]
   exact r8.same hS _ (by simp [jA,hs])
 have hf:s≠⟨#[102,97,105,108]⟩:=by simpa using h
 simp -implicitDefEqProofs only[aA,seval]
 refine aS (fun h=>?_) (fun h=>?_)
 · have hs:s=⟨#[61]⟩:=by simpa using h
   obtain⟨x,y,rfl⟩:=wA (ts:=ks) (by subst hs;simp [isBuiltin] at hb;omega)
   have e:dH σ s [x,y]=tB σ x y:=by subst hs;rfl
   rw[e]
   have eA:dM prog 31 (.slice [x.av,y.av]) (.int .i64 0)=some (.pptr x.av):=bO (av:=Tm.av) (l:=[x,y]) (i:=0) aO rfl (aK x)
   have g9:dM prog 31 (.slice [x.av,y.av]) (.int .i64 1)=some (.pptr y.av):=bO (av:=Tm.av) (l:=[x,y]) (i:=1) aO rfl (aK y)
   simp -implicitDefEqProofs only[aA,seval]
   refine wX [(0,1),(1,1),(2,1),(3,1),(4,1),(5,1),(6,1),(7,1),(8,1),(9,0),(10,0),(11,1)] [0,1,2,3,4,5,6,7,8,11] fE mixed rfl fZ ?_
   simp -implicitDefEqProofs only[eA,g9,a7,aK,aA,seval,rP]
   refine(HD hN hg ho x y (hv x (by simp)) (hv y (by simp)) bb _ hS).mono ?_
   rintro _ s2 ⟨rfl,hP⟩
   simp -implicitDefEqProofs only[aA,seval]
   refine⟨fZ,?_⟩
   refine(tY _ _).to ?_
   simp -implicitDefEqProofs only[aA,seval]
   exact⟨fZ,rfl,hP⟩
 have he:s≠⟨#[61]⟩:=by simpa using h
 simp -implicitDefEqProofs only[aA,seval]
 refine aS (fun h=>absurd (by simpa using h) hne) (fun h=>?_)
 simp -implicitDefEqProofs only[aA,seval]
 refine aS (fun h=>?_) (fun h=>?_)
 · have hs:s=⟨#[61,61]⟩:=by simpa using h
   obtain⟨x,y,rfl⟩:=wA (ts:=ks) (by subst hs;simp [isBuiltin] at hb;omega)
   have e:dH σ s [x,y]=(jA (x.same y),σ,[]):=by subst hs;rfl
   rw[e]
   have eA:dM prog 31 (.slice [x.av,y.av]) (.int .i64 0)=some (.pptr x.av):=bO (av:=Tm.av) (l:=[x,y]) (i:=0) aO rfl (aK x)
   have g9:dM prog 31 (.slice [x.av,y.av]) (.int .i64 1)=some (.pptr y.av):=bO (av:=Tm.av) (l:=[x,y]) (i:=1) aO rfl (aK y)
   simp -implicitDefEqProofs only[aA,seval]
   refine xA mixed (by decide +kernel) (by decide +kernel) ?_
   simp -implicitDefEqProofs only[eA,g9,a7,aK,aA,seval,rP]
   refine iE (aA7 x y _) ?_
   simp -implicitDefEqProofs only[aA,seval]
   refine iE (tY _ _) ?_
   simp -implicitDefEqProofs only[aA,seval]
   exact r8.same hS _ rfl
 have hee:s≠⟨#[61,61]⟩:=by simpa using h
 simp -implicitDefEqProofs only[aA,seval]
 refine aS (fun h=>?_) (fun h=>?_)
 · have hs:s=⟨#[105,115]⟩:=by simpa using h
   obtain⟨x,y,rfl⟩:=wA (ts:=ks) (by subst hs;simp [isBuiltin] at hb;omega)
   have e:dH σ s [x,y]=if y.ev.2≠0 then(y.ev.2,σ,[]) else tB σ x (oP y.ev.1):=by subst hs;rfl
   rw[e]
   have hy:=hv y (by simp)
   have hin:=NJ (N:=N) (Tm.vS y hy.1)
   have har:=fun st=>LW y st hy.1
   generalize y.ev.1=a at *
   generalize y.ev.2=ca at *
   have eA:dM prog 31 (.slice [x.av,y.av]) (.int .i64 0)=some (.pptr x.av):=bO (av:=Tm.av) (l:=[x,y]) (i:=0) aO rfl (aK x)
   have g9:dM prog 31 (.slice [x.av,y.av]) (.int .i64 1)=some (.pptr y.av):=bO (av:=Tm.av) (l:=[x,y]) (i:=1) aO rfl (aK y)
   simp -implicitDefEqProofs only[g9,a7,aK,aA,seval,rP]
   refine(har _).to ?_
   simp -implicitDefEqProofs only[aA,seval]
   refine aS (fun h4=>?_) (fun h4=>?_)
   · simp -implicitDefEqProofs only[aA,seval]
     have h4':ca≠0:=by simpa using h4
     rw[aH h4']
     exact r8.same hS _ rfl
   have h4':ca=0:=by simpa using h4
   subst h4'
   rw[aE (by simp)]
   simp -implicitDefEqProofs only[aA,seval]
   refine wX [(0,1),(1,1),(2,1),(3,1),(4,1),(6,1),(5,0),(7,0),(8,0),(9,1)] [0,1,2,3,4,6,9] fE mixed rfl fZ ?_
   simp -implicitDefEqProofs only[eA,a7,aK,aA,seval,rP]
   refine(EA a _).to ?_
   rw[←a3Z]
   simp -implicitDefEqProofs only[aA,seval]
   refine⟨fZ,?_⟩
   refine(HD hN hg ho x (oP a) (hv x (by simp)) hin bb _ hS).mono ?_
   rintro _ s2 ⟨rfl,hP⟩
   simp -implicitDefEqProofs only[aA,seval]
   refine⟨fZ,?_⟩
   refine(tY _ _).to ?_
   simp -implicitDefEqProofs only[aA,seval]
   exact⟨fZ,rfl,hP⟩
 have his:s≠⟨#[105,115]⟩:=by simpa using h
 simp -implicitDefEqProofs only[aA,seval]
 refine aS (fun h=>?_) (fun h=>?_)
 · have hs:s=⟨#[97,114,103]⟩:=by simpa using h
   obtain⟨x,y,z,rfl⟩:=aOP (ts:=ks) (by subst hs;simp [isBuiltin] at hb;omega)
   have e:dH σ s [x,y,z]=w9 σ x y z:=rfl
   rw[e,aUJ]
   have hz:=hv z (by simp)
   have hy:=hv y (by simp)
   have hga:=aNP x y z rfl
   have hgv:(sC x y).2=0→bF N (sC x y).1:=fun h=>by
    unfold sC at h ⊢
    split at h
    · cases h
    rename_i h1
    rw[aE h1]
    split at h
    · cases h
    rename_i h2
    rw[aE h2]
    cases hu:nQ x y with
    | none=>rw[hu] at h;cases h
    | some u=>exact rL N y (fun h=>h1 (.inr h)) hy u (Y7 hu)
   generalize (sC x y).1=u at *
   generalize (sC x y).2=cu at *
   have xS:dM prog 31 (.slice [x.av,y.av,z.av]) (.int .i64 2)=some (.pptr z.av):=bO (av:=Tm.av) (l:=[x,y,z]) (i:=2) aO rfl (aK z)
   simp only[aW,aU] at hga
   simp -implicitDefEqProofs only[aA,seval,rP]
   refine(hga _).to ?_
   simp -implicitDefEqProofs only[aK,cM,cB,aA,↓aX,seval,rP]
   refine aS (fun h4=>?_) (fun h4=>?_)
   · simp -implicitDefEqProofs only[aA,seval]
     have h4':cu≠0:=by simpa using h4
     rw[aE h4']
     exact r8.same hS _ rfl
   have h4':cu=0:=by simpa using h4
   subst h4'
   rw[aH rfl]
   simp -implicitDefEqProofs only[aA,seval]
   refine wX [(0,1),(1,1),(2,1),(3,1),(4,1),(5,1),(6,0),(7,0),(8,1)] [0,1,2,3,4,5,8] fE mixed rfl fZ ?_
   simp -implicitDefEqProofs only[xS,a7,aK,aA,seval,rP]
   refine(HD hN hg ho z u hz (hgv rfl) bb _ hS).mono ?_
   rintro _ s2 ⟨rfl,hP⟩
   simp -implicitDefEqProofs only[aA,seval]
   refine⟨fZ,?_⟩
   refine(tY _ _).to ?_
   simp -implicitDefEqProofs only[aA,seval]
   exact⟨fZ,rfl,hP⟩
 have aNH:s≠⟨#[97,114,103]⟩:=by simpa using h
 simp -implicitDefEqProofs only[aA,seval,rP]
 refine(aXK s _).to ?_
 simp -implicitDefEqProofs only[aA,seval]
 refine aS (fun h=>?_) (fun h=>?_)
 · have hlen:ks.length=2:=by
    rcases hcs with ⟨h2,h3⟩ | ⟨h2,h3⟩ | ⟨h2,h3⟩ | ⟨h2,h3⟩
    · exact h2
    · simp [ht,hf] at h3
    · rcases h3 with rfl | rfl | rfl | rfl<;>exact absurd h (by decide)
    · exact absurd h3 aNH
   obtain⟨x,y,rfl⟩:=wA hlen
   have e:dH σ s [x,y]=(zA s x y,σ,[]):=by simp only[dH];rw[aH h]
   rw[e]
   have hc:=E5 x y rfl
   simp only[aW,aU] at hc
   simp -implicitDefEqProofs only[aA,seval,rP]
   refine(hc _).to ?_
   simp -implicitDefEqProofs only[aA,seval]
   exact r8.same hS _ rfl
 · have hlen:ks.length=1∧(s=⟨#[118,97,114]⟩∨s=⟨#[110,111,110,118,97,114]⟩∨s=⟨#[97,116,111,109]⟩∨s=⟨#[105,110,116]⟩):=by
    rcases hcs with ⟨h2,h3⟩ | ⟨h2,h3⟩ | ⟨h2,h3⟩ | ⟨h2,h3⟩
    · simp [h,he,hne,hee,his] at h3
    · simp [ht,hf] at h3
    · exact⟨h2,h3⟩
    · exact absurd h3 aNH
   obtain⟨x,rfl⟩:=IV hlen.1
   have e:dH σ s [x]=(jA (uQ s x),σ,[]):=rfl
   rw[e]
   have hc:=aNR x rfl hlen.2
   simp only[aW,aU] at hc
   simp -implicitDefEqProofs only[aA,seval,rP]
   refine(hc _).to ?_
   simp -implicitDefEqProofs only[aA,seval]
   exact r8.same hS _ rfl
theorem Y9(N:Nat)(σ:Sub):w8 4 (cY N σ):=by
 intro e h
 simp only[cY,cU] at h
 obtain⟨i,_,rfl⟩:=h
 refine⟨L0 _,?_⟩
 cases σ (i:Int) with
 | none=>rfl
 | some u=>exact cB u
theorem G9(N:Nat)(σ:Sub):∀e∈cY N σ,e.cH=false:=by
 intro e h
 simp only[cY,cU] at h
 obtain⟨i,_,rfl⟩:=h
 cases σ (i:Int) with
 | none=>rfl
 | some u=>exact cM u
theorem vH(N:Nat)(σ:Sub):(cY N σ).length=N:=by simp [cY]
theorem QW{N:Nat}(h0:0<N)(hN:N≤1048576)(σ:Sub){st:aB}{K:AV→aB→Prop}(hK:∀b,st b=none→gD N (st.aC b (.cells ((cY N σ).flatMap AV.cells))) b σ→K (.mslice b 0 N 4) (st.aC b (.cells ((cY N σ).flatMap AV.cells)))) :
 kY prog 31 st (.fslice []) (.slice (cY N σ)) K:=by
 have hl:=vH N σ
 refine fG (P:=prog) (st:=st) (b:=0) (l:=[]) (xs:=cY N σ) (x:=.slice (cY N σ)) (K:=K) aO bH bJ rfl rfl (Y9 N σ) (by simp) (by simp) (by simp only[bA,hl];omega) (by simp only[bA,hl];omega) (fun b hb=>?_)
 have hne: []++cY N σ≠[]:=by
  rw[eS]
  intro e
  rw[e] at hl
  simp at hl
  omega
 rw[pW hne,jY hne,eS,hl]
 exact hK b (hb hne) (aB.aP _ _ _)
theorem aU8{N:Nat}(h0:0<N)(hN:N≤1048576){σ:Sub}(hg:cT σ)(ho:cW (bF N) σ)(n:Int)(s:ByteArray)(x y:Tm)(hs:s=⟨#[92,61]⟩)(hx:bF N x)(hy:bF N y)(st:aB) :
 aD prog 270 [(Tm.mk 3 n s [x,y]).av,.slice (cY N σ)] st (fun r st'=>r=.int .i64 (jA (!(iD σ x y).1))∧st'=st):=by
 have ht:s≠⟨#[116,114,117,101]⟩:=by subst hs;decide
 have hf:s≠⟨#[102,97,105,108]⟩:=by subst hs;decide
 have he:s≠⟨#[61]⟩:=by subst hs;decide
 refine aD.done ?_
 simp only[aY 3,aW,aU]
 refine wF [1000000] 2 func270 ntmps270 rfl rfl ?_
 intro _
 have eA:dM prog 31 (.slice [x.av,y.av]) (.int .i64 0)=some (.pptr x.av):=bO (av:=Tm.av) (l:=[x,y]) (i:=0) aO rfl (aK x)
 have g9:dM prog 31 (.slice [x.av,y.av]) (.int .i64 1)=some (.pptr y.av):=bO (av:=Tm.av) (l:=[x,y]) (i:=1) aO rfl (aK y)
 simp -implicitDefEqProofs only[aA,seval,rP]
 refine aS (fun h=>absurd (by simpa using h) ht) (fun h=>?_)
 simp -implicitDefEqProofs only[aA,seval]
 refine aS (fun h=>absurd (by simpa using h) hf) (fun h=>?_)
 simp -implicitDefEqProofs only[aA,seval]
 refine aS (fun h=>absurd (by simpa using h) he) (fun h=>?_)
 simp -implicitDefEqProofs only[aA,seval]
 refine aS (fun h=>?_) (fun h=>absurd hs (by simpa using h))
 simp -implicitDefEqProofs only[aA,seval]
 refine wX [(0,1),(1,1),(2,1),(3,1),(4,1),(5,1),(6,1),(7,1),(8,1),(9,1),(10,0),(11,0),(12,1),(13,0),(14,1)] [0,1,2,3,4,5,6,7,8,9,12,14] fE mixed rfl fZ ?_
 simp -implicitDefEqProofs only[eA,g9,a7,aK,aA,seval,rP]
 refine QW h0 hN σ fun b hb hA0=>?_
 have hD0:aL (st.aC b (.cells ((cY N σ).flatMap AV.cells))) st:=(aL.refl _).aC hb
 generalize st.aC b (.cells ((cY N σ).flatMap AV.cells))=s0 at *
 simp -implicitDefEqProofs only[aA,seval]
 refine⟨fZ,?_⟩
 refine(HD hN hg ho x y hx hy b _ hA0).mono ?_
 rintro _ s2 ⟨rfl,hA,hk⟩
 simp -implicitDefEqProofs only[aA,seval]
 refine⟨fZ,?_⟩
 refine(tY _ _).to ?_
 simp -implicitDefEqProofs only[aA,seval]
 refine⟨fZ,rfl,fun q=>?_⟩
 have key:∀o,st q=some o→s2 q=some o:=fun o h=>hk q o ((hD0 q).2 o h) (by rintro rfl;rw[hb] at h;cases h)
 refine⟨fun h=>?_,key⟩
 cases hq:st q with
 | none=>rfl
 | some o=>rw[key o hq] at h;cases h
theorem aU7{N:Nat}(h0:0<N)(hN:N≤1048576){σ:Sub}(hg:cT σ)(ho:cW (bF N) σ)(n:Int)(s:ByteArray)(ks:List Tm)(hb:isBuiltin s (ks.length:Int)=true)(hv:∀x∈ks,bF N x)(bb:Nat)(st:aB)(hS:gD N st bb σ) :
 aD prog 270 [(Tm.mk 3 n s ks).av,.mslice bb 0 N 4] st (r8 N bb st (dH σ s ks)):=by
 by_cases hs:s=⟨#[92,61]⟩
 · obtain⟨x,y,rfl⟩:=wA (ts:=ks) (by subst hs;simp [isBuiltin] at hb;omega)
   have e:dH σ s [x,y]=(jA (!(iD σ x y).1),σ,[]):=by subst hs;rfl
   rw[e]
   have hc:=aU8 h0 hN hg ho n s x y hs (hv x (by simp)) (hv y (by simp)) fE
   refine(aD.aM6 (args':=[(Tm.mk 3 n s [x,y]).av,.mslice bb 0 N 4]) (st:=st) rfl hc fun h vs S V=>?_).mono ?_
   · simp only[dC] at V ⊢
     obtain⟨v,vs',rfl,V1,w,ws',rfl,V2,rfl⟩:=V
     refine⟨v,[w],rfl,V1.mono ((aL.fE st).step h),w,[],rfl,?_,rfl⟩
     have h2:=V2.fz S hS (G9 N σ) ⟨4,D7 N σ⟩
     have h3:(AV.mslice bb 0 N 4).fz bb (cY N σ)=.slice (cY N σ):=by simp [AV.fz,vH]
     rw[h3] at h2
     exact h2.mono ((aL.fE (st.erase bb)).step h)
   · rintro _ _ ⟨rfl,rfl⟩
     exact r8.same hS _ rfl
 · exact aU6 hN hg ho n s ks hb hs hv bb st hS
abbrev F0:=zi tI_3 (zi zI_3 (zi aZ (zi tI_31 (zi zI_31 (zi aO (zi bH (zi bJ (zi bZ (zi tI_66 (zi zI_66 (zi bS (zi bT (zi bU (zi bV bR))))))))))))))
theorem aU4{N:Nat}{σ:Sub}(hok:cW (cL N) σ){f:Nat}{t u:Tm}(hw:gN σ f t u)(ht:cL N t)(st:aB):aD prog 354 [t.av,.slice (cY N σ)] st (fun r st'=>r=u.av∧st'=st):=by
 refine aD.done ?_
 refine wF [1000000,2] 2 func354 ntmps354 rfl rfl ?_
 intro _
 have hlen:(cY N σ).length=N:=by simp [cY]
 simp -implicitDefEqProofs only[aA,seval,F0]
 intro b2 h2 b4 h4
 have hne:b4≠b2:=by rintro rfl;rw[aB.aP] at h4;cases h4
 have hn4:st b4=none:=by rw[aB.aJ st _ hne] at h4;exact h4
 refine iN (σ:=Nat×Tm) [1000000,2] [1,2,4] (fun p=>gN σ p.1 p.2 u∧cL N p.2) (fun p=>[]) (fun p=>(st.aC b2 (.cells p.2.av.cells)).aC b4 (.cells [.int .i64 0,.int .i64 0,.str ⟨#[]⟩,.fslice []])) (fun p=>p.1) (by decide +kernel) ⟨(f,t),⟨hw,ht⟩,aN.mk (by simp -implicitDefEqProofs only[aA,seval])⟩ ?_
 rintro⟨g,t⟩ ⟨hw,ht⟩
 obtain⟨k,n,s,ts⟩:=t
 simp only at hw ht
 simp only[aY]
 have kT:k≠1∨σ n=none→u=.mk k n s ts:=fun h=>by
  cases hw with
  | stop _=>rfl
  | go h1 h2 _=>
   simp only[Tm.k] at h1
   rcases h with h | h
   · exact absurd h1 h
   · rw[show σ n=some _ from h2] at h;cases h
 simp -implicitDefEqProofs only[hne.symm,aA,seval,F0]
 refine cS (fun h=>?_) (fun h=>?_)
 case refine_2=>
  simp -implicitDefEqProofs only[h,aG,hne.symm,aA,seval,F0]
  simp only[nM,cP] at h
  rw[kT (.inl h),←aY]
  exact⟨Tm.soft _,((aL.refl _).aC h2).aC hn4⟩
 simp only[bL] at h
 subst h
 obtain⟨hn0,hn1,_⟩:=ht.var
 obtain⟨i,rfl⟩:∃i:Nat,n=i:=⟨n.toNat,by omega⟩
 have hi:i<N:=by omega
 have hi':decide ((i:Int)<(N:Int))=true:=by simp;omega
 simp -implicitDefEqProofs only[bX,hi',jF,hne.symm,hlen,aA,seval,F0]
 have hat:dM prog 31 (.slice (cY N σ)) (.int .i64 (i:Int))=some (.pptr (cellOf (σ (i:Int)))):=bO (av:=fun i:Nat=>cellOf (σ (i:Int))) aO (List.getElem?_range hi) (L0 _)
 cases hw with
 | stop hs=>
  rw[show σ (i:Int)=none from hs rfl] at hat
  simp only[cellOf] at hat
  simp -implicitDefEqProofs only[hat,bX,aG,hne.symm,aA,seval,F0]
  exact⟨by rw[←aY,Tm.soft],((aL.refl _).aC h2).aC hn4⟩
 | go h1 h2' h3=>
  simp only[Tm.n] at h2'
  have ho:=hok _ _ h2'
  rename_i g' u'
  obtain⟨k',n',s',ts'⟩:=u'
  have hk':¬k'=0:=by have:=ho.kind.1;omega
  rw[h2'] at hat
  simp only[cellOf,aY] at hat
  simp -implicitDefEqProofs only[hat,hk',b9,aG,hne.symm,aA,seval,F0]
  rw[aB.yK hne,aB.nL _ _ _ hne]
  refine⟨(g',.mk k' n' s' ts'),KV _,⟨h3,ho⟩,?_⟩
  simp only[aY]
  exact aN.mk (by simp -implicitDefEqProofs only[aA,seval])
abbrev uR:=zi tI_3 (zi zI_3 (zi aZ (zi tI_9 (zi zI_9 (zi cF (zi tI_31 (zi zI_31 (zi aO (zi bH (zi bJ (zi bZ (zi tI_66 (zi zI_66 (zi bS (zi bT (zi bU (zi bV bR)))))))))))))))))
theorem ZS{N:Nat}{σ:Sub}{R:Int→Tm}{rk:Int→Nat}{B:Nat}(G:Good σ R rk B)(hok:cW (bF N) σ) :
 ∀(room:Nat) (t:Tm) (st:aB),room≤120→bF N t→aD prog 302 [t.av,.slice (cY N σ),.int .i64 (room:Int)] st (Full (t.aM R) room st)
 | room,t,st,hr,ht=>by
  have IH:=fun(N5:Nat) (hlt:N5<room) (x:Tm) st=>ZS G hok N5 x st
  obtain⟨f,hw⟩:=G.wk t
  generalize wk σ t=u at *
  have NB:cW (cL N) σ:=fun n u hu=>(hok n u hu).1
  have hsu:=hw.all (p:=bF N) hok ht
  have hcw:=fun st=>aU4 NB hw ht.1 st
  obtain⟨k,n,s,ts⟩:=u
  have hv:=aNB G hw (hsu.1.2.1)
  rw[hv]
  obtain⟨hlen,qE⟩:=Tm.qO (hsu.1.small)
  have bBB:=hsu.1.kind.2
  have hkn:=hsu.1.all.2
  have hkk:∀x∈ts,bF N x:=fun x hx=>by
   refine⟨hkn x hx,?_⟩
   have:=hsu.2
   rw[Tm.iI] at this
   have:=yF (f:=Tm.nodes) hx
   omega
  refine aD.nB (aD.fin ?_)
  refine wF [1000000,3,8] 3 func302 ntmps302 rfl rfl ?_
  intro _
  simp -implicitDefEqProofs only[aA,seval,uR]
  intro b3 h3 b6 h6
  have h63:b6≠b3:=by rintro rfl;rw[aB.aP] at h6;cases h6
  have hn6:st b6=none:=by rw[aB.aJ st _ h63] at h6;exact h6
  have hwr:∀z:Int,-1≤z→z≤200→IntKind.i64.wrap z=z:=fun z h1 h2=>wrap64 (by omega) (by omega)
  have hw1:=hwr ((room:Int) - 1) (by omega) (by omega)
  refine aS (fun h=>?_) (fun h=>?_)
  · simp only[bL] at h
    obtain rfl:room=0:=by omega
    simp -implicitDefEqProofs only[aG,aA,↓aX,seval,uR]
    refine⟨0,[],_,rfl,by simp,by simp,⟨4,by simp⟩,st,(fun x=>by by_cases e3:x=b3<;>by_cases e6:x=b6<;>simp_all [aB.aC]),rfl,Tm.zero,-1,?_,Int.le_refl _,?_⟩
    · simp only[Tm.zero,aY,gJ,kS,eT,jP,o7,aW,aU]
    · rw[aE (by rw[Tm.iI];omega)];decide
  simp only[cP] at h
  simp -implicitDefEqProofs only[h63.symm,aA,seval,uR]
  refine(hcw _).to ?_
  simp only[aY]
  simp -implicitDefEqProofs only[aG,h63.symm,hw1,aA,↓aX,seval,uR]
  intro b8 h8
  have h83:b8≠b3:=by rintro rfl;simp [aB.aC] at h8
  have h86:b8≠b6:=by rintro rfl;simp [aB.aC,h63] at h8
  have hn8:st b8=none:=by rw[aB.aJ _ _ h83,aB.aJ _ _ h86,aB.aJ _ _ h83] at h8;exact h8
  rw[aB.yK h63]
  have hW6:((st.aC b6 (.cells [.int .i64 0,.int .i64 0,.str ⟨#[]⟩,.fslice []])).aC b3 (.cells [.int .i64 k,.int .i64 n,.str s,.slice (ts.map Tm.av)])) b6=some (.cells [.int .i64 0,.int .i64 0,.str ⟨#[]⟩,.fslice []]):=by rw[aB.aJ _ _ h63,aB.aP]
  have hW3:((st.aC b6 (.cells [.int .i64 0,.int .i64 0,.str ⟨#[]⟩,.fslice []])).aC b3 (.cells [.int .i64 k,.int .i64 n,.str s,.slice (ts.map Tm.av)])) b3=some (.cells [.int .i64 k,.int .i64 n,.str s,.slice (ts.map Tm.av)]):=aB.aP _ _ _
  have hWd:∀Y Z,aL ((((st.aC b6 (.cells [.int .i64 0,.int .i64 0,.str ⟨#[]⟩,.fslice []])).aC b3 (.cells [.int .i64 k,.int .i64 n,.str s,.slice (ts.map Tm.av)])).aC b8 Z).aC b6 Y) st:=fun Y Z x=>by
   by_cases e3:x=b3<;>by_cases e6:x=b6<;>by_cases e8:x=b8<;>simp_all [aB.aC]
  generalize ((st.aC b6 (.cells [.int .i64 0,.int .i64 0,.str ⟨#[]⟩,.fslice []])).aC b3 (.cells [.int .i64 k,.int .i64 n,.str s,.slice (ts.map Tm.av)]))=W at *
  have z8:(Tm.mk k n s (ts.map (Tm.aM R))).nodes=1+aR Tm.nodes (ts.map (Tm.aM R)):=Tm.iI _ _ _ _
  refine eH (σ:=Nat×List Tm×Int) [1000000,3,8] [1,3,6,7,8] ts
   (fun i p=>(p.2.1.map Tm.av≠[]→(W.aC b8 (.cells ([.int .i64 k,.int .i64 n,.str s]++ [bM 4 p.1 (p.2.1.map Tm.av)]))) p.1=none)∧p.2.1.length=i∧-1≤p.2.2 ∧
    (0≤p.2.2→p.2.1=(ts.take i).map (Tm.aM R)∧p.2.2=(room:Int) - 1 - aR Tm.nodes p.2.1)∧(p.2.2<0→room<1+aR Tm.nodes (ts.map (Tm.aM R))))
   (fun i p=>[(9,.int .i64 p.2.2),(10,.int .i64 i)])
   (fun i p=>f9 W b8 p.1 [.int .i64 k,.int .i64 n,.str s] (p.2.1.map Tm.av)) (by decide +kernel)
   ⟨(0,[],(room:Int) - 1),⟨fun h=>absurd rfl h,rfl,by simp only;omega,fun _=>⟨by simp,by simp [aR]⟩,fun h=>by simp only at h;omega⟩,aN.mk (by simp -implicitDefEqProofs only[aA,↓aX,seval])⟩ (fun i x p hx hlt bQ CD hinv=>?_) (fun p hge hinv=>?_)
  · obtain⟨b,acc,left⟩:=p
    obtain⟨i1,i2,i3,i4,i5⟩:=hinv
    simp only at i1 i2 i3 i4 i5
    have h3o:=iA i1 (x:=b3) (by rw[hW3];simp) h83.symm
    rw[hW3] at h3o
    simp -implicitDefEqProofs only[bQ,bX,jF,aF,h3o,aA,seval,uR]
    refine aS (fun h9=>?_) (fun h9=>?_)
    case refine_2=>
     simp only[cP] at h9
     have hbo:=fA i1
     have h6o:=iA i1 (x:=b6) (by rw[hW6];simp) h86.symm
     rw[hW6] at h6o
     simp -implicitDefEqProofs only[aG,hbo,h6o,eP,aA,seval,uR]
     obtain⟨g5,g6⟩:=lB (o:=.cells [.int .i64 k,.int .i64 n,.str s,bM 4 b (acc.map Tm.av)]) i1 (show W b6≠none by rw[hW6];simp) h86.symm
     refine⟨b,_,_,g5,g6,jJ _,⟨4,eD _⟩,st,hWd _ _,rfl,.mk k n s acc,left,?_,i3,?_⟩
     · simp only[kS,gJ,aW,aU,eT,jP,jE,aY]
     · rw[z8]
       skip
       rw[aE (by have:=i5 (by omega);omega)]
       omega
    simp only[bL] at h9
    obtain⟨e1,e2⟩:=i4 h9
    have iG:=cJ hx
    have hsl:=a7E Tm.nodes (ts.map (Tm.aM R)) (i+1)
    rw[←GK,fS,hx] at hsl
    simp only[DS,oC,aW,aU,FW,aR,←e1] at hsl
    obtain⟨N5,rfl⟩:∃r:Nat,left=r:=⟨left.toNat,by omega⟩
    have dA:(acc.map Tm.av).length=i:=by rw[aF,i2]
    have hw:=bE (n:=(i:Int)+1)
    have hbo:=fA i1
    simp -implicitDefEqProofs only[h3o,bO (av:=Tm.av) aO hx (aK x),a7,aK,aA,seval,uR]
    refine(IH N5 (by omega) x _ (by omega) (hkk x iG)).mono ?_
    rintro _ _ ⟨rfl,y,a38,rfl,hl1,hl2⟩
    simp -implicitDefEqProofs only[a7,aK,cB,cM,hbo,mE,aA,↓aX,seval,uR]
    refine fG aO bH bJ rfl rfl (gA (aK _) (cB _)) (eD _) i1 (by simp only[dA,aQ,bA];omega) (by simp only[dA,aQ,bA];omega) (fun b' hb'=>?_)
    rw[show acc.map Tm.av++ [y.av]=(acc++ [y]).map Tm.av by simp] at hb' ⊢
    obtain⟨g1,g2,g3⟩:=pG hb'
    simp only[fQ,eS] at g1 g3
    simp -implicitDefEqProofs only[g3,m9,eP,g1,hw,aG,aA,seval,uR]
    refine⟨(b',acc++ [y],a38),⟨g2,by simp [i2],hl1,fun h=>?_,fun h=>?_⟩,aN.mk (by simp -implicitDefEqProofs only[aA,seval])⟩
    · simp only at h
      split at hl2
      · obtain⟨rfl,hl3⟩:=hl2
        refine⟨by rw[fS,hx];simp [e1],?_⟩
        simp only[FW,aR]
        omega
      · omega
    · simp only at h
      split at hl2
      · omega
      · omega
  · obtain⟨b,acc,left⟩:=p
    obtain⟨i1,i2,i3,i4,i5⟩:=hinv
    simp only at i1 i2 i3 i4 i5
    rw[eN] at i4
    have h3o:=iA i1 (x:=b3) (by rw[hW3];simp) h83.symm
    rw[hW3] at h3o
    simp -implicitDefEqProofs only[hge,aF,h3o,aA,seval,uR]
    have hbo:=fA i1
    have h6o:=iA i1 (x:=b6) (by rw[hW6];simp) h86.symm
    rw[hW6] at h6o
    simp -implicitDefEqProofs only[aG,hbo,h6o,eP,aA,seval,uR]
    obtain⟨g5,g6⟩:=lB (o:=.cells [.int .i64 k,.int .i64 n,.str s,bM 4 b (acc.map Tm.av)]) i1 (show W b6≠none by rw[hW6];simp) h86.symm
    refine⟨b,_,_,g5,g6,jJ _,⟨4,eD _⟩,st,hWd _ _,rfl,.mk k n s acc,left,?_,i3,?_⟩
    · simp only[kS,gJ,aW,aU,eT,jP,jE,aY]
    · rw[z8]
      skip
      rcases Int.lt_or_le left 0 with h9 | h9
      · rw[aE (by have:=i5 h9;omega)];exact h9
      · obtain⟨e1,e2⟩:=i4 h9
        rw[←e1] at i5 ⊢
        rw[aH (by omega)]
        exact⟨rfl,by omega⟩
termination_by room=>room
decreasing_by exact hlt
abbrev cI (l:List Tm):AV:=.agg [.slice (l.map Tm.av)]
theorem W6:∀(a b:List Tm) (l:List Int),cD (a++b) l=cD b (cD a l)
 | [],_,_=>rfl
 | t::a,b,l=>by simp only[fQ,cD,W6 a b]
abbrev V4:=zi tI_3 (zi zI_3 (zi aZ (zi tI_31 (zi zI_31 (zi aO (zi bH (zi bJ (zi bZ (zi tI_46 (zi zI_46 (zi dK (zi fM (zi fJ (zi fX (zi tI_66 (zi zI_66 (zi bS (zi bT (zi bU (zi bV bR))))))))))))))))))))
theorem aAV(q:List Tm)(st:aB)(hwf:∀t∈q,t.wf=true)(hsz:aR Tm.nodes q≤1099511627776):aD prog 157 [.slice (q.map Tm.av)] st (fun r st'=>r=.slice ((cD q []).map iv)∧st'=st):=by
 refine aD.done ?_
 refine wF [1000000] 1 func157 ntmps157 rfl rfl ?_
 simp only[d5,AV.fits,d9,aF]
 intro ⟨hl,_⟩
 simp -implicitDefEqProofs only[aA,seval,V4]
 refine tE (σ:=Unit) [1000000] [0,2] q 1 3 (fun i _=>(cD (q.take i) []).map iv) (fun _ _=>True) (fun i _=>[(4,.int .i64 i)]) (fun _ _=>st) (fun i _ _ e he=>by simp only[cU] at he;obtain⟨t,_,rfl⟩:=he;exact⟨rfl,rfl⟩) (by decide +kernel) ⟨(),0,trivial,fun h=>absurd rfl h,aN.mk (by simp -implicitDefEqProofs only[kB,j9,cD,aU,aA,↓aX,seval])⟩ (fun i x s b hx hlt bQ hdr hinv hb=>?_) (fun s b hge hinv=>?_)
 case refine_2=>
  simp -implicitDefEqProofs only[hge,eT,jB,o7,mI,eN,aF,aA,seval,V4]
  exact⟨rfl,aL.refl _⟩
 have hw:=bE (n:=(i:Int)+1)
 have hat:=bO (av:=Tm.av) aO hx (aK x)
 have hst:=yG Tm.nodes hx
 have hvl:=A2 (q.take i) []
 simp only[bA,iJ] at hvl
 have htk:x.vars (cD (q.take i) [])=cD (q.take (i+1)) []:=by
  rw[fS,hx,W6]
  try rfl
 simp -implicitDefEqProofs only[bQ,aF,hat,aA,seval,V4]
 refine(HG x (cD (q.take i) []) b st (hwf x (cJ hx)) hb (by omega)).mono ?_
 rintro _ _ ⟨b',rfl,rfl,hb'⟩
 rw[htk] at hb' ⊢
 simp -implicitDefEqProofs only[aA,seval]
 exact⟨(),b',hb',aN.mk (by simp -implicitDefEqProofs only[hw,aA,seval])⟩
end Go.AW
namespace Go.AW
theorem cC.of{h:bP}{st st':aB}(hk:∀x,st x=none→st' x=none):cC h st h st':=⟨dB _,fun x _ e=>⟨rfl,hk x e⟩,fun _ c _ _ e=>⟨c,e,rfl⟩⟩
theorem gM.a0V{φ:AF}{st:aB}{b c:Nat}{es cs:List AV}(hbc:b≠c)(h1:st b=some (.cells (es.flatMap AV.cells)))(h2:∀e∈es,e.cH=false)(h3:iR es)(hc:st c=some (.cells cs)) :
 gM φ st φ ((st.erase b).aC c (.cells (lZ b es cs))):=fun h tmps S F=>by
 have T2:cC h (st.erase b) h ((st.erase b).aC c (.cells (lZ b es cs))):=cC.of fun x hx=>by
  have:x≠c:=by rintro rfl;simp [aB.erase,c9 hbc,hc] at hx
  rw[aB.aJ _ _ this];exact hx
 have T:cC h st h ((st.erase b).aC c (.cells (lZ b es cs))):=((jZ st b).step h).trans T2
 refine⟨fun x o hx=>?_,T,fun d=>(F d).mono T⟩
 by_cases e:x=c
 · subst e
   rw[aB.aP] at hx
   cases hx
   obtain⟨hl,c0,t,e1,e2,vs,e3,e4⟩:=S x _ hc
   refine⟨hl,c0,t,e1,?_,vs,e3,bD.mono T2 _ _ (bD.fz S h1 h2 h3 cs vs e4)⟩
   rw[MU,aF];exact e2
 · rw[aB.aJ _ _ e] at hx
   have hx':st x=some o:=by
    simp only[aB.erase] at hx
    split at hx
    · cases hx
    · exact hx
   obtain⟨hl,y⟩:=S x o hx'
   exact⟨hl,lK.mono T rfl y⟩
theorem gM.a64{φ:AF}{st:aB}{c:Nat}{cs:List AV}(hc:st c=some (.cells cs)):gM φ st φ (st.aC c (.cells (iL cs))):=fun h tmps S F=>by
 have T:cC h st h (st.aC c (.cells (iL cs))):=cC.of fun x hx=>by
  have:x≠c:=by rintro rfl;rw[hc] at hx;cases hx
  rw[aB.aJ _ _ this];exact hx
 refine⟨fun x o hx=>?_,T,fun d=>(F d).mono T⟩
 by_cases e:x=c
 · subst e
   rw[aB.aP] at hx
   cases hx
   obtain⟨hl,c0,t,e1,e2,vs,e3,e4⟩:=S x _ hc
   refine⟨hl,c0,t,e1,?_,vs,e3,bD.mono T _ _ (bD.soft cs vs e4)⟩
   rw[AP,aF];exact e2
 · rw[aB.aJ _ _ e] at hx
   obtain⟨hl,y⟩:=S x o hx
   exact⟨hl,lK.mono T rfl y⟩
theorem a4C{φ:AF}{S:aB}{c b:Nat}{k n:Int}{s:ByteArray}{l:List AV}(hb:l≠[]→(S.aC c (.cells ([.int .i64 k,.int .i64 n,.str s]++ [bM 4 b l]))) b=none)(hj:∀e∈l,e.cH=false)(hE:iR l) :
 gM φ (f9 S c b [.int .i64 k,.int .i64 n,.str s] l) φ (S.aC c (.cells [.int .i64 k,.int .i64 n,.str s,.slice l])):=by
 have hcc:=fA hb
 cases l with
 | nil=>
  have:=gM.a64 (φ:=φ) hcc
  unfold f9 at this ⊢
  simp only[yY,c7] at this
  exact this
 | cons y l=>
  have h0:=hb (by simp)
  have hne:b≠c:=by rintro rfl;rw[aB.aP] at h0;cases h0
  have h1:f9 S c b [.int .i64 k,.int .i64 n,.str s] (y::l) b=some (.cells ((y::l).flatMap AV.cells)):=by unfold f9;simp only[a8];exact aB.aP _ _ _
  have:=gM.a0V (φ:=φ) hne h1 hj hE hcc
  have e:(f9 S c b [.int .i64 k,.int .i64 n,.str s] (y::l)).erase b=S.aC c (.cells ([.int .i64 k,.int .i64 n,.str s]++ [bM 4 b (y::l)])):=by unfold f9;simp only[a8];exact aB.vR _ _ _ h0
  rw[e,c7] at this
  simpa [lZ,AV.fz,bM] using this
theorem IU{S:aB}{c b:Nat}{hd hd' l:List AV}(hb:l≠[]→(S.aC c (.cells (hd++ [bM 4 b l]))) b=none) :
 (f9 S c b hd l).aC c (.cells (hd'++ [bM 4 b l]))=f9 S c b hd' l∧(l≠[]→(S.aC c (.cells (hd'++ [bM 4 b l]))) b=none):=by
 have hne:l≠[]→c≠b:=fun h e=>by have:=hb h;rw[←e,aB.aP] at this;cases this
 refine⟨by unfold f9;rw[pV hne,c7],fun h=>?_⟩
 have:=hb h
 rw[aB.aJ _ _ (c9 (hne h))] at this ⊢
 exact this
theorem SN{s0 st:aB}{b:Nat}{l:List AV}(D:aL s0 st):aL (a8 s0 b l) (a8 st b l):=by
 cases l with
 | nil=>exact D
 | cons y l=>
  intro x
  simp only[a8]
  by_cases e:x=b
  · subst e;simp [aB.aP]
  · rw[aB.aJ _ _ e,aB.aJ _ _ e];exact D x
end Go.AW
