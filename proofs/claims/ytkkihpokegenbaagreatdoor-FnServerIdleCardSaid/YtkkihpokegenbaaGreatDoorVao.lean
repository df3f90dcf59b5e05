/- The texts that the draws read: programs, queries. -/
import Derived.Test.YtkkihpokegenbaaGreatDoorVan
import Derived.Test.YtkkihpokegenbaaGreatDoorVaf
import Derived.Test.YtkkihpokegenbaaGreatDoorVal
import Derived.Test.YtkkihpokegenbaaGreatDoorVam
import Derived.Test.YtkkihpokegenbaaGreatDoorVak
import Derived.Test.YtkkihpokegenbaaGreatDoorVai
import Derived.Test.YtkkihpokegenbaaGreatDoorVaj
import Derived.Shelf.Slices.Clone
set_option linter.unusedSimpArgs false
set_option linter.unusedVariables false
set_option maxRecDepth 100000
namespace Go.AW
def GY:List ByteArray:=[⟨#[97,112,112,40,91,93,44,65,44,65,41,46,10,97,112,112,40,91,65,124,66,93,44,67,44,91,65,124,68,93,41,58,45,97,112,112,40,66,44,67,44,68,41,46,10]⟩,
 ⟨#[109,101,109,40,65,44,91,65,124,66,93,41,46,10,109,101,109,40,65,44,91,66,124,67,93,41,58,45,109,101,109,40,65,44,67,41,46,10]⟩,
 ⟨#[112,40,49,41,46,10,112,40,50,41,46,10,112,40,51,41,46,10,113,40,65,41,58,45,112,40,65,41,44,65,62,49,44,33,46,10,114,40,65,44,66,41,58,45,112,40,65,41,44,112,40,66,41,46,10]⟩,
 ⟨#[108,101,110,40,91,93,44,48,41,46,10,108,101,110,40,91,65,124,66,93,44,67,41,58,45,108,101,110,40,66,44,68,41,44,67,32,105,115,32,68,43,49,46,10]⟩,
 ⟨#[109,97,120,40,65,44,66,44,65,41,58,45,65,62,61,66,44,33,46,10,109,97,120,40,65,44,66,44,66,41,46,10]⟩,
 ⟨#[101,40,97,44,98,41,46,10,101,40,98,44,99,41,46,10,101,40,99,44,100,41,46,10,116,40,65,44,66,41,58,45,101,40,65,44,66,41,46,10,116,40,65,44,66,41,58,45,101,40,65,44,67,41,44,116,40,67,44,66,41,46,10]⟩,
 ⟨#[108,111,111,112,58,45,108,111,111,112,46,10,111,107,46,10]⟩,
 ⟨#[102,97,99,40,48,44,49,41,58,45,33,46,10,102,97,99,40,65,44,66,41,58,45,65,62,48,44,67,32,105,115,32,65,45,49,44,102,97,99,40,67,44,68,41,44,66,32,105,115,32,65,42,68,46,10]⟩,
 ⟨#[115,40,65,41,58,45,65,61,102,40,66,41,44,97,114,103,40,49,44,65,44,66,41,44,66,61,49,46,10,115,40,65,41,58,45,118,97,114,40,65,41,44,65,61,110,111,110,101,46,10]⟩,
 ⟨#[114,101,118,40,91,93,44,65,44,65,41,46,10,114,101,118,40,91,65,124,66,93,44,67,44,68,41,58,45,114,101,118,40,66,44,91,65,124,67,93,44,68,41,46,10]⟩,
 ⟨#[98,97,100,40,65,41,58,45,66,32,105,115,32,65,43,102,111,111,44,67,61,66,46,10,98,105,103,40,65,41,58,45,65,32,105,115,32,57,57,57,43,49,46,10,117,110,40,65,41,58,45,110,111,115,117,99,104,40,65,41,46,10]⟩]
def Q4:List ByteArray:=[⟨#[97,112,112,40,65,44,66,44,91,49,44,50,93,41]⟩,
 ⟨#[97,112,112,40,91,49,93,44,91,50,93,44,65,41]⟩,
 ⟨#[109,101,109,40,65,44,91,97,44,98,44,99,93,41]⟩,
 ⟨#[113,40,65,41]⟩,
 ⟨#[114,40,65,44,66,41,44,65,62,66]⟩,
 ⟨#[108,101,110,40,91,97,44,98,44,99,93,44,65,41]⟩,
 ⟨#[109,97,120,40,51,44,50,44,65,41]⟩,
 ⟨#[109,97,120,40,65,44,50,44,51,41]⟩,
 ⟨#[116,40,97,44,65,41]⟩,
 ⟨#[108,111,111,112]⟩,
 ⟨#[111,107,44,33]⟩,
 ⟨#[102,97,99,40,52,44,65,41]⟩,
 ⟨#[115,40,65,41]⟩,
 ⟨#[114,101,118,40,91,49,44,50,44,51,93,44,91,93,44,65,41]⟩,
 ⟨#[98,97,100,40,65,41]⟩,
 ⟨#[98,105,103,40,65,41]⟩,
 ⟨#[117,110,40,65,41]⟩,
 ⟨#[112,40,65,41,44,33,44,112,40,66,41]⟩,
 ⟨#[65,61,102,40,66,44,67,41,44,97,114,103,40,49,44,65,44,68,41]⟩,
 ⟨#[109,101,109,40,65,44,91,49,44,50,93,41,44,109,101,109,40,66,44,91,65,44,51,93,41]⟩,
 ⟨#[65,32,105,115,32,51,47,47,48]⟩,
 ⟨#[116,114,117,101]⟩,
 ⟨#[109,101,109,40,65,44,66,41]⟩,
 ⟨#[112,40,65,41,44,65,92,61,50]⟩]
def DP:List (List ByteArray):=[[⟨#[97,112,112,40,65,44,66,44,91,49,44,50,93,41]⟩,⟨#[97,112,112,40,91,49,93,44,91,50,124,65,93,44,66,41]⟩,⟨#[97,112,112,40,65,44,91,49,93,44,65,41]⟩],
 [⟨#[109,101,109,40,65,44,91,97,44,98,44,99,93,41]⟩,⟨#[109,101,109,40,65,44,91,49,44,50,93,41,44,109,101,109,40,66,44,91,65,44,51,93,41]⟩,⟨#[109,101,109,40,65,44,66,41]⟩],
 [⟨#[113,40,65,41]⟩,⟨#[114,40,65,44,66,41,44,65,62,66]⟩,⟨#[112,40,65,41,44,33,44,112,40,66,41]⟩,⟨#[114,40,65,44,65,41]⟩],
 [⟨#[108,101,110,40,91,97,44,98,44,99,93,44,65,41]⟩,⟨#[108,101,110,40,65,44,50,41]⟩],
 [⟨#[109,97,120,40,51,44,50,44,65,41]⟩,⟨#[109,97,120,40,65,44,50,44,51,41]⟩,⟨#[109,97,120,40,49,44,50,44,65,41]⟩],
 [⟨#[116,40,97,44,65,41]⟩,⟨#[116,40,65,44,100,41]⟩,⟨#[101,40,65,44,66,41]⟩],
 [⟨#[108,111,111,112]⟩,⟨#[111,107,44,33]⟩,⟨#[111,107,44,108,111,111,112]⟩],
 [⟨#[102,97,99,40,52,44,65,41]⟩,⟨#[102,97,99,40,48,44,65,41]⟩,⟨#[102,97,99,40,55,44,65,41]⟩],
 [⟨#[115,40,65,41]⟩,⟨#[115,40,66,41,44,66,61,102,40,49,41]⟩],
 [⟨#[114,101,118,40,91,49,44,50,44,51,93,44,91,93,44,65,41]⟩,⟨#[114,101,118,40,65,44,91,93,44,91,49,93,41]⟩],
 [⟨#[98,97,100,40,65,41]⟩,⟨#[98,105,103,40,65,41]⟩,⟨#[117,110,40,65,41]⟩]]
def PC(s:ByteArray):Bool:=decide (s.size≤200)&&match oE (sb s) with | some l=>decide (2≤l.length)&&decide (l.length≤20) | none=>false
theorem a2Z:GY.all PC=true:=by decide +kernel
theorem a20:GY.all (fun s=>match oE (sb s) with | some l=>fD l | none=>false)=true:=by decide +kernel
theorem a2X:DP.all (fun l=>decide (1≤l.length)&&l.all (fun s=>decide (s.size≤1000)))=true:=by decide +kernel
theorem a2Y(y:List ByteArray)(h:y∈DP):y.length≤4:=by
 have h2:(DP.all fun l=>decide (l.length≤4))=true:=by decide +kernel
 simpa using c6.1 h2 y h
end Go.AW
namespace Go.AW
open Go.Proofs.Tryz
def lI(p:List UInt8):AV:=.str (ba p)
theorem aH9(l:List (List UInt8)):∀e∈l.map lI,e.width=1:=by intro e h;simp only[cM] at h;obtain⟨t,_,rfl⟩:=h;rfl
theorem aZ1(l:List (List UInt8)):∀e∈l.map lI,e.bR=false:=by intro e h;simp only[cM] at h;obtain⟨t,_,rfl⟩:=h;rfl
abbrev GP:=zi aS (zi gD (zi cH rD))
set_option maxHeartbeats 1000000 in
theorem aQC(s:ByteArray)(c:Nat)(hs:s.size≤1048576)(st:aA):aD prog 145 [.str s,.int .u8 (c:Int)] st (fun r st'=>r=.slice ((lO c (sb s) []).map lI)∧st'=st):=by
 generalize hT:lO c (sb s) []=T
 refine aD.jT (aD.fin ?_)
 refine wF [1000000] 2 func145 ntmps145 rfl rfl ?_
 intro _
 simp only[aB,seval,GP]
 refine i8 (σ:=List (List UInt8)×Nat×Nat×Nat) [1000000] [0,1,4] (fun x=>((x.2.2.1≤s.size∧x.2.1≤x.2.2.1∧x.1++lO c ((sb s).drop x.2.2.1) (((sb s).drop x.2.1).take (x.2.2.1 - x.2.1))=T)∨(x.2.2.1=s.size+1∧x.2.1≤s.size+1∧x.1=T))∧x.1.length≤x.2.2.1∧(x.1.map lI≠[]→st x.2.2.2=none)) (fun x=>[(5,bK 1 x.2.2.2 (x.1.map lI)),(6,.int .i64 (x.2.1:Int)),(7,.int .i64 (x.2.2.1:Int))]) (fun x=>a9 st x.2.2.2 (x.1.map lI)) (fun x=>s.size+1 - x.2.2.1) (by decide +kernel) ⟨([],0,0,0),⟨Or.inl ⟨iI _,cX _,hT⟩,iI _,by simp⟩,aO.mk (by simp only[bE,j8,aB,↓aU,seval])⟩ ?_
 rintro⟨out,f,i,b⟩ ⟨ht,hlen,hb⟩
 simp only at ht hlen hb ⊢
 by_cases hi:i≤s.size
 case neg=>
  obtain⟨h1,h2,rfl⟩:i=s.size+1∧f≤s.size+1∧out=T:=by
   rcases ht with h | h
   · exact absurd h.1 hi
   · exact h
  have hi':((i:Int)≤(s.size:Int))=False:=bG (by omega)
  simp only[hi',bB,aB,seval,GP]
  exact⟨b,_,st,rfl,hb,aZ1 _,⟨1,aH9 _⟩,by rw[mV],aL.refl _⟩
 obtain⟨-,hfi,ht⟩:i≤s.size∧f≤i∧out++lO c ((sb s).drop i) (((sb s).drop f).take (i - f))=T:=by
  rcases ht with h | h
  · exact h
  · omega
 have hi':((i:Int)≤(s.size:Int))=True:=bT (by omega)
 have hw:=bC (n:=(i:Int)+1)
 have hsl:=fun(φ:AF) (y z:Operand) (h:φ.eval y=.int .i64 (f:Int)) (h':φ.eval z=.int .i64 (i:Int))=>GC (s:=s) h h' hfi hi
 rw[ES] at hsl
 generalize hp:((sb s).drop f).take (i - f)=p at *
 have IZ:∀(K:AV→aA→Prop),(∀b',((out++ [p]).map lI≠[]→st b'=none)→K (bK 1 b' ((out++ [p]).map lI)) (a9 st b' ((out++ [p]).map lI)))→iT prog 183 (a9 st b (out.map lI)) (bK 1 b (out.map lI)) (.fslice [.str (ba p)]) K:=by
  intro K hK
  refine eY tC U4 U7 rfl rfl (gN rfl rfl) (aH9 _) hb (by simp only[aE,aX,a8];omega) (by simp only[aE,aX,a8];omega) (fun b' hb'=>?_)
  rw[show out.map lI++ [AV.str (ba p)]=(out++ [p]).map lI by simp [lI]] at hb' ⊢
  exact hK b' hb'
 by_cases hie:i=s.size
 case pos=>
  have JA:((i:Int)=(s.size:Int))=True:=bT (by omega)
  rw[G8 (by rw[b9];omega)] at ht
  simp only[lO] at ht
  simp only[hi',JA,hsl,aZ,aB,seval,GP]
  refine IZ _ fun b' hb'=>?_
  simp only[hw,aB,seval]
  refine⟨(out++ [p],i+1,i+1,b'),by simp only;omega,⟨Or.inr ⟨by simp only;omega,by simp only;omega,ht⟩,by simp only[dO,aX,a8];omega,hb'⟩,aO.mk (by simp only[aB,seval]<;>exact⟨rfl,rfl⟩)⟩
 have JA:((i:Int)=(s.size:Int))=False:=bG (by omega)
 obtain⟨x,hx⟩:=uS (s:=s) (n:=i) (by omega)
 have hix:=pP (P:=prog) (t:=9) nO hx
 obtain⟨hx1,hx2⟩:=fM.1 hx
 rw[uA hx1,hx2] at ht
 unfold lO at ht
 by_cases hxc:x.toNat=c
 · rw[aN hxc] at ht
   have OW:((x.toNat:Int)=(c:Int))=True:=bT (by omega)
   simp only[hi',JA,hsl,hix,OW,aZ,bB,aB,seval,GP]
   refine IZ _ fun b' hb'=>?_
   simp only[hw,aB,seval]
   refine⟨(out++ [p],i+1,i+1,b'),by simp only;omega,⟨Or.inl ⟨by simp only;omega,cX _,by rw[←ht];simp⟩,by simp only[dO,aX,a8];omega,hb'⟩,aO.mk (by simp only[aB,seval]<;>exact⟨rfl,rfl⟩)⟩
 · rw[aK hxc] at ht
   have OW:((x.toNat:Int)=(c:Int))=False:=bG (by omega)
   have hp':((sb s).drop f).take (i+1 - f)=p++ [x]:=by
    rw[show i+1 - f=(i - f)+1 by omega,eS,hp,LT,show f+(i - f)=i by omega,hx];try rfl
   simp only[hi',JA,hw,hix,OW,aZ,bB,aB,seval,GP]
   refine⟨(out,f,i+1,b),by simp only;omega,⟨Or.inl ⟨by simp only;omega,by simp only;omega,by simp only;rw[hp'];exact ht⟩,by simp only;omega,hb⟩,aO.mk (by simp only[aB,seval]<;>rfl)⟩
def RN(o:Option (List Cl))(st:aA)(r:AV)(st':aA):Prop:=match o with | some l=>∃b,(l.map aF≠[]→st b=none)∧r=.tup [bK 5 b (l.map aF),.bool true]∧st'=a9 st b (l.map aF) | none=>r=.tup [.fslice [],.bool false]∧st'=st
def AK(o:Option (List Cl))(r:AV):Prop:=match o with | some l=>r=.tup [.slice (l.map aF),.bool true] | none=>r=.tup [.slice [],.bool false]
theorem NA:∀(ls:List (List UInt8)) (acc r:List Cl),(∀c∈acc,yF c∧jS c=true)→yZ ls acc=some r→(∀c∈r,yF c∧jS c=true)∧r.length=acc.length+ls.length
 | [],acc,r,h,h1=>by cases h1;exact⟨h,rfl⟩
 | l::ls,acc,r,h,h1=>by
  unfold yZ at h1
  split at h1
  · cases h1
  rename_i c h2
  have:=NA ls (acc++ [c]) r (by intro x hx;rw[fG,LW] at hx;rcases hx with hx | rfl;exact h x hx;exact aH7 h2) h1
  refine⟨this.1,?_⟩
  rw[this.2]
  simp only[dO,aX,a8]
  omega
abbrev xN:=zi aS (zi bV (zi gD (zi vY (zi cH (zi aKH (zi jK (zi lV rD)))))))
set_option maxHeartbeats 1000000 in
theorem aO5(s:ByteArray)(hs:s.size≤100000)(st:aA):aD prog 94 [.str s] st (RN (oE (sb s)) st):=by
 generalize hP:oE (sb s)=T
 unfold oE at hP
 simp only at hP
 have I8:=fun st=>aQC s 10 (by omega) st
 rw[show((10:Nat):Int)=10 from rfl] at I8
 have hne:=UV 10 (sb s) []
 have hcl:=ND 10 (sb s) []
 rw[b9] at hcl
 generalize lO 10 (sb s) []=L at *
 obtain⟨m,hm⟩:∃m,L.length=m+1:=⟨L.length - 1,by have:=List.length_pos_iff.2 hne;omega⟩
 obtain⟨y,hy⟩:∃y,L[m]?=some y:=⟨_,eL (by omega)⟩
 have hgl:L.getLast?=some y:=by rw[RI,hm];exact hy
 rw[hgl] at hP
 refine aD.o9 ?_
 have tJ:T=none→∀(b:Nat) (l:List Cl) (s0:aA),(l.map aF≠[]→s0 b=none)→aL s0 st→∃s2,aL (a9 s0 b (l.map aF)) s2∧RN T st (AV.tup [.fslice [],.bool false]) s2:=by
  rintro rfl b l s0 hb hD
  exact⟨st,hD.a9 fun h2=>(hD b).1 (hb h2),rfl,rfl⟩
 refine wF [1000000] 1 func94 ntmps94 rfl rfl ?_
 intro _
 simp only[aB,seval,xN]
 refine(I8 _).to ?_
 have hat:=bS (av:=lI) tC hy rfl
 have hw0:=jL (x:=(L.length:Int) - 1) (m:=m) (by omega) (by omega)
 by_cases h21:21<L.length
 case pos=>
  rw[aN (Or.inl h21)] at hP
  have IW:((21:Int)<(L.length:Int))=True:=bT (by omega)
  simp only[aE,IW,aZ,aB,seval,xN]
  exact tJ hP.symm 0 [] st (by simp) (aL.refl _)
 have IW:((21:Int)<(L.length:Int))=False:=bG (by omega)
 by_cases hye:y= []
 case neg=>
  rw[aN (Or.inr (by simpa using hye))] at hP
  have OX:(ba y=⟨#[]⟩)=False:=bG fun h=>hye (by have:=rX sb h;exact this)
  simp only[aE,IW,hw0,hat,lI,OX,bB,aB,seval,xN]
  exact tJ hP.symm 0 [] st (by simp) (aL.refl _)
 rw[aK (by rintro(h | h);exact h21 h;exact h (by rw[hye]))] at hP
 have OX:(ba y=⟨#[]⟩)=True:=bT (by rw[hye])
 simp only[aE,IW,hw0,hat,lI,OX,aZ,bB,aB,seval,xN]
 refine i8 (σ:=Nat×List Cl×Nat) [1000000] [5] (fun x=>x.1≤m∧yZ (L.dropLast.drop x.1) x.2.1=T∧x.2.1.length=x.1∧(∀c∈x.2.1,yF c)∧(x.2.1.map aF≠[]→st x.2.2=none)) (fun x=>[(2,.fslice []),(3,.bool false),(4,bK 5 x.2.2 (x.2.1.map aF)),(6,.int .i64 (x.1:Int))]) (fun x=>a9 st x.2.2 (x.2.1.map aF)) (fun x=>m - x.1) (by decide +kernel) ⟨(0,[],0),⟨iI _,hP,rfl,by simp,by simp⟩,aO.mk (by simp only[bE,j8,aB,↓aU,seval])⟩ ?_
 rintro⟨i,acc,b⟩ ⟨hi,ht,hlen,hdn,hb⟩
 simp only at hi ht hlen hdn hb ⊢
 have hdl:L.dropLast.length=m:=by rw[List.length_dropLast,hm];try rfl
 have hw1:=bC (n:=(i:Int)+1)
 by_cases him:i<m
 case neg=>
  have OL:((i:Int)+1<(L.length:Int))=False:=bG (by omega)
  rw[G8 (by omega)] at ht
  simp only[yZ] at ht
  simp only[aE,OL,hw1,l6,eK,sI,bB,aB,seval,xN]
  exact⟨_,aL.refl _,by rw[←ht];exact⟨b,hb,rfl,rfl⟩⟩
 have OL:((i:Int)+1<(L.length:Int))=True:=bT (by omega)
 obtain⟨z,hz⟩:∃z,L[i]?=some z:=⟨_,eL (by omega)⟩
 have hz2:L.dropLast[i]?=some z:=by rw[List.getElem?_dropLast,aN (by omega)];exact hz
 obtain⟨hz3,hz4⟩:=fM.1 hz2
 rw[uA hz3,hz4] at ht
 unfold yZ at ht
 have OD:=bS (av:=lI) tC hz rfl
 have hpc:=aO4 (ba z)
 rw[show sb (ba z)=z from rfl] at hpc
 simp only[aE,OL,hw1,OD,lI,aZ,aB,seval,xN]
 refine(hpc _).to ?_
 cases hc:nF z with
 | none=>
  rw[hc] at ht
  simp only[xT,gK,aB,↓aU,seval,xN]
  exact tJ ht.symm b acc st hb (aL.refl _)
 | some c=>
  rw[hc] at ht
  simp only at ht
  have hcd:=(aH7 hc).1
  have hca:=nY c
  have hcw:=gM c
  have hcj:=BL c
  have hcs:=BM c
  have hcc:=H8 c
  simp only[xT,hca,hcw,hcj,hcs,aB,↓aU,seval,xN]
  refine eY m9 BS BU rfl rfl (gN hcw hcs) (BO _) hb (by simp only[aE,aX,a8];omega) (by simp only[aE,aX,a8];omega) (fun b' hb'=>?_)
  rw[show acc.map aF++ [aF c]=(acc++ [c]).map aF by simp] at hb' ⊢
  simp only[hw1,aB,seval]
  refine⟨(i+1,acc++ [c],b'),by simp only;omega,⟨by simp only;omega,ht,by simp only[dO,aX,a8];omega,?_,hb'⟩,aO.mk (by simp only[aB,seval]<;>rfl)⟩
  intro x hx
  rw[fG,LW] at hx
  rcases hx with hx | rfl
  · exact hdn x hx
  · exact hcd
theorem TB(s:ByteArray)(hs:s.size≤100000)(st:aA):aD prog 94 [.str s] st (fun r st'=>AK (oE (sb s)) r∧st'=st):=by
 refine aD.drop (Q:=AK _) (aD.fin ((aO5 s hs st).mono ?_))
 intro r st' h
 cases hT:oE (sb s) with
 | none=>
  rw[hT] at h
  obtain⟨rfl,rfl⟩:=h
  exact⟨0,[],st',rfl,by simp,by simp,⟨5,by simp⟩,aL.refl _,by simp only[AK,gB,pE,pF,bL,bE]⟩
 | some l=>
  rw[hT] at h
  obtain⟨b,hb,rfl,rfl⟩:=h
  exact⟨b,_,st,rfl,hb,H9 _,⟨5,BO _⟩,aL.refl _,by simp only[AK,gB,pE,lP,bL,bE]⟩
def xW(o:Option (List Tm)):AV:=match o with | some l=>.tup [.slice (l.map Tm.av),.bool true] | none=>.tup [.slice [],.bool false]
theorem PD{l:List UInt8}{q:List Tm}(h:lH l=some q):eP q=true∧∀t∈q,Dn t:=by
 unfold lH at h
 split at h
 · cases h
 rename_i g e h1
 split at h
 · rename_i h2
   cases h
   exact⟨h2.2.2,(IU h2.1 7 0 [] _ _ (iI _) (by simp) h1).2.2.1⟩
 · cases h
abbrev tY:=zi aS (zi bV (zi cH (zi cB cC)))
set_option maxHeartbeats 1000000 in
theorem MS(s:ByteArray)(st:aA):aD prog 51 [.str s] st (fun r st'=>r=xW (lH (sb s))∧st'=st):=by
 refine aD.jT (aD.fin ?_)
 have tJ:lH (sb s)=none→∃b l s0,st=a9 s0 b l∧(l≠[]→s0 b=none)∧(∀e∈l,e.bR=false)∧gW l∧(AV.tup [.fslice [],.bool false]).fin b l=xW (lH (sb s))∧aL s0 st:=fun h=>by
  rw[h]
  exact⟨0,[],st,rfl,by simp,by simp,⟨4,by simp⟩,by simp only[xW,gB,pE,pF,bL,bE],aL.refl _⟩
 refine wF [1000000] 1 func51 ntmps51 rfl rfl ?_
 intro _
 by_cases hs:s.size≤1000
 case neg=>
  have hs':((1000:Int)<(s.size:Int))=True:=bT (by omega)
  have hP:lH (sb s)=none:=by
   unfold lH
   split
   · rfl
   · rw[aK fun h=>hs (by rw[←b9];exact h.1)]
  simp only[hs',aZ,aB,seval,tY]
  exact tJ hP
 have hs':((1000:Int)<(s.size:Int))=False:=bG (by omega)
 have h0:=fun st=>TY hs 0 (iI _) st
 rw[show((0:Nat):Int)=0 from rfl] at h0
 simp only[hs',bB,aB,seval,tY]
 refine(h0 _).mono ?_
 rintro r st ⟨hr,rfl⟩
 cases hG:r0 (sb s) 7 0 [] with
 | none=>
  have hP:lH (sb s)=none:=by unfold lH;rw[hG]
  rw[hG] at hr
  simp only[rL] at hr
  subst hr
  have he:((-1:Int)=(s.size:Int))=False:=bG (by omega)
  simp only[he,bB,aB,seval,tY]
  exact tJ hP
 | some p=>
  obtain⟨g,e⟩:=p
  rw[hG] at hr
  simp only[rL] at hr
  subst hr
  have hg:=IU (by rw[b9];exact hs) 7 0 [] _ _ (iI _) (by simp) hG
  rw[b9] at hg
  simp only[aB,seval,tY]
  by_cases he:e=s.size
  case neg=>
   have hP:lH (sb s)=none:=by
    unfold lH
    rw[hG]
    simp only
    rw[aK fun h=>he (by rw[←b9];exact h.2.1)]
   have he':((e:Int)=(s.size:Int))=False:=bG (by omega)
   simp only[he',bB,aB,seval,tY]
   exact tJ hP
  have he':((e:Int)=(s.size:Int))=True:=bT (by omega)
  simp only[he',aZ,aB,seval]
  refine(EX g _).to ?_
  cases hq:eP g with
  | false=>
   have hP:lH (sb s)=none:=by
    unfold lH
    rw[hG]
    simp only
    rw[aK fun h=>by rw[hq] at h;exact absurd h.2.2 (by decide)]
   simp only[aB,seval,tY]
   exact tJ hP
  | true=>
   have hP:lH (sb s)=some g:=by
    unfold lH
    rw[hG]
    simp only
    rw[aN ⟨by rw[b9];exact hs,by rw[b9];exact he,hq⟩]
   have hg6:g.length≤6:=by
    simp only[eP,bD,bA] at hq
    exact hq.1
   simp only[aB,seval,tY]
   refine dX (σ:=Nat) [1000000] [2,3,4] g (fun i b=>((g.take i).map Tm.av≠[]→st b=none)) (fun i b=>[(6,bK 4 b ((g.take i).map Tm.av)),(7,.int .i64 i)]) (fun i b=>a9 st b ((g.take i).map Tm.av)) (by decide +kernel) ⟨0,fun h=>absurd rfl h,aO.mk (by simp only[j8,aB,↓aU,seval])⟩ (fun i x b hx hlt bP hdr hinv=>?_) (fun b hge hinv=>?_)
   case refine_1=>
    have hw:=bC (n:=(i:Int)+1)
    have cU:((g.take i).map Tm.av).length=i:=by simp only[aE,dK];omega
    have htk:(g.take i).map Tm.av++ [x.av]=(g.take (i+1)).map Tm.av:=by rw[eS,hx];simp
    have hat:=bS (av:=Tm.av) cF hx (aP x)
    simp only[bP,aE,hat,bM,aP,aB,seval,tY]
    refine(EV x _ (hg.2.2.1 x (cQ hx)).2).to ?_
    simp only[bM,aP,cT,aB,seval,tY]
    refine eY cF kP kQ rfl rfl (gN (aP _) (cR _)) (gE _) hinv (by simp only[cU,aX,a8];omega) (by simp only[cU,aX,a8];omega) (fun b' hb'=>?_)
    rw[htk] at hb' ⊢
    simp only[hw,aB,seval]
    exact⟨b',hb',aO.mk (by simp only[aB,seval])⟩
   rw[d6] at hinv ⊢
   simp only[aE,hge,l6,eK,sI,aB,seval,tY]
   rw[hP]
   exact⟨b,_,st,rfl,hinv,oM _,⟨4,gE _⟩,by simp only[xW,gB,pE,lP,bL,bE],aL.refl _⟩
end Go.AW
namespace Go.AW
section
variable {h:a7} {st:aA}
end
def aL0(st s0:aA)(os us:List AV):Prop:=∀h vs,cA h st→cO h st os vs→cO h s0 us vs
theorem uJ.fin{s0:aA}{b:Nat}{l:List AV}{r:AV}(h0:l≠[]→s0 b=none)(h2:∀e∈l,e.bR=false)(h3:gW l):xY (a9 s0 b l) s0∧uJ (a9 s0 b l) r s0 (r.fin b l):=by
 cases l with
 | nil=>exact⟨(aL.refl _).pY,fun h v S y=>y.soft⟩
 | cons e l=>
  have hb:=h0 (by simp)
  have h1:a9 s0 b (e::l) b=some (.cells ((e::l).flatMap AV.cells)):=by simp only[a9,aA.aH]
  have e1:(a9 s0 b (e::l)).erase b=s0:=by simp only[a9];exact aA.yI _ _ _ hb
  refine⟨?_,fun h v S y=>?_⟩
  · have:=(hH (a9 s0 b (e::l)) b).pY
    rwa [e1] at this
  · have:=y.fz S h1 h2 h3
    rw[e1] at this
    exact this.soft
theorem aD.aFK{P:Program}{g:FuncId}{args:List AV}{st:aA}{Q:AV→aA→Prop}(x:aD P g args st (fun r st'=>∃r2 s2,(xY st' s2∧uJ st' r s2 r2)∧Q r2 s2)):aD P g args st Q:=
 x.mH fun r st' ⟨r2,s2,⟨h1,h2⟩,h3⟩=>⟨r2,s2,h1,h2,h3⟩
end Go.AW
namespace Go.AW
open Go.Proofs.Tryz
theorem aQ2(st:aA):aD prog 228 [] st (fun r st'=>r=.slice (GY.map AV.str)∧st'=st):=by
 refine aD.done ?_
 refine wF [1000000] 0 func228 ntmps228 rfl rfl ?_
 intro _
 simp only[aB,seval,rD]
 exact⟨rfl,aL.refl _⟩
theorem aRE(st:aA):aD prog 299 [] st (fun r st'=>r=.slice (Q4.map AV.str)∧st'=st):=by
 refine aD.done ?_
 refine wF [1000000] 0 func299 ntmps299 rfl rfl ?_
 intro _
 simp only[aB,seval,rD]
 exact⟨rfl,aL.refl _⟩
theorem XY{α:Type}{P:Program}{t:TypeId}{ag:Bool}{w:Nat}{av:α→AV}{l:List α}{i:Nat}{x:α}(hI:eI P t=some (ag,w))(h:l[i]?=some x)(hw:(av x).width=w):dT P t (.fslice (l.map av)) (.int .i64 (i:Int))=some (.pptr (av x)):=by
 simp only[dT,hI,gI,lK,h,oT,hw]
 simp
def aFS(l:List ByteArray):AV:=.fslice (l.map AV.str)
abbrev PM (q:List Tm):Prop:=q.length≤6∧∀t∈q,Dn t
theorem aIE(s:ByteArray):∃q:List Tm,(PM q∧eP q=true)∧∃f,xW (lH (sb s))=.tup [.slice (q.map Tm.av),.bool f]:=by
 cases h:lH (sb s) with
 | none=>exact⟨[],⟨⟨by simp,by simp⟩,rfl⟩,false,rfl⟩
 | some q=>
  obtain⟨h1,h2⟩:=PD h
  exact⟨q,⟨⟨(JW h1).1,h2⟩,h1⟩,true,rfl⟩
theorem aZ2{s:ByteArray}(h:PC s=true):s.size≤200∧∃l:List Cl,oE (sb s)=some l∧2≤l.length∧l.length≤20∧∀c∈l,yF c:=by
 unfold PC at h
 rw[bD,bA] at h
 refine⟨h.1,?_⟩
 have h2:=h.2
 cases hp:oE (sb s) with
 | none=>rw[hp] at h2;simp at h2
 | some l=>
  rw[hp] at h2
  simp only[bD,bA] at h2
  refine⟨l,rfl,h2.1,h2.2,fun c hc=>?_⟩
  unfold oE at hp
  simp only at hp
  split at hp
  · cases hp
  · exact((NA _ [] l (by simp) hp).1 c hc).1
abbrev aKG:=zi aS (zi cH (zi tZ (zi cB rD)))
theorem aRF(bs:List Bt)(c p:Nat)(st:aA)(hp:p+10≤1099511627776)(hR:fH st c bs p):aD prog 229 [.ptr c 0] st (Dr bs c p 10 st (fun r=>∃q:List Tm,(PM q∧eP q=true)∧r=.slice (q.map Tm.av))):=by
 refine wF [1000000] 1 func229 ntmps229 rfl rfl ?_
 intro _
 simp only[aB,seval]
 refine(aRE _).to ?_
 simp only[aE,aB,seval,aKG]
 refine(s9 bs c p (by omega) Q4.length (by decide) (by decide) _ hR).mono ?_
 rintro _ _ ⟨k,hk,rfl,rfl⟩
 obtain⟨x,hx⟩:∃x,Q4[k]?=some x:=⟨_,eL hk⟩
 have hat:=bS (av:=AV.str) tC hx rfl
 simp only[hat,aB,seval,aKG]
 refine(MS x _).to ?_
 obtain⟨q,hq,f,hf⟩:=aIE x
 rw[hf]
 simp only[aB,seval]
 exact⟨p+1,by omega,by omega,rfl,q,hq,rfl⟩
abbrev GQ:=zi aS (zi gD (zi cH (zi tZ (zi jK (zi cB (zi rD a2T))))))
set_option maxHeartbeats 1000000 in
theorem aRD(bs:List Bt)(c p:Nat)(st:aA)(hp:p+100≤1099511627776)(hR:fH st c bs p) :
 aD prog 162 [.ptr c 0] st (Dr bs c p 100 st (fun r=>∃(l:List Cl) (q:List Tm),((2≤l.length∧l.length≤20∧∀x∈l,yF x)∧fD l=true)∧(PM q∧eP q=true)∧r=.tup [.slice (l.map aF),.slice (q.map Tm.av)])):=by
 refine wF [1000000] 1 func162 ntmps162 rfl rfl ?_
 intro _
 simp only[aB,seval]
 refine(aQ2 _).to ?_
 simp only[aE,aB,seval,GQ]
 refine(s9 bs c p (by omega) GY.length (by decide) (by decide) _ hR).mono ?_
 rintro _ _ ⟨k,hk,rfl,rfl⟩
 obtain⟨x,hx⟩:∃x,GY[k]?=some x:=⟨_,eL hk⟩
 have hat:=bS (av:=AV.str) tC hx rfl
 have hk2:k<DP.length:=hk
 obtain⟨y,hy⟩:∃y,DP[k]?=some y:=⟨_,eL hk2⟩
 obtain⟨hxs,l,hl1,hl2,hl3,hl4⟩:=aZ2 (c6.1 a2Z x (cQ hx))
 have hpv:=c6.1 a20 x (cQ hx)
 rw[hl1] at hpv
 have hyo:=c6.1 a2X y (cQ hy)
 simp only[bD,bA] at hyo
 have aF1:=XY (P:=prog) (av:=aFS) U6 hy rfl
 simp only[DP,aFS,bL,bE] at aF1
 have hpp:=fun st=>TB x (by omega) st
 rw[hl1] at hpp
 simp only[hat,aB,seval,GQ]
 refine(hpp _).mono ?_
 rintro _ _ ⟨rfl,rfl⟩
 simp only[aF1,aB,seval,GQ]
 refine(s9 bs c (p+1) (by omega) 5 (by omega) (by omega) _ fH.new).mono ?_
 rintro _ _ ⟨j,hj,rfl,rfl⟩
 rw[dW]
 simp only[aB,seval]
 refine aQ (fun h0=>?_) (fun h0=>?_)
 · simp only[aB,seval]
   refine(aRF bs c (p+1+1) _ (by omega) fH.new).mono ?_
   rintro _ _ ⟨p2,r1,r2,rfl,q,hq,rfl⟩
   rw[dW]
   simp only[aB,seval]
   exact⟨p2,by omega,by omega,rfl,l,q,⟨⟨hl2,hl3,hl4⟩,hpv⟩,hq,rfl⟩
 simp only[aE,aB,seval,GQ]
 refine(s9 bs c (p+1+1) (by omega) y.length (by omega) (by have:=a2Y y (cQ hy);omega) _ fH.new).mono ?_
 rintro _ _ ⟨i,hi,rfl,rfl⟩
 rw[dW]
 obtain⟨z,hz⟩:∃z,y[i]?=some z:=⟨_,eL hi⟩
 have OB:=XY (P:=prog) (av:=AV.str) tC hz rfl
 simp only[OB,aB,seval,GQ]
 refine(MS z _).to ?_
 obtain⟨q,hq,f,hf⟩:=aIE z
 rw[hf]
 simp only[aB,seval]
 exact⟨p+1+1+1,by omega,by omega,rfl,l,q,⟨⟨hl2,hl3,hl4⟩,hpv⟩,hq,rfl⟩
end Go.AW
namespace Go.AW

end Go.AW
namespace Go.AW
open Go.Proofs.Tryz

section
variable {st0 st:aA} {S c m:Nat} {qt qc qn:AV} {p:List Cl} {q:List Tm} {idx:Bool} {fuel used mx:Int} {nd:List AV} {i:IS}
end
section
variable {st0 st:aA} {S c m:Nat} {qt qc qn:AV} {p:List Cl} {q:List Tm} {idx:Bool} {fuel used mx:Int} {nd:List AV} {i:IS}
end
section
variable {st0 st:aA} {S c m:Nat} {qt qc qn:AV} {p:List Cl} {q:List Tm} {idx:Bool} {fuel used mx:Int} {nd:List AV} {i:IS}
end



end Go.AW
namespace Go.AW

end Go.AW
namespace Go.AW
open Go.Proofs.Tryz
section
variable {p:List Cl} (hp:∀c∈p,iG c) {cnd:Tm→List Nat→List Nat} (hc:∀(ρ:Int→Int) (t:Tm) (l:List Nat),cnd (iQ ρ t) l=cnd t l)
include hp hc
end
section
variable {p:List Cl} (hp:∀c∈p,iG c∧c.2.length≤6) (hpl:p.length≤20) {cnd:Tm→List Nat→List Nat} (hc:∀(ρ:Int→Int) (t:Tm) (l:List Nat),cnd (iQ ρ t) l=cnd t l) (hd:∀t l,(∀i∈cnd t l,i∈l)∧(cnd t l).length≤l.length)
include hp
end
section
variable {st0 st:aA} {S c m:Nat} {qt qc qn:AV} {p:List Cl} {q:List Tm} {idx:Bool} {fuel used mx:Int} {nd:List AV} {i:IS}
end



end Go.AW

namespace Go.AW
open Go.Proofs.Tryz
open Go.Shelf
set_option linter.unusedSimpArgs false
set_option linter.unusedVariables false
set_option maxRecDepth 100000
end Go.AW

namespace Go.AW
open Go.Proofs.Tryz









theorem MO{k:Int}(h0:0≤k):IntKind.u8.wrap k=((k.toNat % 256:Nat):Int):=by
 simp only[IntKind.wrap,IntKind.signed,IntKind.bits]
 simp
 omega

theorem aYN{qs:List AV}(h:qs.length=2):∃q q',qs= [q,q']:=by
 match qs,h with
 | [q,q'],_=>exact⟨q,q',rfl⟩
noncomputable def lE(s:Ss)(u:Int):List (List Tm)×Int:=
 ((lS s.p (fun _ l=>l) s.q 20 u).1,if(lS s.p (fun _ l=>l) s.q 20 u).2=2∧u<s.quota then -1 else(lS s.p (fun _ l=>l) s.q 20 u).2)
noncomputable def BW(s:Ss):List (List Tm)×Int:=lE s s.used
def xG(s:Ss):Bool:=fD s.p&&(eP s.q&&(decide (0≤s.quota)&&(decide (s.quota≤300)&&(decide (0≤s.used)&&decide (s.used≤s.quota)))))
def PX(s:Ss):Bool:=decide (s.used=0)&&(decide (s.sent=0)&&decide (s.fin= -1))
noncomputable def nK(s:Ss):Bool:=xG s&&(PX s||(decide (s.sent=((BW s).1.length:Int))&&decide (s.fin=(BW s).2)))
theorem aI4{s:Ss}(h:xG s=true):oH s.p s.q 20 s.used=true:=by
 simp only[xG,bD,bA] at h
 obtain⟨h1,h2,h3,h4,h5,h6⟩:=h
 simp only[oH,h1,h2,cZ]
 rw[d9 h5,d9 (show s.used≤300 by omega)]
 decide
abbrev aJ8:=zi aS (zi jK (zi cB (zi oK DM)))
theorem TG(s:Ss)(u:Int)(h:oH s.p s.q 20 u=true)(st:aA):aD prog 175 [iZ s,.int .i64 u] st (fun r st'=>r=.tup [.slice ((lE s u).1.map fB),.int .i64 (lE s u).2]∧st'=st):=by
 have hok:=h
 simp only[oH,bD,bA] at h
 obtain⟨kp,kq,_,_,k3,k4⟩:=h
 obtain⟨p1,p2⟩:=a0A kp
 obtain⟨q1,q2⟩:=JW kq
 have hr:=aRG p2 p1 q2 q1 (most:=20) (fuel:=u.toNat) (by omega) (by omega)
 rw[show((20:Nat):Int)=20 from rfl,show((u.toNat:Nat):Int)=u by omega] at hr
 have hs:lS s.p (fun _ l=>l) s.q 20 u=xF s.p (fun _ l=>l) s.q 20 u.toNat:=by
  unfold lS
  rw[aN hok]
  try rfl
 rw[←hs] at hr
 unfold lE
 generalize lS s.p (fun _ l=>l) s.q 20 u=T at *
 obtain⟨L,e⟩:=T
 simp only at hr ⊢
 obtain⟨p,q,i0,i1,i2,i3⟩:=s
 simp only[iZ] at *
 refine wF [1000000] 2 func175 ntmps175 rfl rfl ?_
 intro _
 simp only[aB,seval,aJ8]
 refine(hr _).to ?_
 repeat' (first
  | (simp only[*,aB,seval,aJ8])
  | (refine cK (fun h=>?_) (fun h=>?_))
  | (refine aQ (fun h=>?_) (fun h=>?_)))
 all_goals simp_all
theorem aPS(s:Ss)(h:xG s=true)(st:aA):aD prog 175 [iZ s,.int .i64 s.used] st (fun r st'=>r=.tup [.slice ((BW s).1.map fB),.int .i64 (BW s).2]∧st'=st):=TG s s.used (aI4 h) st
abbrev aJ7:=zi aS (zi bV (zi jK (zi cB (zi oK DM))))
theorem aR0(s:Ss)(st:aA):aD prog 125 [iZ s] st (fun r st'=>r=.bool (nK s)∧st'=st):=by
 have ha:=aPS s
 unfold nK
 generalize BW s=T at *
 obtain⟨L,e⟩:=T
 obtain⟨p,q,i0,i1,i2,i3⟩:=s
 simp only[iZ,xG,PX] at *
 refine aD.done ?_
 refine wF [1000000] 1 func125 ntmps125 rfl rfl ?_
 intro _
 simp only[aB,seval,aJ7]
 repeat' (first
  | (simp only[*,aE,aB,seval,aJ7])
  | (refine cK (fun h=>?_) (fun h=>?_))
  | (refine(H5 p _).to ?_) | (refine(EX q _).to ?_) | (refine(ha (by simp_all) _).to ?_)
  | (refine aQ (fun h=>?_) (fun h=>?_)))
 all_goals (refine⟨?_,aL.refl _⟩;simp only[AV.soft];first | (simp_all;done) | (simp_all;intros;omega))
def gQ(s:Ss)(n:Int):Int:=if n<s.quota - s.used then s.used+n else s.quota
noncomputable def j9(s:Ss)(n:Int):Ss:={ s with used:=gQ s n,sent:=((lE s (gQ s n)).1.length:Int),fin:=(lE s (gQ s n)).2 }
noncomputable def lG(s:Ss)(n:Int):List (List Tm):=(lE s (gQ s n)).1.drop s.sent.toNat
structure SlF (s:Ss) (n:Int):Prop where
 rng:xG s=true
 ok:oH s.p s.q 20 (gQ s n)=true
 u0:0≤s.used
 u1:s.used≤gQ s n
 u2:gQ s n≤s.quota
 q1:s.quota≤300
 s0:0≤s.sent
 s1:s.sent≤((lE s (gQ s n)).1.length:Int)
 l:(lE s (gQ s n)).1.length≤20
 nxt:nK (j9 s n)=true
theorem PY{s:Ss}:xG s=true↔fD s.p=true∧eP s.q=true∧0≤s.quota∧s.quota≤300∧0≤s.used∧s.used≤s.quota:=by
 simp only[xG,bD,bA]
theorem J5{s:Ss}{n:Int}(h:nK s=true)(hn:0≤n):SlF s n:=by
 have h':=h
 simp only[nK,bD] at h'
 obtain⟨hr,hs⟩:=h'
 obtain⟨kp,kq,k1,k2,k3,k4⟩:=PY.1 hr
 have hu1:s.used≤gQ s n:=by unfold gQ;split<;>omega
 have hu2:gQ s n≤s.quota:=by unfold gQ;split<;>omega
 have aXN:oH s.p s.q 20 s.used=true:=aI4 hr
 have hok:oH s.p s.q 20 (gQ s n)=true:=J3.2 ⟨kp,kq,by omega,by omega,by omega,by omega⟩
 have hl:=a1S (cnd:=fun _ l=>l) hok
 have a41:=(aWJ (cnd:=fun _ l=>l) aXN hu1 (by omega)).2.length_le
 have aGS:0≤s.sent∧s.sent≤((lE s (gQ s n)).1.length:Int):=by
  simp only[kZ,PX,bD,bA] at hs
  rcases hs with ⟨_,h2,_⟩ | ⟨h1,_⟩
  · omega
  · simp only[BW,lE] at h1 ⊢
    omega
 refine⟨hr,hok,k3,hu1,hu2,k2,aGS.1,aGS.2,by simp only[lE];omega,?_⟩
 simp only[nK,bD]
 refine⟨PY.2 ⟨kp,kq,k1,k2,?_,hu2⟩,?_⟩
 · show 0≤gQ s n
   omega
 · rw[kZ]
   exact .inr (by rw[bD];exact⟨d9 rfl,d9 rfl⟩)
theorem aML{P:Program}{t:TypeId}{ag:Bool}{w:Nat}{φ:AF}{y:Operand}{L:List AV}{n:Nat}(hI:eI P t=some (ag,w))(hn:n≤L.length)(hw:∀e∈L,e.width=w)(h:φ.eval y=.int .i64 (n:Int)):gJ P φ t (.slice L) (some y) none none=some (.slice (L.drop n)):=by
 have h1:dE φ none L.length L.length=some L.length:=rfl
 have h3:dE φ (some y) 0 L.length=some n:=by
  simp only[dE,h]
  rw[aN ⟨by omega,by omega⟩]
  rw[gI]
 have hwd:pZ L n w=true:=by
  unfold pZ
  split
  · rename_i e he
    simp [hw e (cQ he)]
  · rfl
 unfold gJ nU
 rw[aK (by simp [qV])]
 simp only[hI,h1,h3,hwd]
 simp
theorem aM2(l:List (List Tm)):∀e∈l.map fB,e.width=1:=by intro e h;simp only[cM] at h;obtain⟨t,_,rfl⟩:=h;rfl
abbrev xM:=zi aS (zi oK DM)
set_option maxHeartbeats 2000000 in
theorem aPU(s:Ss)(n:Int)(h:nK s=true)(hn:0≤n)(st:aA):aD prog 128 [iZ s,.int .i64 n] st (fun r st'=>r=.tup [iZ (j9 s n),.slice ((lG s n).map fB)]∧st'=st):=by
 have hF:=J5 h hn
 obtain⟨kp,kq,k1,k2,k3,k4⟩:=PY.1 hF.rng
 obtain⟨p1,p2⟩:=CR kp
 obtain⟨q1,q2⟩:=JX kq
 have hcp:=MT s (by omega) p2 (by omega) q2
 have ha:=TG s (gQ s n) hF.ok
 have hs0:=hF.s0
 have hs1:=hF.s1
 have hfl:=hF.l
 have hu0:=hF.u0
 have hu1:=hF.u1
 have hu2:=hF.u2
 have hq1:=hF.q1
 unfold j9 lG
 generalize lE s (gQ s n)=T at *
 obtain⟨L,e⟩:=T
 simp only at ha hs1 hfl ⊢
 have hnu:gQ s n=if n<s.quota - s.used then s.used+n else s.quota:=rfl
 generalize gQ s n=u at *
 obtain⟨p,q,i0,i1,i2,i3⟩:=s
 simp only[iZ] at *
 obtain⟨k,rfl⟩:=v6 hs0
 refine aD.done ?_
 refine wF [1000000,6] 2 func128 ntmps128 rfl rfl ?_
 intro _
 simp only[aB,seval,xM]
 intro b4 h4
 refine(hcp _).to ?_
 simp only[aG,aB,↓aU,seval,xM]
 intro b6 h6
 have h64:b6≠b4:=by rintro rfl;rw[aA.aH] at h6;cases h6
 have h6':st b6=none:=by rwa [aA.aJ _ _ h64] at h6
 have hw0:=bC (n:=i0 - i1)
 have hsl:=fun(φ:AF) (y:Operand) (h:φ.eval y=.int .i64 (k:Int))=>aML (P:=prog) (t:=86) (L:=L.map fB) IJ (by rw[aE];omega) (aM2 L) h
 simp only[hw0,seval]
 refine aQ (fun h1=>?_) (fun h1=>?_)
 · have h1':n<i0 - i1:=by simpa using h1
   rw[aN h1'] at hnu
   have hw1:=bC (n:=i1+n)
   rw[←hnu] at hw1
   simp only[aG,hw1,←hnu,dW,aB,seval,xM]
   refine(ha _).to ?_
   simp only[aE,aG,dW,aB,seval,xM]
   have r7:∀(o:AO),((st.aC b4 (.cells [.fslice [],.fslice [],.int .i64 0,.int .i64 0,.int .i64 0,.int .i64 0])).aC b6 o) b6=some o:=fun o=>aA.aH _ _ _
   refine z5 [(0,1),(1,1),(2,1),(3,1),(4,1),(5,0),(6,1)] [0,1,2,3,4,6] (eF.aC b6 (.cells [.slice (p.map aF),.slice (q.map Tm.av),.int .i64 i0,.int .i64 (u),.int .i64 (L.length:Int),.int .i64 e])) mixed (by decide +kernel) (by decide +kernel) (by decide +kernel) rfl (hJ (r7 _)) ?_
   simp only[aG,h64.symm,hsl,aB,seval,xM]
   exact⟨hJ (by rw[aA.aJ _ _ h64,aA.aH]),by simp only[jV,kG,jW,pV,bL,bE,gI,List.map_drop],(((aL.refl _).aC h4).aC h6').aC h4⟩
 · have h1':¬n<i0 - i1:=by simpa using h1
   rw[aK h1'] at hnu
   obtain rfl:i0=u:=hnu.symm
   simp only[aB,seval,xM]
   refine(ha _).to ?_
   simp only[aE,aG,dW,aB,seval,xM]
   have r7:∀(o:AO),((st.aC b4 (.cells [.fslice [],.fslice [],.int .i64 0,.int .i64 0,.int .i64 0,.int .i64 0])).aC b6 o) b6=some o:=fun o=>aA.aH _ _ _
   refine z5 [(0,1),(1,1),(2,1),(3,1),(4,1),(5,0),(6,1)] [0,1,2,3,4,6] (eF.aC b6 (.cells [.slice (p.map aF),.slice (q.map Tm.av),.int .i64 i0,.int .i64 (i0),.int .i64 (L.length:Int),.int .i64 e])) mixed (by decide +kernel) (by decide +kernel) (by decide +kernel) rfl (hJ (r7 _)) ?_
   simp only[aG,h64.symm,hsl,aB,seval,xM]
   exact⟨hJ (by rw[aA.aJ _ _ h64,aA.aH]),by simp only[jV,kG,jW,pV,bL,bE,gI,List.map_drop],(((aL.refl _).aC h4).aC h6').aC h4⟩
abbrev KI:=zi jK (zi cB oK)
theorem aZJ(s:Ss)(hp:s.p.length≤1048576)(hps:∀c∈s.p,E0 c)(hq:s.q.length≤1048576)(hqx:∀t∈s.q,t.small=true)(st:aA):aD prog 70 [iZ s] st (Made st (iZ s)):=by
 obtain⟨p,q,i0,i1,i2,i3⟩:=s
 simp only at hp hps hq hqx
 simp only[iZ]
 refine aD.O1 ?_
 refine wF [1000000,1] 1 func70 ntmps70 rfl rfl ?_
 intro _
 simp only[aB,seval,KI]
 intro b hb1 b2 hb2
 obtain⟨hne,C0⟩:=f9.two hb1 hb2
 refine z5 [(0,1),(1,1),(3,1),(4,1),(2,0),(6,1),(5,0),(7,2),(8,2),(9,2)] [0,1,3,4,6] (eF.aC b (.cells [.slice (p.map aF),.slice (q.map Tm.av),.int .i64 i0,.int .i64 i1,.int .i64 i2,.int .i64 i3])) mixed (by decide +kernel) (by decide +kernel) (by decide +kernel) rfl (hJ (by rw[aA.aJ _ _ hne.symm,aA.aH])) ?_
 simp only[gC,aB,seval,KI]
 refine(aHO p _ hp fun x hx s=>aHN x s (hps x hx)).mono ?_
 rintro q0 s1 m1
 obtain⟨k1,bs1,C1⟩:=C0.made m1
 have e1:=k1 b (by simp)
 have e2:=k1 b2 (by simp)
 simp only[gC,hne,hne.symm,eN,dA] at e1 e2
 obtain⟨hqc,hqs,hqa,hqw,hqj⟩:=C1.own.vO rfl q0 (by simp)
 simp only[aB,seval,KI]
 refine⟨hJ e1,?_⟩
 refine(O5 q _ hq fun x hx s=>JO x s (hqx x hx)).mono ?_
 rintro q1 s2 m2
 obtain⟨k2,bs2,C2⟩:=C1.made m2
 have f1:=k2 b (by simp)
 have f2:=k2 b2 (by simp)
 rw[e1] at f1
 rw[e2] at f2
 obtain⟨hrc,hrs,hra,hrw,hrj⟩:=C2.own.vO rfl q1 (by simp)
 simp only[aG,gC,hne,f1,f2,hqc,hqs,hrc,hrs,dW,aB,seval,KI]
 refine⟨hJ f1,?_⟩
 refine((C2.aC (d:=b) (by simp) _).aC (d:=b2) (by simp) _).done fun h=>?_
 exact FU.2 ⟨_,rfl,h⟩

end Go.AW
namespace Go.AW
theorem aD.aG6{P:Program}{g:FuncId}{args args':List AV}{st s0:aA}{Q:AV→aA→Prop}(D:aL st s0)(hv:aL0 st s0 args' args)(x:aD P g args s0 Q):aD P g args' st Q:=
 ⟨x.1,fun w vs S V=>(x.2 w vs (D.CY S) (hv _ _ S V)).mono fun e w' ⟨v,r,st',e1,a,b,c,d,q⟩=>⟨v,r,st',e1,a,b,(D.step w.heap).trans c,d,q⟩⟩
end Go.AW
namespace Go.AW
open Go.Proofs.Tryz



end Go.AW
namespace Go.AW
theorem a0K{p:List Cl}{cnd:Tm→List Nat→List Nat}{s:RS}{g:RG}{rest:List RG}{e:Int}(h:jI p cnd s g rest=.stop e):0≤e:=by
 unfold jI at h
 repeat' split at h
 all_goals first | (cases h;done) | (injection h with h;subst h;unfold uY;repeat' split;all_goals omega) | (injection h with h;omega)
theorem a0F(p:List Cl)(cnd:Tm→List Nat→List Nat)(vars:List Int):∀(n most f:Nat) (s:RS),most+f≤n→0≤(iY p cnd vars most f s).2:=by
 intro n
 induction n with
 | zero=>
  intro most f s hn
  obtain rfl:most=0:=by omega
  obtain rfl:f=0:=by omega
  cases hg:s.goals with
  | nil=>rw[sC hg];simp
  | cons g rest=>rw[oF (fuel:=0) hg];simp
 | succ n ih=>
  intro most f s hn
  cases hg:s.goals with
  | nil=>
   rw[sC hg]
   by_cases hm:most=0
   · rw[aN hm];simp
   rw[aK hm]
   cases ha:oY s.σ vars with
   | none=>simp
   | some a=>
    simp only
    cases hb:fK p s.chs.length s.chs with
    | none=>simp
    | some s'=>exact ih (most - 1) f s' (by omega)
  | cons g rest=>
   by_cases hf:f=0
   · subst hf
     rw[oF (fuel:=0) hg];simp
   rw[oF hg,aK hf]
   cases hst:jI p cnd s g rest with
   | stop e=>exact a0K hst
   | go s'=>exact ih most (f - 1) s' (by omega)
   | fail=>
    simp only
    cases hb:fK p s.chs.length s.chs with
    | none=>simp
    | some s'=>exact ih most (f - 1) s' (by omega)
theorem aI0{p:List Cl}{cnd:Tm→List Nat→List Nat}{q:List Tm}{most fuel:Int}:0≤(lS p cnd q most fuel).2:=by
 unfold lS
 split
 · exact a0F p cnd _ _ _ _ _ (cX _)
 · simp
theorem HN{U:aA}{bo x:Nat}{os:List AV}(h:os≠[]→x≠bo):a9 U bo os x=U x:=by
 by_cases hl:os= []
 · rw[hl,rQ]
 · rw[sU (h hl)]
section
variable {P:Program}
def w8(ops:Array Oper)(S:List Nat):List (Nat×Nat)→Array Bool→Option (Array Bool)
 | [],listed=>some listed
 | (i,0)::r,listed=>if decide (Region.ready .any ops listed= [i])&& !S.contains i then w8 ops S r (listed.setIfInBounds i true) else none
 | (i,1)::r,listed=>if(Region.ready .any ops listed).contains i&&Region.free .any ops listed i&&S.contains i then w8 ops S r (listed.setIfInBounds i true) else none
 | _::_,_=>none
theorem L9{ops:Array Oper}{S:List Nat}{s0:aA}{K K':AF→aA→Prop}{n:Nat}:∀(p:List (Nat×Nat)) (listed l':Array Bool) (φ:AF) (st:aA),rK ops listed→w8 ops S p listed=some l'→eC s0 st →
 (∀φ st,rK ops l'→eC s0 st→K' φ st→uK P ops S s0 K n l' φ st)→x7 P ops s0 K' p φ st→uK P ops S s0 K (p.length+n) listed φ st
 | [],listed,l',φ,st,hcl,hB,hx,hK,h=>by
  simp only[w8,Option.some.injEq] at hB
  subst hB
  rw[a8,j7]
  exact hK φ st hcl hx h
 | (i,0)::r,listed,l',φ,st,hcl,hB,hx,hK,h=>by
  simp only[w8] at hB
  split at hB
  case isFalse=>cases hB
  rename_i hc
  simp only[bD,bA,i9] at hc
  obtain⟨o,ho,h'⟩:=h
  have hr:i∈Region.ready .any ops listed:=by rw[hc.1];simp
  rw[aX,show r.length+1+n=(r.length+n)+1 by omega]
  refine⟨fun h0=>(by rw[hc.1] at h0;cases h0),fun j hj=>?_⟩
  rw[hc.1] at hj
  obtain rfl:j=i:=by simpa using hj
  exact⟨o,ho,.inr ⟨hc.2,rO (fun v st' q=>⟨.inr q.1,L9 r _ _ _ _ (hcl.set hr) hB q.1 hK q.2⟩) h'⟩⟩
 | (i,1)::r,listed,l',φ,st,hcl,hB,hx,hK,h=>by
  simp only[w8] at hB
  split at hB
  case isFalse=>cases hB
  rename_i hc
  simp only[bD] at hc
  obtain⟨⟨hr,hf⟩,hS⟩:=hc
  obtain⟨o,ho,v,hv,h'⟩:=h
  have hr':i∈Region.ready .any ops listed:=by simpa using hr
  rw[aX,show r.length+1+n=(r.length+n)+1 by omega]
  exact R5 ho hS _ listed φ st hcl (Region.free_spec ho hf) hr' hv hx (L9 r _ _ _ _ (hcl.set hr') hB hx hK h')
 | (i,k+2)::r,listed,l',φ,st,hcl,hB,hx,hK,h=>by simp [w8] at hB
inductive PT where
 | fin (p:List (Nat×Nat))
 | br (p:List (Nat×Nat)) (i j:Nat) (a b:PT)
def PT.size:PT→Nat
 | .fin p=>p.length
 | .br p _ _ a _=>p.length+(a.size+1)
def CS(ops:Array Oper)(S:List Nat):PT→Array Bool→Bool
 | .fin p,l=>qZ ops S p l&&y5 p
 | .br p i j a b,l=>match w8 ops S p l with
  | none=>false
  | some l'=>decide (Region.ready .any ops l'= [i,j])&& !S.contains i&& !S.contains j&&decide (b.size=a.size)&&CS ops S a (l'.setIfInBounds i true)&&CS ops S b (l'.setIfInBounds j true)
def qE(P:Program)(ops:Array Oper)(s0:aA)(K:AF→aA→Prop):PT→AF→aA→Prop
 | .fin p,φ,st=>fV P ops s0 K p φ st
 | .br p i j a b,φ,st=>fV P ops s0 (fun φ st=>
  (match ops[i]? with | none=>False | some o=>aW P [] ops [o] (fun φ' st'=>eC s0 st'∧qE P ops s0 K a φ' st') φ st) ∧
  (match ops[j]? with | none=>False | some o=>aW P [] ops [o] (fun φ' st'=>eC s0 st'∧qE P ops s0 K b φ' st') φ st)) p φ st
def JH(P:Program)(ops:Array Oper)(s0:aA)(K:AF→aA→Prop)(t:PT)(φ:AF)(st:aA):Prop:=eC s0 st∧qE P ops s0 K t φ st
def tT(P:Program)(ops:Array Oper)(s0:aA)(K:AF→aA→Prop)(t:PT)(φ:AF)(st:aA):Option Oper→Prop
 | none=>False
 | some o=>aW P [] ops [o] (JH P ops s0 K t) φ st
def HW(P:Program)(ops:Array Oper)(s0:aA)(K:AF→aA→Prop)(i j:Nat)(a b:PT)(φ:AF)(st:aA):Prop:=tT P ops s0 K a φ st ops[i]?∧tT P ops s0 K b φ st ops[j]?
theorem LZ{ops:Array Oper}{s0:aA}{K:AF→aA→Prop}{p:List (Nat×Nat)}{φ:AF}{st:aA}:qE P ops s0 K (.fin p) φ st=fV P ops s0 K p φ st:=by rw[qE]
theorem RL{ops:Array Oper}{s0:aA}{K:AF→aA→Prop}{p:List (Nat×Nat)}{i j:Nat}{a b:PT}{φ:AF}{st:aA}:qE P ops s0 K (.br p i j a b) φ st=fV P ops s0 (HW P ops s0 K i j a b) p φ st:=by
 rw[qE]
 congr 1
theorem aLY{l:List Oper}{s0:aA}{K:AF→aA→Prop}{i j:Nat}{a b:PT}{φ:AF}{st:aA}:HW P l.toArray s0 K i j a b φ st=(tT P l.toArray s0 K a φ st l[i]?∧tT P l.toArray s0 K b φ st l[j]?):=by
 simp only[HW,v8]
theorem aLZ{ops:Array Oper}{s0:aA}{K:AF→aA→Prop}{t:PT}{φ:AF}{st:aA}{o:Oper}:tT P ops s0 K t φ st (some o)=aW P [] ops [o] (JH P ops s0 K t) φ st:=by rw[tT]
theorem RM{ops:Array Oper}{s0:aA}{K:AF→aA→Prop}{t:PT}{φ:AF}{st:aA}:JH P ops s0 K t φ st=(eC s0 st∧qE P ops s0 K t φ st):=by rw[JH]
theorem aI5{ops:Array Oper}{s0:aA}{K:AF→aA→Prop}{t:PT}{φ:AF}{st:aA}{i:Nat}(h:tT P ops s0 K t φ st ops[i]?) :
 ∃o,ops[i]?=some o∧gY P ops o φ st (fun v st'=>eC s0 st'∧qE P ops s0 K t (φ.put o.dst v) st'):=by
 cases ho:ops[i]? with
 | none=>rw[ho] at h;exact h.elim
 | some o=>
  rw[ho] at h
  refine⟨o,rfl,?_⟩
  simp only[tT,aW] at h
  unfold gY
  split at h
  · rename_i hg
    rw[hg]
    exact x8 (fun v s q=>q) h
  · rename_i hg
    rw[hg]
    exact⟨h.1,h.2⟩
  · exact h.elim
theorem L8{ops:Array Oper}{S:List Nat}{s0:aA}{K:AF→aA→Prop}:∀(t:PT) (listed:Array Bool) (φ:AF) (st:aA),rK ops listed→CS ops S t listed=true→eC s0 st→qE P ops s0 K t φ st→uK P ops S s0 K t.size listed φ st
 | .fin p,listed,φ,st,hcl,hB,hx,h=>by
  simp only[CS,bD] at hB
  rw[LZ] at h
  exact EJ p _ _ _ hcl hB.1 (.inl ⟨hB.2,hx⟩) (sT _ _ _ h)
 | .br p i j a b,listed,φ,st,hcl,hB,hx,h=>by
  simp only[CS] at hB
  split at hB
  · cases hB
  rename_i l' hl'
  simp only[bD,bA,i9] at hB
  obtain⟨⟨⟨⟨⟨hr,hSi⟩,hSj⟩,hsz⟩,hBa⟩,hBb⟩:=hB
  rw[RL] at h
  refine L9 (K':=HW P ops s0 K i j a b) p _ _ _ _ hcl hl' hx (fun φ st hcl hx hK=>?_) (sT _ _ _ h)
  refine⟨fun h0=>(by rw[hr] at h0;cases h0),fun k hk=>?_⟩
  have hk':=hk
  rw[hr] at hk'
  rcases cL.1 hk' with rfl | hk'
  · obtain⟨o,ho,h2⟩:=aI5 hK.1
    exact⟨o,ho,.inr ⟨hSi,rO (fun v st' q=>⟨.inr q.1,L8 a _ _ _ (hcl.set hk) hBa q.1 q.2⟩) h2⟩⟩
  · obtain rfl:k=j:=by simpa using hk'
    obtain⟨o,ho,h2⟩:=aI5 hK.2
    have:=fun(v:AV) (st':aA) (q:eC s0 st'∧qE P ops s0 K b (φ.put o.dst v) st')=>L8 (S:=S) b _ _ _ (hcl.set hk) hBb q.1 q.2
    rw[hsz] at this
    exact⟨o,ho,.inr ⟨hSj,rO (fun v st' q=>⟨.inr q.1,this v st' q⟩) h2⟩⟩
theorem aNM{N:Nat}{id:Nat}{l:List Oper}{Q:Exit→AF→aA→Prop}{φ:AF}{st:aA}(t:PT)(S:List Nat)(s0:aA)(hm:P.follows .mixedOrders=true)(hok:oD N l.toArray=true)(hl:t.size=l.length)(hB:CS l.toArray S t (Array.replicate l.toArray.size false)=true)(hs:eC s0 st)
 (h:qE P l.toArray s0 (Q .normal) t φ st):eG P N (.region id l.toArray true) Q φ st:=by
 intro a w R
 refine wp_region_any hm ?_
 have R0:Rel N a { w with drawn:=w.drawn+1 } φ st:=⟨R.size,R.defers,R.frame,R.store⟩
 have key:=L8 (P:=P) (ops:=l.toArray) (S:=S) (s0:=s0) (K:=Q .normal) t (Array.replicate l.toArray.size false) φ st (fun j o _ hl=>(by rw[N4] at hl;cases hl)) hB hs h
 rw[hl,←List.size_toArray] at key
 exact HI (w6 hok) (vQ hok) (w0:=w) (st0:=st) (fun φ' st' a' w' k R' T s=>⟨φ',st',R',T,s,k⟩) _ _ _ _ _ _ (HJ _ _ _ _ key) R0 (bQ.refl _ _) ⟨rfl,rfl,rfl⟩
end
@[congr] theorem a4N {P:Program} {ops:Array Oper} {s0:aA} {K:AF→aA→Prop} {t:PT} {φ φ':AF} {st st':aA} {o o':Option Oper} (h1:φ=φ') (h2:st=st') (h3:o=o'):tT P ops s0 K t φ st o=tT P ops s0 K t φ' st' o':=by rw[h1,h2,h3]
end Go.AW
namespace Go.AW
open Go.Proofs.Tryz


theorem wY{b:List Bt}(h:0<jH b):jH b=((2+eO b:Nat):Int)∧2+eO b≤b.length∧3≤2+eO b∧iA (pI b)=true∧vN b=pI b:=by
 by_cases h0:b.length<2
 · rw[JJ h0] at h;omega
 by_cases h1:eO b<1∨2001<eO b
 · rw[CH h0 h1] at h;omega
 by_cases h2:b.length<2+eO b
 · rw[JK h0 h1 h2] at h;omega
 have hd:=O3 h0 h1 h2
 cases hf:iA (pI b) with
 | false=>rw[hf,aK (by simp)] at hd;omega
 | true=>
  rw[hf,aN rfl] at hd
  exact⟨hd,by omega,by omega,rfl,by unfold vN;rw[aN h]⟩
def kX(b:List Bt):List Fr×List Bt×Bool:=
 if h:0<jH b then let r:=kX (b.drop (2+eO b));(pI b::r.1,r.2)
 else if jH b=0 then([],b,false) else([],[],true)
termination_by b.length
decreasing_by
 have:=wY h
 rw[j6]
 omega
def HF(T:List Fr×List Bt×Bool)(r:AV):Prop:=r=.tup [.slice (T.1.map bO),.slice (T.2.1.map bJ),.bool T.2.2]
theorem qT(l:List Fr):∀e∈l.map bO,e.bR=false:=fun e he=>by simp only[cM] at he;obtain⟨t,_,rfl⟩:=he;rfl
theorem nZ(l:List Fr):∀e∈l.map bO,e.width=2:=fun e he=>by simp only[cM] at he;obtain⟨t,_,rfl⟩:=he;rfl
abbrev P9:=zi aS (zi bV (zi kH (zi iE oL)))
set_option maxHeartbeats 1000000 in
theorem aPX(b:List Bt)(st:aA)(hb:b.length≤4000000):aD prog 50 [.slice (b.map bJ)] st (fun r st'=>HF (kX b) r∧st'=st):=by
 generalize hT:kX b=T
 refine aD.drop (Q:=HF T) (aD.fin ?_)
 refine wF [1000000,6] 1 func50 ntmps50 rfl rfl ?_
 intro _
 simp only[aB,seval,P9]
 refine i8 (σ:=List Bt×List Fr×Nat×aA) [1000000,6] [] (fun x=>(x.2.1++(kX x.1).1,(kX x.1).2)=T∧x.2.1.length+x.1.length≤4000000∧aL x.2.2.2 st∧(x.2.1.map bO≠[]→x.2.2.2 x.2.2.1=none)) (fun x=>[(0,.slice (x.1.map bJ)),(2,.fslice []),(3,.fslice []),(4,.bool false),(5,bK 2 x.2.2.1 (x.2.1.map bO))]) (fun x=>a9 x.2.2.2 x.2.2.1 (x.2.1.map bO)) (fun x=>x.1.length) (by decide +kernel) ⟨(b,[],0,st),⟨by rw[dL];exact hT,by simp only[a8];omega,aL.refl _,by simp⟩,aO.mk (by simp only[bE,j8,aB,seval])⟩ ?_
 rintro⟨b,acc,p,s0⟩ ⟨h1,h2,h3,h4⟩
 simp only at h1 h2 h3 h4 ⊢
 have hn:=TH b (a9 s0 p (acc.map bO))
 unfold kX at h1
 have wR:=wY (b:=b)
 generalize hN:jH b=N at *
 generalize hF:vN b=F at *
 obtain⟨y,s⟩:=F
 simp only[aB,seval]
 refine hn.to ?_
 simp only[aG,aA.aH,bO,aB,↓aU,seval,P9]
 intro b6 hb6
 obtain⟨h5,h6⟩:=aMX hb6
 have hW:∀o:AO,(a9 s0 p (acc.map bO)).aC b6 o=a9 (s0.aC b6 o) p (acc.map bO):=fun o=>qF h6
 have h6n:∀o:AO,(a9 (s0.aC b6 o) p (acc.map bO)) b6=some o:=fun o=>by rw[HN h6,aA.aH]
 have h6u:∀(o o':AO),(a9 (s0.aC b6 o) p (acc.map bO)).aC b6 o'=a9 (s0.aC b6 o') p (acc.map bO):=fun o o'=>by rw[qF h6,dW]
 have h7:∀o:AO,aL (s0.aC b6 o) st:=fun o=>h3.aC ((h3 b6).1 h5)
 have h8:∀o:AO,acc.map bO≠[]→(s0.aC b6 o) p=none:=fun o h=>by rw[aA.aJ _ _ (dM (h6 h))];exact h4 h
 rw[hW]
 by_cases hz:N=0
 case pos=>
  subst hz
  rw[dif_neg (by omega),aN rfl] at h1
  simp only[jO] at h1
  simp only[l6,aB,seval]
  exact⟨p,_,_,rfl,h8 _,qT _,⟨2,nZ _⟩,h7 _,by rw[←h1];simp only[HF,gB,pE,kC,lP,bL,bE]⟩
 have hz':=bG hz
 by_cases hg:N<0
 case pos=>
  rw[dif_neg (by omega),aK hz] at h1
  simp only[jO] at h1
  have hg':=bT hg
  simp only[hz',hg',bB,aZ,l6,aB,seval]
  exact⟨p,_,_,rfl,h8 _,qT _,⟨2,nZ _⟩,h7 _,by rw[←h1];simp only[HF,gB,pE,pF,lP,bL,bE]⟩
 have hg':=bG hg
 have hp:0<N:=by omega
 obtain⟨e1,e2,e3,-,e5⟩:=wR hp
 rw[dif_pos hp] at h1
 simp only at h1
 subst e1
 have hsl:=fun φ h=>a1C (φ:=φ) (x:=.tmp 26) (l:=b) (k:=2+eO b) h e2
 simp only[hz',hg',bB,h6n,aB,seval,P9]
 refine eY lC pA pD rfl rfl (gN rfl rfl) (nZ _) (h8 _) (by simp only[aE,aX,a8];omega) (by simp only[aE,aX,a8];omega) (fun p' hp'=>?_)
 rw[show acc.map bO++ [.agg [.int .i64 y,.str s]]=(acc++ [pI b]).map bO by rw[←e5];simp [bO]] at hp' ⊢
 simp only[aB,seval]
 rw[hsl _ (by simp only[aB,seval])]
 simp only[aB,seval]
 refine⟨(b.drop (2+eO b),acc++ [pI b],p',_),by simp only[j6];omega,⟨?_,?_,h7 _,hp'⟩,aO.mk (by simp only[aB,seval]<;>rfl)⟩
 · rw[←h1];simp
 · simp only[dO,aX,a8,j6];omega
theorem P0(b:List Bt):(kX b).2.1.length≤b.length:=by
 unfold kX
 split
 · rename_i h
   have h1:=wY h
   have:=P0 (b.drop (2+eO b))
   rw[j6] at this
   simp only
   omega
 · split<;>simp
termination_by b.length
decreasing_by
 have:=wY (by assumption)
 rw[j6]
 omega
def rY(r:List Bt)(k:Bool):Bool:=if k then r.isEmpty else decide (jH r=0)
abbrev QA:=zi aS (zi bV (zi kH (zi rE oL)))
theorem UG(r:List Bt)(k:Bool)(st:aA):aD prog 126 [o8 r k] st (fun x st'=>x=.bool (rY r k)∧st'=st):=by
 unfold o8
 refine aD.jT ?_
 refine wF [1000000,3] 1 func126 ntmps126 rfl rfl ?_
 intro _
 unfold rY
 cases k with
 | true=>
  have hz:decide ((r.length:Int)=0)=r.isEmpty:=by cases r with
   | nil=>rfl
   | cons x l=>simp;omega
  simp only[hz,aE,aB,seval,QA]
  exact aL.refl _
 | false=>
  have hn:=TH r st
  generalize jH r=N at *
  generalize vN r=F at *
  obtain⟨y,s⟩:=F
  simp only[bO] at hn
  simp only[aB,seval,QA]
  refine hn.to ?_
  simp only[aG,aA.aH,aB,↓aU,seval,QA]
  intro b1 hb1
  have hD:=fun o=>(aL.refl st).aC (o:=o) hb1
  exact hD _
theorem aMZ{st:aA}{w b:Nat}{l:List AV}(h:l≠[]→st b=none):Lit st w l (bK w b l) (a9 st b l):=by
 cases l with
 | nil=>exact .inl ⟨rfl,rfl⟩
 | cons x l=>exact .inr ⟨b,h (by simp),rfl,rfl⟩
theorem uR(l:List Bt):∀e∈l.map bJ,e.bR=false:=fun e he=>by simp only[cM] at he;obtain⟨t,_,rfl⟩:=he;rfl
theorem o5(l:List Bt):∀e∈l.map bJ,e.width=1:=fun e he=>by simp only[cM] at he;obtain⟨t,_,rfl⟩:=he;rfl
theorem sZ(l:List Bt):uO 1 (l.map bJ):=fun e he=>by simp only[cM] at he;obtain⟨t,_,rfl⟩:=he;exact⟨rfl,rfl⟩
def lD(r:List Bt)(k:Bool)(x:List Bt):(List Bt×Bool)×List Fr:=if rY r k=false∨k=true then((r,k),[]) else(((kX (r++x)).2.1,(kX (r++x)).2.2),(kX (r++x)).1)
def AB(T:(List Bt×Bool)×List Fr)(v:AV):Prop:=v=.tup [o8 T.1.1 T.1.2,aT T.2]
abbrev vV:=zi bV (zi kH (zi iE rE))
set_option maxHeartbeats 1000000 in
theorem aRS(r:List Bt)(k:Bool)(x:List Bt)(st:aA)(hr:r.length+x.length≤4000000):aD prog 106 [o8 r k,bZ x] st (fun v st'=>AB (lD r k x) v∧st'=st):=by
 have hv:=fun s=>UG r k s
 unfold o8 at hv ⊢
 refine aD.drop (Q:=AB _) (aD.fin ?_)
 refine wF [1000000,4] 2 func106 ntmps106 rfl rfl ?_
 intro _
 simp only[aB,seval,vV]
 intro b4 h4
 refine(hv _).to ?_
 have hno:rY r k=false∨k=true→lD r k x=((r,k),[]):=fun h=>by unfold lD;rw[aN h]
 have JF:rY r k=true→k=false→lD r k x=(((kX (r++x)).2.1,(kX (r++x)).2.2),(kX (r++x)).1):=fun h h'=>by unfold lD;rw[aK (by rintro(e | e)<;>first | (rw[h] at e;cases e) | (rw[h'] at e;cases e))]
 generalize rY r k=d at *
 generalize lD r k x=T at *
 simp only[aB,seval]
 cases d with
 | false=>
  cases hno (.inl rfl)
  simp only[eK,aB,seval]
  refine wX [(0,1),(1,1),(2,1),(4,1),(5,1),(7,1),(3,0),(6,1),(8,0),(9,1)] [0,1,2,4,5,7,6,9] eF mixed rfl d4 ?_
  simp only[aB,seval,vV]
  refine eY (P:=prog) (st:=aA.aC st b4 (.cells [.fslice [],.bool false])) (b:=0) (l:=[]) (xs:=(r.map bJ)) iK qN qP rfl rfl (sZ _) (by simp) (by simp) (by simp only[a8,aE];omega) (by simp only[a8,aE];omega) (fun b hb=>?_)
  rw[dL] at hb ⊢
  have hne:r.map bJ≠[]→b4≠b:=fun h e=>by have:=hb h;rw[←e,aA.aH] at this;cases this
  have e1:∀o:AO,(a9 (aA.aC st b4 o) b (r.map bJ)) b4=some o:=fun o=>by rw[HN hne,aA.aH]
  have e2:∀o o':AO,(a9 (aA.aC st b4 o) b (r.map bJ)).aC b4 o'=a9 (aA.aC st b4 o') b (r.map bJ):=fun o o'=>by rw[qF hne,dW]
  have e3:∀o:AO,r.map bJ≠[]→(aA.aC st b4 o) b=none:=fun o h=>by have:=hb h;rw[aA.aJ _ _ (dM (hne h))] at this ⊢;exact this
  refine⟨d4,?_⟩
  simp only[aG,e1,e2,l6,mU,iJ,aB,seval,vV]
  exact⟨d4,b,_,_,rfl,e3 _,uR _,⟨1,o5 _⟩,(aL.refl _).aC h4,by simp only[AB,o8,hY,gB,pE,pF,lP,bL,bE];rfl⟩
 | true=>
  cases k with
  | true=>
   cases hno (.inr rfl)
   simp only[eA,aB,seval,vV]
   refine wX [(0,1),(1,1),(2,1),(4,1),(5,1),(7,1),(3,0),(6,1),(8,0),(9,1)] [0,1,2,4,5,7,6,9] eF mixed rfl d4 ?_
   simp only[aB,seval,vV]
   refine eY (P:=prog) (st:=aA.aC st b4 (.cells [.fslice [],.bool false])) (b:=0) (l:=[]) (xs:=(r.map bJ)) iK qN qP rfl rfl (sZ _) (by simp) (by simp) (by simp only[a8,aE];omega) (by simp only[a8,aE];omega) (fun b hb=>?_)
   rw[dL] at hb ⊢
   have hne:r.map bJ≠[]→b4≠b:=fun h e=>by have:=hb h;rw[←e,aA.aH] at this;cases this
   have e1:∀o:AO,(a9 (aA.aC st b4 o) b (r.map bJ)) b4=some o:=fun o=>by rw[HN hne,aA.aH]
   have e2:∀o o':AO,(a9 (aA.aC st b4 o) b (r.map bJ)).aC b4 o'=a9 (aA.aC st b4 o') b (r.map bJ):=fun o o'=>by rw[qF hne,dW]
   have e3:∀o:AO,r.map bJ≠[]→(aA.aC st b4 o) b=none:=fun o h=>by have:=hb h;rw[aA.aJ _ _ (dM (hne h))] at this ⊢;exact this
   refine⟨d4,?_⟩
   simp only[aG,e1,e2,l6,mU,iJ,aB,seval,vV]
   exact⟨d4,b,_,_,rfl,e3 _,uR _,⟨1,o5 _⟩,(aL.refl _).aC h4,by simp only[AB,o8,hY,gB,pE,pF,lP,bL,bE];rfl⟩
  | false=>
   cases JF rfl rfl
   simp only[eA,aB,seval,vV]
   refine eY (P:=prog) (st:=aA.aC st b4 (.cells [.fslice [],.bool false])) (b:=0) (l:=[]) (xs:=(r.map bJ)) iK qN qP rfl rfl (sZ _) (by simp) (by simp) (by simp only[a8,aE];omega) (by simp only[a8,aE];omega) (fun b hb=>?_)
   rw[dL] at hb ⊢
   simp only[aB,seval]
   refine eY iK qN qP rfl rfl (sZ x) (o5 _) hb (by simp only[aE];omega) (by simp only[aE];omega) (fun b' hb'=>?_)
   rw[←rM] at hb' ⊢
   have OH:=((aMZ (w:=1) hb').call (post:=[]) (uR _) (o5 _) (fun _=>rfl) (aPX (r++x) _ (by rw[dO];omega)))
   have hlen:=P0 (r++x)
   rw[dO] at hlen
   generalize kX (r++x)=T at *
   obtain⟨fs,rest,bk⟩:=T
   simp only at hlen
   simp only[aB,seval]
   refine OH.mono ?_
   rintro _ _ ⟨rfl,rfl⟩
   simp only[aB,seval,vV]
   refine eY (P:=prog) (st:=aA.aC st b4 (.cells [.fslice [],.bool false])) (b:=0) (l:=[]) (xs:=(rest.map bJ)) iK qN qP rfl rfl (sZ _) (by simp) (by simp) (by simp only[a8,aE];omega) (by simp only[a8,aE];omega) (fun c hc=>?_)
   rw[dL] at hc ⊢
   have hne:rest.map bJ≠[]→b4≠c:=fun h e=>by have:=hc h;rw[←e,aA.aH] at this;cases this
   have e1:∀o:AO,(a9 (aA.aC st b4 o) c (rest.map bJ)) b4=some o:=fun o=>by rw[HN hne,aA.aH]
   have e2:∀o o':AO,(a9 (aA.aC st b4 o) c (rest.map bJ)).aC b4 o'=a9 (aA.aC st b4 o') c (rest.map bJ):=fun o o'=>by rw[qF hne,dW]
   have e3:∀o:AO,rest.map bJ≠[]→(aA.aC st b4 o) c=none:=fun o h=>by have:=hc h;rw[aA.aJ _ _ (dM (hne h))] at this ⊢;exact this
   simp only[aG,e1,e2,l6,mU,iJ,aB,seval,vV]
   exact⟨c,_,_,rfl,e3 _,uR _,⟨1,o5 _⟩,(aL.refl _).aC h4,by simp only[AB,o8,hY,gB,pE,kC,lP,bL,bE]⟩

theorem aG9{st:aA}{b:Nat}{l:List Fr}(hb:l.map bO≠[]→st b=none):Made st (aT l) (bK 2 b (l.map bO)) (a9 st b (l.map bO)):=by
 have hO:∀(s:aA) (l:List Fr),bN s (l.map bO) (l.map bO) []:=fun s l=>by
  induction l with
  | nil=>exact⟨rfl,rfl⟩
  | cons x l ih=>
   simp only[bL,bN]
   exact⟨_,_,[],[],rfl,rfl,FU.2 ⟨[],rfl,rfl,rfl⟩,ih⟩
 have hw:∀e∈l.map bO,e.width=2:=by intro e h;simp only[cM] at h;obtain⟨t,_,rfl⟩:=h;rfl
 have:=aH4 (hO (a9 st b (l.map bO)) l) hw
 rw[jO] at this
 refine⟨_,?_,?_,this,?_⟩
 · cases l.map bO<;>simp [nV]
 · intro x hx
   cases hl:l.map bO with
   | nil=>rw[hl] at hx;simp [nV] at hx
   | cons y ys=>
    rw[hl] at hx
    simp only[nV,cL,c8,dP] at hx
    subst hx
    exact hb (by rw[hl];simp)
 · intro x hx
   cases hl:l.map bO with
   | nil=>rfl
   | cons y ys=>
    rw[hl] at hx
    simp only[nV,cL,c8,dP] at hx
    simp only[a9]
    exact aA.aJ _ _ hx
theorem SP{st:aA}{l:List Fr}{K:AV→aA→Prop}(hb:l.length≤4194304)(hK:∀b,(l.map bO≠[]→st b=none)→K (bK 2 b (l.map bO)) (a9 st b (l.map bO))) :
 iT prog 30 st (.fslice []) (aT l) K:=by
 have hw:∀e∈l.map bO,e.width=2∧e.cells.all AV.storable=true:=by intro e h;simp only[cM] at h;obtain⟨t,_,rfl⟩:=h;exact⟨rfl,rfl⟩
 have:=eY (P:=prog) (st:=st) (b:=0) (l:=[]) (xs:=l.map bO) (x:=aT l) (K:=K) lC pA pD rfl rfl hw (by simp) (by simp) (by simp only[a8,aE];omega) (by simp only[a8,aE];omega) (by simpa using hK)
 exact this
theorem aHM(l:List Fr)(st:aA)(hb:l.length≤4194304):aD prog 40 [aT l] st (Made st (aT l)):=by
 refine MB func40 ntmps40 rfl rfl (by kernel_rfl) (by show 1≤_;decide +kernel) ?_
 intro _
 refine uP (nW [1000000] (by decide +kernel) ?_)
 simp only[aB,seval]
 refine uP (uP (ML aK8 (by decide +kernel) (by decide +kernel) rfl fun c hc=>?_))
 refine nW [1000000] (by decide +kernel) ?_
 simp only[aB,seval]
 refine aQ (fun h=>?_) (fun h=>?_)
 · subst h
   have hn:l= []:=by
    rcases l with _ | ⟨x,l⟩
    · rfl
    · have:=hc (by simp);cases this
   subst hn
   simp only[aB,seval]
   exact⟨[],nR,by simp,by simp [bX],fun _ _=>rfl⟩
 · refine nW [1000000] (by decide +kernel) ?_
   simp only[aB,seval,iE]
   refine SP hb fun b hb'=>?_
   simp only[aB,seval]
   exact aG9 hb'
def cout(s:Sv)(k:Int):List Fr:=if 0≤k then(s.cs[k.toNat]?.map cP.out).getD [] else[]
abbrev aJL:=zi aS (zi bV (zi nN mF))
theorem aP7(s:Sv)(k:Int)(st:aA):aD prog 105 [dZ s,.int .i64 k] st (fun r st'=>r=.bool (decide (0≤k)&&decide (k<s.cs.length))∧st'=st):=by
 obtain⟨cs,q⟩:=s
 simp only[dZ]
 refine wF [1000000] 2 func105 ntmps105 rfl rfl ?_
 intro _
 simp only[aB,seval,aJL]
 refine cK (fun h=>?_) (fun h=>?_)
 · have h':0≤k:=by simpa using h
   simp only[h,aE,aB,seval,aJL]
   all_goals (try simp [h'])
 · have h':¬ 0≤k:=by simpa using h
   simp only[h,aB,seval]
   all_goals (try simp [])
abbrev aJM:=zi aS (zi bV (zi nN (zi mF (zi iE kI))))
theorem aZI(s:Sv)(k:Int)(st:aA)(hb:s.cs.length≤1048576)(hlen:(cout s k).length≤4194304):aD prog 13 [dZ s,.int .i64 k] st (Made st (aT (cout s k))):=by
 obtain⟨cs,q⟩:=s
 simp only[dZ]
 unfold cout at *
 simp only at *
 refine wF [1000000] 2 func13 ntmps13 rfl rfl ?_
 intro _
 have hw:=bC (n:=(cs.length:Int) - 1)
 simp only[aE,hw,aB,seval,aJM]
 refine(wI k 0 _ _).to ?_
 simp only[aB,seval]
 refine aQ (fun h=>?_) (fun h=>?_)
 · simp only[aB,seval]
   have:(if 0≤k then(cs[k.toNat]?.map cP.out).getD [] else[])= []:=by
    split
    · rename_i h0
      rw[uD (by simp [h0] at h;omega)]
      try rfl
    · rfl
   rw[this]
   exact⟨[],nR,by simp,by simp [bX],fun _ _=>rfl⟩
 have h':0≤k∧k<cs.length:=by simp at h;omega
 rw[aN h'.1] at hlen ⊢
 obtain⟨n,rfl⟩:∃n:Nat,k=n:=⟨k.toNat,by omega⟩
 obtain⟨x,hx⟩:∃x,cs[n]?=some x:=⟨_,eL (by omega)⟩
 rw[gI,hx] at hlen ⊢
 simp only[oT,D3] at hlen ⊢
 have hat:=bS (av:=bF) (P:=prog) pB hx (mY x)
 obtain⟨r,bk,wt,pr,ac,ss,td,ou⟩:=x
 simp only[bF,eR] at hat hlen ⊢
 simp only[hat,aB,seval,aJM]
 refine(aHM ou _ (by omega)).mono ?_
 rintro r s' hm
 simp only[aB,seval]
 exact hm
noncomputable def lB(c:cP):Bool:=c.wait.all iA&&((!c.act||(nK c.ses&&decide (c.ses.fin= -1)))&&(rY c.rest c.brk&&fD c.prog))
noncomputable def lT(s:Sv):Bool:=s.cs.all lB&&(decide (s.cs.length≤4)&&(decide (0≤s.quota)&&decide (s.quota≤300)))
theorem aJD(b:List Bt):(kX b).1.length≤b.length:=by
 unfold kX
 split
 · rename_i h
   have h1:=wY h
   have:=aJD (b.drop (2+eO b))
   rw[j6] at this
   simp only[aX]
   omega
 · split<;>simp
termination_by b.length
decreasing_by
 have:=wY (by assumption)
 rw[j6]
 omega
def BV(c:cP)(x:List Bt):cP:={ c with rest:=(lD c.rest c.brk x).1.1,brk:=(lD c.rest c.brk x).1.2,wait:=c.wait++(lD c.rest c.brk x).2 }
noncomputable def uZ(s:Sv)(k:Int)(x:List Bt):Sv:=if(decide (0≤k)&&decide (k<s.cs.length))=true∧lT s=true then(match s.cs[k.toNat]? with
 | some c=>{ s with cs:=s.cs.set k.toNat (BV c x) }
 | none=>s) else s
theorem aV1{s:Sv}{k:Int}{x:List Bt}(h:¬((decide (0≤k)&&decide (k<s.cs.length))=true∧lT s=true)):uZ s k x=s:=by
 unfold uZ
 rw[aK h]
theorem aV2{s:Sv}{k:Nat}{x:List Bt}{c:cP}(hc:s.cs[k]?=some c)(h:lT s=true):uZ s (k:Int) x= { s with cs:=s.cs.set k (BV c x) }:=by
 have hk:=(fM.1 hc).1
 unfold uZ
 rw[aN ⟨by rw[d9 (show(0:Int)≤(k:Int) by omega),d9 (show(k:Int)<(s.cs.length:Int) by omega)];try rfl,h⟩]
 simp only[gI,hc]
theorem aV3(r:List Bt)(k:Bool)(x:List Bt):(lD r k x).1.1.length≤r.length+x.length∧(lD r k x).2.length≤r.length+x.length:=by
 unfold lD
 split
 · simp
 · have h1:=P0 (r++x)
   have h2:=aJD (r++x)
   rw[dO] at h1 h2
   exact⟨h1,h2⟩
abbrev KC:=zi aS (zi bV (zi iE (zi rE (zi jK (zi oK (zi kI oL))))))
theorem aP5(c:cP)(st:aA):aD prog 77 [bF c] st (fun r st'=>r=.bool (lB c)∧st'=st):=by
 obtain⟨r,bk,wt,pr,ac,ss,td,ou⟩:=c
 have hs:=fun s=>aR0 ss s
 have hd:=fun s=>UG r bk s
 have hp:=fun s=>H5 pr s
 simp only[bF,eR,lB]
 unfold iZ at hs
 unfold o8 at hd
 generalize nK ss=sv at *
 generalize rY r bk=dv at *
 generalize fD pr=pv at *
 refine aD.jT ?_
 refine wF [1000000] 1 func77 ntmps77 rfl rfl ?_
 simp only[dS,AV.fits,dU,aE]
 intro eU
 have hwl:=eU.2.2.1.1
 have hm:maxLen=9223372036854775807:=by rfl
 simp only[aB,seval,KC]
 refine dX (σ:=Unit) [1000000] [1] wt (fun i _=>(wt.take i).all iA=true) (fun i _=>[(2,.bool false),(3,.int .i64 i)]) (fun _ _=>st) (by decide +kernel) ⟨(),by simp,aO.mk (by simp only[aB,↓aU,seval])⟩ (fun i x _ hx hlt bP hdr hinv=>?_) (fun _ hge hinv=>?_)
 · have hw:=bC (n:=(i:Int)+1)
   have hat:=bS (av:=bO) lC hx (qS x)
   have hfv:=fun s=>M4 x s
   obtain⟨xk,xs⟩:=x
   simp only[bO] at hat hfv
   simp only[bP,aE,hat,aB,seval,KC]
   refine(hfv _).to ?_
   cases hx2:iA (xk,xs) with
   | false=>
    have:=rS hx hx2
    rw[this,eJ]
    simp only[eK,aB,seval]
    first | exact aL.refl _ | exact⟨rfl,aL.refl _⟩
   | true=>
    simp only[eA,hw,aB,seval]
    refine⟨(),?_,aO.mk (by simp only[aB,seval])⟩
    rw[eS,hx,AC,hinv]
    simp [hx2]
 · rw[d6] at hinv
   rw[hinv,cZ]
   simp only[aE,hge,aB,seval,KC]
   repeat' (first
    | (simp only[*,aB,seval,KC])
    | (refine cK (fun h=>?_) (fun h=>?_))
    | (refine(hs _).to ?_) | (refine(hd _).to ?_) | (refine(hp _).to ?_)
    | (refine aQ (fun h=>?_) (fun h=>?_)))
   all_goals first | exact aL.refl _ | (refine⟨?_,aL.refl _⟩;first | (simp_all;done))
abbrev DA:=zi aS (zi bV (zi nN (zi mF kI)))
theorem MV(s:Sv)(st:aA):aD prog 43 [dZ s] st (fun r st'=>r=.bool (lT s)∧st'=st):=by
 obtain⟨cs,qu⟩:=s
 simp only[dZ,lT]
 refine wF [1000000] 1 func43 ntmps43 rfl rfl ?_
 simp only[dS,AV.fits,dU,aE]
 intro ⟨hl,_⟩
 simp only[aB,seval,DA]
 refine dX (σ:=Unit) [1000000] [1] (cs.take 5) (fun i _=>(cs.take i).all lB=true∧i≤5) (fun i _=>[(2,.bool false),(3,.int .i64 i)]) (fun _ _=>st) (by decide +kernel) ⟨(),by simp,aO.mk (by simp only[aB,↓aU,seval])⟩ (fun i x _ hx hlt bP hdr hinv=>?_) (fun _ hge hinv=>?_)
 · have hw:=bC (n:=(i:Int)+1)
   rw[dK] at hlt
   have hx':cs[i]?=some x:=by rw[List.getElem?_take] at hx;split at hx<;>first | exact hx | cases hx
   have g1:((i:Int)<(cs.length:Int))=True:=bT (by omega)
   have g2:((i:Int)≤4)=True:=bT (by omega)
   have hat:=bS (av:=bF) (P:=prog) pB hx' (mY x)
   have hf:=fun s=>aP5 x s
   simp only[g1,g2,aZ,dV,aE,hat,BP,mY,aB,seval,DA]
   refine(hf _).to ?_
   cases hx2:lB x with
   | false=>
    have:=rS hx' hx2
    rw[this,eJ]
    simp only[eK,aB,seval]
   | true=>
    simp only[eA,hw,aB,seval]
    refine⟨(),⟨?_,by omega⟩,aO.mk (by simp only[aB,seval])⟩
    rw[eS,hx',AC,hinv.1]
    simp [hx2]
 · rw[dK] at hge hinv
   by_cases h5:cs.length≤4
   · have e1:(min 5 cs.length)=cs.length:=by omega
     rw[e1] at hinv
     rw[d6] at hinv
     have g1:(((min 5 cs.length:Nat):Int)<(cs.length:Int))=False:=bG (by omega)
     have g2:((cs.length:Int)≤4)=True:=bT (by omega)
     have g3:(cs.length≤4)=True:=bT h5
     rw[hinv.1,cZ]
     simp only[aE,g1,g2,g3,aZ,cZ,dK,aB,seval,DA]
     repeat' (first
      | (simp only[*,cZ,aB,seval,DA])
      | (refine cK (fun h=>?_) (fun h=>?_))
      | (refine aQ (fun h=>?_) (fun h=>?_)))
     all_goals first | (simp_all;done) | skip
   · have g1:(((min 5 cs.length:Nat):Int)≤4)=False:=bG (by omega)
     have g2:((cs.length:Int)≤4)=False:=bG (by omega)
     have g3:(cs.length≤4)=False:=bG h5
     have g4:decide (((min 5 cs.length:Nat):Int)<(cs.length:Int))=decide (5<cs.length):=by rw[qM];omega
     simp only[aE,g3,g4,bB,eJ,rI,dK,aB,seval,DA]
     repeat' (first
      | (simp only[*,aE,bB,aB,seval,DA])
      | (refine cK (fun h=>?_) (fun h=>?_))
      | (refine aQ (fun h=>?_) (fun h=>?_)))
     all_goals first | (simp_all;done) | skip
end Go.AW
namespace Go.AW
section
variable {h:a7} {st s0:aA}
end
def Told(st s0:aA)(a o:AV):Prop:=o.isAgg=a.isAgg∧o.width=a.width∧o.bR=false∧∀(h:a7) (cs:List Value),cA h st→VC h st o cs→VC h s0 a cs
def dH(st s0:aA):List AV→List AV→Prop
 | [],os=>os= []
 | a::xs,os=>∃o os',os=o::os'∧Told st s0 a o∧dH st s0 xs os'
theorem Told.same{st s0:aA}(T:∀h,bQ h st h s0){a:AV}(h:a.bR=false):Told st s0 a a:=⟨rfl,rfl,h,fun h cs _ y=>VC.mono (T h) _ _ y⟩
theorem Told.acc{st s0:aA}(D:aL st s0){w:Nat}{q:AV}{l:List AV}(hA:d3 st w q l)(hs:∀b∈cW q,s0 b=none)(hj:∀e∈l,e.bR=false)(hw:∀e∈l,e.width=w):Told st s0 (.slice l) q:=by
 have hsh:=hA.shape
 refine⟨hsh.1,hsh.2.1,hsh.2.2.1,fun h cs S y=>?_⟩
 have hc:∃c,cs= [c]:=by
  rcases hA with ⟨rfl,_⟩ | ⟨b,ds,rfl,_⟩
  · unfold VC at y
    rcases y with ⟨⟨p,e⟩,_⟩ | ⟨b,off,e,_⟩<;>exact⟨_,e⟩
  · unfold VC at y
    obtain⟨cap,e,_⟩:=y
    exact⟨_,e⟩
 obtain⟨c,rfl⟩:=hc
 exact hA.seen S D hs hj hw y
theorem dH.nil{st s0:aA}:dH st s0 [] []:=rfl
theorem dH.cons{st s0:aA}{a o:AV}{xs os:List AV}(x:Told st s0 a o)(y:dH st s0 xs os):dH st s0 (a::xs) (o::os):=⟨o,os,rfl,x,y⟩
theorem dH.append{st s0:aA}:∀ {xs os xs' os':List AV},dH st s0 xs os→dH st s0 xs' os'→dH st s0 (xs++xs') (os++os')
 | [],os,xs',os',x,y=>by simp only[dH] at x;subst x;exact y
 | a::xs,os,xs',os',x,y=>by
  obtain⟨o,os1,rfl,x1,x2⟩:=x
  exact⟨o,os1++os',rfl,x1,dH.append x2 y⟩
theorem dH.length{st s0:aA}:∀ {xs os:List AV},dH st s0 xs os→os.length=xs.length
 | [],os,x=>by simp only[dH] at x;simp [x]
 | a::xs,os,x=>by
  obtain⟨o,os1,rfl,x1,x2⟩:=x
  simp [dH.length x2]
theorem dH.same{st s0:aA}(T:∀h,bQ h st h s0):∀ {xs:List AV},(∀a∈xs,a.bR=false)→dH st s0 xs xs
 | [],_=>rfl
 | a::xs,h=>⟨a,xs,rfl,Told.same T (h a (by simp)),dH.same T fun x hx=>h x (by simp [hx])⟩
theorem dH.view{h:a7}{st s0:aA}(S:cA h st):∀ {xs os:List AV} {cs:List Value},dH st s0 xs os→aR h st os cs→aR h s0 xs cs
 | [],os,cs,x,y=>by simp only[dH] at x;subst x;exact y
 | a::xs,os,cs,x,y=>by
  obtain⟨o,os',rfl,x1,x2⟩:=x
  simp only[aR] at y ⊢
  obtain⟨c,r,e,y1,y2⟩:=y
  exact⟨c,r,e,x1.2.2.2 h _ S y1,dH.view S x2 y2⟩
theorem dH.DR{h:a7}{st s0:aA}(S:cA h st)(b:Nat):∀ {xs os:List AV} {off:Nat},dH st s0 xs os→cS h st b off os→cS h s0 b off xs
 | [],os,off,x,y=>by simp only[cS]
 | a::xs,os,off,x,y=>by
  obtain⟨o,os',rfl,x1,x2⟩:=x
  simp only[cS] at y ⊢
  obtain⟨⟨cs,y1,y2,y3⟩,y4⟩:=y
  rw[x1.2.1] at y2 y4
  exact⟨⟨cs,y1,y2,x1.2.2.2 h _ S y3⟩,dH.DR S b x2 y4⟩
theorem dH.CW{st s0:aA}:∀ {xs os:List AV},dH st s0 xs os→∀o∈os,o.bR=false
 | [],os,x=>by simp only[dH] at x;rw[x];simp
 | a::xs,os,x=>by
  obtain⟨o,os',rfl,x1,x2⟩:=x
  intro q hq
  rcases cL.1 hq with rfl | hq
  · exact x1.2.2.1
  · exact dH.CW x2 q hq
theorem Told.agg{st s0:aA}{xs os:List AV}(x:dH st s0 xs os):Told st s0 (.agg xs) (.agg os):=
 ⟨rfl,by simp only[AV.width];exact x.length,rfl,fun h cs S y=>by simp only[VC] at y ⊢;exact x.view S y⟩
theorem Told.block{st s0:aA}{b w n:Nat}{es os:List AV}(hb:st b=some (.cells (os.flatMap AV.cells)))(hs:s0 b=none)(x:dH st s0 es os)(hw:∀e∈es,e.width=w)(hn:es.length=n):Told st s0 (.slice es) (.mslice b 0 n w):=by
 subst hn
 refine⟨rfl,rfl,rfl,fun h cs S y=>?_⟩
 simp only[VC] at y
 obtain⟨cap,e,l1,l2,_⟩:=y
 obtain⟨hlt,c,t,q1,q2,vs,q3,q4⟩:=S b _ hb
 have hsh:=x.CW
 unfold VC
 exact .inr ⟨b,0,cap,e,l1,l2,hs,hlt,⟨w,hw⟩,x.DR S b (AM hsh q3 q4)⟩
theorem Told.DS{h:a7}{st s0:aA}{a o:AV}{v:Value}(x:Told st s0 a o)(S:cA h st)(y:aM h st o v):aM h s0 a v:=by
 have key:o.isAgg=jY v∧VC h st o v.cells.toList:=by
  have:=x.2.2.1
  cases o<;>first | exact y | simp [AV.bR] at this
 have z:a.isAgg=jY v∧VC h s0 a v.cells.toList:=⟨x.1.symm.trans key.1,x.2.2.2 h _ S key.2⟩
 cases ha:a<;>rw[ha] at z<;>first | trivial | exact z
theorem dH.rel{st s0:aA}:∀ {xs os:List AV},dH st s0 xs os→∀h vs,cA h st→cO h st os vs→cO h s0 xs vs
 | [],os,x,h,vs,_,y=>by simp only[dH] at x;rw[x] at y;exact y
 | a::xs,os,x,h,vs,S,y=>by
  obtain⟨o,os',rfl,x1,x2⟩:=x
  simp only[cO] at y ⊢
  obtain⟨v,r,rfl,y1,y2⟩:=y
  exact⟨v,r,rfl,x1.DS S y1,dH.rel x2 h r S y2⟩
theorem aD.told{P:Program}{g:FuncId}{args:List AV}{st:aA}{Q:AV→aA→Prop}(x:aD P g args st (fun r st'=>∃a s2,aL st' s2∧Told st' s2 a r∧Q a s2)):aD P g args st Q:=
 x.mH fun r st' ⟨a,s2,D,t,q⟩=>⟨a,s2,D.pY,fun _ _ S y=>t.DS S y,q⟩
theorem Told.SZ{st s0:aA}{b w n:Nat}{es os X:List AV}(hb:st b=some (.cells (os.flatMap AV.cells++X)))(hs:s0 b=none)(x:dH st s0 es os)(hw:∀e∈es,e.width=w)(hn:es.length=n):Told st s0 (.slice es) (.mslice b 0 n w):=by
 subst hn
 refine⟨rfl,rfl,rfl,fun h cs S y=>?_⟩
 simp only[VC] at y
 obtain⟨cap,e,l1,l2,_⟩:=y
 obtain⟨hlt,c,t,q1,q2,vs,q3,q4⟩:=S b _ hb
 have hsh:=x.CW
 have q5:=q4.take (os.flatMap AV.cells).length
 rw[List.take_left] at q5
 unfold VC
 exact .inr ⟨b,0,cap,e,l1,l2,hs,hlt,⟨w,hw⟩,x.DR S b (AM hsh (M8 _ q3) q5)⟩
theorem d3.split{st:aA}{w:Nat}{q:AV}{l:List AV}(h:d3 st w q l)(hw:∀e∈l,e.width=w){k:Nat}{e:AV}(he:l[k]?=Option.some e) :
 ∃b X,q=.mslice b 0 l.length w∧cW q= [b]∧st b=Option.some (.cells ((l.take k).flatMap AV.cells++e.cells++((l.drop (k+1)).flatMap AV.cells++X)))∧((l.take k).flatMap AV.cells).length=k*w:=by
 obtain⟨hi,hei⟩:=fM.1 he
 rcases h with ⟨rfl,rfl⟩ | ⟨b,cs,rfl,hb,hcs,hcl⟩
 · simp at he
 · refine⟨b,cs.drop (l.length*w),rfl,rfl,?_,?_⟩
   · rw[hb,←p9]
     congr 2
     have h2:l=l.take k++e::l.drop (k+1):=by rw[←hei,←uA hi,DZ]
     have h3:(l.take k).flatMap AV.cells++e.cells++(l.drop (k+1)).flatMap AV.cells=l.flatMap AV.cells:=by
      conv=>rhs;rw[h2]
      simp
     rw[h3,←hcs,DZ]
   · rw[lQ (n:=w) (es:=l.take k) (fun e he=>hw e (lY he)),dK,oS (by omega)]
structure dG (st s:aA) (ds:List Nat) (ps:List (Nat×AV×List AV)):Prop where
 acc:∀p∈ps,d3 s p.1 p.2.1 p.2.2
 apart:ps.Pairwise fun p p'=>∀y∈cW p.2.1,y∉cW p'.2.1
 fresh:∀p∈ps,∀y∈cW p.2.1,st y=none∧y∉ds
 left:∀d∈ds,st d=none∧s d≠none
 aY:∀x o,st x=some o→s x=some o
theorem dG.kO{st s:aA}{ds:List Nat}{ps:List (Nat×AV×List AV)}(C:dG st s ds ps):aL s st:=fun b=>by
 refine⟨fun h=>?_,fun o h=>C.aY b o h⟩
 cases hb:st b with
 | none=>rfl
 | some o=>rw[C.aY b o hb] at h;cases h
theorem dG.aC{st s:aA}{ds:List Nat}{ps:List (Nat×AV×List AV)}(C:dG st s ds ps){d:Nat}(hd:d∈ds)(o:AO):dG st (s.aC d o) ds ps:=by
 refine⟨fun p hp=>(C.acc p hp).aY fun b hb=>aA.aJ _ _ fun e=>(C.fresh p hp b hb).2 (e▸hd),C.apart,C.fresh,fun x hx=>⟨(C.left x hx).1,?_⟩,fun x o' h=>?_⟩
 · by_cases e:x=d
   · subst e;rw[aA.aH];simp
   · rw[aA.aJ _ _ e];exact(C.left x hx).2
 · have:x≠d:=by rintro rfl;rw[(C.left x hd).1] at h;cases h
   rw[aA.aJ _ _ this]
   exact C.aY x o' h
theorem dG.new{st s:aA}{ds:List Nat}{ps:List (Nat×AV×List AV)}(C:dG st s ds ps)(w:Nat):dG st s ds ((w,.fslice [],[])::ps):=by
 refine⟨fun p hp=>?_,DX.2 ⟨fun p _ y hy=>by simp [cW] at hy,C.apart⟩,fun p hp=>?_,C.left,C.aY⟩
 · rcases cL.1 hp with rfl | hp
   · exact .inl ⟨rfl,rfl⟩
   · exact C.acc p hp
 · rcases cL.1 hp with rfl | hp
   · intro y hy;simp [cW] at hy
   · exact C.fresh p hp
theorem dG.grow{st s s':aA}{ds:List Nat}{ps:List (Nat×AV×List AV)}{w:Nat}{q q':AV}{l l':List AV}(C:dG st s ds ((w,q,l)::ps))(A:d3 s' w q' l')(K:∀y,y∉cW q→y∉cW q'→s' y=s y)(F:∀y∈cW q',y∈cW q∨s y=none) :
 dG st s' ds ((w,q',l')::ps)∧(∀d∈ds,s' d=s d)∧∀p∈ps,∀y∈cW p.2.1,s' y=s y:=by
 have hap:=DX.1 C.apart
 have hf0:=C.fresh _ (jP ..)
 have hd':∀d∈ds,d∉cW q':=fun d hd h=>by
  rcases F d h with h | h
  · exact(hf0 d h).2 hd
  · exact(C.left d hd).2 h
 have hd:∀d∈ds,s' d=s d:=fun d hd=>K d (fun h=>(hf0 d h).2 hd) (hd' d hd)
 have hp':∀p∈ps,∀y∈cW p.2.1,y∉cW q':=fun p hp y hy h=>by
  rcases F y h with h | h
  · exact hap.1 p hp y h hy
  · obtain⟨cs,e⟩:=(C.acc p (AH _ hp)).some y hy
    rw[h] at e;cases e
 have hp:∀p∈ps,∀y∈cW p.2.1,s' y=s y:=fun p hp y hy=>K y (fun h=>hap.1 p hp y h hy) (hp' p hp y hy)
 refine⟨⟨fun p h=>?_,DX.2 ⟨fun p h y hy hy'=>hp' p h y hy' hy,hap.2⟩,fun p h=>?_,fun d h=>⟨(C.left d h).1,by rw[hd d h];exact(C.left d h).2⟩,fun x o h=>?_⟩,hd,hp⟩
 · rcases cL.1 h with rfl | h
   · exact A
   · exact(C.acc p (AH _ h)).aY (hp p h)
 · rcases cL.1 h with rfl | h
   · intro y hy
     rcases F y hy with h | h
     · exact hf0 y h
     · refine⟨C.kO y |>.1 h,fun hyd=>(C.left y hyd).2 h⟩
   · exact C.fresh p (AH _ h)
 · have h1:x∉cW q:=fun hx=>by rw[(hf0 x hx).1] at h;cases h
   have h2:x∉cW q':=fun hx=>by
    rcases F x hx with h' | h'
    · exact h1 h'
    · rw[C.aY x o h] at h';cases h'
   rw[K x h1 h2]
   exact C.aY x o h
theorem dG.start{st s:aA}{ds:List Nat}(h1:∀d∈ds,st d=none∧s d≠none)(h2:∀x o,st x=some o→s x=some o):dG st s ds []:=⟨by simp,List.Pairwise.nil,by simp,h1,h2⟩
theorem dG.told{st s:aA}{ds:List Nat}{ps:List (Nat×AV×List AV)}(C:dG st s ds ps){p:Nat×AV×List AV}(hp:p∈ps)(hj:∀e∈p.2.2,e.bR=false)(hw:∀e∈p.2.2,e.width=p.1):Told s st (.slice p.2.2) p.2.1:=
 Told.acc C.kO (C.acc p hp) (fun b hb=>(C.fresh p hp b hb).1) hj hw
def LO(st:aA)(w:Nat)(q:AV)(l:List AV)(s:aA):Prop:=d3 s w q l∧(∀y∈cW q,st y=none)∧∀y,y∉cW q→s y=st y
theorem dG.aWN{st s:aA}{ds:List Nat}{w:Nat}{q:AV}{l:List AV}(C:dG st s ds [(w,q,l)]):∃s2,aL s s2∧LO st w q l s2:=by
 have hf:=C.fresh _ (jP ..)
 have hA:=C.acc _ (jP ..)
 refine⟨fun y=>if y∈cW q then s y else st y,fun y=>⟨fun h=>?_,fun o h=>?_⟩,hA.aY fun b hb=>aN hb,fun y hy=>(hf y hy).1,fun y hy=>aK hy⟩
 · by_cases hy:y∈cW q
   · simp only[hy,eN];exact h
   · simp only[hy,dA];exact(C.kO y).1 h
 · by_cases hy:y∈cW q
   · simp only[hy,eN] at h;exact h
   · simp only[hy,dA] at h;exact C.aY y o h
theorem dG.more{st s:aA}{ds:List Nat}{ps:List (Nat×AV×List AV)}(C:dG st s ds ps){b:Nat}(hb:s b=none)(o:AO):dG st (s.aC b o) (b::ds) ps:=by
 have hst:st b=none:=(C.kO b).1 hb
 have hne:∀p∈ps,∀y∈cW p.2.1,y≠b:=fun p hp y hy e=>by
  obtain⟨cs,h⟩:=(C.acc p hp).some y hy
  rw[e,hb] at h;cases h
 refine⟨fun p hp=>(C.acc p hp).aY fun y hy=>aA.aJ _ _ (hne p hp y hy),C.apart,fun p hp y hy=>⟨(C.fresh p hp y hy).1,fun h=>?_⟩,fun d hd=>?_,fun x o' h=>?_⟩
 · rcases cL.1 h with h | h
   · exact hne p hp y hy h
   · exact(C.fresh p hp y hy).2 h
 · rcases cL.1 hd with rfl | hd'
   · exact⟨hst,by rw[aA.aH];simp⟩
   · have:d≠b:=by rintro rfl;exact(C.left d hd').2 hb
     exact⟨(C.left d hd').1,by rw[aA.aJ _ _ this];exact(C.left d hd').2⟩
 · have:x≠b:=by rintro rfl;rw[hst] at h;cases h
   rw[aA.aJ _ _ this];exact C.aY x o' h
theorem dG.one{st:aA}{b:Nat}(hb:st b=none)(o:AO):dG st (st.aC b o) [b] []:=by
 refine dG.start (fun d hd=>?_) (fun x o' h=>?_)
 · simp only[cL,c8,dP] at hd
   subst hd
   exact⟨hb,by rw[aA.aH];simp⟩
 · have:x≠b:=by rintro rfl;rw[hb] at h;cases h
   rw[aA.aJ _ _ this];exact h
theorem dG.aHQ{st s s':aA}{ds:List Nat}{ps:List (Nat×AV×List AV)}{w:Nat}{q:AV}{l:List AV}(C:dG st s ds ps)(G:LO s w q l s'):dG st s' ds ((w,q,l)::ps)∧(∀d∈ds,s' d=s d)∧∀p∈ps,∀y∈cW p.2.1,s' y=s y:=
 (C.new w).grow G.1 (fun y _ h=>G.2.2 y h) fun y h=>.inr (G.2.1 y h)
end Go.AW
