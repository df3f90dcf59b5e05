/- Texts of clauses and programs, as data. -/
import Derived.Test.YthigelfjekcbmaaGreatDoorUzq
import Derived.Test.YthigelfjekcbmaaGreatDoorUzl
import Derived.Test.YthigelfjekcbmaaGreatDoorUzn
import Derived.Test.YthigelfjekcbmaaGreatDoorUzm
import Derived.Test.YthigelfjekcbmaaGreatDoorUzp
import Derived.Test.YthigelfjekcbmaaGreatDoorUzf
set_option linter.unusedSimpArgs false
set_option linter.unusedVariables false
set_option maxRecDepth 100000
namespace Go.AW
def sE(t:Tm):ByteArray:=tx 130 t
def vT(T:Tm→ByteArray)(h:ByteArray):List Tm→ByteArray
 | []=>h
 | x::xs=>xs.foldl (fun o y=>(o++⟨#[44]⟩)++T y) ((h++⟨#[58,45]⟩)++T x)
def SR(c:Cl):ByteArray:=vT sE (sE c.1) c.2++⟨#[46]⟩
def fmtC(c:Cl):ByteArray:=if mC c then SR c else⟨#[]⟩
def J9(l:List UInt8):l8:=fun a=>rd l (4*l.length+4) 30 a 3
def uG(l:List UInt8):Nat→Nat→List Tm→Option (List Tm×Nat)
 | 0,_,_=>none
 | m+1,a,acc=>match J9 l a with
  | none=>none
  | some (t,e)=>if c7 l e 44 then uG l m (e+1) (acc++ [t]) else some (acc++ [t],e)
def uD(l:List UInt8):Option (Cl×Nat):=
 match J9 l 0 with
 | none=>none
 | some (h,e)=>if(c7 l e 58&&c7 l (e+1) 45)=true then match uG l 7 (e+2) [] with
  | none=>none
  | some (b,e2)=>some ((h,b),e2)
  else some ((h,[]),e)
def p9(l:List UInt8):Option Cl:=match uD l with
 | none=>none
 | some (c,e)=>if l.length≤1000∧e+1=l.length∧c7 l e 46=true∧sb (fmtC c)=l then some c else none
def o9(c:Nat):List UInt8→List UInt8→List (List UInt8)
 | [],acc=>[acc]
 | x::l,acc=>if x.toNat=c then acc::o9 c l [] else o9 c l (acc++ [x])
def C9:List (List UInt8)→List Cl→Option (List Cl)
 | [],acc=>some acc
 | l::ls,acc=>match p9 l with
  | none=>none
  | some c=>C9 ls (acc++ [c])
def DH(l:List UInt8):Option (List Cl):=
 let ls:=o9 10 l []
 if 21<ls.length∨ls.getLast?≠some [] then none else C9 ls.dropLast []
def oH(l:List UInt8):Option (List Tm):=match uG l 7 0 [] with
 | none=>none
 | some (g,e)=>if l.length≤1000∧e=l.length∧kY g=true then some g else none
theorem aU4{T:Tm→ByteArray}{h:ByteArray}{l:List Tm}{i:Nat}{x:Tm}(hx:l[i]?=some x):vT T h (l.take (i+1))=(if i=0 then vT T h (l.take i)++⟨#[58,45]⟩ else vT T h (l.take i)++⟨#[44]⟩)++T x:=by
 rw[gC,hx]
 cases l with
 | nil=>simp at hx
 | cons y l=>
  cases i with
  | zero=>simp at hx;subst hx;rfl
  | succ i=>
   rw[aE (by omega),wQ]
   simp only[vT,HF,fE,List.foldl_append,BG,List.foldl_nil]
theorem Z0{T:Tm→ByteArray}{h:ByteArray}{l:List Tm}{m:Nat}(hT:∀x∈l,(T x).size≤m):(vT T h l).size≤h.size+l.length*(m+2):=by
 have hg:∀(xs:List Tm) (o:ByteArray),(∀x∈xs,(T x).size≤m)→(xs.foldl (fun o y=>(o++⟨#[44]⟩)++T y) o).size≤o.size+xs.length*(m+2):=by
  intro xs
  induction xs with
  | nil=>intro o _;simp
  | cons x xs ih=>
   intro o hx
   refine oZ (ih _ fun y hy=>hx y (by simp [hy])) ?_
   rw[dP,dP]
   have:=hx x (by simp)
   simp only[aT,sK]
   show o.size+1+_+_≤_
   omega
 cases l with
 | nil=>simp [vT]
 | cons x l=>
  refine oZ (hg l _ fun y hy=>hT y (by simp [hy])) ?_
  rw[dP,dP]
  have:=hT x (by simp)
  simp only[aT,sK]
  show h.size+2+_+_≤_
  omega
theorem aS7{t:Tm}(h:t.valid=true):Ws t∧t.nodes≤120:=by
 simp only[Tm.valid,cE,bK] at h
 exact⟨⟨_,h.1⟩,h.2⟩
theorem a0X{t:Tm}(h:t.goal=true):t.valid=true:=by
 obtain⟨k,n,s,ts⟩:=t
 simp only[Tm.goal,cE] at h
 exact h.1
theorem aY1{c:Cl}(h:mC c=true):(Ws c.1∧c.1.nodes≤120)∧c.2.length≤6∧∀x∈c.2,Ws x∧x.nodes≤120:=by
 simp only[mC,cE,bK,eM] at h
 exact⟨aS7 h.1.1,h.2.1,fun x hx=>aS7 (a0X (h.2.2 x hx))⟩
theorem NE{l:List UInt8}(hl:l.length≤1000):∀(m a:Nat) (acc ts:List Tm) (e:Nat),a≤l.length→(∀x∈acc,Dn x)→uG l m a acc=some (ts,e)→a<e∧e≤l.length∧(∀x∈ts,Dn x)∧ts.length≤acc.length+m:=by
 intro m
 induction m with
 | zero=>intro a acc ts e _ _ h;cases h
 | succ m ih=>
  intro a acc ts e ha pW h
  unfold uG at h
  split at h
  · cases h
  rename_i t e1 h1
  obtain⟨h2,h3,h4⟩:=DK hl _ _ _ a t e1 ha h1
  have JC:∀x∈acc++ [t],Dn x:=by intro x hx;rw[eK] at hx;rcases hx with hx | hx;exact pW x hx;rw[ED] at hx;subst hx;exact h4
  split at h
  · rename_i h5
    have h6:=pZ h5
    obtain⟨g1,g2,g3,g4⟩:=ih (e1+1) _ ts e (by omega) JC h
    rw[dW,QQ] at g4
    exact⟨by omega,g2,g3,by omega⟩
  · cases h
    exact⟨h2,h3,JC,by rw[dW,QQ];omega⟩
abbrev uC (c:Cl):Prop:=Dn c.1∧c.2.length≤7∧∀x∈c.2,Dn x
theorem MS{l:List UInt8}(hl:l.length≤1000){c:Cl}{e:Nat}(h:uD l=some (c,e)):0<e∧e≤l.length∧uC c:=by
 unfold uD at h
 split at h
 · cases h
 rename_i t e1 h1
 obtain⟨h2,h3,h4⟩:=DK hl _ _ _ 0 t e1 (jU _) h1
 split at h
 · rename_i h5
   rw[cE] at h5
   have h6:=pZ h5.2
   split at h
   · cases h
   rename_i b e2 h7
   obtain⟨g1,g2,g3,g4⟩:=NE hl _ _ _ _ _ (by omega) (by simp) h7
   cases h
   exact⟨by omega,g2,h4,by rw[aX] at g4;show b.length≤7;omega,g3⟩
 · cases h
   exact⟨h2,h3,h4,by show 0≤7;omega,by intro x hx;cases hx⟩
theorem aP4{l:List UInt8}{c:Cl}(h:p9 l=some c):uC c∧mC c=true:=by
 unfold p9 at h
 split at h
 · cases h
 rename_i c' e h1
 split at h
 · rename_i h2
   cases h
   refine⟨(MS h2.1 h1).2.2,?_⟩
   have h3:=h2.2.2.2
   unfold fmtC at h3
   split at h3
   · assumption
   · have:=oC List.length h3
     simp at this
     omega
 · cases h
theorem aBW(c:Nat):∀(l acc:List UInt8),o9 c l acc≠[]
 | [],acc=>by simp [o9]
 | x::l,acc=>by unfold o9;split<;>simp [aBW c l]
theorem ST(c:Nat):∀(l acc:List UInt8),(o9 c l acc).length≤l.length+1
 | [],acc=>by simp [o9]
 | x::l,acc=>by unfold o9;split;have:=ST c l [];simp only[aT];omega;have:=ST c l (acc++ [x]);simp only[aT];omega
end Go.AW
namespace Go.AW
open Go.Proofs.Tryz
theorem aBL{t:Tm}(h:Ws t∧t.nodes≤120)(st:aB):aD prog 256 [t.av] st (fun r st'=>r=.str (sE t)∧st'=st):=aXI 130 t st h.1 (by omega) (by omega)
theorem P3{t:Tm}(h:Ws t∧t.nodes≤120):(sE t).size≤3840:=by have:=P2 130 t h.1;unfold sE;omega
abbrev PG:=zi tI_3 (zi zI_3 (zi aU (zi tI_9 (zi zI_9 (zi cT (zi tI_28 (zi zI_28 (zi aO (zi bF (zi bG (zi bZ (zi tI_52 (zi zI_52 (zi bU (zi bV (zi bX (zi bY (zi bT (zi tI_111 (zi zI_111 (zi kT (zi kU kQ))))))))))))))))))))))
set_option maxHeartbeats 1000000 in
theorem aXO(c:Cl)(hc:(Ws c.1∧c.1.nodes≤120)∧c.2.length≤6∧∀x∈c.2,Ws x∧x.nodes≤120)(st:aB):aD prog 220 [a9 c] st (fun r st'=>r=.str (SR c)∧st'=st):=by
 obtain⟨⟨k,n,s,ks⟩,ts⟩:=c
 obtain⟨hh,hl,hb⟩:=hc
 simp only at hh hl hb
 have hhd:=fun st=>aBL hh st
 have hhs:=P3 hh
 unfold SR
 simp only
 generalize sE (.mk k n s ks)=H at *
 simp only[a8] at hhd
 simp only[gI]
 have hm:maxLen=9223372036854775807:=by rfl
 refine wF [1000000] 1 func220 ntmps220 rfl rfl ?_
 intro _
 simp -implicitDefEqProofs only[aA,seval,PG]
 refine(hhd _).to ?_
 simp -implicitDefEqProofs only[aA,seval]
 refine eL (σ:=Unit) [1000000] [1,2] ts (fun i _=>True) (fun i _=>[(3,.str (vT sE H (ts.take i))),(4,.int .i64 i)]) (fun _ _=>st) (by decide +kernel) ⟨(),trivial,aP.mk (by simp -implicitDefEqProofs only[l7,aA,↓aS,seval]<;>rfl)⟩ (fun i x _ hx hlt bR hdr hinv=>?_) (fun _ hge hinv=>?_)
 case refine_2=>
  rw[fG]
  have hsz:=Z0 (T:=sE) (h:=H) (l:=ts) (m:=3840) fun x hx=>P3 (hb x hx)
  have hs:(vT sE H ts).size+(⟨#[46]⟩:ByteArray).size≤maxLen:=by
   have:ts.length*(3840+2)≤6*3842:=tU _ hl
   show _+1≤_;omega
  simp -implicitDefEqProofs only[aF,hge,hs,↓reduceIte,aA,seval,PG]
 have hxm:=dA hx
 have c1:=fun st=>aBL (hb x hxm) st
 have c2:=P3 (hb x hxm)
 have hw:=bO (n:=(i:Int)+1)
 have hat:=bQ (av:=Tm.av) aO hx (aM x)
 have jG:=aU4 (T:=sE) (h:=H) hx
 have hsz:=Z0 (T:=sE) (h:=H) (l:=ts.take i) (m:=3840) fun y hy=>P3 (hb y (mJ hy))
 have hln:(ts.take i).length*(3840+2)≤6*3842:=tU _ (by rw[eC];omega)
 generalize vT sE H (ts.take i)=B at *
 generalize sE x=X at *
 have hs1:B.size+(⟨#[44]⟩:ByteArray).size≤maxLen:=by show _+1≤_;omega
 have hs2:(B++(⟨#[44]⟩:ByteArray)).size+X.size≤maxLen:=by rw[dP];show _+1+_≤_;omega
 have hs3:B.size+(⟨#[58,45]⟩:ByteArray).size≤maxLen:=by show _+2≤_;omega
 have hs4:(B++(⟨#[58,45]⟩:ByteArray)).size+X.size≤maxLen:=by rw[dP];show _+2+_≤_;omega
 by_cases h0:i=0
 · rw[aH h0] at jG
   have h0':((i:Int)=0)=True:=cM (by omega)
   simp -implicitDefEqProofs only[aF,hat,aY,aM,bR,h0',hs3,↓reduceIte,bE,aA,seval,PG]
   refine(c1 _).to ?_
   simp -implicitDefEqProofs only[hs4,↓reduceIte,aA,seval]
   exact⟨(),aP.mk (by simp -implicitDefEqProofs only[hw,jG,↓reduceIte,aA,seval])⟩
 · rw[aE h0] at jG
   have h0':((i:Int)=0)=False:=cB (by omega)
   simp -implicitDefEqProofs only[aF,hat,aY,aM,bR,h0',hs1,↓reduceIte,bE,bM,aA,seval,PG]
   refine(c1 _).to ?_
   simp -implicitDefEqProofs only[hs2,↓reduceIte,aA,seval]
   exact⟨(),aP.mk (by simp -implicitDefEqProofs only[hw,jG,↓reduceIte,aA,seval])⟩
abbrev XK:=zi tI_4 (zi zI_4 (zi cI (zi tI_9 (zi zI_9 (zi cT (zi tI_111 (zi zI_111 (zi kT (zi kU kQ)))))))))
theorem RZ(c:Cl)(st:aB):aD prog 180 [a9 c] st (fun r st'=>r=.str (fmtC c)∧st'=st):=by
 have hv:=aBG c
 unfold fmtC
 cases h:mC c with
 | true=>
  rw[h] at hv
  have ht:=aXO c (aY1 h)
  rw[aH rfl]
  obtain⟨⟨k,n,s,ks⟩,ts⟩:=c
  simp only[gI] at hv ht ⊢
  refine wF [1000000] 1 func180 ntmps180 rfl rfl ?_
  intro _
  simp -implicitDefEqProofs only[aA,seval,XK]
  refine(hv _).to ?_
  simp -implicitDefEqProofs only[aA,seval,XK]
  refine(ht _).to ?_
  simp -implicitDefEqProofs only[aA,seval]
 | false=>
  rw[h] at hv
  rw[aE (by decide)]
  obtain⟨⟨k,n,s,ks⟩,ts⟩:=c
  simp only[gI] at hv ⊢
  refine wF [1000000] 1 func180 ntmps180 rfl rfl ?_
  intro _
  simp -implicitDefEqProofs only[aA,seval,XK]
  refine(hv _).to ?_
  simp -implicitDefEqProofs only[aA,seval]
theorem aBC{s:ByteArray}(hs:s.size≤1000)(a:Nat)(ha:a≤s.size)(st:aB):aD prog 178 [.str s,.int .i64 (a:Int),.int .i64 30,.int .i64 3] st (fun r st'=>nG (J9 (sb s) a) r∧st'=st):=
 aXF hs (4*(sb s).length+4) 30 a 3 st ha (by omega) (by omega) (by rw[cV];omega)
def tS(o:Option (List Tm×Nat))(r:AV):Prop:=match o with | some (ts,e)=>r=.tup [.slice (ts.map Tm.av),.int .i64 (e:Int)] | none=>r=.tup [.slice [],.int .i64 (-1)]
abbrev XJ:=zi tI_3 (zi zI_3 (zi aU (zi tI_4 (zi zI_4 (zi cI (zi tI_5 (zi zI_5 (zi mH (zi tI_8 (zi zI_8 (zi zZ (zi z5 (zi z6 (zi z7 (zi zL (zi tI_9 (zi zI_9 (zi cT (zi tI_28 (zi zI_28 (zi aO (zi bF (zi bG (zi bZ (zi tI_30 (zi zI_30 (zi iL (zi iM (zi iN (zi iO (zi iP (zi iQ (zi iK (zi tI_52 (zi zI_52 (zi bU (zi bV (zi bX (zi bY bT)))))))))))))))))))))))))))))))))))))))
set_option maxHeartbeats 1000000 in
theorem aA0{s:ByteArray}(hs:s.size≤1000)(a:Nat)(ha:a≤s.size)(st:aB):aD prog 144 [.str s,.int .i64 (a:Int)] st (fun r st'=>tS (uG (sb s) 7 a []) r∧st'=st):=by
 generalize hT:uG (sb s) 7 a []=T
 refine aD.drop (Q:=tS T) (aD.fin ?_)
 refine wF [1000000] 2 func144 ntmps144 rfl rfl ?_
 intro _
 simp -implicitDefEqProofs only[aA,seval,XJ]
 refine iT (σ:=Nat×List Tm×Nat×Nat) [1000000] [0] (fun x=>uG (sb s) x.2.2.1 x.1 x.2.1=T∧x.1≤s.size∧x.2.1.length+x.2.2.1=7∧(x.2.1.map Tm.av≠[]→st x.2.2.2=none)) (fun x=>[(1,.int .i64 (x.1:Int)),(4,.fslice []),(5,.int .i64 0),(6,aZ 4 x.2.2.2 (x.2.1.map Tm.av))]) (fun x=>aV st x.2.2.2 (x.2.1.map Tm.av)) (fun x=>x.2.2.1) (by decide +kernel) ⟨(a,[],7,0),⟨hT,ha,rfl,by simp⟩,aP.mk (by simp -implicitDefEqProofs only[aW,jV,aA,seval])⟩ ?_
 rintro⟨i,acc,m,b⟩ ⟨ht,hi,hlen,hb⟩
 simp only at ht hi hlen hb ⊢
 have fin:∀(l:List Tm) (b':Nat) (r':AV),(l.map Tm.av≠[]→st b'=none)→tS T (r'.fin b' (l.map Tm.av))→∃b2 l2 s0,aV st b' (l.map Tm.av)=aV s0 b2 l2∧(l2≠[]→s0 b2=none)∧(∀e∈l2,e.cJ=false)∧iU l2∧aL s0 st∧tS T (r'.fin b2 l2):=fun l b' r' h1 h2=>⟨b',_,st,rfl,h1,jJ _,⟨4,d9 _⟩,aL.refl _,h2⟩
 have hTn:T=none→∀(b':Nat) (l:List AV),tS T ((AV.tup [.fslice [],.int .i64 (-1)]).fin b' l):=by
  rintro rfl b' l
  simp only[tS,kK,eS,qO,bB,aW]
 have hln:(acc.map Tm.av).length=acc.length:=aF _
 have hal:=vO (P:=prog) (b:=b) (w:=4) (l:=acc.map Tm.av) bZ
 rw[hln] at hal
 by_cases h6:acc.length≤6
 case neg=>
  have h6':((acc.length:Int)≤6)=False:=cB (by omega)
  obtain rfl:m=0:=by omega
  simp -implicitDefEqProofs only[hal,h6',bM,aA,seval]
  exact fin _ _ _ hb (hTn ht.symm _ _)
 have h6':((acc.length:Int)≤6)=True:=cM (by omega)
 obtain⟨m,rfl⟩:∃m',m=m'+1:=⟨m - 1,by omega⟩
 simp only[uG] at ht
 simp -implicitDefEqProofs only[hal,h6',bE,aA,seval]
 refine(aBC hs i hi _).mono ?_
 rintro r _ ⟨hr,rfl⟩
 cases hRi:J9 (sb s) i with
 | none=>
  rw[hRi] at ht hr
  obtain⟨k,hk,rfl⟩:=hr
  have hk0:((-1 - (k:Int))<0)=True:=cM (by omega)
  simp -implicitDefEqProofs only[aM,cH,cP,hk0,mD,bE,aA,↓aS,seval,XJ]
  exact fin _ _ _ hb (hTn ht.symm _ _)
 | some p=>
  obtain⟨t,e⟩:=p
  rw[hRi] at ht hr
  simp only at ht
  obtain⟨g1,g2,g3⟩:=DK (by rw[cV];exact hs) _ _ _ i t e (by rw[cV];exact hi) hRi
  rw[cV] at g2
  simp only[nG] at hr
  subst hr
  have he0:((e:Int)<0)=False:=cB (by omega)
  simp -implicitDefEqProofs only[aY,aM,cH,cP,he0,oU,tM,bM,aA,↓aS,seval,XJ]
  refine eE aO bF bG rfl rfl (fL (aM _) (cH _)) (d9 _) hb (by simp only[aF,aT,aX];omega) (by simp only[aF,aT,aX];omega) (fun b' hb'=>?_)
  rw[show acc.map Tm.av++ [t.av]=(acc++ [t]).map Tm.av by simp] at hb' ⊢
  have hw1:=bO (n:=(e:Int)+1)
  simp -implicitDefEqProofs only[aA,seval]
  refine(lV s e 44 _).to ?_
  cases h3:c7 (sb s) e 44 with
  | true=>
   have h4:=pZ h3
   rw[cV] at h4
   rw[h3,aH rfl] at ht
   simp -implicitDefEqProofs only[hw1,aA,seval]
   refine⟨(e+1,acc++ [t],m,b'),by simp only;omega,⟨ht,by simp only;omega,by simp only[dW,aT,aX];omega,hb'⟩,aP.mk (by simp -implicitDefEqProofs only[aA,seval]<;>rfl)⟩
  | false=>
   rw[h3,aE (by decide)] at ht
   simp -implicitDefEqProofs only[nM,oU,tM,aA,seval]
   refine fin _ _ _ hb' ?_
   subst ht
   simp only[tS,kK,eS,mV,bB,aW]
abbrev cl0:Cl:=(K4,[])
def BC(o:Option Cl):AV:=match o with | some c=>.tup [a9 c,.bool true] | none=>.tup [a9 cl0,.bool false]
theorem sQ:(AV.tup [.agg [.int .i64 0,.int .i64 0,.str ⟨#[]⟩,.fslice [],.fslice []],.bool false]).soft=BC none:=by simp only[BC,gI,jI,jQ,jB,sB,nB,lW,bB,aW]
theorem SS(c:Cl):(AV.tup [a9 c,.bool true]).soft=BC (some c):=by
 obtain⟨⟨k,n,s,ks⟩,ts⟩:=c
 simp only[BC,gI,jI,jQ,jB,sB,nB,nA,bB,aW]
theorem x9{l:List UInt8}{c:Cl}{e:Nat}(h:uD l=some (c,e))(h1:¬(l.length≤1000∧e+1=l.length∧c7 l e 46=true∧sb (fmtC c)=l)):p9 l=none:=by
 unfold p9
 rw[h]
 simp only
 rw[aE h1]
theorem VY{l:List UInt8}{c:Cl}{e:Nat}(h:uD l=some (c,e))(h1:l.length≤1000∧e+1=l.length∧c7 l e 46=true∧sb (fmtC c)=l):p9 l=some c:=by
 unfold p9
 rw[h]
 simp only
 rw[aH h1]
theorem WK{a b:ByteArray}(h:sb a=sb b):a=b:=by rw[←ZU a,←ZU b,h]
abbrev kO:=zi tI_3 (zi zI_3 (zi aU (zi tI_4 (zi zI_4 (zi cI (zi tI_5 (zi zI_5 (zi mH (zi tI_8 (zi zI_8 (zi zZ (zi z5 (zi z6 (zi z7 (zi zL (zi tI_9 (zi zI_9 (zi cT (zi tI_28 (zi zI_28 (zi aO (zi bF (zi bG (zi bZ (zi tI_30 (zi zI_30 (zi iL (zi iM (zi iN (zi iO (zi iP (zi iQ (zi iK (zi tI_52 (zi zI_52 (zi bU (zi bV (zi bX (zi bY (zi bT (zi tI_111 (zi zI_111 (zi kT (zi kU kQ))))))))))))))))))))))))))))))))))))))))))))
set_option maxHeartbeats 2000000 in
theorem aV1(s:ByteArray)(st:aB):aD prog 142 [.str s] st (fun r st'=>r=BC (p9 (sb s))∧st'=st):=by
 refine aD.done ?_
 refine wF [1000000,6] 1 func142 ntmps142 rfl rfl ?_
 intro _
 simp -implicitDefEqProofs only[aA,seval,kO]
 intro b2 hb2
 have hD:=fun(o:AO)=>(aL.refl st).aC (o:=o) hb2
 by_cases hs:s.size≤1000
 case neg=>
  have hs':((1000:Int)<(s.size:Int))=True:=cM (by omega)
  have hP:p9 (sb s)=none:=by
   unfold p9
   split
   · rfl
   · rw[aE fun h=>hs (by rw[←cV];exact h.1)]
  rw[hP]
  simp -implicitDefEqProofs only[aK,hs',bE,aA,seval,kO]
  exact⟨sQ,hD _⟩
 have hs':((1000:Int)<(s.size:Int))=False:=cB (by omega)
 have h0:=fun st=>aBC hs 0 (jU _) st
 rw[show((0:Nat):Int)=0 from rfl] at h0
 simp -implicitDefEqProofs only[hs',bM,aA,seval]
 refine(h0 _).mono ?_
 rintro r _ ⟨hr,rfl⟩
 cases hRi:J9 (sb s) 0 with
 | none=>
  have hP:p9 (sb s)=none:=by unfold p9 uD;rw[hRi]
  rw[hP]
  rw[hRi] at hr
  obtain⟨k,hk,rfl⟩:=hr
  have hk0:((-1 - (k:Int))<0)=True:=cM (by omega)
  simp -implicitDefEqProofs only[aK,aM,cH,cP,hk0,mD,bE,aA,↓aS,seval,kO]
  exact⟨sQ,hD _⟩
 | some p=>
  obtain⟨⟨hk,hn,hsn,hts⟩,e⟩:=p
  rw[hRi] at hr
  simp only[nG,a8] at hr
  subst hr
  obtain⟨g1,g2,g3⟩:=DK (by rw[cV];exact hs) _ _ _ 0 _ e (jU _) hRi
  rw[cV] at g2
  have he0:((e:Int)<0)=False:=cB (by omega)
  obtain⟨f1,hf1⟩:∃f1,f1=e+1:=⟨_,rfl⟩
  obtain⟨f2,hf2⟩:∃f2,f2=e+2:=⟨_,rfl⟩
  have hw1:=pK (x:=(e:Int)+1) (m:=f1) (by omega) (by omega)
  have hw2:=pK (x:=(e:Int)+2) (m:=f2) (by omega) (by omega)
  simp -implicitDefEqProofs only[aK,he0,bM,aA,↓aS,seval,kO]
  intro b6 h6
  have hbb:b6≠b2:=fun h=>by rw[h,aB.aJ] at h6;cases h6
  have h6':st b6=none:=by rwa [aB.aG _ _ hbb] at h6
  have hE:∀o1 o2 o3,aL (((st.aC b2 o1).aC b6 o2).aC b2 o3) st:=fun o1 o2 o3=>((hD _).aC h6').aC hb2
  refine(lV s e 58 _).to ?_
  by_cases hbd:(c7 (sb s) e 58&&c7 (sb s) (e+1) 45)=true
  case neg=>
   obtain⟨b,hb⟩:∃b:List Tm,b= []:=⟨_,rfl⟩
   have hcl:uD (sb s)=some ((.mk hk hn hsn hts,b),e):=by
    unfold uD
    rw[hRi,hb]
    simp only
    rw[aE hbd]
   obtain⟨e2,he2⟩:∃e2,e2=e:=⟨_,rfl⟩
   rw[←he2] at hcl
   cases h58:c7 (sb s) e 58 with
   | false=>
    simp -implicitDefEqProofs only[aA,seval,kO]
    rw[←he2]
    have hdn:=(MS (by rw[cV];exact hs) hcl).2.2
    have hwl:=bO (n:=(s.size:Int) - 1)
    by_cases he:e2+1=s.size
    case neg=>
     rw[x9 hcl (fun h=>he (by rw[cV] at h;exact h.2.1))]
     have he':((e2:Int)=(s.size:Int) - 1)=False:=cB (by omega)
     simp -implicitDefEqProofs only[aK,hwl,he',hbb.symm,bM,aA,seval,kO]
     exact⟨sQ,hE _ _ _⟩
    have he':((e2:Int)=(s.size:Int) - 1)=True:=cM (by omega)
    simp -implicitDefEqProofs only[hwl,he',bE,aA,seval]
    refine(lV s e2 46 _).to ?_
    cases hd:c7 (sb s) e2 46 with
    | false=>
     rw[x9 hcl (fun h=>by rw[hd] at h;exact absurd h.2.2.1 (by decide))]
     simp -implicitDefEqProofs only[aK,hbb.symm,aA,seval,kO]
     exact⟨sQ,hE _ _ _⟩
    | true=>
     simp -implicitDefEqProofs only[aA,seval,kO]
     refine(aD.rD (by rw[show jA [AV.agg [.int .i64 hk,.int .i64 hn,.str hsn,.slice (hts.map Tm.av),.fslice []]]= [a9 (.mk hk hn hsn hts,b)] by simp only[jA,gI,hb,jI,jB,nB,nA,lW,bB,aW]];exact RZ (.mk hk hn hsn hts,b) _):aD prog 180 _ _ _).to ?_
     by_cases hf:fmtC (.mk hk hn hsn hts,b)=s
     case neg=>
      rw[x9 hcl (fun h=>hf (WK h.2.2.2))]
      have hf':=cB hf
      simp -implicitDefEqProofs only[aK,hf',hbb.symm,bM,aA,seval,kO]
      exact⟨sQ,hE _ _ _⟩
     rw[VY hcl ⟨by rw[cV];exact hs,by rw[cV];exact he,hd,by rw[hf]⟩]
     have hf':=cM hf
     simp -implicitDefEqProofs only[hf',bE,aA,seval,kO]
     refine(aD.rD (by rw[show jA [AV.agg [.int .i64 hk,.int .i64 hn,.str hsn,.slice (hts.map Tm.av),.fslice []]]= [a9 (.mk hk hn hsn hts,b)] by simp only[jA,gI,hb,jI,jB,nB,nA,lW,bB,aW]];exact MK (.mk hk hn hsn hts,b) hdn.1.2 (by have:=hdn.2.1;omega) (fun x hx=>(hdn.2.2 x hx).2) _):aD prog 111 _ _ _).to ?_
     rw[gI]
     simp -implicitDefEqProofs only[aK,hbb.symm,aA,seval,kO]
     rw[←gI]
     exact⟨SS _,hE _ _ _⟩
   | true=>
    simp -implicitDefEqProofs only[hw1,aA,seval]
    refine(lV s f1 45 _).to ?_
    rw[h58,eP,←hf1] at hbd
    rw[show c7 (sb s) f1 45=false by simpa using hbd]
    simp -implicitDefEqProofs only[aA,seval,kO]
    rw[←he2]
    have hdn:=(MS (by rw[cV];exact hs) hcl).2.2
    have hwl:=bO (n:=(s.size:Int) - 1)
    by_cases he:e2+1=s.size
    case neg=>
     rw[x9 hcl (fun h=>he (by rw[cV] at h;exact h.2.1))]
     have he':((e2:Int)=(s.size:Int) - 1)=False:=cB (by omega)
     simp -implicitDefEqProofs only[aK,hwl,he',hbb.symm,bM,aA,seval,kO]
     exact⟨sQ,hE _ _ _⟩
    have he':((e2:Int)=(s.size:Int) - 1)=True:=cM (by omega)
    simp -implicitDefEqProofs only[hwl,he',bE,aA,seval]
    refine(lV s e2 46 _).to ?_
    cases hd:c7 (sb s) e2 46 with
    | false=>
     rw[x9 hcl (fun h=>by rw[hd] at h;exact absurd h.2.2.1 (by decide))]
     simp -implicitDefEqProofs only[aK,hbb.symm,aA,seval,kO]
     exact⟨sQ,hE _ _ _⟩
    | true=>
     simp -implicitDefEqProofs only[aA,seval,kO]
     refine(aD.rD (by rw[show jA [AV.agg [.int .i64 hk,.int .i64 hn,.str hsn,.slice (hts.map Tm.av),.fslice []]]= [a9 (.mk hk hn hsn hts,b)] by simp only[jA,gI,hb,jI,jB,nB,nA,lW,bB,aW]];exact RZ (.mk hk hn hsn hts,b) _):aD prog 180 _ _ _).to ?_
     by_cases hf:fmtC (.mk hk hn hsn hts,b)=s
     case neg=>
      rw[x9 hcl (fun h=>hf (WK h.2.2.2))]
      have hf':=cB hf
      simp -implicitDefEqProofs only[aK,hf',hbb.symm,bM,aA,seval,kO]
      exact⟨sQ,hE _ _ _⟩
     rw[VY hcl ⟨by rw[cV];exact hs,by rw[cV];exact he,hd,by rw[hf]⟩]
     have hf':=cM hf
     simp -implicitDefEqProofs only[hf',bE,aA,seval,kO]
     refine(aD.rD (by rw[show jA [AV.agg [.int .i64 hk,.int .i64 hn,.str hsn,.slice (hts.map Tm.av),.fslice []]]= [a9 (.mk hk hn hsn hts,b)] by simp only[jA,gI,hb,jI,jB,nB,nA,lW,bB,aW]];exact MK (.mk hk hn hsn hts,b) hdn.1.2 (by have:=hdn.2.1;omega) (fun x hx=>(hdn.2.2 x hx).2) _):aD prog 111 _ _ _).to ?_
     rw[gI]
     simp -implicitDefEqProofs only[aK,hbb.symm,aA,seval,kO]
     rw[←gI]
     exact⟨SS _,hE _ _ _⟩
  rw[cE,←hf1] at hbd
  have a1S:=pZ hbd.2
  rw[cV] at a1S
  rw[hbd.1]
  simp -implicitDefEqProofs only[hw1,aA,seval]
  refine(lV s f1 45 _).to ?_
  rw[hbd.2]
  simp -implicitDefEqProofs only[hw2,aA,seval]
  refine(aA0 hs f2 (by omega) _).mono ?_
  rintro r _ ⟨hr,rfl⟩
  cases hG:uG (sb s) 7 f2 [] with
  | none=>
   have hP:p9 (sb s)=none:=by
    unfold p9 uD
    rw[hRi]
    simp only
    rw[aH (by rw[←hf1,hbd.1,hbd.2];try rfl),←hf2,hG]
   rw[hP]
   rw[hG] at hr
   simp only[tS] at hr
   subst hr
   have hwl:=bO (n:=(s.size:Int) - 1)
   have he':((-1:Int)=(s.size:Int) - 1)=False:=cB (by omega)
   simp -implicitDefEqProofs only[aK,hwl,he',hbb.symm,bM,aA,seval,kO]
   exact⟨sQ,hE _ _ _⟩
  | some p=>
   obtain⟨b,e2⟩:=p
   rw[hG] at hr
   simp only[tS] at hr
   subst hr
   have hcl:uD (sb s)=some ((.mk hk hn hsn hts,b),e2):=by
    unfold uD
    rw[hRi]
    simp only
    rw[aH (by rw[←hf1,hbd.1,hbd.2];try rfl),←hf2,hG]
   have hg2:=NE (by rw[cV];exact hs) _ _ _ _ _ (by rw[cV];omega) (by simp) hG
   rw[cV] at hg2
   simp -implicitDefEqProofs only[aK,aA,seval,kO]
   have hdn:=(MS (by rw[cV];exact hs) hcl).2.2
   have hwl:=bO (n:=(s.size:Int) - 1)
   by_cases he:e2+1=s.size
   case neg=>
    rw[x9 hcl (fun h=>he (by rw[cV] at h;exact h.2.1))]
    have he':((e2:Int)=(s.size:Int) - 1)=False:=cB (by omega)
    simp -implicitDefEqProofs only[aK,hwl,he',hbb.symm,bM,aA,seval,kO]
    exact⟨sQ,hE _ _ _⟩
   have he':((e2:Int)=(s.size:Int) - 1)=True:=cM (by omega)
   simp -implicitDefEqProofs only[hwl,he',bE,aA,seval]
   refine(lV s e2 46 _).to ?_
   cases hd:c7 (sb s) e2 46 with
   | false=>
    rw[x9 hcl (fun h=>by rw[hd] at h;exact absurd h.2.2.1 (by decide))]
    simp -implicitDefEqProofs only[aK,hbb.symm,aA,seval,kO]
    exact⟨sQ,hE _ _ _⟩
   | true=>
    simp -implicitDefEqProofs only[aA,seval,kO]
    refine(aD.rD (by rw[show jA [AV.agg [.int .i64 hk,.int .i64 hn,.str hsn,.slice (hts.map Tm.av),.slice (b.map Tm.av)]]= [a9 (.mk hk hn hsn hts,b)] by simp only[jA,gI,AV.soft]];exact RZ (.mk hk hn hsn hts,b) _):aD prog 180 _ _ _).to ?_
    by_cases hf:fmtC (.mk hk hn hsn hts,b)=s
    case neg=>
     rw[x9 hcl (fun h=>hf (WK h.2.2.2))]
     have hf':=cB hf
     simp -implicitDefEqProofs only[aK,hf',hbb.symm,bM,aA,seval,kO]
     exact⟨sQ,hE _ _ _⟩
    rw[VY hcl ⟨by rw[cV];exact hs,by rw[cV];exact he,hd,by rw[hf]⟩]
    have hf':=cM hf
    simp -implicitDefEqProofs only[hf',bE,aA,seval,kO]
    refine(aD.rD (by rw[show jA [AV.agg [.int .i64 hk,.int .i64 hn,.str hsn,.slice (hts.map Tm.av),.slice (b.map Tm.av)]]= [a9 (.mk hk hn hsn hts,b)] by simp only[jA,gI,AV.soft]];exact MK (.mk hk hn hsn hts,b) hdn.1.2 (by have:=hdn.2.1;omega) (fun x hx=>(hdn.2.2 x hx).2) _):aD prog 111 _ _ _).to ?_
    rw[gI]
    simp -implicitDefEqProofs only[aK,hbb.symm,aA,seval,kO]
    rw[←gI]
    exact⟨SS _,hE _ _ _⟩
abbrev A3:=zi tI_3 (zi zI_3 (zi aU (zi tI_28 (zi zI_28 (zi aO (zi bF (zi bG (zi bZ (zi tI_52 (zi zI_52 (zi bU (zi bV (zi bX (zi bY (zi bT (zi tI_111 (zi zI_111 (zi kT (zi kU kQ)))))))))))))))))))
theorem aXJ(k n:Int)(s:ByteArray)(ks ts:List Tm)(h1:(Tm.mk k n s ks).small=true)(h2:ts.length≤1048576)(h3:∀x∈ts,x.small=true)(st:aB):aD prog 111 [a9 (.mk k n s ks,ts)] st (fun r st'=>∃b,r=.agg [.int .i64 k,.int .i64 n,.str s,.slice (ks.map Tm.av),aZ 4 b (ts.map Tm.av)]∧st'=aV st b (ts.map Tm.av)∧(ts.map Tm.av≠[]→st b=none)):=by
 have hhd:=fun st=>zO (.mk k n s ks) st h1
 simp only[a8] at hhd
 have IH:=fun(x:Tm) (hx:x∈ts) st=>zO x st (h3 x hx)
 have hlen:ts.length≤1048576:=h2
 refine aD.kS ?_
 simp only[gI]
 refine wF [] 1 func111 ntmps111 rfl rfl ?_
 simp only[eQ,AV.fits,eR,aF]
 intro ⟨_,_,_,_,hl,_⟩
 simp -implicitDefEqProofs only[aA,seval,A3]
 intro b2 hb2
 refine(hhd _).to ?_
 simp -implicitDefEqProofs only[aK,aA,seval,A3]
 intro c hc
 have hne:c≠b2:=by rintro rfl;rw[aB.aJ] at hc;cases hc
 have hn2:st c=none:=by rw[aB.aG st _ hne] at hc;exact hc
 have mW:b2≠c:=dG hne
 refine eL (σ:=Nat) [] [1,2,3] ts (fun i b=>(((ts.take i).map (fun y=>y)).map Tm.av≠[]→(aB.aC (st.aC b2 (.cells [AV.int .i64 0,AV.int .i64 0,AV.str ⟨#[]⟩,AV.fslice [],AV.fslice []])) c (.cells ([AV.int .i64 k,AV.int .i64 n,AV.str s,AV.slice (ks.map Tm.av)]++ [aZ 4 b (((ts.take i).map (fun y=>y)).map Tm.av)]))) b=none)) (fun i b=>[(4,.int .i64 i)]) (fun i b=>fX (st.aC b2 (.cells [AV.int .i64 0,AV.int .i64 0,AV.str ⟨#[]⟩,AV.fslice [],AV.fslice []])) c b [AV.int .i64 k,AV.int .i64 n,AV.str s,AV.slice (ks.map Tm.av)] (((ts.take i).map (fun y=>y)).map Tm.av)) (by decide +kernel)
  ⟨0,fun h=>absurd rfl h,aP.mk (by simp -implicitDefEqProofs only[aA,↓aS,seval])⟩ (fun i x b hx hlt bR hdr hinv=>?_) (fun b hge hinv=>?_)
 case refine_1=>
  have hw:=bO (n:=(i:Int)+1)
  have c8:(((ts.take i).map (fun y=>y)).map Tm.av).length=i:=by simp only[aF,eC];omega
  have htk:(ts.take (i+1)).map (fun y=>y)=(ts.take i).map (fun y=>y)++ [(fun y=>y) x]:=by rw[gC,hx];simp
  have hbo:=fA hinv
  simp -implicitDefEqProofs only[aF,bR,aA,seval,A3]
  refine wP [(0,1),(2,1),(4,1),(1,2),(3,2),(5,1),(6,2),(7,2),(8,1),(9,0),(10,1),(11,0)] [0,2,4,1,3,5,6,7,8,10] mixed ?_
  simp -implicitDefEqProofs only[bQ (av:=Tm.av) aO hx (aM x),aY,aM,hbo,mP,iA,aA,seval,A3]
  refine j6 (IH x (dA hx) _) ?_
  simp -implicitDefEqProofs only[aY,aM,cP,iA,aA,seval,A3]
  refine eE aO bF bG rfl rfl (fL (aM _) (cH _)) (d9 _) hinv (by simp only[c8,aT,aX];omega) (by simp only[c8,aT,aX];omega) (fun b' hb'=>?_)
  rw[show(((ts.take i).map (fun y=>y)).map Tm.av)++ [((fun y=>y) x).av]=((ts.take (i+1)).map (fun y=>y)).map Tm.av by rw[htk];simp] at hb' ⊢
  obtain⟨g1,g2,g3⟩:=p7 hb'
  simp only[fE,eD] at g1 g3
  simp -implicitDefEqProofs only[g3,mQ,fH,aK,g1,hw,aK,aA,seval,A3]
  exact⟨b',g2,aP.mk (by simp -implicitDefEqProofs only[aA,seval])⟩
 have hbo:=fA hinv
 rw[fG] at hinv hbo ⊢
 simp -implicitDefEqProofs only[aF,hge,aA,seval,A3]
 simp -implicitDefEqProofs only[hbo,aK,aA,seval,A3]
 have hS:(st.aC b2 (.cells [AV.int .i64 0,AV.int .i64 0,AV.str ⟨#[]⟩,AV.fslice [],AV.fslice []])) b2≠none:=by rw[aB.aJ];simp
 have h1:=iE hinv hS mW
 rw[aB.aJ] at h1
 simp -implicitDefEqProofs only[h1,fH,aA,seval]
 obtain⟨h2,h3⟩:=lK (o:=.cells [AV.int .i64 k,AV.int .i64 n,AV.str s,AV.slice (ks.map Tm.av),aZ 4 b ((ts.map fun y=>y).map Tm.av)]) hinv hS mW
 simp only[fE,eD] at h2 h3
 rw[h2]
 have D:∀o o' o'',aL (((st.aC b2 o).aC c o').aC b2 o'') st:=fun o o' o''=>(((aL.refl _).aC hb2).aC hn2).aC hb2
 simp only[List.map_id'] at h3 ⊢
 exact⟨_,S5 (D _ _ _),b,rfl,rfl,fun h=>(D _ _ _ b).1 (h3 h)⟩
abbrev pI:=zi tI_3 (zi zI_3 (zi aU (zi tI_9 (zi zI_9 (zi cT (zi tI_28 (zi zI_28 (zi aO (zi bF (zi bG (zi bZ (zi tI_40 (zi zI_40 (zi dT (zi fJ (zi fK (zi fU (zi tI_52 (zi zI_52 (zi bU (zi bV (zi bX (zi bY (zi bT (zi tI_91 (zi zI_91 (zi tI_111 (zi zI_111 (zi kT (zi kU (zi kQ (zi tI_117 (zi zI_117 (zi aMC (zi aMD (zi aME (zi aMF (zi ZM (zi tI_138 (zi zI_138 (zi j9 (zi nQ (zi nR oR)))))))))))))))))))))))))))))))))))))))))))
set_option maxHeartbeats 2000000 in
theorem aXM(bs:List Bt)(c p:Nat)(cl:Cl)(hcl:uC cl)(st:aB)(hp:p+6000≤1099511627776)(hR:cW st c bs p) :
 aD prog 118 [.ptr c 0,a9 cl] st (Dr bs c p 6000 st (fun r=>∃cl':Cl,r=a9 cl')):=by
 obtain⟨⟨k,n,s,ks⟩,ts⟩:=cl
 obtain⟨d1,d2,d3⟩:=hcl
 simp only at d1 d2 d3
 have hcp:=fun st=>aXJ k n s ks ts d1.2 (by omega) (fun x hx=>(d3 x hx).2) st
 simp only[gI] at hcp ⊢
 refine aD.kS (aD.fin ?_)
 refine wF [1000000,5] 2 func118 ntmps118 rfl rfl ?_
 intro _
 simp -implicitDefEqProofs only[aA,seval,pI]
 intro b4 h4
 have h4c:=hR.ne h4
 have hR':=fun o=>hR.aC (o:=o) h4c
 refine(hcp _).mono ?_
 rintro _ _ ⟨b,rfl,rfl,hb⟩
 simp -implicitDefEqProofs only[fH,aK,aA,↓aS,seval,pI]
 intro b5 h5
 obtain⟨hn5,hb5⟩:=ER h5
 have h54:b5≠b4:=by rintro rfl;rw[aB.aJ] at hn5;cases hn5
 have UU:st b5=none:=by rw[aB.aG _ _ h54] at hn5;exact hn5
 have h5c:b5≠c:=hR.ne UU
 have hW4:∀q,((st.aC b4 (.cells [.int .i64 0,.int .i64 0,.str ⟨#[]⟩,.fslice [],.fslice []])).aC c (b7 bs q)) b4=some (.cells [.int .i64 0,.int .i64 0,.str ⟨#[]⟩,.fslice [],.fslice []]):=fun q=>by rw[aB.aG _ _ h4c,aB.aJ]
 have hdr:∀q Z Y,aL ((((st.aC b4 (.cells [.int .i64 0,.int .i64 0,.str ⟨#[]⟩,.fslice [],.fslice []])).aC c (b7 bs q)).aC b5 Z).aC b4 Y) (st.aC c (b7 bs q)):=fun q Z Y x=>by
  by_cases e4:x=b4<;>by_cases ec:x=c<;>by_cases e5:x=b5<;>simp_all [aB.aC]
 have e0:(aV (st.aC b4 (.cells [.int .i64 0,.int .i64 0,.str ⟨#[]⟩,.fslice [],.fslice []])) b (ts.map Tm.av)).aC b5 (.cells [.int .i64 k,.int .i64 n,.str s,.slice (ks.map Tm.av),aZ 4 b (ts.map Tm.av)])=fX (st.aC b4 (.cells [.int .i64 0,.int .i64 0,.str ⟨#[]⟩,.fslice [],.fslice []])) b5 b [.int .i64 k,.int .i64 n,.str s,.slice (ks.map Tm.av)] (ts.map Tm.av):=by
  rw[lQ hb5];try rfl
 have i0:ts.map Tm.av≠[]→((st.aC b4 (.cells [.int .i64 0,.int .i64 0,.str ⟨#[]⟩,.fslice [],.fslice []])).aC b5 (.cells ([.int .i64 k,.int .i64 n,.str s,.slice (ks.map Tm.av)]++ [aZ 4 b (ts.map Tm.av)]))) b=none:=fun h=>by
  rw[aB.aG _ _ (dG (hb5 h))];exact hb h
 have hUc:(st.aC b4 (.cells [.int .i64 0,.int .i64 0,.str ⟨#[]⟩,.fslice [],.fslice []])) c≠none:=by rw[hR' _];simp
 rw[e0]
 have hRk:cW (fX (st.aC b4 (.cells [.int .i64 0,.int .i64 0,.str ⟨#[]⟩,.fslice [],.fslice []])) b5 b [.int .i64 k,.int .i64 n,.str s,.slice (ks.map Tm.av)] (ts.map Tm.av)) c bs p:=by
  unfold cW
  rw[iE i0 hUc h5c.symm]
  exact hR' _
 refine(mS bs c p (by omega) 40 (by omega) (by omega) _ hRk).mono ?_
 rintro _ _ ⟨j,hj,rfl,rfl⟩
 obtain⟨e1,i1⟩:=r0 (o:=b7 bs (p+1)) i0 hUc h5c.symm
 rw[e1]
 have hWc:∀q,((st.aC b4 (.cells [.int .i64 0,.int .i64 0,.str ⟨#[]⟩,.fslice [],.fslice []])).aC c (b7 bs q)) c≠none:=fun q=>by rw[aB.aJ];simp
 have hRq:∀q (hd l:List AV),(l≠[]→(((st.aC b4 (.cells [.int .i64 0,.int .i64 0,.str ⟨#[]⟩,.fslice [],.fslice []])).aC c (b7 bs q)).aC b5 (.cells (hd++ [aZ 4 b l]))) b=none)→cW (fX ((st.aC b4 (.cells [.int .i64 0,.int .i64 0,.str ⟨#[]⟩,.fslice [],.fslice []])).aC c (b7 bs q)) b5 b hd l) c bs q:=fun q hd l hi=>by
  unfold cW
  rw[iE hi (hWc q) h5c.symm,aB.aJ]
  try rfl
 clear e0 i0 hRk e1
 simp -implicitDefEqProofs only[aA,seval]
 refine aQ (fun h0=>?_) (fun h0=>?_)
 · simp -implicitDefEqProofs only[aA,seval]
   refine(aAS bs c (p+1) _ (by omega) (hRq _ _ _ i1)).mono ?_
   rintro _ _ ⟨p1,q1,q2,rfl,t1,ht1,rfl⟩
   obtain⟨e1,i1⟩:=r0 (o:=b7 bs p1) i1 (hWc _) h5c.symm
   rw[cK] at e1 i1
   rw[e1]
   simp -implicitDefEqProofs only[aA,seval]
   refine(SA bs c p1 t1 ht1.2 _ (by omega) (hRq _ _ _ i1)).mono ?_
   rintro _ _ ⟨p2,r1,r2,rfl,⟨k',n',s',ks'⟩,rfl⟩
   obtain⟨e1,i1⟩:=r0 (o:=b7 bs p2) i1 (hWc _) h5c.symm
   rw[cK] at e1 i1
   rw[e1]
   have hbo:=fA i1
   obtain⟨e2,i1⟩:=JU (hd':=[.int .i64 k',.int .i64 n',.str s',.slice (ks'.map Tm.av)]) i1
   simp only[fE,eD] at e2
   rw[a8]
   simp -implicitDefEqProofs only[aK,hbo,aA,seval,pI]
   rw[e2]
   have hbo:=fA i1
   have h4o:=iE i1 (x:=b4) (by rw[hW4];simp) h54.symm
   rw[hW4] at h4o
   simp -implicitDefEqProofs only[h4o,fH,aA,seval]
   obtain⟨g5,g6⟩:=lK (o:=.cells [.int .i64 (k'),.int .i64 (n'),.str (s'),.slice ((ks').map Tm.av),aZ 4 b ((ts).map Tm.av)]) i1 (show((st.aC b4 (.cells [.int .i64 0,.int .i64 0,.str ⟨#[]⟩,.fslice [],.fslice []])).aC c (b7 bs (p2))) b4≠none by rw[hW4];simp) h54.symm
   refine⟨b,_,_,g5,g6,jJ _,⟨4,d9 _⟩,st.aC c (b7 bs (p2)),hdr _ _ _,p2,by omega,by omega,rfl,(.mk (k') (n') (s') (ks'),ts),?_⟩
   simp only[gG,bB,aW,eS,kA,jF,jE,gI]
 simp -implicitDefEqProofs only[aA,seval]
 refine aQ (fun h0=>?_) (fun h0=>?_)
 · have hbo:=fA i1
   simp -implicitDefEqProofs only[aA,seval]
   refine vF [(0,1),(1,1),(2,1),(3,1),(4,0),(5,0),(6,1),(7,0),(8,1),(9,2)] [0,1,2,3,6,8] (dQ.aC b5 (.cells [.int .i64 k,.int .i64 n,.str s,.slice (ks.map Tm.av),aZ 4 b (ts.map Tm.av)])) mixed (by decide +kernel) (by decide +kernel) (by decide +kernel) rfl (eV hbo) ?_
   simp -implicitDefEqProofs only[mP,aA,seval,pI]
   refine(aAS bs c (p+1) _ (by omega) (hRq _ _ _ i1)).mono ?_
   rintro _ _ ⟨p1,q1,q2,rfl,t1,ht1,rfl⟩
   obtain⟨e1,i1⟩:=r0 (o:=b7 bs p1) i1 (hWc _) h5c.symm
   rw[cK] at e1 i1
   rw[e1]
   have hbo:=fA i1
   simp -implicitDefEqProofs only[aA,seval]
   refine⟨eV hbo,?_⟩
   refine(SA bs c p1 t1 ht1.2 _ (by omega) (hRq _ _ _ i1)).mono ?_
   rintro _ _ ⟨p2,r1,r2,rfl,t2,rfl⟩
   obtain⟨e1,i1⟩:=r0 (o:=b7 bs p2) i1 (hWc _) h5c.symm
   rw[cK] at e1 i1
   rw[e1]
   have hbo:=fA i1
   simp -implicitDefEqProofs only[aY,aM,cP,aA,seval,pI]
   refine⟨eV hbo,?_⟩
   refine eE aO bF bG rfl rfl (fL (aM _) (cH _)) (d9 _) i1 (by simp only[aF,aT,aX];omega) (by simp only[aF,aT,aX];omega) (fun b' hb'=>?_)
   rw[show ts.map Tm.av++ [t2.av]=(ts++ [t2]).map Tm.av by simp] at hb' ⊢
   obtain⟨g1,g2,g3⟩:=p7 hb'
   simp only[fE,eD] at g1 g3
   simp -implicitDefEqProofs only[aK,fH,mQ,aA,seval,pI]
   refine⟨eV g3,?_⟩
   simp -implicitDefEqProofs only[g3,g1,aK,fH,aA,seval,pI]
   have hbo:=fA g2
   have h4o:=iE g2 (x:=b4) (by rw[hW4];simp) h54.symm
   rw[hW4] at h4o
   simp -implicitDefEqProofs only[h4o,aA,seval]
   obtain⟨g5,g6⟩:=lK (o:=.cells [.int .i64 (k),.int .i64 (n),.str (s),.slice ((ks).map Tm.av),aZ 4 b' ((ts++ [t2]).map Tm.av)]) g2 (show((st.aC b4 (.cells [.int .i64 0,.int .i64 0,.str ⟨#[]⟩,.fslice [],.fslice []])).aC c (b7 bs (p2))) b4≠none by rw[hW4];simp) h54.symm
   refine⟨b',_,_,g5,g6,jJ _,⟨4,d9 _⟩,st.aC c (b7 bs (p2)),hdr _ _ _,p2,by omega,by omega,rfl,(.mk (k) (n) (s) (ks),ts++ [t2]),?_⟩
   simp only[gG,bB,aW,eS,kA,jF,jE,gI]
 simp -implicitDefEqProofs only[aA,seval]
 refine aQ (fun h0=>?_) (fun h0=>?_)
 · simp -implicitDefEqProofs only[aA,seval]
   refine iT (σ:=Nat×List Tm) [1000000,5] [0,4,5,9] (fun x=>(x.2.map Tm.av≠[]→(aB.aC ((st.aC b4 (.cells [.int .i64 0,.int .i64 0,.str ⟨#[]⟩,.fslice [],.fslice []])).aC c (b7 bs (p+1))) b5 (.cells ([.int .i64 k,.int .i64 n,.str s,.slice (ks.map Tm.av)]++ [aZ 4 x.1 (x.2.map Tm.av)]))) x.1=none)) (fun _=>[]) (fun x=>fX ((st.aC b4 (.cells [.int .i64 0,.int .i64 0,.str ⟨#[]⟩,.fslice [],.fslice []])).aC c (b7 bs (p+1))) b5 x.1 [.int .i64 k,.int .i64 n,.str s,.slice (ks.map Tm.av)] (x.2.map Tm.av)) (fun x=>7 - x.2.length) (by decide +kernel) ⟨(b,ts),i1,aP.mk (by simp -implicitDefEqProofs only[aA,seval])⟩ ?_
   rintro⟨b,acc⟩ i1
   simp only at i1
   have hbo:=fA i1
   have haL:=vO (w:=4) (b:=b) (l:=acc.map Tm.av) bZ
   simp -implicitDefEqProofs only[hbo,mP,haL,aF,aA,seval,pI]
   refine aQ (fun h1=>?_) (fun h1=>?_)
   · simp only[bK] at h1
     have c8:(acc.map Tm.av).length≤6:=by rw[aF];omega
     simp -implicitDefEqProofs only[aA,seval]
     refine vF [(0,1),(1,1),(2,0),(3,1),(4,0),(5,1),(6,2)] [0,1,3,5] (dQ.aC b5 (.cells [.int .i64 k,.int .i64 n,.str s,.slice (ks.map Tm.av),aZ 4 b (acc.map Tm.av)])) mixed (by decide +kernel) (by decide +kernel) (by decide +kernel) rfl (eV hbo) ?_
     simp -implicitDefEqProofs only[mP,aA,seval,pI]
     refine(t9 ⟨#[116,114,117,101]⟩ [] (by simp) _).to ?_
     simp -implicitDefEqProofs only[aY,aM,cP,aA,seval,pI]
     refine⟨eV hbo,?_⟩
     refine eE aO bF bG rfl rfl (fL (aM _) (cH _)) (d9 _) i1 (by simp only[aT,aX];omega) (by simp only[aT,aX];omega) (fun b' hb'=>?_)
     rw[show acc.map Tm.av++ [(Tm.mk 3 0 ⟨#[116,114,117,101]⟩ []).av]=(acc++ [Tm.mk 3 0 ⟨#[116,114,117,101]⟩ []]).map Tm.av by simp] at hb' ⊢
     obtain⟨g1,g2,g3⟩:=p7 hb'
     simp only[fE,eD] at g1 g3
     simp -implicitDefEqProofs only[aK,fH,mQ,aA,seval,pI]
     refine⟨eV g3,?_⟩
     simp -implicitDefEqProofs only[g3,g1,aA,seval]
     refine⟨(b',acc++ [Tm.mk 3 0 ⟨#[116,114,117,101]⟩ []]),by simp only[dW,aT,aX];omega,g2,aP.mk (by simp -implicitDefEqProofs only[aA,seval])⟩
   · simp -implicitDefEqProofs only[aK,hbo,fH,aA,seval,pI]
     have hbo:=fA i1
     have h4o:=iE i1 (x:=b4) (by rw[hW4];simp) h54.symm
     rw[hW4] at h4o
     simp -implicitDefEqProofs only[h4o,aA,seval]
     obtain⟨g5,g6⟩:=lK (o:=.cells [.int .i64 (k),.int .i64 (n),.str (s),.slice ((ks).map Tm.av),aZ 4 b ((acc).map Tm.av)]) i1 (show((st.aC b4 (.cells [.int .i64 0,.int .i64 0,.str ⟨#[]⟩,.fslice [],.fslice []])).aC c (b7 bs (p+1))) b4≠none by rw[hW4];simp) h54.symm
     refine⟨b,_,_,g5,g6,jJ _,⟨4,d9 _⟩,st.aC c (b7 bs (p+1)),hdr _ _ _,p+1,by omega,by omega,rfl,(.mk (k) (n) (s) (ks),acc),?_⟩
     simp only[gG,bB,aW,eS,kA,jF,jE,gI]
 simp -implicitDefEqProofs only[aA,seval]
 refine aQ (fun h0=>?_) (fun h0=>?_)
 · simp -implicitDefEqProofs only[aA,seval,pI]
   refine(H8 [⟨#[116,114,117,101]⟩,⟨#[105,115]⟩,⟨#[61]⟩,⟨#[109,111,100]⟩,⟨#[113]⟩] (by simp) (by simp) bs c (p+1) (by omega) _ (hRq _ _ _ i1)).mono ?_
   rintro _ _ ⟨y,_,rfl,rfl⟩
   obtain⟨e1,i1⟩:=r0 (o:=b7 bs (p+1+1)) i1 (hWc _) h5c.symm
   rw[cK] at e1 i1
   rw[e1]
   have hbo:=fA i1
   obtain⟨e2,i1⟩:=JU (hd':=[.int .i64 k,.int .i64 n,.str y,.slice (ks.map Tm.av)]) i1
   simp only[fE,eD] at e2
   simp -implicitDefEqProofs only[aK,hbo,aA,seval,pI]
   rw[e2]
   have hbo:=fA i1
   have h4o:=iE i1 (x:=b4) (by rw[hW4];simp) h54.symm
   rw[hW4] at h4o
   simp -implicitDefEqProofs only[h4o,fH,aA,seval]
   obtain⟨g5,g6⟩:=lK (o:=.cells [.int .i64 (k),.int .i64 (n),.str (y),.slice ((ks).map Tm.av),aZ 4 b ((ts).map Tm.av)]) i1 (show((st.aC b4 (.cells [.int .i64 0,.int .i64 0,.str ⟨#[]⟩,.fslice [],.fslice []])).aC c (b7 bs (p+1+1))) b4≠none by rw[hW4];simp) h54.symm
   refine⟨b,_,_,g5,g6,jJ _,⟨4,d9 _⟩,st.aC c (b7 bs (p+1+1)),hdr _ _ _,p+1+1,by omega,by omega,rfl,(.mk (k) (n) (y) (ks),ts),?_⟩
   simp only[gG,bB,aW,eS,kA,jF,jE,gI]
 · simp -implicitDefEqProofs only[aA,seval,pI]
   have hbo:=fA i1
   have h4o:=iE i1 (x:=b4) (by rw[hW4];simp) h54.symm
   rw[hW4] at h4o
   simp -implicitDefEqProofs only[aK,hbo,h4o,fH,aA,seval,pI]
   obtain⟨g5,g6⟩:=lK (o:=.cells [.int .i64 (k),.int .i64 (n),.str (s),.slice ((ks).map Tm.av),aZ 4 b ((ts).map Tm.av)]) i1 (show((st.aC b4 (.cells [.int .i64 0,.int .i64 0,.str ⟨#[]⟩,.fslice [],.fslice []])).aC c (b7 bs (p+1))) b4≠none by rw[hW4];simp) h54.symm
   refine⟨b,_,_,g5,g6,jJ _,⟨4,d9 _⟩,st.aC c (b7 bs (p+1)),hdr _ _ _,p+1,by omega,by omega,rfl,(.mk (k) (n) (s) (ks),ts),?_⟩
   simp only[gG,bB,aW,eS,kA,jF,jE,gI]
end Go.AW
namespace Go.AW
def P1:List ByteArray:=[⟨#[97,112,112,40,91,93,44,65,44,65,41,46,10,97,112,112,40,91,65,124,66,93,44,67,44,91,65,124,68,93,41,58,45,97,112,112,40,66,44,67,44,68,41,46,10]⟩,
 ⟨#[109,101,109,40,65,44,91,65,124,66,93,41,46,10,109,101,109,40,65,44,91,66,124,67,93,41,58,45,109,101,109,40,65,44,67,41,46,10]⟩,
 ⟨#[112,40,49,41,46,10,112,40,50,41,46,10,112,40,51,41,46,10,113,40,65,41,58,45,112,40,65,41,44,65,62,49,44,33,46,10,114,40,65,44,66,41,58,45,112,40,65,41,44,112,40,66,41,46,10]⟩,
 ⟨#[108,101,110,40,91,93,44,48,41,46,10,108,101,110,40,91,65,124,66,93,44,67,41,58,45,108,101,110,40,66,44,68,41,44,67,32,105,115,32,68,43,49,46,10]⟩,
 ⟨#[109,97,120,40,65,44,66,44,65,41,58,45,65,62,61,66,44,33,46,10,109,97,120,40,65,44,66,44,66,41,46,10]⟩,
 ⟨#[101,40,97,44,98,41,46,10,101,40,98,44,99,41,46,10,101,40,99,44,100,41,46,10,116,40,65,44,66,41,58,45,101,40,65,44,66,41,46,10,116,40,65,44,66,41,58,45,101,40,65,44,67,41,44,116,40,67,44,66,41,46,10]⟩,
 ⟨#[108,111,111,112,58,45,108,111,111,112,46,10,111,107,46,10]⟩,
 ⟨#[102,97,99,40,48,44,49,41,58,45,33,46,10,102,97,99,40,65,44,66,41,58,45,65,62,48,44,67,32,105,115,32,65,45,49,44,102,97,99,40,67,44,68,41,44,66,32,105,115,32,65,42,68,46,10]⟩,
 ⟨#[115,40,65,41,58,45,65,61,102,40,66,41,44,97,114,103,40,49,44,65,44,66,41,44,66,61,49,46,10,115,40,65,41,58,45,118,97,114,40,65,41,44,65,61,110,111,110,101,46,10]⟩,
 ⟨#[114,101,118,40,91,93,44,65,44,65,41,46,10,114,101,118,40,91,65,124,66,93,44,67,44,68,41,58,45,114,101,118,40,66,44,91,65,124,67,93,44,68,41,46,10]⟩,
 ⟨#[98,97,100,40,65,41,58,45,66,32,105,115,32,65,43,102,111,111,44,67,61,66,46,10,98,105,103,40,65,41,58,45,65,32,105,115,32,57,57,57,43,49,46,10,117,110,40,65,41,58,45,110,111,115,117,99,104,40,65,41,46,10]⟩]
def XS:List ByteArray:=[⟨#[97,112,112,40,65,44,66,44,91,49,44,50,93,41]⟩,
 ⟨#[97,112,112,40,91,49,93,44,91,50,93,44,65,41]⟩,
 ⟨#[109,101,109,40,65,44,91,97,44,98,44,99,93,41]⟩,
 ⟨#[113,40,65,41]⟩,
 ⟨#[114,40,65,44,66,41,44,65,62,66]⟩,
 ⟨#[108,101,110,40,91,97,44,98,44,99,93,44,65,41]⟩,
 ⟨#[109,97,120,40,51,44,50,44,65,41]⟩,
 ⟨#[109,97,120,40,65,44,50,44,51,41]⟩,
 ⟨#[116,40,97,44,65,41]⟩,
 ⟨#[108,111,111,112]⟩,
 ⟨#[111,107,44,33]⟩,
 ⟨#[102,97,99,40,52,44,65,41]⟩,
 ⟨#[115,40,65,41]⟩,
 ⟨#[114,101,118,40,91,49,44,50,44,51,93,44,91,93,44,65,41]⟩,
 ⟨#[98,97,100,40,65,41]⟩,
 ⟨#[98,105,103,40,65,41]⟩,
 ⟨#[117,110,40,65,41]⟩,
 ⟨#[112,40,65,41,44,33,44,112,40,66,41]⟩,
 ⟨#[65,61,102,40,66,44,67,41,44,97,114,103,40,49,44,65,44,68,41]⟩,
 ⟨#[109,101,109,40,65,44,91,49,44,50,93,41,44,109,101,109,40,66,44,91,65,44,51,93,41]⟩,
 ⟨#[65,32,105,115,32,51,47,47,48]⟩,
 ⟨#[116,114,117,101]⟩,
 ⟨#[109,101,109,40,65,44,66,41]⟩,
 ⟨#[112,40,65,41,44,65,92,61,50]⟩]
def G2:List (List ByteArray):=[[⟨#[97,112,112,40,65,44,66,44,91,49,44,50,93,41]⟩,⟨#[97,112,112,40,91,49,93,44,91,50,124,65,93,44,66,41]⟩,⟨#[97,112,112,40,65,44,91,49,93,44,65,41]⟩],
 [⟨#[109,101,109,40,65,44,91,97,44,98,44,99,93,41]⟩,⟨#[109,101,109,40,65,44,91,49,44,50,93,41,44,109,101,109,40,66,44,91,65,44,51,93,41]⟩,⟨#[109,101,109,40,65,44,66,41]⟩],
 [⟨#[113,40,65,41]⟩,⟨#[114,40,65,44,66,41,44,65,62,66]⟩,⟨#[112,40,65,41,44,33,44,112,40,66,41]⟩,⟨#[114,40,65,44,65,41]⟩],
 [⟨#[108,101,110,40,91,97,44,98,44,99,93,44,65,41]⟩,⟨#[108,101,110,40,65,44,50,41]⟩],
 [⟨#[109,97,120,40,51,44,50,44,65,41]⟩,⟨#[109,97,120,40,65,44,50,44,51,41]⟩,⟨#[109,97,120,40,49,44,50,44,65,41]⟩],
 [⟨#[116,40,97,44,65,41]⟩,⟨#[116,40,65,44,100,41]⟩,⟨#[101,40,65,44,66,41]⟩],
 [⟨#[108,111,111,112]⟩,⟨#[111,107,44,33]⟩,⟨#[111,107,44,108,111,111,112]⟩],
 [⟨#[102,97,99,40,52,44,65,41]⟩,⟨#[102,97,99,40,48,44,65,41]⟩,⟨#[102,97,99,40,55,44,65,41]⟩],
 [⟨#[115,40,65,41]⟩,⟨#[115,40,66,41,44,66,61,102,40,49,41]⟩],
 [⟨#[114,101,118,40,91,49,44,50,44,51,93,44,91,93,44,65,41]⟩,⟨#[114,101,118,40,65,44,91,93,44,91,49,93,41]⟩],
 [⟨#[98,97,100,40,65,41]⟩,⟨#[98,105,103,40,65,41]⟩,⟨#[117,110,40,65,41]⟩]]
def VX(s:ByteArray):Bool:=decide (s.size≤200)&&match DH (sb s) with | some l=>decide (2≤l.length)&&decide (l.length≤20) | none=>false
theorem a8A:P1.all VX=true:=by decide +kernel
theorem a78:G2.all (fun l=>decide (1≤l.length)&&l.all (fun s=>decide (s.size≤1000)))=true:=by decide +kernel
theorem a79(y:List ByteArray)(h:y∈G2):y.length≤4:=by
 have h2:(G2.all fun l=>decide (l.length≤4))=true:=by decide +kernel
 simpa using eM.1 h2 y h
end Go.AW
namespace Go.AW
open Go.Proofs.Tryz
def m9(p:List UInt8):AV:=.str (ba p)
theorem aP5(l:List (List UInt8)):∀e∈l.map m9,e.width=1:=by intro e h;simp only[cY] at h;obtain⟨t,_,rfl⟩:=h;rfl
theorem a44(l:List (List UInt8)):∀e∈l.map m9,e.cJ=false:=by intro e h;simp only[cY] at h;obtain⟨t,_,rfl⟩:=h;rfl
abbrev KX:=zi tI_3 (zi zI_3 (zi aU (zi tI_5 (zi zI_5 (zi mH (zi tI_9 (zi zI_9 (zi cT (zi tI_138 (zi zI_138 (zi j9 (zi nQ (zi nR oR)))))))))))))
set_option maxHeartbeats 1000000 in
theorem aWR(s:ByteArray)(c:Nat)(hs:s.size≤1048576)(st:aB):aD prog 141 [.str s,.int .u8 (c:Int)] st (fun r st'=>r=.slice ((o9 c (sb s) []).map m9)∧st'=st):=by
 generalize hT:o9 c (sb s) []=T
 refine aD.qM (aD.fin ?_)
 refine wF [1000000] 2 func141 ntmps141 rfl rfl ?_
 intro _
 simp -implicitDefEqProofs only[aA,seval,KX]
 refine iT (σ:=List (List UInt8)×Nat×Nat×Nat) [1000000] [0,1,4] (fun x=>((x.2.2.1≤s.size∧x.2.1≤x.2.2.1∧x.1++o9 c ((sb s).drop x.2.2.1) (((sb s).drop x.2.1).take (x.2.2.1 - x.2.1))=T)∨(x.2.2.1=s.size+1∧x.2.1≤s.size+1∧x.1=T))∧x.1.length≤x.2.2.1∧(x.1.map m9≠[]→st x.2.2.2=none)) (fun x=>[(5,aZ 1 x.2.2.2 (x.1.map m9)),(6,.int .i64 (x.2.1:Int)),(7,.int .i64 (x.2.2.1:Int))]) (fun x=>aV st x.2.2.2 (x.1.map m9)) (fun x=>s.size+1 - x.2.2.1) (by decide +kernel) ⟨([],0,0,0),⟨Or.inl ⟨jU _,dC _,hT⟩,jU _,by simp⟩,aP.mk (by simp -implicitDefEqProofs only[aW,jV,aA,↓aS,seval])⟩ ?_
 rintro⟨out,f,i,b⟩ ⟨ht,hlen,hb⟩
 simp only at ht hlen hb ⊢
 by_cases hi:i≤s.size
 case neg=>
  obtain⟨h1,h2,rfl⟩:i=s.size+1∧f≤s.size+1∧out=T:=by
   rcases ht with h | h
   · exact absurd h.1 hi
   · exact h
  have hi':((i:Int)≤(s.size:Int))=False:=cB (by omega)
  simp -implicitDefEqProofs only[hi',bM,aA,seval,KX]
  exact⟨b,_,st,rfl,hb,a44 _,⟨1,aP5 _⟩,by rw[jE],aL.refl _⟩
 obtain⟨-,hfi,ht⟩:i≤s.size∧f≤i∧out++o9 c ((sb s).drop i) (((sb s).drop f).take (i - f))=T:=by
  rcases ht with h | h
  · exact h
  · omega
 have hi':((i:Int)≤(s.size:Int))=True:=cM (by omega)
 have hw:=bO (n:=(i:Int)+1)
 have hsl:=fun(φ:AF) (y z:Operand) (h:φ.eval y=.int .i64 (f:Int)) (h':φ.eval z=.int .i64 (i:Int))=>KH (s:=s) h h' hfi hi
 rw[H1] at hsl
 generalize hp:((sb s).drop f).take (i - f)=p at *
 have NL:∀(K:AV→aB→Prop),(∀b',((out++ [p]).map m9≠[]→st b'=none)→K (aZ 1 b' ((out++ [p]).map m9)) (aV st b' ((out++ [p]).map m9)))→kP prog 138 (aV st b (out.map m9)) (aZ 1 b (out.map m9)) (.fslice [.str (ba p)]) K:=by
  intro K hK
  refine eE j9 nQ nR rfl rfl (fL rfl rfl) (aP5 _) hb (by simp only[aF,aT,aX];omega) (by simp only[aF,aT,aX];omega) (fun b' hb'=>?_)
  rw[show out.map m9++ [AV.str (ba p)]=(out++ [p]).map m9 by simp [m9]] at hb' ⊢
  exact hK b' hb'
 by_cases hie:i=s.size
 case pos=>
  have NW:((i:Int)=(s.size:Int))=True:=cM (by omega)
  rw[EC (by rw[cV];omega)] at ht
  simp only[o9] at ht
  simp -implicitDefEqProofs only[hi',NW,hsl,bE,aA,seval,KX]
  refine NL _ fun b' hb'=>?_
  simp -implicitDefEqProofs only[hw,aA,seval]
  refine⟨(out++ [p],i+1,i+1,b'),by simp only;omega,⟨Or.inr ⟨by simp only;omega,by simp only;omega,ht⟩,by simp only[dW,aT,aX];omega,hb'⟩,aP.mk (by simp -implicitDefEqProofs only[aA,seval]<;>exact⟨rfl,rfl⟩)⟩
 have NW:((i:Int)=(s.size:Int))=False:=cB (by omega)
 obtain⟨x,hx⟩:=w6 (s:=s) (n:=i) (by omega)
 have hix:=uP (P:=prog) (t:=9) cT hx
 obtain⟨hx1,hx2⟩:=gW.1 hx
 rw[rH hx1,hx2] at ht
 unfold o9 at ht
 by_cases hxc:x.toNat=c
 · rw[aH hxc] at ht
   have U8:((x.toNat:Int)=(c:Int))=True:=cM (by omega)
   simp -implicitDefEqProofs only[hi',NW,hsl,hix,U8,bE,bM,aA,seval,KX]
   refine NL _ fun b' hb'=>?_
   simp -implicitDefEqProofs only[hw,aA,seval]
   refine⟨(out++ [p],i+1,i+1,b'),by simp only;omega,⟨Or.inl ⟨by simp only;omega,dC _,by rw[←ht];simp⟩,by simp only[dW,aT,aX];omega,hb'⟩,aP.mk (by simp -implicitDefEqProofs only[aA,seval]<;>exact⟨rfl,rfl⟩)⟩
 · rw[aE hxc] at ht
   have U8:((x.toNat:Int)=(c:Int))=False:=cB (by omega)
   have hp':((sb s).drop f).take (i+1 - f)=p++ [x]:=by
    rw[show i+1 - f=(i - f)+1 by omega,gC,hp,QO,show f+(i - f)=i by omega,hx];try rfl
   simp -implicitDefEqProofs only[hi',NW,hw,hix,U8,bE,bM,aA,seval,KX]
   refine⟨(out,f,i+1,b),by simp only;omega,⟨Or.inl ⟨by simp only;omega,by simp only;omega,by simp only;rw[hp'];exact ht⟩,by simp only;omega,hb⟩,aP.mk (by simp -implicitDefEqProofs only[aA,seval]<;>rfl)⟩
def HG(o:Option (List Cl))(r:AV):Prop:=match o with | some l=>r=.tup [.slice (l.map a9),.bool true] | none=>r=.tup [.slice [],.bool false]
theorem aBR:∀(ls:List (List UInt8)) (acc r:List Cl),(∀c∈acc,uC c∧mC c=true)→C9 ls acc=some r→(∀c∈r,uC c∧mC c=true)∧r.length=acc.length+ls.length
 | [],acc,r,h,h1=>by cases h1;exact⟨h,rfl⟩
 | l::ls,acc,r,h,h1=>by
  unfold C9 at h1
  split at h1
  · cases h1
  rename_i c h2
  have:=aBR ls (acc++ [c]) r (by intro x hx;rw[eK,ED] at hx;rcases hx with hx | rfl;exact h x hx;exact aP4 h2) h1
  refine⟨this.1,?_⟩
  rw[this.2]
  simp only[dW,aT,aX]
  omega
abbrev A1:=zi tI_3 (zi zI_3 (zi aU (zi tI_4 (zi zI_4 (zi cI (zi tI_5 (zi zI_5 (zi mH (zi tI_8 (zi zI_8 (zi zZ (zi z5 (zi z6 (zi z7 (zi zL (zi tI_9 (zi zI_9 (zi cT (zi tI_10 (zi zI_10 (zi a8C (zi tI_27 (zi zI_27 (zi eH (zi gK (zi gN (zi iJ (zi tI_111 (zi zI_111 (zi kT (zi kU (zi kQ (zi tI_138 (zi zI_138 (zi j9 (zi nQ (zi nR oR)))))))))))))))))))))))))))))))))))))
set_option maxHeartbeats 1000000 in
theorem aV2(s:ByteArray)(hs:s.size≤100000)(st:aB):aD prog 115 [.str s] st (fun r st'=>HG (DH (sb s)) r∧st'=st):=by
 generalize hP:DH (sb s)=T
 unfold DH at hP
 simp only at hP
 have v4:=fun st=>aWR s 10 (by omega) st
 rw[show((10:Nat):Int)=10 from rfl] at v4
 have hne:=aBW 10 (sb s) []
 have hcl:=ST 10 (sb s) []
 rw[cV] at hcl
 generalize o9 10 (sb s) []=L at *
 obtain⟨m,hm⟩:∃m,L.length=m+1:=⟨L.length - 1,by have:=QP.2 hne;omega⟩
 obtain⟨y,hy⟩:∃y,L[m]?=some y:=⟨_,fF (by omega)⟩
 have hgl:L.getLast?=some y:=by rw[YA,hm];exact hy
 rw[hgl] at hP
 refine aD.drop (Q:=HG T) (aD.fin ?_)
 have v9:T=none→∀(b:Nat) (l:List Cl) (s0:aB),(l.map a9≠[]→s0 b=none)→aL s0 st→∃b2 l2 s1,aV s0 b (l.map a9)=aV s1 b2 l2∧(l2≠[]→s1 b2=none)∧(∀e∈l2,e.cJ=false)∧iU l2∧aL s1 st∧HG T ((AV.tup [.fslice [],.bool false]).fin b2 l2):=by
  rintro rfl b l s0 hb hD
  exact⟨b,_,s0,rfl,hb,IK _,⟨5,xB _⟩,hD,by simp only[HG,kK,rP,qO,bB,aW]⟩
 refine wF [1000000] 1 func115 ntmps115 rfl rfl ?_
 intro _
 simp -implicitDefEqProofs only[aA,seval,A1]
 refine(v4 _).to ?_
 have hat:=bQ (av:=m9) j9 hy rfl
 have hw0:=pK (x:=(L.length:Int) - 1) (m:=m) (by omega) (by omega)
 by_cases h21:21<L.length
 case pos=>
  rw[aH (Or.inl h21)] at hP
  have NH:((21:Int)<(L.length:Int))=True:=cM (by omega)
  simp -implicitDefEqProofs only[aF,NH,bE,aA,seval,A1]
  exact v9 hP.symm 0 [] st (by simp) (aL.refl _)
 have NH:((21:Int)<(L.length:Int))=False:=cB (by omega)
 by_cases hye:y= []
 case neg=>
  rw[aH (Or.inr (by simpa using hye))] at hP
  have U9:(ba y=⟨#[]⟩)=False:=cB fun h=>hye (by have:=oC sb h;exact this)
  simp -implicitDefEqProofs only[aF,NH,hw0,hat,m9,U9,bM,aA,seval,A1]
  exact v9 hP.symm 0 [] st (by simp) (aL.refl _)
 rw[aE (by rintro(h | h);exact h21 h;exact h (by rw[hye]))] at hP
 have U9:(ba y=⟨#[]⟩)=True:=cM (by rw[hye])
 simp -implicitDefEqProofs only[aF,NH,hw0,hat,m9,U9,bE,bM,aA,seval,A1]
 refine iT (σ:=Nat×List Cl×Nat) [1000000] [5] (fun x=>x.1≤m∧C9 (L.dropLast.drop x.1) x.2.1=T∧x.2.1.length=x.1∧(∀c∈x.2.1,uC c)∧(x.2.1.map a9≠[]→st x.2.2=none)) (fun x=>[(2,.fslice []),(3,.bool false),(4,aZ 5 x.2.2 (x.2.1.map a9)),(6,.int .i64 (x.1:Int))]) (fun x=>aV st x.2.2 (x.2.1.map a9)) (fun x=>m - x.1) (by decide +kernel) ⟨(0,[],0),⟨jU _,hP,rfl,by simp,by simp⟩,aP.mk (by simp -implicitDefEqProofs only[aW,jV,aA,↓aS,seval])⟩ ?_
 rintro⟨i,acc,b⟩ ⟨hi,ht,hlen,hdn,hb⟩
 simp only at hi ht hlen hdn hb ⊢
 have hdl:L.dropLast.length=m:=by rw[List.length_dropLast,hm];try rfl
 have hw1:=bO (n:=(i:Int)+1)
 by_cases him:i<m
 case neg=>
  have UP:((i:Int)+1<(L.length:Int))=False:=cB (by omega)
  rw[EC (by omega)] at ht
  simp only[C9] at ht
  simp -implicitDefEqProofs only[aF,UP,hw1,nM,oU,tM,bM,aA,seval,A1]
  exact⟨b,_,st,rfl,hb,IK _,⟨5,xB _⟩,aL.refl _,by rw[←ht];simp only[HG,kK,rP,mV,bB,aW]⟩
 have UP:((i:Int)+1<(L.length:Int))=True:=cM (by omega)
 obtain⟨z,hz⟩:∃z,L[i]?=some z:=⟨_,fF (by omega)⟩
 have hz2:L.dropLast[i]?=some z:=by rw[List.getElem?_dropLast,aH (by omega)];exact hz
 obtain⟨hz3,hz4⟩:=gW.1 hz2
 rw[rH hz3,hz4] at ht
 unfold C9 at ht
 have a08:=bQ (av:=m9) j9 hz rfl
 have hpc:=aV1 (ba z)
 rw[show sb (ba z)=z from rfl] at hpc
 simp -implicitDefEqProofs only[aF,UP,hw1,a08,m9,bE,aA,seval,A1]
 refine(hpc _).to ?_
 cases hc:p9 z with
 | none=>
  rw[hc] at ht
  simp -implicitDefEqProofs only[BC,gI,aA,↓aS,seval,A1]
  exact v9 ht.symm b acc st hb (aL.refl _)
 | some c=>
  rw[hc] at ht
  simp only at ht
  have hcd:=(aP4 hc).1
  have hca:=qL c
  have hcw:=jN c
  have hcj:=E4 c
  have hcs:=E5 c
  have hcc:=IJ c
  simp -implicitDefEqProofs only[BC,hca,hcw,hcj,hcs,aA,↓aS,seval,A1]
  refine eE eH gK gN rfl rfl (fL hcw hcs) (xB _) hb (by simp only[aF,aT,aX];omega) (by simp only[aF,aT,aX];omega) (fun b' hb'=>?_)
  rw[show acc.map a9++ [a9 c]=(acc++ [c]).map a9 by simp] at hb' ⊢
  simp -implicitDefEqProofs only[hw1,aA,seval]
  refine⟨(i+1,acc++ [c],b'),by simp only;omega,⟨by simp only;omega,ht,by simp only[dW,aT,aX];omega,?_,hb'⟩,aP.mk (by simp -implicitDefEqProofs only[aA,seval]<;>rfl)⟩
  intro x hx
  rw[eK,ED] at hx
  rcases hx with hx | rfl
  · exact hdn x hx
  · exact hcd
def HH(o:Option (List Tm)):AV:=match o with | some l=>.tup [.slice (l.map Tm.av),.bool true] | none=>.tup [.slice [],.bool false]
theorem a42{l:List UInt8}{q:List Tm}(h:oH l=some q):kY q=true∧∀t∈q,Dn t:=by
 unfold oH at h
 split at h
 · cases h
 rename_i g e h1
 split at h
 · rename_i h2
   cases h
   exact⟨h2.2.2,(NE h2.1 7 0 [] _ _ (jU _) (by simp) h1).2.2.1⟩
 · cases h
abbrev wL:=zi tI_3 (zi zI_3 (zi aU (zi tI_4 (zi zI_4 (zi cI (zi tI_9 (zi zI_9 (zi cT (zi tI_28 (zi zI_28 (zi aO (zi bF (zi bG (zi bZ (zi tI_52 (zi zI_52 (zi bU (zi bV (zi bX (zi bY bT))))))))))))))))))))
set_option maxHeartbeats 1000000 in
theorem Z9(s:ByteArray)(st:aB):aD prog 117 [.str s] st (fun r st'=>r=HH (oH (sb s))∧st'=st):=by
 refine aD.qM (aD.fin ?_)
 have v9:oH (sb s)=none→∃b l s0,st=aV s0 b l∧(l≠[]→s0 b=none)∧(∀e∈l,e.cJ=false)∧iU l∧(AV.tup [.fslice [],.bool false]).fin b l=HH (oH (sb s))∧aL s0 st:=fun h=>by
  rw[h]
  exact⟨0,[],st,rfl,by simp,by simp,⟨4,by simp⟩,by simp only[HH,kK,rP,qO,bB,aW],aL.refl _⟩
 refine wF [1000000] 1 func117 ntmps117 rfl rfl ?_
 intro _
 by_cases hs:s.size≤1000
 case neg=>
  have hs':((1000:Int)<(s.size:Int))=True:=cM (by omega)
  have hP:oH (sb s)=none:=by
   unfold oH
   split
   · rfl
   · rw[aE fun h=>hs (by rw[←cV];exact h.1)]
  simp -implicitDefEqProofs only[hs',bE,aA,seval,wL]
  exact v9 hP
 have hs':((1000:Int)<(s.size:Int))=False:=cB (by omega)
 have h0:=fun st=>aA0 hs 0 (jU _) st
 rw[show((0:Nat):Int)=0 from rfl] at h0
 simp -implicitDefEqProofs only[hs',bM,aA,seval,wL]
 refine(h0 _).mono ?_
 rintro r st ⟨hr,rfl⟩
 cases hG:uG (sb s) 7 0 [] with
 | none=>
  have hP:oH (sb s)=none:=by unfold oH;rw[hG]
  rw[hG] at hr
  simp only[tS] at hr
  subst hr
  have he:((-1:Int)=(s.size:Int))=False:=cB (by omega)
  simp -implicitDefEqProofs only[he,bM,aA,seval,wL]
  exact v9 hP
 | some p=>
  obtain⟨g,e⟩:=p
  rw[hG] at hr
  simp only[tS] at hr
  subst hr
  have hg:=NE (by rw[cV];exact hs) 7 0 [] _ _ (jU _) (by simp) hG
  rw[cV] at hg
  simp -implicitDefEqProofs only[aA,seval,wL]
  by_cases he:e=s.size
  case neg=>
   have hP:oH (sb s)=none:=by
    unfold oH
    rw[hG]
    simp only
    rw[aE fun h=>he (by rw[←cV];exact h.2.1)]
   have he':((e:Int)=(s.size:Int))=False:=cB (by omega)
   simp -implicitDefEqProofs only[he',bM,aA,seval,wL]
   exact v9 hP
  have he':((e:Int)=(s.size:Int))=True:=cM (by omega)
  simp -implicitDefEqProofs only[he',bE,aA,seval]
  refine(MM g _).to ?_
  cases hq:kY g with
  | false=>
   have hP:oH (sb s)=none:=by
    unfold oH
    rw[hG]
    simp only
    rw[aE fun h=>by rw[hq] at h;exact absurd h.2.2 (by decide)]
   simp -implicitDefEqProofs only[aA,seval,wL]
   exact v9 hP
  | true=>
   have hP:oH (sb s)=some g:=by
    unfold oH
    rw[hG]
    simp only
    rw[aH ⟨by rw[cV];exact hs,by rw[cV];exact he,hq⟩]
   have hg6:g.length≤6:=by
    simp only[kY,cE,bK] at hq
    exact hq.1
   simp -implicitDefEqProofs only[aA,seval,wL]
   refine eL (σ:=Nat) [1000000] [2,3,4] g (fun i b=>((g.take i).map Tm.av≠[]→st b=none)) (fun i b=>[(6,aZ 4 b ((g.take i).map Tm.av)),(7,.int .i64 i)]) (fun i b=>aV st b ((g.take i).map Tm.av)) (by decide +kernel) ⟨0,fun h=>absurd rfl h,aP.mk (by simp -implicitDefEqProofs only[jV,aA,↓aS,seval])⟩ (fun i x b hx hlt bR hdr hinv=>?_) (fun b hge hinv=>?_)
   case refine_1=>
    have hw:=bO (n:=(i:Int)+1)
    have c8:((g.take i).map Tm.av).length=i:=by simp only[aF,eC];omega
    have htk:(g.take i).map Tm.av++ [x.av]=(g.take (i+1)).map Tm.av:=by rw[gC,hx];simp
    have hat:=bQ (av:=Tm.av) aO hx (aM x)
    simp -implicitDefEqProofs only[bR,aF,hat,aY,aM,aA,seval,wL]
    refine(zO x _ (hg.2.2.1 x (dA hx)).2).to ?_
    simp -implicitDefEqProofs only[aY,aM,cP,aA,seval,wL]
    refine eE aO bF bG rfl rfl (fL (aM _) (cH _)) (d9 _) hinv (by simp only[c8,aT,aX];omega) (by simp only[c8,aT,aX];omega) (fun b' hb'=>?_)
    rw[htk] at hb' ⊢
    simp -implicitDefEqProofs only[hw,aA,seval]
    exact⟨b',hb',aP.mk (by simp -implicitDefEqProofs only[aA,seval])⟩
   rw[fG] at hinv ⊢
   simp -implicitDefEqProofs only[aF,hge,nM,oU,tM,aA,seval,wL]
   rw[hP]
   exact⟨b,_,st,rfl,hinv,jJ _,⟨4,d9 _⟩,by simp only[HH,kK,rP,mV,bB,aW],aL.refl _⟩
end Go.AW
namespace Go.AW
def HI(n k:Nat)(q o:AV):Prop:=(k≤n∧∃b w,q=.mslice b 0 n w∧o=.mslice b (k*w) (n - k) w)∨(k=n∧o=.fslice [])
theorem bL.a8T{h:bS}{st s0:aB}(S:dD h st)(D:aL st s0){es:List AV}{q o:AV}{bs:List Nat}{k:Nat}(x:bL st (.slice es) q bs)(hb:∀b∈bs,s0 b=none)(hT:HI es.length k q o){cs:List Value}(y:VC h st o cs):VC h s0 (.slice (es.drop k)) cs:=by
 rcases hT with ⟨hk,b,w,rfl,rfl⟩ | ⟨rfl,rfl⟩
 · simp only[bL] at x
   rcases x with ⟨_,hq,_⟩ | ⟨b',bs',os,w',e1,rfl,e2,x,e3⟩
   · cases hq
   · cases e1
     simp only[VC] at y
     obtain⟨cap,e,l1,l2,_⟩:=y
     obtain⟨hlt,c,t,q1,q2,vs,q3,q4⟩:=S b _ e2
     have hsh:=bA.OV (h:=h) (s0:=s0) x
     have hE:=bA.XZ S D b es os bs' 0 x (fun q hq=>hb q (by simp [hq])) (HK (fun q hq=>hsh q hq) q3 q4)
     have hE2:=dF.drop k e3 hE
     rw[iA] at hE2
     unfold VC
     exact .inr ⟨b,k*w,cap,by rw[lO];exact e,by rw[lO];exact l1,l2,hb b (by simp),hlt,⟨w,fun e he=>e3 e (LO he)⟩,hE2⟩
 · rw[lH]
   unfold VC at y ⊢
   rcases y with y | ⟨b,off,e,_⟩
   · exact .inl y
   · exact .inl ⟨⟨_,e⟩,rfl⟩
def mN(st s0:aB)(os us:List AV):Prop:=∀h vs,dD h st→cZ h st os vs→cZ h s0 us vs
theorem mN.nil{st s0:aB}:mN st s0 [] []:=fun _ _ _ y=>y
theorem mN.cons{st s0:aB}{o a:AV}{os us:List AV}(x:∀h v,dD h st→aR h st o v→aR h s0 a v)(h:mN st s0 os us):mN st s0 (o::os) (a::us):=fun hp vs S y=>by
 simp only[cZ] at y ⊢
 obtain⟨v,r,rfl,y1,y2⟩:=y
 exact⟨v,r,rfl,x hp v S y1,h hp r S y2⟩
theorem O2{n k:Nat}{q o:AV}(h:HI n k q o):o.isAgg=false∧o.cJ=false∧o.width=1∧o.cells= [o]∧o.storable=true:=by
 rcases h with ⟨_,b,w,_,rfl⟩ | ⟨_,rfl⟩<;>exact⟨rfl,rfl,rfl,rfl,rfl⟩
theorem qG.fin{s0:aB}{b:Nat}{l:List AV}{r:AV}(h0:l≠[]→s0 b=none)(h2:∀e∈l,e.cJ=false)(h3:iU l):zB (aV s0 b l) s0∧qG (aV s0 b l) r s0 (r.fin b l):=by
 cases l with
 | nil=>exact⟨(aL.refl _).tO,fun h v S y=>y.soft⟩
 | cons e l=>
  have hb:=h0 (by simp)
  have h1:aV s0 b (e::l) b=some (.cells ((e::l).flatMap AV.cells)):=by simp only[aV,aB.aJ]
  have e1:(aV s0 b (e::l)).erase b=s0:=by simp only[aV];exact aB.xH _ _ _ hb
  refine⟨?_,fun h v S y=>?_⟩
  · have:=(kJ (aV s0 b (e::l)) b).tO
    rwa [e1] at this
  · have:=y.fz S h1 h2 h3
    rw[e1] at this
    exact this.soft
theorem qG.tail{s0:aB}{b k w:Nat}{l:List AV}(hb:s0 b=none)(hk:k<l.length)(h2:∀e∈l,e.cJ=false)(hw:∀e∈l,e.width=w):zB (aV s0 b l) s0∧qG (aV s0 b l) (.mslice b (k*w) (l.length - k) w) s0 (.slice (l.drop k)):=by
 have hl:l≠[]:=by rintro rfl;simp at hk
 have h1:aV s0 b l b=some (.cells (l.flatMap AV.cells)):=by rw[jD hl,aB.aJ]
 have e1:(aV s0 b l).erase b=s0:=by rw[jD hl];exact aB.xH _ _ _ hb
 refine⟨?_,fun h v S y=>?_⟩
 · have:=(kJ (aV s0 b l) b).tO
   rwa [e1] at this
 · obtain⟨f1,f2⟩:=frozen S h1 h2
   rw[e1] at f2
   obtain⟨cap,hv,l1,l2,_⟩:=y.DB
   have hE:=dF.drop k hw f2
   rw[iA] at hE
   subst hv
   refine⟨rfl,?_⟩
   unfold VC
   exact .inr ⟨b,k*w,cap,by rw[lO];try rfl,by rw[lO];exact l1,l2,hb,f1,⟨w,fun e he=>hw e (LO he)⟩,hE⟩
theorem aD.aM5{P:Program}{g:FuncId}{args:List AV}{st:aB}{Q:AV→aB→Prop}(x:aD P g args st (fun r st'=>∃r2 s2,(zB st' s2∧qG st' r s2 r2)∧Q r2 s2)):aD P g args st Q:=
 x.nY fun r st' ⟨r2,s2,⟨h1,h2⟩,h3⟩=>⟨r2,s2,h1,h2,h3⟩
end Go.AW
namespace Go.AW
open Go.Proofs.Tryz
theorem a6P{P:Program}{t:TypeId}{ag:Bool}{w b n:Nat}(hI:eI P t=some (ag,w))(h1:1<n)(φ:AF):fY P φ t (.mslice b 0 n w) (some (.const (.int .i64 1))) none none=some (.mslice b (0+1*w) (n - 1) w):=by
 have h2:dJ φ none n n=some n:=rfl
 have h3:dJ φ (some (.const (.int .i64 1))) 0 n=some 1:=by
  show(if((0:Nat):Int)≤1∧(1:Int)≤(n:Int) then some (Int.toNat 1) else none)=some 1
  rw[aH ⟨by omega,by omega⟩]
  try rfl
 unfold fY nK
 rw[aE (by simp [pE])]
 simp only[hI,h2,h3]
 rw[aH trivial,aE (by decide),aH h1]
def zG:Cl:=(.mk 3 0 ⟨#[122]⟩ [],[])
abbrev KY:=zi tI_3 (zi zI_3 (zi aU (zi tI_9 (zi zI_9 (zi cT (zi tI_27 (zi zI_27 (zi eH (zi gK (zi gN (zi iJ (zi tI_28 (zi zI_28 (zi aO (zi bF (zi bG (zi bZ (zi tI_30 (zi zI_30 (zi iL (zi iM (zi iN (zi iO (zi iP (zi iQ (zi iK (zi tI_91 (zi zI_91 (zi tI_111 (zi zI_111 (zi kT (zi kU (zi kQ (zi tI_122 (zi zI_122 (zi aZ4 (zi aZ5 (zi aZ6 aUX))))))))))))))))))))))))))))))))))))))
set_option maxHeartbeats 2000000 in
theorem aXN(bs:List Bt)(c p:Nat)(l:List Cl)(hl:∀x∈l,uC x)(h1:2≤l.length)(h2:l.length≤40)(st:aB)(hp:p+1000000≤1099511627776)(hR:cW st c bs p) :
 aD prog 74 [.ptr c 0,.slice (l.map a9)] st (Dr bs c p 1000000 st (fun r=>∃l':List Cl,r=.slice (l'.map a9))):=by
 refine aD.aM5 ?_
 have UZ:st.aC c (b7 bs p)=st:=XW hR
 have lD:∀(q b:Nat) (acc:List Cl),p≤q→q≤p+1000000→(acc.map a9≠[]→(st.aC c (b7 bs q)) b=none)→∃r2 s2,(zB (aV (st.aC c (b7 bs q)) b (acc.map a9)) s2∧qG (aV (st.aC c (b7 bs q)) b (acc.map a9)) (aZ 5 b (acc.map a9)) s2 r2)∧Dr bs c p 1000000 st (fun r=>∃l':List Cl,r=.slice (l'.map a9)) r2 s2:=fun q b acc g1 g2 hb=>by
  have:=qG.fin (r:=aZ 5 b (acc.map a9)) hb (IK _) ⟨5,xB _⟩
  rw[jE] at this
  exact⟨_,_,this,q,g1,g2,rfl,acc,rfl⟩
 have hRq:∀(q b:Nat) (L:List AV),(L≠[]→(st.aC c (b7 bs q)) b=none)→cW (aV (st.aC c (b7 bs q)) b L) c bs q∧∀o,(aV (st.aC c (b7 bs q)) b L).aC c o=aV (st.aC c o) b L∧(L≠[]→(st.aC c o) b=none):=fun q b L hb=>by
  have hne:L≠[]→c≠b:=fun h e=>by have:=hb h;rw[←e,aB.aJ] at this;cases this
  refine⟨?_,fun o=>⟨?_,fun h=>?_⟩⟩
  · unfold cW
    by_cases h:L= []
    · rw[h,oA,aB.aJ];try rfl
    · rw[nL (hne h),aB.aJ];try rfl
  · rw[lQ hne,cK]
  · have:=hb h
    rw[aB.aG _ _ (dG (hne h))] at this ⊢
    exact this
 refine wF [1000000] 2 func74 ntmps74 rfl rfl ?_
 simp only[eQ,AV.fits,eR,aF]
 intro _
 simp -implicitDefEqProofs only[aA,seval,KY]
 refine eL (σ:=Nat×Nat×List Cl) [1000000] [0,1,4] l (fun i x=>p≤x.1∧x.1≤p+6000*i∧x.2.2.length=i∧(x.2.2.map a9≠[]→(st.aC c (b7 bs x.1)) x.2.1=none)) (fun i x=>[(5,aZ 5 x.2.1 (x.2.2.map a9)),(6,.int .i64 i)]) (fun i x=>aV (st.aC c (b7 bs x.1)) x.2.1 (x.2.2.map a9)) (by decide +kernel) ⟨(p,0,[]),⟨dC _,by simp only;omega,rfl,fun h=>absurd rfl h⟩,by
  simp only[aW,oA,UZ]
  exact aP.mk (by simp -implicitDefEqProofs only[jV,aA,↓aS,seval])⟩ (fun i x s hx hlt bR hdr hinv=>?_) (fun s hge hinv=>?_)
 case refine_1=>
  obtain⟨q,b,acc⟩:=s
  obtain⟨g1,g2,g3,g4⟩:=hinv
  simp only at g1 g2 g3 g4
  have hw:=bO (n:=(i:Int)+1)
  have hat:=bQ (av:=a9) eH hx (jN x)
  have hcw:=jN x
  have hca:=qL x
  obtain⟨k1,k2⟩:=hRq _ _ _ g4
  simp -implicitDefEqProofs only[bR,aF,hat,hcw,hca,aA,seval,KY]
  refine(aXM bs c q x (hl x (dA hx)) _ (by omega) k1).mono ?_
  rintro _ _ ⟨q2,r1,r2,rfl,y,rfl⟩
  obtain⟨k3,k4⟩:=k2 (b7 bs q2)
  rw[k3]
  have hya:=qL y
  have hyw:=jN y
  have hyj:=E4 y
  have hys:=E5 y
  have hyc:=IJ y
  simp -implicitDefEqProofs only[hya,hyw,hyj,aA,seval,KY]
  refine eE eH gK gN rfl rfl (fL hyw hys) (xB _) k4 (by simp only[aF,aT,aX];omega) (by simp only[aF,aT,aX];omega) (fun b' hb'=>?_)
  rw[show acc.map a9++ [a9 y]=(acc++ [y]).map a9 by simp] at hb' ⊢
  simp -implicitDefEqProofs only[hw,aA,seval]
  exact⟨(q2,b',acc++ [y]),⟨by simp only;omega,by simp only;omega,by simp only[dW,aT,aX];omega,hb'⟩,aP.mk (by simp -implicitDefEqProofs only[aA,seval])⟩
 obtain⟨q,b,acc⟩:=s
 obtain⟨g1,g2,g3,g4⟩:=hinv
 simp only at g1 g2 g3 g4
 obtain⟨k1,k2⟩:=hRq _ _ _ g4
 simp -implicitDefEqProofs only[aF,hge,aA,seval,KY]
 refine(mS bs c q (by omega) 30 (by omega) (by omega) _ k1).mono ?_
 rintro _ _ ⟨j,hj,rfl,rfl⟩
 obtain⟨k3,k4⟩:=k2 (b7 bs (q+1))
 rw[k3]
 have U5:prog.underlying 27=some (.slice 111):=by kernel_rfl
 simp -implicitDefEqProofs only[aA,seval]
 refine aQ (fun h0=>?_) (fun h0=>?_)
 · simp -implicitDefEqProofs only[aA,seval]
   refine iT (σ:=Nat×List Cl) [1000000] [4,24] (fun x=>(x.2.map a9≠[]→(st.aC c (b7 bs (q+1))) x.1=none)∧x.2.length≤41) (fun x=>[(5,aZ 5 x.1 (x.2.map a9))]) (fun x=>aV (st.aC c (b7 bs (q+1))) x.1 (x.2.map a9)) (fun x=>41 - x.2.length) (by decide +kernel) ⟨(b,acc),⟨k4,by simp only;omega⟩,aP.mk (by simp -implicitDefEqProofs only[aA,seval])⟩ ?_
   rintro⟨b,acc⟩ ⟨i1,i2⟩
   simp only at i1 i2
   have haL:=vO (w:=5) (b:=b) (l:=acc.map a9) U5
   rw[aF] at haL
   simp -implicitDefEqProofs only[haL,aA,seval]
   refine aQ (fun h1=>?_) (fun h1=>?_)
   case refine_2=>
    simp -implicitDefEqProofs only[aA,seval]
    exact lD _ _ _ (by omega) (by omega) i1
   simp only[bK] at h1
   simp -implicitDefEqProofs only[aA,seval]
   refine(t9 ⟨#[122]⟩ [] (by simp) _).to ?_
   simp -implicitDefEqProofs only[a8,aW,aA,seval,KY]
   refine eE (xs:=[.agg [.int .i64 3,.int .i64 0,.str ⟨#[122]⟩,.slice [],.fslice []]]) eH gK gN rfl rfl (fL rfl rfl) (xB _) i1 (by simp only[aF,aT,aX];omega) (by simp only[aF,aT,aX];omega) (fun b' hb'=>?_)
   have hb2:(acc++ [zG]).map a9≠[]→(st.aC c (b7 bs (q+1))) b'=none:=fun _=>hb' (by simp)
   have gO:aV (st.aC c (b7 bs (q+1))) b' (acc.map a9++ [.agg [.int .i64 3,.int .i64 0,.str ⟨#[122]⟩,.slice [],.fslice []]]) b'=some (.cells (((acc.map a9).flatMap AV.cells++ [.int .i64 3,.int .i64 0,.str ⟨#[122]⟩,.slice []])++ .fslice []:: [])):=by
    rw[jD (by simp),aB.aJ]
    simp [AV.cells]
   have aON:=fun φ=>fV.aQX (φ:=φ) gO
   have a2X:(aV (st.aC c (b7 bs (q+1))) b' (acc.map a9++ [.agg [.int .i64 3,.int .i64 0,.str ⟨#[122]⟩,.slice [],.fslice []]])).aC b' (.cells (((acc.map a9).flatMap AV.cells++ [.int .i64 3,.int .i64 0,.str ⟨#[122]⟩,.slice []])++(AV.fslice []).soft:: []))=aV (st.aC c (b7 bs (q+1))) b' ((acc++ [zG]).map a9):=by
    rw[jD (by simp),cK,jD (by simp)]
    congr 2
    simp [AV.cells,AV.soft,zG,gI]
   rw[a2X] at aON
   have hV:aZ 5 b' (acc.map a9++ [.agg [.int .i64 3,.int .i64 0,.str ⟨#[122]⟩,.slice [],.fslice []]])=aZ 5 b' ((acc++ [zG]).map a9):=by
    rw[pQ (by simp),pQ (by simp)]
    simp
   rw[hV]
   simp -implicitDefEqProofs only[aA,seval]
   refine⟨(b',acc++ [zG]),by simp only[dW,aT,aX];omega,⟨hb2,by simp only[dW,aT,aX];omega⟩,(aON _).trans (aP.mk (by simp -implicitDefEqProofs only[aA,seval]))⟩
 simp -implicitDefEqProofs only[aA,seval]
 refine aQ (fun h1=>?_) (fun h1=>?_)
 · have hne:acc.map a9≠[]:=fun h=>by have:=oC List.length h;simp at this;subst this;simp at g3;omega
   have hlen:(acc.map a9).length=acc.length:=aF _
   have hsl:=a6P (P:=prog) (b:=b) eH (show 1<acc.length by omega)
   have hb0:=k4 hne
   simp -implicitDefEqProofs only[pQ hne,hlen,hsl,aA,seval]
   have hT:=qG.tail (k:=1) (w:=5) hb0 (by rw[hlen];omega) (IK acc) (xB acc)
   rw[hlen] at hT
   simp only[Nat.one_mul] at hT ⊢
   exact⟨_,_,hT,q+1,by omega,by omega,rfl,acc.drop 1,by rw[yW]⟩
 · skip
   simp -implicitDefEqProofs only[aA,seval]
   exact lD _ _ _ (by omega) (by omega) k4
abbrev KZ:=zi tI_3 (zi zI_3 (zi aU (zi tI_9 (zi zI_9 (zi cT (zi tI_28 (zi zI_28 (zi aO (zi bF (zi bG (zi bZ (zi tI_30 (zi zI_30 (zi iL (zi iM (zi iN (zi iO (zi iP (zi iQ (zi iK (zi tI_52 (zi zI_52 (zi bU (zi bV (zi bX (zi bY (zi bT (zi tI_91 (zi zI_91 (zi tI_117 (zi zI_117 (zi aMC (zi aMD (zi aME (zi aMF ZM)))))))))))))))))))))))))))))))))))
set_option maxHeartbeats 2000000 in
theorem aX2(bs:List Bt)(c p:Nat)(l:List Tm)(hl:∀x∈l,Dn x)(h2:l.length≤40)(st:aB)(hp:p+1000000≤1099511627776)(hR:cW st c bs p) :
 aD prog 75 [.ptr c 0,.slice (l.map Tm.av)] st (Dr bs c p 1000000 st (fun r=>∃l':List Tm,l'.length≤41∧r=.slice (l'.map Tm.av))):=by
 refine aD.aM5 ?_
 have UZ:st.aC c (b7 bs p)=st:=XW hR
 have lD:∀(q b:Nat) (acc:List Tm),acc.length≤41→p≤q→q≤p+1000000→(acc.map Tm.av≠[]→(st.aC c (b7 bs q)) b=none)→∃r2 s2,(zB (aV (st.aC c (b7 bs q)) b (acc.map Tm.av)) s2∧qG (aV (st.aC c (b7 bs q)) b (acc.map Tm.av)) (aZ 4 b (acc.map Tm.av)) s2 r2)∧Dr bs c p 1000000 st (fun r=>∃l':List Tm,l'.length≤41∧r=.slice (l'.map Tm.av)) r2 s2:=fun q b acc g0 g1 g2 hb=>by
  have:=qG.fin (r:=aZ 4 b (acc.map Tm.av)) hb (jJ _) ⟨4,d9 _⟩
  rw[jE] at this
  exact⟨_,_,this,q,g1,g2,rfl,acc,g0,rfl⟩
 have hRq:∀(q b:Nat) (L:List AV),(L≠[]→(st.aC c (b7 bs q)) b=none)→cW (aV (st.aC c (b7 bs q)) b L) c bs q∧∀o,(aV (st.aC c (b7 bs q)) b L).aC c o=aV (st.aC c o) b L∧(L≠[]→(st.aC c o) b=none):=fun q b L hb=>by
  have hne:L≠[]→c≠b:=fun h e=>by have:=hb h;rw[←e,aB.aJ] at this;cases this
  refine⟨?_,fun o=>⟨?_,fun h=>?_⟩⟩
  · unfold cW
    by_cases h:L= []
    · rw[h,oA,aB.aJ];try rfl
    · rw[nL (hne h),aB.aJ];try rfl
  · rw[lQ hne,cK]
  · have:=hb h
    rw[aB.aG _ _ (dG (hne h))] at this ⊢
    exact this
 refine wF [1000000] 2 func75 ntmps75 rfl rfl ?_
 simp only[eQ,AV.fits,eR,aF]
 intro _
 simp -implicitDefEqProofs only[aA,seval,KZ]
 refine eL (σ:=Nat×Nat×List Tm) [1000000] [0,1,4] l (fun i x=>p≤x.1∧x.1≤p+10*i∧x.2.2.length=i∧(x.2.2.map Tm.av≠[]→(st.aC c (b7 bs x.1)) x.2.1=none)) (fun i x=>[(5,aZ 4 x.2.1 (x.2.2.map Tm.av)),(6,.int .i64 i)]) (fun i x=>aV (st.aC c (b7 bs x.1)) x.2.1 (x.2.2.map Tm.av)) (by decide +kernel) ⟨(p,0,[]),⟨dC _,by simp only;omega,rfl,fun h=>absurd rfl h⟩,by
  simp only[aW,oA,UZ]
  exact aP.mk (by simp -implicitDefEqProofs only[jV,aA,↓aS,seval])⟩ (fun i x s hx hlt bR hdr hinv=>?_) (fun s hge hinv=>?_)
 case refine_1=>
  obtain⟨q,b,acc⟩:=s
  obtain⟨g1,g2,g3,g4⟩:=hinv
  simp only at g1 g2 g3 g4
  have hw:=bO (n:=(i:Int)+1)
  have hat:=bQ (av:=Tm.av) aO hx (aM x)
  obtain⟨k1,k2⟩:=hRq _ _ _ g4
  simp -implicitDefEqProofs only[bR,aF,hat,aM,aY,aA,seval,KZ]
  refine(SA bs c q x (hl x (dA hx)).2 _ (by omega) k1).mono ?_
  rintro _ _ ⟨q2,r1,r2,rfl,y,rfl⟩
  obtain⟨k3,k4⟩:=k2 (b7 bs q2)
  rw[k3]
  simp -implicitDefEqProofs only[aM,aY,cP,aA,seval,KZ]
  refine eE aO bF bG rfl rfl (fL (aM _) (cH _)) (d9 _) k4 (by simp only[aF,aT,aX];omega) (by simp only[aF,aT,aX];omega) (fun b' hb'=>?_)
  rw[show acc.map Tm.av++ [y.av]=(acc++ [y]).map Tm.av by simp] at hb' ⊢
  simp -implicitDefEqProofs only[hw,aA,seval]
  exact⟨(q2,b',acc++ [y]),⟨by simp only;omega,by simp only;omega,by simp only[dW,aT,aX];omega,hb'⟩,aP.mk (by simp -implicitDefEqProofs only[aA,seval])⟩
 obtain⟨q,b,acc⟩:=s
 obtain⟨g1,g2,g3,g4⟩:=hinv
 simp only at g1 g2 g3 g4
 obtain⟨k1,k2⟩:=hRq _ _ _ g4
 simp -implicitDefEqProofs only[aF,hge,aA,seval,KZ]
 refine(mS bs c q (by omega) 30 (by omega) (by omega) _ k1).mono ?_
 rintro _ _ ⟨j,hj,rfl,rfl⟩
 obtain⟨k3,k4⟩:=k2 (b7 bs (q+1))
 rw[k3]
 have U5:prog.underlying 28=some (.slice 52):=by kernel_rfl
 simp -implicitDefEqProofs only[aA,seval]
 refine aQ (fun h0=>?_) (fun h0=>?_)
 · simp -implicitDefEqProofs only[aA,seval]
   refine iT (σ:=Nat×List Tm) [1000000] [4] (fun x=>(x.2.map Tm.av≠[]→(st.aC c (b7 bs (q+1))) x.1=none)∧x.2.length≤41) (fun x=>[(5,aZ 4 x.1 (x.2.map Tm.av))]) (fun x=>aV (st.aC c (b7 bs (q+1))) x.1 (x.2.map Tm.av)) (fun x=>41 - x.2.length) (by decide +kernel) ⟨(b,acc),⟨k4,by simp only;omega⟩,aP.mk (by simp -implicitDefEqProofs only[aA,seval])⟩ ?_
   rintro⟨b,acc⟩ ⟨i1,i2⟩
   simp only at i1 i2
   have haL:=vO (w:=4) (b:=b) (l:=acc.map Tm.av) U5
   rw[aF] at haL
   simp -implicitDefEqProofs only[haL,aA,seval]
   refine aQ (fun h1=>?_) (fun h1=>?_)
   case refine_2=>
    simp -implicitDefEqProofs only[aA,seval]
    exact lD _ _ _ i2 (by omega) (by omega) i1
   simp only[bK] at h1
   simp -implicitDefEqProofs only[aA,seval]
   refine(t9 ⟨#[116,114,117,101]⟩ [] (by simp) _).to ?_
   simp -implicitDefEqProofs only[aY,aM,cP,aA,seval,KZ]
   refine eE aO bF bG rfl rfl (fL (aM _) (cH _)) (d9 _) i1 (by simp only[aF,aT,aX];omega) (by simp only[aF,aT,aX];omega) (fun b' hb'=>?_)
   rw[show acc.map Tm.av++ [(Tm.mk 3 0 ⟨#[116,114,117,101]⟩ []).av]=(acc++ [Tm.mk 3 0 ⟨#[116,114,117,101]⟩ []]).map Tm.av by simp] at hb' ⊢
   simp -implicitDefEqProofs only[aA,seval]
   exact⟨(b',acc++ [Tm.mk 3 0 ⟨#[116,114,117,101]⟩ []]),by simp only[dW,aT,aX];omega,⟨hb',by simp only[dW,aT,aX];omega⟩,aP.mk (by simp -implicitDefEqProofs only[aA,seval])⟩
 · skip
   simp -implicitDefEqProofs only[aA,seval]
   exact lD _ _ _ (by omega) (by omega) (by omega) k4
abbrev a72:=zi tI_3 (zi zI_3 (zi aU (zi tI_40 (zi zI_40 (zi dT (zi fJ (zi fK (zi fU (zi tI_91 zI_91)))))))))
theorem aX1(bs:List Bt)(c p:Nat)(st:aB)(hp:p+10≤1099511627776)(hR:cW st c bs p):aD prog 73 [.ptr c 0] st (Dr bs c p 10 st (fun r=>∃n:Int,r=.int .i64 n)):=by
 refine wF [1000000] 1 func73 ntmps73 rfl rfl ?_
 intro _
 simp -implicitDefEqProofs only[aA,seval,a72]
 refine(nO [20,3,1,5,0,21,-1] (by simp) (by simp) bs c p (by omega) _ hR).mono ?_
 rintro _ _ ⟨x,hx,rfl,rfl⟩
 simp -implicitDefEqProofs only[aA,seval]
 exact⟨p+1,by omega,by omega,rfl,x,rfl⟩
abbrev a73:=zi tI_3 (zi zI_3 (zi aU (zi tI_40 (zi zI_40 (zi dT (zi fJ (zi fK (zi fU (zi tI_91 zI_91)))))))))
theorem aX0(bs:List Bt)(c p:Nat)(st:aB)(hp:p+10≤1099511627776)(hR:cW st c bs p):aD prog 76 [.ptr c 0] st (Dr bs c p 10 st (fun r=>∃n:Int,-1≤n∧n≤301∧r=.int .i64 n)):=by
 refine wF [1000000] 1 func76 ntmps76 rfl rfl ?_
 intro _
 simp -implicitDefEqProofs only[aA,seval,a73]
 refine(nO [100,60,200,10,300,0,301,-1] (by simp) (by simp) bs c p (by omega) _ hR).mono ?_
 rintro _ _ ⟨x,hx,rfl,rfl⟩
 simp -implicitDefEqProofs only[aA,seval]
 refine⟨p+1,by omega,by omega,rfl,x,?_,?_,rfl⟩<;>(simp only[dB,dV,eA] at hx;omega)
abbrev a70:=zi tI_138 (zi zI_138 (zi j9 (zi nQ (zi nR oR))))
theorem aXP(st:aB):aD prog 114 [] st (fun r st'=>r=.slice (P1.map AV.str)∧st'=st):=by
 refine aD.done ?_
 refine wF [1000000] 0 func114 ntmps114 rfl rfl ?_
 intro _
 simp -implicitDefEqProofs only[aA,seval,a70]
 exact⟨rfl,aL.refl _⟩
abbrev a71:=zi tI_138 (zi zI_138 (zi j9 (zi nQ (zi nR oR))))
theorem aX3(st:aB):aD prog 143 [] st (fun r st'=>r=.slice (XS.map AV.str)∧st'=st):=by
 refine aD.done ?_
 refine wF [1000000] 0 func143 ntmps143 rfl rfl ?_
 intro _
 simp -implicitDefEqProofs only[aA,seval,a71]
 exact⟨rfl,aL.refl _⟩
theorem aEX{α:Type}{P:Program}{t:TypeId}{ag:Bool}{w:Nat}{av:α→AV}{l:List α}{i:Nat}{x:α}(hI:eI P t=some (ag,w))(h:l[i]?=some x)(hw:(av x).width=w):dN P t (.fslice (l.map av)) (.int .i64 (i:Int))=some (.pptr (av x)):=by
 simp only[dN,hI,jT,oX,h,pN,hw]
 simp
theorem aZL{P:Program}{φ:AF}{st:aB}{t u v w:Tmp}{K:AV→aB→Prop}:oL P [.tmp t,.tmp u,.tmp v,.tmp w] K φ st=(lS [φ t,φ u,φ v,φ w]=true∧K (.tup [φ t,φ u,φ v,φ w]) st):=rfl
def aNJ(l:List ByteArray):AV:=.fslice (l.map AV.str)
abbrev OO (q:List Tm):Prop:=q.length≤6∧∀t∈q,Dn t
theorem aP7(s:ByteArray):∃q:List Tm,OO q∧∃f,HH (oH (sb s))=.tup [.slice (q.map Tm.av),.bool f]:=by
 cases h:oH (sb s) with
 | none=>exact⟨[],⟨by simp,by simp⟩,false,rfl⟩
 | some q=>
  obtain⟨h1,h2⟩:=a42 h
  exact⟨q,⟨(J6 h1).1,h2⟩,true,rfl⟩
theorem a45{s:ByteArray}(h:VX s=true):s.size≤200∧∃l:List Cl,DH (sb s)=some l∧2≤l.length∧l.length≤20∧∀c∈l,uC c:=by
 unfold VX at h
 rw[cE,bK] at h
 refine⟨h.1,?_⟩
 have h2:=h.2
 cases hp:DH (sb s) with
 | none=>rw[hp] at h2;simp at h2
 | some l=>
  rw[hp] at h2
  simp only[cE,bK] at h2
  refine⟨l,rfl,h2.1,h2.2,fun c hc=>?_⟩
  unfold DH at hp
  simp only at hp
  split at hp
  · cases hp
  · exact((aBR _ [] l (by simp) hp).1 c hc).1
abbrev aSC:=zi tI_3 (zi zI_3 (zi aU (zi tI_9 (zi zI_9 (zi cT (zi tI_28 (zi zI_28 (zi aO (zi bF (zi bG (zi bZ (zi tI_91 (zi zI_91 (zi tI_138 (zi zI_138 (zi j9 (zi nQ (zi nR oR))))))))))))))))))
theorem aX4(bs:List Bt)(c p:Nat)(st:aB)(hp:p+10≤1099511627776)(hR:cW st c bs p):aD prog 116 [.ptr c 0] st (Dr bs c p 10 st (fun r=>∃q:List Tm,OO q∧r=.slice (q.map Tm.av))):=by
 refine wF [1000000] 1 func116 ntmps116 rfl rfl ?_
 intro _
 simp -implicitDefEqProofs only[aA,seval]
 refine(aX3 _).to ?_
 simp -implicitDefEqProofs only[aF,aA,seval,aSC]
 refine(mS bs c p (by omega) XS.length (by decide) (by decide) _ hR).mono ?_
 rintro _ _ ⟨k,hk,rfl,rfl⟩
 obtain⟨x,hx⟩:∃x,XS[k]?=some x:=⟨_,fF hk⟩
 have hat:=bQ (av:=AV.str) j9 hx rfl
 simp -implicitDefEqProofs only[hat,aA,seval,aSC]
 refine(Z9 x _).to ?_
 obtain⟨q,hq,f,hf⟩:=aP7 x
 rw[hf]
 simp -implicitDefEqProofs only[aA,seval]
 exact⟨p+1,by omega,by omega,rfl,q,hq,rfl⟩
abbrev K0:=zi tI_3 (zi zI_3 (zi aU (zi tI_5 (zi zI_5 (zi mH (zi tI_9 (zi zI_9 (zi cT (zi tI_27 (zi zI_27 (zi eH (zi gK (zi gN (zi iJ (zi tI_28 (zi zI_28 (zi aO (zi bF (zi bG (zi bZ (zi tI_91 (zi zI_91 (zi tI_138 (zi zI_138 (zi j9 (zi nQ (zi nR (zi oR (zi tI_142 (zi zI_142 (zi aB9 (zi aZF (zi aZG a8D)))))))))))))))))))))))))))))))))
set_option maxHeartbeats 1000000 in
theorem aA6(bs:List Bt)(c p:Nat)(st:aB)(hp:p+100≤1099511627776)(hR:cW st c bs p) :
 aD prog 72 [.ptr c 0] st (Dr bs c p 100 st (fun r=>∃(l:List Cl) (q:List Tm),(2≤l.length∧l.length≤20∧∀x∈l,uC x)∧OO q∧r=.tup [.slice (l.map a9),.slice (q.map Tm.av)])):=by
 refine wF [1000000] 1 func72 ntmps72 rfl rfl ?_
 intro _
 simp -implicitDefEqProofs only[aA,seval]
 refine(aXP _).to ?_
 simp -implicitDefEqProofs only[aF,aA,seval,K0]
 refine(mS bs c p (by omega) P1.length (by decide) (by decide) _ hR).mono ?_
 rintro _ _ ⟨k,hk,rfl,rfl⟩
 obtain⟨x,hx⟩:∃x,P1[k]?=some x:=⟨_,fF hk⟩
 have hat:=bQ (av:=AV.str) j9 hx rfl
 have hk2:k<G2.length:=hk
 obtain⟨y,hy⟩:∃y,G2[k]?=some y:=⟨_,fF hk2⟩
 obtain⟨hxs,l,hl1,hl2,hl3,hl4⟩:=a45 (eM.1 a8A x (dA hx))
 have hyo:=eM.1 a78 y (dA hy)
 simp only[cE,bK] at hyo
 have aNU:=aEX (P:=prog) (av:=aNJ) aB9 hy rfl
 simp only[G2,aNJ,bB,aW] at aNU
 have hpp:=fun st=>aV2 x (by omega) st
 rw[hl1] at hpp
 simp -implicitDefEqProofs only[hat,aA,seval,K0]
 refine(hpp _).mono ?_
 rintro _ _ ⟨rfl,rfl⟩
 simp -implicitDefEqProofs only[aNU,aA,seval,K0]
 refine(mS bs c (p+1) (by omega) 5 (by omega) (by omega) _ cW.new).mono ?_
 rintro _ _ ⟨j,hj,rfl,rfl⟩
 rw[cK]
 simp -implicitDefEqProofs only[aA,seval]
 refine aQ (fun h0=>?_) (fun h0=>?_)
 · simp -implicitDefEqProofs only[aA,seval]
   refine(aX4 bs c (p+1+1) _ (by omega) cW.new).mono ?_
   rintro _ _ ⟨p2,r1,r2,rfl,q,hq,rfl⟩
   rw[cK]
   simp -implicitDefEqProofs only[aA,seval]
   exact⟨p2,by omega,by omega,rfl,l,q,⟨hl2,hl3,hl4⟩,hq,rfl⟩
 simp -implicitDefEqProofs only[aF,aA,seval,K0]
 refine(mS bs c (p+1+1) (by omega) y.length (by omega) (by have:=a79 y (dA hy);omega) _ cW.new).mono ?_
 rintro _ _ ⟨i,hi,rfl,rfl⟩
 rw[cK]
 obtain⟨z,hz⟩:∃z,y[i]?=some z:=⟨_,fF hi⟩
 have qR:=aEX (P:=prog) (av:=AV.str) j9 hz rfl
 simp -implicitDefEqProofs only[qR,aA,seval,K0]
 refine(Z9 z _).to ?_
 obtain⟨q,hq,f,hf⟩:=aP7 z
 rw[hf]
 simp -implicitDefEqProofs only[aA,seval]
 exact⟨p+1+1+1,by omega,by omega,rfl,l,q,⟨hl2,hl3,hl4⟩,hq,rfl⟩
theorem Z7(code:List Bt)(st:aB):aD prog 30 [.slice (code.map gE)] st (fun r st'=>(∃(p:List Cl) (q:List Tm) (most fuel:Int),(q.length≤41∧-1≤fuel∧fuel≤301)∧r=.tup [.slice (p.map a9),.slice (q.map Tm.av),.int .i64 most,.int .i64 fuel])∧st'=st):=by
 refine aD.drop ?_
 refine wF [1000000] 1 func30 ntmps30 rfl rfl ?_
 intro _
 simp -implicitDefEqProofs only[aA,seval]
 refine(H6 code _).mono ?_
 rintro _ _ ⟨c,bs,rfl,hc,rfl⟩
 have hD:∀o,aL (st.aC c o) st:=fun o=>(aL.refl _).aC hc
 simp -implicitDefEqProofs only[aA,seval]
 refine(aA6 bs c 0 _ (by omega) cW.new).mono ?_
 rintro _ _ ⟨p1,r1,r2,rfl,l,q,⟨l1,l2,l3⟩,⟨q1,q2⟩,rfl⟩
 rw[cK]
 simp -implicitDefEqProofs only[aA,seval]
 refine(aX1 bs c p1 _ (by omega) cW.new).mono ?_
 rintro _ _ ⟨p2,s1,s2,rfl,n,rfl⟩
 rw[cK]
 simp -implicitDefEqProofs only[aA,seval]
 refine(aXN bs c p2 l l3 l1 (by omega) _ (by omega) cW.new).mono ?_
 rintro _ _ ⟨p3,t1,t2,rfl,l',rfl⟩
 rw[cK]
 simp -implicitDefEqProofs only[aA,seval]
 refine(aX2 bs c p3 q q2 (by omega) _ (by omega) cW.new).mono ?_
 rintro _ _ ⟨p4,u1,u2,rfl,q',u3,rfl⟩
 rw[cK]
 simp -implicitDefEqProofs only[aA,seval]
 refine(aX0 bs c p4 _ (by omega) cW.new).mono ?_
 rintro _ _ ⟨p5,v1,v2,rfl,m,w1,w2,rfl⟩
 rw[cK]
 simp -implicitDefEqProofs only[aZL,aA,seval]
 exact⟨hD _,l',q',n,m,⟨u3,w1,w2⟩,rfl⟩
end Go.AW
namespace Go.AW
theorem aD.a59{P:Program}{g:FuncId}{args args':List AV}{st:aB}{xs:List AV}(x:∀s,aD P g args s (k6 s xs))(hv:mN st dQ args' args):aD P g args' st (k6 st xs):=by
 refine aD.frame (aL.dQ st) ((x dQ).mono ?_) hv
 rintro r s1 ⟨os,bs,hr,h1,_,h3,h4⟩ hfr
 have hso:=bA.gV _ _ _ h3
 have hbs:∀b∈bs,st b=none:=fun b hb=>hfr b rfl (by
  obtain⟨cs,e,_⟩:=hso.2 b hb
  rw[e];simp)
 have hfb:∀b∈bs,(st.frame dQ s1) b=s1 b:=fun b hb=>by simp only[aB.frame,hbs b hb];split<;>simp_all
 refine⟨by rw[hr];unfold AV.gV;exact hso.1.1,fun b o e=>?_,os,bs,hr,h1,hbs,bA.a7 _ _ _ hfb h3,fun b hb=>?_⟩
 · by_cases hb:b∈bs
   · obtain⟨cs,e2,hs⟩:=hso.2 b hb
     rw[e] at e2;cases e2;exact hs
   · rw[h4 b hb] at e;cases e
 · have:=h4 b hb
   simp only[aB.frame,dQ] at this ⊢
   cases hst:st b with
   | none=>exact this
   | some o=>rfl
theorem aD.a3Y{P:Program}{g:FuncId}{args args':List AV}{st s0:aB}{Q:AV→aB→Prop}(D:aL st s0)(hv:mN st s0 args' args)(x:aD P g args s0 Q):aD P g args' st Q:=
 ⟨x.1,fun w vs S V=>(x.2 w vs (D.GN S) (hv _ _ S V)).mono fun e w' ⟨v,r,st',e1,a,b,c,d,q⟩=>⟨v,r,st',e1,a,b,(D.step w.heap).trans c,d,q⟩⟩
theorem mN.mono{st s0:aB}(D:aL st s0):∀(us:List AV),mN st s0 us us
 | []=>mN.nil
 | a::us=>mN.cons (fun hp v S y=>y.mono (D.step hp)) (mN.mono D us)
theorem a6C{st s0:aB}(D:aL st s0){b w:Nat}{L:List AV}(hb:st b=some (.cells (L.flatMap AV.cells)))(hb0:s0 b=none)(hj:∀e∈L,e.cJ=false)(hw:∀e∈L,e.width=w) :
 ∀h v,dD h st→aR h st (.mslice b 0 L.length w) v→aR h s0 (.slice (lU L)) v:=fun h v S y=>by
 obtain⟨f1,f2⟩:=frozen S hb hj
 have D2:aL (st.erase b) s0:=fun x=>by
  unfold aB.erase
  by_cases hx:x=b
  · subst hx;rw[aH rfl];exact⟨fun _=>hb0,fun o e=>by rw[hb0] at e;cases e⟩
  · rw[aE hx];exact D x
 have hE:=dF.deep L b 0 (dF.mono (D2.step h) b rfl _ _ f2)
 obtain⟨cap,hv,l1,l2,_⟩:=y.DB
 subst hv
 refine⟨rfl,?_⟩
 unfold VC
 exact .inr ⟨b,0,cap,by rw[zT];try rfl,by rw[zT];exact l1,l2,hb0,f1,SV ⟨w,hw⟩,hE⟩
end Go.AW
namespace Go.AW
open Go.Proofs.Tryz

end Go.AW
namespace Go.AW
def cG:Tm:=.mk 3 0 ⟨#[33]⟩ []
def xC:RG:=⟨cG,0⟩
def BY(c:RC):RC:={ c with rest:=c.rest++ [xC] }
def nN(s:RS):RS:={ s with goals:=s.goals++ [xC],chs:=s.chs.map BY }
def Y8:RO→RO
 | .go s=>.go (nN s)
 | .fail=>.fail
 | .stop e=>.stop e
theorem WC(p:List Cl)(chs:List RC)(goal:Tm)(rest:List RG)(σ:Sub)(N:Nat):∀l:List Nat,iG p (chs.map BY) goal (rest++ [xC]) σ N l=(iG p chs goal rest σ N l).map nN
 | []=>rfl
 | i::l=>by
  unfold iG
  cases p[i]? with
  | none=>rfl
  | some x=>
   simp only
   by_cases h:(jZ σ goal (dK N x.1)).1=true
   · rw[aH h,aH h]
     simp only[pN,nN,aF,nE]
     by_cases hl:l= []
     · rw[aH hl,aH hl]
     · rw[aE hl,aE hl,oY];try rfl
   · rw[aE h,aE h]
     exact WC p chs goal rest σ N l
theorem aQA(p:List Cl):∀(n:Nat) (chs:List RC),fM p n (chs.map BY)=(fM p n chs).map nN
 | 0,_=>rfl
 | n+1,chs=>by
  unfold fM
  rw[List.getLast?_map,←List.map_dropLast]
  cases chs.getLast? with
  | none=>rfl
  | some c=>
   simp only[pN]
   have:=WC p chs.dropLast c.goal c.rest c.σ c.N c.left
   show(match iG p (chs.dropLast.map BY) c.goal (c.rest++ [xC]) c.σ c.N c.left with | some s=>some s | none=>fM p n (chs.dropLast.map BY))=_
   rw[this,aQA p n chs.dropLast]
   cases iG p chs.dropLast c.goal c.rest c.σ c.N c.left<;>rfl
theorem a5K(p:List Cl)(cnd:Tm→List Nat→List Nat)(s:RS)(g:RG)(rest:List RG):iF p cnd (nN s) g (rest++ [xC])=Y8 (iF p cnd s g rest):=by
 unfold iF
 rw[show(nN s).σ=s.σ from rfl,show(nN s).N=s.N from rfl,show(nN s).chs=s.chs.map BY from rfl]
 generalize g.t.aN (rs s.σ)=t
 by_cases h1:eX t=false
 · rw[aH h1,aH h1];try rfl
 rw[aE h1,aE h1]
 by_cases h2:pR t=true
 · rw[aH h2,aH h2,←G9];try rfl
 rw[aE h2,aE h2]
 by_cases h3:isBuiltin t.s (t.ts.length:Int)=true
 · rw[aH h3,aH h3]
   by_cases h4:(dI s.σ t.s t.ts).1=0
   · rw[aH h4,aH h4];try rfl
   rw[aE h4,aE h4]
   by_cases h5:(dI s.σ t.s t.ts).1=1
   · rw[aH h5];try rfl
   rw[aE h5];try rfl
 rw[aE h3,aE h3]
 by_cases h6:gA p t= []
 · rw[aH h6,aH h6];try rfl
 rw[aE h6,aE h6,WC]
 cases iG p s.chs t rest s.σ s.N (cnd t (gA p t))<;>rfl
theorem aY8(p:List Cl)(cnd:Tm→List Nat→List Nat)(s:RS):iF p cnd s xC []=.go ⟨[],s.σ,s.N,[]⟩:=by
 have hm:cG.aN (rs s.σ)=cG:=aUW _ _
 have g7:eX cG=true:=rfl
 have v4:pR cG=true:=by simp [pR,cG,Tm.k,Tm.s,Tm.ts]
 unfold iF
 rw[show xC.t=cG from rfl,hm,aE (by rw[g7];decide),aH v4]
 try rfl
theorem aY7(p:List Cl)(cnd:Tm→List Nat→List Nat)(vars:List Int):∀(n most fuel:Nat) (s:RS) (F:Nat) (a:List Tm) (L:List (List Tm)) (e:Int),most+fuel≤n→fuel≤F→iZ p cnd vars most fuel s=(a::L,e) →
 (iZ p cnd vars 20 F (nN s)).2=2∨iZ p cnd vars 20 F (nN s)=([a],0):=by
 intro n
 induction n with
 | zero=>
  intro most fuel s F a L e hn hF h
  obtain rfl:most=0:=by omega
  obtain rfl:fuel=0:=by omega
  cases hg:s.goals with
  | nil=>rw[rA hg] at h;simp at h
  | cons g rest=>rw[oK (fuel:=0) hg] at h;simp at h
 | succ n ih=>
  intro most fuel s F a L e hn hF h
  cases hg:s.goals with
  | nil=>
   rw[rA hg] at h
   by_cases hm:most=0
   · rw[aH hm] at h;simp at h
   rw[aE hm] at h
   have hgs:(nN s).goals=xC:: []:=by simp only[nN,hg,eD]
   rw[oK hgs]
   by_cases hF0:F=0
   · rw[aH hF0];exact .inl rfl
   rw[aE hF0,aY8]
   simp only
   rw[rA rfl,aE (by decide)]
   refine .inr ?_
   cases ha:jW s.σ vars with
   | none=>rw[ha] at h;simp at h
   | some b=>
    rw[ha] at h
    simp only at h
    have hb:b=a:=by
     cases hbk:fM p s.chs.length s.chs with
     | none=>rw[hbk] at h;simp at h;exact h.1.1
     | some s'=>rw[hbk] at h;simp at h;exact h.1.1
    subst hb
    have hσ:(nN s).σ=s.σ:=rfl
    rw[hσ,ha]
    try rfl
  | cons g rest=>
   rw[oK hg] at h
   by_cases hf:fuel=0
   · rw[aH hf] at h;simp at h
   rw[aE hf] at h
   have hgs:(nN s).goals=g::(rest++ [xC]):=by simp only[nN,hg,fE]
   rw[oK hgs,aE (by omega),a5K]
   cases hst:iF p cnd s g rest with
   | stop e=>rw[hst] at h;simp at h
   | go s'=>
    rw[hst] at h
    exact ih most (fuel - 1) s' (F - 1) a L e (by omega) (by omega) h
   | fail=>
    rw[hst] at h
    simp only[Y8] at h ⊢
    have hb:=aQA p s.chs.length s.chs
    rw[show(nN s).chs=s.chs.map BY from rfl,aF,hb]
    cases hbk:fM p s.chs.length s.chs with
    | none=>rw[hbk] at h;simp at h
    | some s'=>
     rw[hbk] at h
     exact ih most (fuel - 1) s' (F - 1) a L e (by omega) (by omega) h
theorem aY6{p:List Cl}{cnd:Tm→List Nat→List Nat}{q:List Tm}{most fuel:Int}(h:gH p q most fuel=true)(h':gH p (q++ [cG]) 20 300=true){a:List Tm}{L:List (List Tm)}(hl:(d8 p cnd q most fuel).1=a::L) :
 (d8 p cnd (q++ [cG]) 20 300).2=2∨d8 p cnd (q++ [cG]) 20 300=([a],0):=by
 obtain⟨h1,h2,h3,h4,h5,h6⟩:=KG.1 h
 rw[GM h] at hl
 rw[GM h']
 unfold uV at hl ⊢
 have hv:cF (q++ [cG]) []=cF q []:=by rw[PX];try rfl
 have hs:lL (q++ [cG])=nN (lL q):=by simp only[lL,nN,oY,bB,aW];rfl
 rw[hv,hs]
 exact aY7 p cnd _ _ most.toNat fuel.toNat (lL q) 300 a L _ (dC _) (by omega) (Prod.ext hl rfl)
end Go.AW
