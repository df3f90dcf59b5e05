/- The texts of answers can be sent. -/
import Derived.Test.YtlepdbmhjkmelaaGreatWsm
import Derived.Test.YtlepdbmhjkmelaaGreatWsi
import Derived.Test.YtlepdbmhjkmelaaGreatWsl
import Derived.Test.YtlepdbmhjkmelaaGreatWsj
import Derived.Test.YtlepdbmhjkmelaaGreatWsf
import Derived.Test.YtlepdbmhjkmelaaGreatWsk
import Derived.Shelf.Slices.Clone
set_option linter.unusedSimpArgs false
set_option linter.unusedVariables false
set_option maxRecDepth 100000
namespace Go.AW
abbrev okB (s:ByteArray):Prop:=(sb s).all kO=true
theorem fY{a b:ByteArray}(ha:okB a)(hb:okB b):okB (a++b):=by
 have:sb (a++b)=sb a++sb b:=by simp [sb,ByteArray.data_append]
 unfold okB
 rw[this,yY,ha,hb]
 try rfl
theorem NJ{n:Nat}(h1:32≤n)(h2:n≤126):okB ⟨#[UInt8.ofNat n]⟩:=by
 have hn:(UInt8.ofNat n).toNat=n:=by simp [UInt8.toNat_ofNat'];omega
 show([UInt8.ofNat n]:List UInt8).all kO=true
 simp only[kH,CR,yX,kO,hn]
 simp [h1,h2]
theorem NI:∀(f n:Nat) (acc:ByteArray),okB acc→okB (jP f n acc)
 | 0,n,acc,h=>h
 | f+1,n,acc,h=>by
  unfold jP
  split
  · exact NI f _ _ (fY (NJ (by omega) (by omega)) h)
  · exact fY (NJ (by omega) (by omega)) h
theorem x7:okB ⟨#[]⟩:=rfl
theorem aU9(n:Int):okB (tR n):=by
 unfold tR
 split
 · exact fY (by decide) (NI _ _ _ x7)
 · exact NI _ _ _ x7
theorem aF5{n:Int}(h0:0≤n)(h1:n<26):okB (sF n):=NJ (by omega) (by omega)
theorem aF6{s:ByteArray}(h:vV s=true):okB s:=by
 unfold vV at h
 rw[kV] at h
 rcases h with h | h
 · simp only[vU,bG,dD] at h
   refine dD.2 fun x hx=>?_
   have:=h.1 x hx
   simp only[kC,bG,bK] at this
   simp only[kO,kV,bG,bK]
   omega
 · rw[List.any_eq_true] at h
   obtain⟨x,hx,h⟩:=h
   rw[bK] at h
   subst h
   revert hx
   revert s
   decide
theorem aF4{T:Tm→ByteArray}:∀l:List Tm,(∀x∈l,okB (T x))→okB (jN T l)
 | [],_=>x7
 | x::xs,h=>by
  have hg:∀(xs:List Tm) (o:ByteArray),okB o→(∀x∈xs,okB (T x))→okB (xs.foldl (fun o y=>(o++⟨#[44]⟩)++T y) o):=by
   intro xs
   induction xs with
   | nil=>intro o ho _;exact ho
   | cons y ys ih=>intro o ho hy;exact ih _ (fY (fY ho (by decide)) (hy y (by simp))) fun z hz=>hy z (by simp [hz])
  exact hg xs _ (fY x7 (h x (by simp))) fun y hy=>h y (by simp [hy])
theorem aJQ{t:Tm}(h:Ws t):t.k=3→okB t.s:=by
 obtain⟨k,n,s,ts⟩:=t
 intro h3
 rcases yA h.own.1 with h | h | h
 · have:k=3:=h3;omega
 · have:k=3:=h3;omega
 · exact aF6 h.2.2.1
theorem aJP{t:Tm}(h:Ws t){i:Nat}(hi:i<t.ts.length):Ws (lT t i):=by
 obtain⟨k,n,s,ts⟩:=t
 have hi':i<ts.length:=hi
 have:lT (.mk k n s ts) i=ts[i]:=by
  show ts.getD i _=_
  rw[PO,d4 hi']
  try rfl
 rw[this]
 exact h.own.2 _ (List.getElem_mem hi')
theorem aF7:∀(n:Nat) (t:Tm),Ws t→okB (tx n t)
 | 0,t,_=>x7
 | n+1,t,h=>by
  have ih:=aF7 n
  unfold tx
  split
  · obtain⟨h1,h2,_⟩:=IX n t h
    have ha:=aF4 (T:=tx n) (spine n t).1 fun x hx=>ih x (h1 x hx)
    unfold BA
    split
    · exact fY (fY (by decide) ha) (by decide)
    · exact fY (fY (fY (fY (by decide) ha) (by decide)) (ih _ h2)) (by decide)
  split
  · rename_i hi
    simp only[sC,bG,bK] at hi
    have h0:=ih _ (aJP h (i:=0) (by omega))
    have h1:=ih _ (aJP h (i:=1) (by omega))
    have hb:∀(u:Tm) (lv:Nat),okB (tx n u)→okB (pK (tx n) u lv):=fun u lv hu=>by
     unfold pK
     split
     · exact fY (fY (by decide) hu) (by decide)
     · exact hu
    have hs:okB (n5 t.s):=by
     unfold n5
     have:=aJQ h hi.1
     split
     · exact fY (fY (by decide) this) (by decide)
     · exact this
    refine fY (fY ?_ hs) ?_
    · unfold vT
      split
      · exact fY (fY (by decide) h0) (by decide)
      · exact hb _ _ h0
    · unfold v6
      split
      · exact fY (fY (by decide) (hb _ _ h1)) (by decide)
      · exact hb _ _ h1
  split
  · rename_i hi
    simp only[GT,bG,bK] at hi
    refine fY (fY (fY (aJQ h hi.1) (by decide)) (aF4 _ fun x hx=>ih x ?_)) (by decide)
    obtain⟨k,m,s,ts⟩:=t
    exact h.own.2 x hx
  · obtain⟨k,m,s,ts⟩:=t
    unfold xT
    rcases yA h.own.1 with h | h | h
    · rw[aN (show(Tm.mk k m s ts).k=1 from h.1)]
      exact aF5 h.2.1 (by have:m≤25:=h.2.2.1;show m<26;omega)
    · have h1:¬(Tm.mk k m s ts).k=1:=by show ¬k=1;omega
      rw[aH h1,aN (show(Tm.mk k m s ts).k=2 from h.1)]
      exact aU9 m
    · have h1:¬(Tm.mk k m s ts).k=1:=by show ¬k=1;omega
      have h2:¬(Tm.mk k m s ts).k=2:=by show ¬k=2;omega
      rw[aH h1,aH h2]
      exact aF6 h.2.2.1
theorem aVB{c:UInt8}(hc:kO c=true):∀l:List ByteArray,(∀x∈l,okB x)→okB (nQ c l):=by
 intro l h
 have hcb:okB ⟨#[c]⟩:=by
  show([c]:List UInt8).all kO=true
  simp [hc]
 have hg:∀(xs:List ByteArray) (o:ByteArray),okB o→(∀x∈xs,okB x)→okB (xs.foldl (fun o y=>(o++⟨#[c]⟩)++y) o):=by
  intro xs
  induction xs with
  | nil=>intro o ho _;exact ho
  | cons y ys ih=>intro o ho hy;exact ih _ (fY (fY ho hcb) (hy y (by simp))) fun z hz=>hy z (by simp [hz])
 cases l with
 | nil=>exact x7
 | cons x xs=>exact hg xs x (h x (by simp)) fun y hy=>h y (by simp [hy])
theorem aVA(q a:List Tm):okB (xF q a):=by
 unfold xF
 split
 · rename_i hf
   obtain⟨_,_,h3,h4,_⟩:=EA hf
   unfold GS
   split
   · decide
   · refine aVB (by decide) _ fun x hx=>?_
     obtain⟨⟨v,t⟩,hp,rfl⟩:=cL.1 hx
     have hm:=List.of_mem_zip hp
     have hv:=h4 v hm.1
     have ht:=h3 t hm.2
     unfold mN
     exact fY (fY (aF5 hv.1 hv.2) (by decide)) (aF7 1000 t ⟨30,by simp only[Tm.valid,bG] at ht;exact ht.1⟩)
 · exact x7
end Go.AW
namespace Go.AW
open Go.Proofs.Tryz
def vG(l:List Bt):ByteArray:=⟨(l.map fun x=>UInt8.ofNat x.val).toArray⟩
def dJ:List Bt→Nat
 | x::y::_=>x.val*256+y.val
 | _=>0
def kQ(b:List Bt):Fr:=((((b[2]?).map fun x=>(x.val:Int)).getD 0),vG ((b.take (2+dJ b)).drop 3))
def gD(b:List Bt):Int:=if b.length<2 then 0 else if dJ b<1∨2001<dJ b then -1 else if b.length<2+dJ b then 0 else if gB (kQ b)=true then((2+dJ b:Nat):Int) else -1
def uI(b:List Bt):Fr:=if 0<gD b then kQ b else(0,⟨#[]⟩)
theorem ER{b:List Bt}{n:Int}(h:gD b=n)(h':n≤0):uI b=(0,⟨#[]⟩):=by
 unfold uI
 rw[aH (by omega)]
theorem H9{b:List Bt}(h:b.length<2):gD b=0:=by
 unfold gD
 rw[aN h]
theorem xY{b:List Bt}(h:¬b.length<2)(h1:dJ b<1∨2001<dJ b):gD b= -1:=by
 unfold gD
 rw[aH h,aN h1]
theorem IA{b:List Bt}(h:¬b.length<2)(h1:¬(dJ b<1∨2001<dJ b))(h2:b.length<2+dJ b):gD b=0:=by
 unfold gD
 rw[aH h,aH h1,aN h2]
theorem ES{b:List Bt}(h:¬b.length<2)(h1:¬(dJ b<1∨2001<dJ b))(h2:¬b.length<2+dJ b):gD b=if gB (kQ b)=true then((2+dJ b:Nat):Int) else -1:=by
 unfold gD
 rw[aH h,aH h1,aH h2]
theorem ST(x:Bt):kJ prog 5 3 (.int .u8 (x.val:Int))=some (.int .i64 (x.val:Int)):=by
 have h:=x.isLt
 have hw:=iX (x:=(x.val:Int)) (m:=x.val) rfl (by omega)
 unfold kJ
 simp only[PH,PG,hw]
theorem Q3:∀l:List Bt,bytesOf (l.map a7)=some (l.map fun x=>UInt8.ofNat x.val)
 | []=>rfl
 | x::l=>by
  simp only[bF,a7,bytesOf]
  rw[Q3 l]
  try rfl
theorem SS(l:List Bt):kJ prog 22 9 (.slice (l.map a7))=some (.str (vG l)):=by
 unfold kJ
 simp only[PF,oA,Q3]
 rfl
theorem aJN(l:List Bt)(k:Nat):oC (l.map a7) k 1=true:=by
 unfold oC
 rw[mI]
 cases l[k]?<;>rfl
theorem aG5{φ:AF}{x y:Operand}{l:List Bt}{k m:Nat}(hx:φ.eval x=.int .i64 (k:Int))(hy:φ.eval y=.int .i64 (m:Int))(h1:k≤m)(h2:m≤l.length):fJ prog φ 22 (.slice (l.map a7)) (some x) (some y) none=some (.slice (((l.take m).drop k).map a7)):=by
 have b1:cU φ none (l.map a7).length (l.map a7).length=some (l.map a7).length:=rfl
 have b2:cU φ (some y) (l.map a7).length (l.map a7).length=some m:=by
  simp only[cU,hy,aE]
  rw[aN ⟨by omega,by omega⟩,fV]
 have b3:cU φ (some x) 0 m=some k:=by
  simp only[cU,hx]
  rw[aN ⟨by omega,by omega⟩,fV]
 unfold fJ l5
 rw[aH (by simp [nO])]
 simp only[eV,b1,b2,b3,aJN]
 simp
theorem aG6{φ:AF}{x:Operand}{l:List Bt}{k:Nat}(hx:φ.eval x=.int .i64 (k:Int))(h1:k≤l.length):fJ prog φ 22 (.slice (l.map a7)) (some x) none none=some (.slice ((l.drop k).map a7)):=by
 have b1:cU φ none (l.map a7).length (l.map a7).length=some (l.map a7).length:=rfl
 have b3:cU φ (some x) 0 (l.map a7).length=some k:=by
  simp only[cU,hx,aE]
  rw[aN ⟨by omega,by omega⟩,fV]
 unfold fJ l5
 rw[aH (by simp [nO])]
 simp only[eV,b1,b3,aJN]
 rw[dR]
 simp
abbrev rA:=zi aX (zi cD (zi gE (zi cG (zi f0 lZ))))
theorem RA(b:List Bt)(st:aA):aD prog 238 [.slice (b.map a7)] st (fun r st'=>r=.tup [bC (uI b),.int .i64 (gD b)]∧st'=st):=by
 refine aD.kK ?_
 refine wF [1000000,2] 1 func238 ntmps238 rfl rfl ?_
 simp only[eF,AV.fits,eN,aE]
 intro ⟨hl,_⟩
 simp only[aE,aB,seval,rA]
 intro b2 hb2
 have hD:=fun o=>(aJ.refl st).aC (o:=o) hb2
 by_cases h0:b.length<2
 case pos=>
  have h0':=bP (show(b.length:Int)<2 by omega)
  rw[ER (H9 h0) (by omega),H9 h0]
  simp only[h0',aA.aK,bC,aG,aB,seval,rA]
  exact hD _
 have h0':=bB (show ¬(b.length:Int)<2 by omega)
 obtain⟨x,hx⟩:∃x,b[0]?=some x:=⟨_,d4 (by omega)⟩
 obtain⟨y,hy⟩:∃y,b[1]?=some y:=⟨_,d4 (by omega)⟩
 have hlf:dJ b=x.val*256+y.val:=by
  match b,hx,hy with
  | x'::y'::_,hx,hy=>cases hx;cases hy;rfl
 have a0L:=x.isLt
 have a0N:=y.isLt
 have EE:dP prog 22 (.slice (b.map a7)) (.int .i64 0)=some (.pptr (a7 x)):=bR (av:=a7) (i:=0) eV hx rfl
 have MW:dP prog 22 (.slice (b.map a7)) (.int .i64 1)=some (.pptr (a7 y)):=bR (av:=a7) (i:=1) eV hy rfl
 have hw1:=iX (x:=(x.val:Int)) (m:=x.val) rfl (by omega)
 have hw2:=iX (x:=(x.val:Int)*256) (m:=x.val*256) (by omega) (by omega)
 have hw3:=iX (x:=(y.val:Int)) (m:=y.val) rfl (by omega)
 have hw4:=iX (x:=((x.val*256:Nat):Int)+(y.val:Int)) (m:=dJ b) (by rw[hlf];omega) (by omega)
 have a0G:dJ b<65536:=by omega
 generalize hL:dJ b=L at *
 have hw5:=iX (x:=2+(L:Int)) (m:=2+L) (by omega) (by omega)
 simp only[h0',bC,aB,seval]
 refine wP [(0,1),(1,1),(5,1),(6,1),(2,2),(3,1),(4,1),(7,2),(8,1),(9,1),(10,1)] [0,1,5,6,2,3,4,7,8,9,10] mixed ?_
 simp only[EE,MW,kJ,a7,hw1,hw2,hw3,hw4,aB,seval,rA]
 by_cases h1:L<1
 case pos=>
  have h1':=bP (show(L:Int)<1 by omega)
  rw[ER (xY h0 (by omega)) (by omega),xY h0 (by omega)]
  simp only[h1',aV,aG,aA.aK,aB,seval,rA]
  exact hD _
 have h1':=bB (show ¬(L:Int)<1 by omega)
 by_cases h2:2001<L
 case pos=>
  have h2':=bP (show(2001:Int)<(L:Int) by omega)
  rw[ER (xY h0 (by omega)) (by omega),xY h0 (by omega)]
  simp only[h1',h2',aV,a8,eO,aG,aA.aK,aB,seval,rA]
  exact hD _
 have h2':=bB (show ¬(2001:Int)<(L:Int) by omega)
 by_cases h3:b.length<2+L
 case pos=>
  have h3':=bP (show(b.length:Int)<((2+L:Nat):Int) by omega)
  rw[ER (IA h0 (by omega) (by omega)) (by omega),IA h0 (by omega) (by omega)]
  simp only[h1',h2',h3',aV,a8,eO,aE,aG,hw5,aA.aK,aB,seval,rA]
  exact hD _
 have h3':=bB (show ¬(b.length:Int)<((2+L:Nat):Int) by omega)
 have hN:=ES h0 (by omega) (by omega)
 obtain⟨z,hz⟩:∃z,b[2]?=some z:=⟨_,d4 (by omega)⟩
 have EF:dP prog 22 (.slice (b.map a7)) (.int .i64 2)=some (.pptr (a7 z)):=bR (av:=a7) (i:=2) eV hz rfl
 have a0O:=z.isLt
 have hw6:=iX (x:=(z.val:Int)) (m:=z.val) rfl (by omega)
 have hff:kQ b=((z.val:Int),vG ((b.take (2+L)).drop 3)):=by unfold kQ;rw[hz,hL];try rfl
 have hv:=fun st=>LM (kQ b) st
 have hsl:=fun φ h1 h2=>aG5 (φ:=φ) (x:=.const (.int .i64 3)) (y:=.tmp 39) (l:=b) (k:=3) (m:=2+L) h1 h2 (by omega) (by omega)
 have hcv:=SS ((b.take (2+L)).drop 3)
 simp only[h1',h2',a8,eO,aE,hw5,aB,seval,rA]
 simp only[h3',aB,seval]
 refine wX [(0,1),(1,1),(2,1),(3,1),(4,1),(5,1),(6,1),(7,1),(8,1),(9,1),(10,0),(11,2)] [0,1,2,3,4,5,6,7,8,9] dW mixed rfl cY ?_
 simp only[EF,ST,a7,hw5,aB,seval,rA]
 rw[hsl _ (by rfl) (by simp only[aB,seval])]
 simp only[aG,hcv,aA.aK,d3,aB,seval,rA]
 intro b5 hb5
 refine⟨cY,?_⟩
 have hne:b2≠b5:=fun h=>by rw[h,aA.aK] at hb5;cases hb5
 have h5:st b5=none:=by rw[aA.aO _ _ hne.symm] at hb5;exact hb5
 have hDD:=fun o o'=>((aJ.refl st).aC (o:=o) hb2).aC (o:=o') h5
 have e2:∀o o',((st.aC b2 o).aC b5 o') b2=some o:=fun o o'=>by rw[aA.aO _ _ hne,aA.aK]
 have e3:∀o o' o'',((st.aC b2 o).aC b5 o').aC b2 o''=(st.aC b2 o'').aC b5 o':=fun o o' o''=>by rw[aA.rG _ _ _ hne.symm,d3]
 rw[hff] at hN hv
 rw[hL] at hN
 simp only[bC] at hv
 refine(hv _).to ?_
 cases hfo:gB ((z.val:Int),vG ((b.take (2+L)).drop 3)) with
 | false=>
  rw[hfo,aH (by simp)] at hN
  rw[ER hN (by omega),hN]
  simp only[fM,aG,e2,e3,aB,seval,rA]
  exact hDD _ _
 | true=>
  rw[hfo,aN rfl] at hN
  rw[show uI b=kQ b by unfold uI;rw[aN (by omega)],hN,hff]
  simp only[fA,aG,hw5,e2,e3,aB,seval,rA]
  exact hDD _ _

end Go.AW
namespace Go.AW
def jX(t:Tm):ByteArray:=tx 130 t
def oK(T:Tm→ByteArray)(h:ByteArray):List Tm→ByteArray
 | []=>h
 | x::xs=>xs.foldl (fun o y=>(o++⟨#[44]⟩)++T y) ((h++⟨#[58,45]⟩)++T x)
def z8(c:Cl):ByteArray:=oK jX (jX c.1) c.2++⟨#[46]⟩
def tX(c:Cl):ByteArray:=if lA c then z8 c else⟨#[]⟩
def E2(l:List UInt8):j0:=fun a=>rd l (4*l.length+4) 30 a 3
def qR(l:List UInt8):Nat→Nat→List Tm→Option (List Tm×Nat)
 | 0,_,_=>none
 | m+1,a,acc=>match E2 l a with
  | none=>none
  | some (t,e)=>if cA l e 44 then qR l m (e+1) (acc++ [t]) else some (acc++ [t],e)
def qO(l:List UInt8):Option (Cl×Nat):=
 match E2 l 0 with
 | none=>none
 | some (h,e)=>if(cA l e 58&&cA l (e+1) 45)=true then match qR l 7 (e+2) [] with
  | none=>none
  | some (b,e2)=>some ((h,b),e2)
  else some ((h,[]),e)
def mV(l:List UInt8):Option Cl:=match qO l with
 | none=>none
 | some (c,e)=>if l.length≤1000∧e+1=l.length∧cA l e 46=true∧sb (tX c)=l then some c else none
def lC(c:Nat):List UInt8→List UInt8→List (List UInt8)
 | [],acc=>[acc]
 | x::l,acc=>if x.toNat=c then acc::lC c l [] else lC c l (acc++ [x])
def xU:List (List UInt8)→List Cl→Option (List Cl)
 | [],acc=>some acc
 | l::ls,acc=>match mV l with
  | none=>none
  | some c=>xU ls (acc++ [c])
def nW(l:List UInt8):Option (List Cl):=
 let ls:=lC 10 l []
 if 21<ls.length∨ls.getLast?≠some [] then none else xU ls.dropLast []
def kR(l:List UInt8):Option (List Tm):=match qR l 7 0 [] with
 | none=>none
 | some (g,e)=>if l.length≤1000∧e=l.length∧eR g=true then some g else none
theorem aL3{T:Tm→ByteArray}{h:ByteArray}{l:List Tm}{i:Nat}{x:Tm}(hx:l[i]?=some x):oK T h (l.take (i+1))=(if i=0 then oK T h (l.take i)++⟨#[58,45]⟩ else oK T h (l.take i)++⟨#[44]⟩)++T x:=by
 rw[eD,hx]
 cases l with
 | nil=>simp at hx
 | cons y l=>
  cases i with
  | zero=>simp at hx;subst hx;rfl
  | succ i=>
   rw[aH (by omega),sV]
   simp only[oK,KF,gO,GA,sU,List.foldl_nil]
theorem Q1{T:Tm→ByteArray}{h:ByteArray}{l:List Tm}{m:Nat}(hT:∀x∈l,(T x).size≤m):(oK T h l).size≤h.size+l.length*(m+2):=by
 have hg:∀(xs:List Tm) (o:ByteArray),(∀x∈xs,(T x).size≤m)→(xs.foldl (fun o y=>(o++⟨#[44]⟩)++T y) o).size≤o.size+xs.length*(m+2):=by
  intro xs
  induction xs with
  | nil=>intro o _;simp
  | cons x xs ih=>
   intro o hx
   refine lL (ih _ fun y hy=>hx y (by simp [hy])) ?_
   rw[cC,cC]
   have:=hx x (by simp)
   simp only[aY,pB]
   show o.size+1+_+_≤_
   omega
 cases l with
 | nil=>simp [oK]
 | cons x l=>
  refine lL (hg l _ fun y hy=>hT y (by simp [hy])) ?_
  rw[cC,cC]
  have:=hT x (by simp)
  simp only[aY,pB]
  show h.size+2+_+_≤_
  omega
theorem aJF{t:Tm}(h:t.valid=true):Ws t∧t.nodes≤120:=by
 simp only[Tm.valid,bG,bK] at h
 exact⟨⟨_,h.1⟩,h.2⟩
theorem EC{t:Tm}(h:t.goal=true):t.valid=true:=by
 obtain⟨k,n,s,ts⟩:=t
 simp only[Tm.goal,bG] at h
 exact h.1
theorem aO5{c:Cl}(h:lA c=true):(Ws c.1∧c.1.nodes≤120)∧c.2.length≤6∧∀x∈c.2,Ws x∧x.nodes≤120:=by
 simp only[lA,bG,bK,dD] at h
 exact⟨aJF h.1.1,h.2.1,fun x hx=>aJF (EC (h.2.2 x hx))⟩
theorem HQ{l:List UInt8}(hl:l.length≤1000):∀(m a:Nat) (acc ts:List Tm) (e:Nat),a≤l.length→(∀x∈acc,Dn x)→qR l m a acc=some (ts,e)→a<e∧e≤l.length∧(∀x∈ts,Dn x)∧ts.length≤acc.length+m:=by
 intro m
 induction m with
 | zero=>intro a acc ts e _ _ h;cases h
 | succ m ih=>
  intro a acc ts e ha MU h
  unfold qR at h
  split at h
  · cases h
  rename_i t e1 h1
  obtain⟨h2,h3,h4⟩:=yC hl _ _ _ a t e1 ha h1
  have ED:∀x∈acc++ [t],Dn x:=by intro x hx;rw[kW] at hx;rcases hx with hx | hx;exact MU x hx;rw[KD] at hx;subst hx;exact h4
  split at h
  · rename_i h5
    have h6:=mR h5
    obtain⟨g1,g2,g3,g4⟩:=ih (e1+1) _ ts e (by omega) ED h
    rw[cX,KC] at g4
    exact⟨by omega,g2,g3,by omega⟩
  · cases h
    exact⟨h2,h3,ED,by rw[cX,KC];omega⟩
abbrev w9 (c:Cl):Prop:=Dn c.1∧c.2.length≤7∧∀x∈c.2,Dn x
theorem HA{l:List UInt8}(hl:l.length≤1000){c:Cl}{e:Nat}(h:qO l=some (c,e)):0<e∧e≤l.length∧w9 c:=by
 unfold qO at h
 split at h
 · cases h
 rename_i t e1 h1
 obtain⟨h2,h3,h4⟩:=yC hl _ _ _ 0 t e1 (f9 _) h1
 split at h
 · rename_i h5
   rw[bG] at h5
   have h6:=mR h5.2
   split at h
   · cases h
   rename_i b e2 h7
   obtain⟨g1,g2,g3,g4⟩:=HQ hl _ _ _ _ _ (by omega) (by simp) h7
   cases h
   exact⟨by omega,g2,h4,by rw[aW] at g4;show b.length≤7;omega,g3⟩
 · cases h
   exact⟨h2,h3,h4,by show 0≤7;omega,by intro x hx;cases hx⟩
theorem aGD{l:List UInt8}{c:Cl}(h:mV l=some c):w9 c∧lA c=true:=by
 unfold mV at h
 split at h
 · cases h
 rename_i c' e h1
 split at h
 · rename_i h2
   cases h
   refine⟨(HA h2.1 h1).2.2,?_⟩
   have h3:=h2.2.2.2
   unfold tX at h3
   split at h3
   · assumption
   · have:=qP List.length h3
     simp at this
     omega
 · cases h
theorem SV(c:Nat):∀(l acc:List UInt8),lC c l acc≠[]
 | [],acc=>by simp [lC]
 | x::l,acc=>by unfold lC;split<;>simp [SV c l]
theorem LX(c:Nat):∀(l acc:List UInt8),(lC c l acc).length≤l.length+1
 | [],acc=>by simp [lC]
 | x::l,acc=>by unfold lC;split;have:=LX c l [];simp only[aY];omega;have:=LX c l (acc++ [x]);simp only[aY];omega
end Go.AW
namespace Go.AW
open Go.Proofs.Tryz
theorem SM{t:Tm}(h:Ws t∧t.nodes≤120)(st:aA):aD prog 210 [t.av] st (fun r st'=>r=.str (jX t)∧st'=st):=LH 130 t st h.1 (by omega) (by omega)
theorem JV{t:Tm}(h:Ws t∧t.nodes≤120):(jX t).size≤3840:=by have:=wI 130 t h.1;unfold jX;omega
abbrev JG:=zi aX (zi cG (zi cI (zi cK m9)))
set_option maxHeartbeats 1000000 in
theorem R6(c:Cl)(hc:(Ws c.1∧c.1.nodes≤120)∧c.2.length≤6∧∀x∈c.2,Ws x∧x.nodes≤120)(st:aA):aD prog 173 [aF c] st (fun r st'=>r=.str (z8 c)∧st'=st):=by
 obtain⟨⟨k,n,s,ks⟩,ts⟩:=c
 obtain⟨hh,hl,hb⟩:=hc
 simp only at hh hl hb
 have hhd:=fun st=>SM hh st
 have hhs:=JV hh
 unfold z8
 simp only
 generalize jX (.mk k n s ks)=H at *
 simp only[bY] at hhd
 simp only[iO]
 have hm:maxLen=9223372036854775807:=by rfl
 refine wF [1000000] 1 func173 ntmps173 rfl rfl ?_
 intro _
 simp only[aB,seval,JG]
 refine(hhd _).to ?_
 simp only[aB,seval]
 refine d7 (σ:=Unit) [1000000] [1,2] ts (fun i _=>True) (fun i _=>[(3,.str (oK jX H (ts.take i))),(4,.int .i64 i)]) (fun _ _=>st) (by decide +kernel) ⟨(),trivial,aP.mk (by simp only[mK,aB,↓a9,seval]<;>rfl)⟩ (fun i x _ hx hlt bN hdr hinv=>?_) (fun _ hge hinv=>?_)
 case refine_2=>
  rw[dR]
  have hsz:=Q1 (T:=jX) (h:=H) (l:=ts) (m:=3840) fun x hx=>JV (hb x hx)
  have hs:(oK jX H ts).size+(⟨#[46]⟩:ByteArray).size≤maxLen:=by
   have:ts.length*(3840+2)≤6*3842:=u9 _ hl
   show _+1≤_;omega
  simp only[aE,hge,hs,↓reduceIte,aB,seval,JG]
 have hxm:=cQ hx
 have c1:=fun st=>SM (hb x hxm) st
 have c2:=JV (hb x hxm)
 have hw:=bH (n:=(i:Int)+1)
 have hat:=bR (av:=Tm.av) cF hx (aQ x)
 have gC:=aL3 (T:=jX) (h:=H) hx
 have hsz:=Q1 (T:=jX) (h:=H) (l:=ts.take i) (m:=3840) fun y hy=>JV (hb y (mJ hy))
 have hln:(ts.take i).length*(3840+2)≤6*3842:=u9 _ (by rw[dE];omega)
 generalize oK jX H (ts.take i)=B at *
 generalize jX x=X at *
 have hs1:B.size+(⟨#[44]⟩:ByteArray).size≤maxLen:=by show _+1≤_;omega
 have hs2:(B++(⟨#[44]⟩:ByteArray)).size+X.size≤maxLen:=by rw[cC];show _+1+_≤_;omega
 have hs3:B.size+(⟨#[58,45]⟩:ByteArray).size≤maxLen:=by show _+2≤_;omega
 have hs4:(B++(⟨#[58,45]⟩:ByteArray)).size+X.size≤maxLen:=by rw[cC];show _+2+_≤_;omega
 by_cases h0:i=0
 · rw[aN h0] at gC
   have h0':((i:Int)=0)=True:=bP (by omega)
   simp only[aE,hat,bM,aQ,bN,h0',hs3,↓reduceIte,aV,aB,seval,JG]
   refine(c1 _).to ?_
   simp only[hs4,↓reduceIte,aB,seval]
   exact⟨(),aP.mk (by simp only[hw,gC,↓reduceIte,aB,seval])⟩
 · rw[aH h0] at gC
   have h0':((i:Int)=0)=False:=bB (by omega)
   simp only[aE,hat,bM,aQ,bN,h0',hs1,↓reduceIte,aV,a8,aB,seval,JG]
   refine(c1 _).to ?_
   simp only[hs2,↓reduceIte,aB,seval]
   exact⟨(),aP.mk (by simp only[hw,gC,↓reduceIte,aB,seval])⟩
abbrev O0:=zi cD (zi cG m9)
theorem K9(c:Cl)(st:aA):aD prog 132 [aF c] st (fun r st'=>r=.str (tX c)∧st'=st):=by
 have hv:=SH c
 unfold tX
 cases h:lA c with
 | true=>
  rw[h] at hv
  have ht:=R6 c (aO5 h)
  rw[aN rfl]
  obtain⟨⟨k,n,s,ks⟩,ts⟩:=c
  simp only[iO] at hv ht ⊢
  refine wF [1000000] 1 func132 ntmps132 rfl rfl ?_
  intro _
  simp only[aB,seval,O0]
  refine(hv _).to ?_
  simp only[aB,seval,O0]
  refine(ht _).to ?_
  simp only[aB,seval]
 | false=>
  rw[h] at hv
  rw[aH (by decide)]
  obtain⟨⟨k,n,s,ks⟩,ts⟩:=c
  simp only[iO] at hv ⊢
  refine wF [1000000] 1 func132 ntmps132 rfl rfl ?_
  intro _
  simp only[aB,seval,O0]
  refine(hv _).to ?_
  simp only[aB,seval]
theorem SG{s:ByteArray}(hs:s.size≤1000)(a:Nat)(ha:a≤s.size)(st:aA):aD prog 129 [.str s,.int .i64 (a:Int),.int .i64 30,.int .i64 3] st (fun r st'=>kX (E2 (sb s) a) r∧st'=st):=
 aNT hs (4*(sb s).length+4) 30 a 3 st ha (by omega) (by omega) (by rw[bX];omega)
def qC(o:Option (List Tm×Nat))(r:AV):Prop:=match o with | some (ts,e)=>r=.tup [.slice (ts.map Tm.av),.int .i64 (e:Int)] | none=>r=.tup [.slice [],.int .i64 (-1)]
abbrev OZ:=zi aX (zi cD (zi gE (zi uU (zi cG (zi cI (zi JH (zi cK lZ)))))))
set_option maxHeartbeats 1000000 in
theorem RZ{s:ByteArray}(hs:s.size≤1000)(a:Nat)(ha:a≤s.size)(st:aA):aD prog 131 [.str s,.int .i64 (a:Int)] st (fun r st'=>qC (qR (sb s) 7 a []) r∧st'=st):=by
 generalize hT:qR (sb s) 7 a []=T
 refine aD.drop (Q:=qC T) (aD.fin ?_)
 refine wF [1000000] 2 func131 ntmps131 rfl rfl ?_
 intro _
 simp only[aB,seval,OZ]
 refine gW (σ:=Nat×List Tm×Nat×Nat) [1000000] [0] (fun x=>qR (sb s) x.2.2.1 x.1 x.2.1=T∧x.1≤s.size∧x.2.1.length+x.2.2.1=7∧(x.2.1.map Tm.av≠[]→st x.2.2.2=none)) (fun x=>[(1,.int .i64 (x.1:Int)),(4,.fslice []),(5,.int .i64 0),(6,bQ 4 x.2.2.2 (x.2.1.map Tm.av))]) (fun x=>aU st x.2.2.2 (x.2.1.map Tm.av)) (fun x=>x.2.2.1) (by decide +kernel) ⟨(a,[],7,0),⟨hT,ha,rfl,by simp⟩,aP.mk (by simp only[bD,jM,aB,seval])⟩ ?_
 rintro⟨i,acc,m,b⟩ ⟨ht,hi,hlen,hb⟩
 simp only at ht hi hlen hb ⊢
 have fin:∀(l:List Tm) (b':Nat) (r':AV),(l.map Tm.av≠[]→st b'=none)→qC T (r'.fin b' (l.map Tm.av))→∃b2 l2 s0,aU st b' (l.map Tm.av)=aU s0 b2 l2∧(l2≠[]→s0 b2=none)∧(∀e∈l2,e.bO=false)∧gN l2∧aJ s0 st∧qC T (r'.fin b2 l2):=fun l b' r' h1 h2=>⟨b',_,st,rfl,h1,n8 _,⟨4,gF _⟩,aJ.refl _,h2⟩
 have hTn:T=none→∀(b':Nat) (l:List AV),qC T ((AV.tup [.fslice [],.int .i64 (-1)]).fin b' l):=by
  rintro rfl b' l
  simp only[qC,eW,fX,lD,bF,bD]
 have hln:(acc.map Tm.av).length=acc.length:=aE _
 have hal:=DM (P:=prog) (b:=b) (w:=4) (l:=acc.map Tm.av) aYE
 rw[hln] at hal
 by_cases h6:acc.length≤6
 case neg=>
  have h6':((acc.length:Int)≤6)=False:=bB (by omega)
  obtain rfl:m=0:=by omega
  simp only[hal,h6',a8,aB,seval]
  exact fin _ _ _ hb (hTn ht.symm _ _)
 have h6':((acc.length:Int)≤6)=True:=bP (by omega)
 obtain⟨m,rfl⟩:∃m',m=m'+1:=⟨m - 1,by omega⟩
 simp only[qR] at ht
 simp only[hal,h6',aV,aB,seval]
 refine(SG hs i hi _).mono ?_
 rintro r _ ⟨hr,rfl⟩
 cases hRi:E2 (sb s) i with
 | none=>
  rw[hRi] at ht hr
  obtain⟨k,hk,rfl⟩:=hr
  have hk0:((-1 - (k:Int))<0)=True:=bP (by omega)
  simp only[aQ,cO,cR,hk0,kA,aV,aB,↓a9,seval,OZ]
  exact fin _ _ _ hb (hTn ht.symm _ _)
 | some p=>
  obtain⟨t,e⟩:=p
  rw[hRi] at ht hr
  simp only at ht
  obtain⟨g1,g2,g3⟩:=yC (by rw[bX];exact hs) _ _ _ i t e (by rw[bX];exact hi) hRi
  rw[bX] at g2
  simp only[kX] at hr
  subst hr
  have he0:((e:Int)<0)=False:=bB (by omega)
  simp only[bM,aQ,cO,cR,he0,fM,rE,a8,aB,↓a9,seval,OZ]
  refine eE cF kL kM rfl rfl (gZ (aQ _) (cO _)) (gF _) hb (by simp only[aE,aY,aW];omega) (by simp only[aE,aY,aW];omega) (fun b' hb'=>?_)
  rw[show acc.map Tm.av++ [t.av]=(acc++ [t]).map Tm.av by simp] at hb' ⊢
  have hw1:=bH (n:=(e:Int)+1)
  simp only[aB,seval]
  refine(jU s e 44 _).to ?_
  cases h3:cA (sb s) e 44 with
  | true=>
   have h4:=mR h3
   rw[bX] at h4
   rw[h3,aN rfl] at ht
   simp only[hw1,aB,seval]
   refine⟨(e+1,acc++ [t],m,b'),by simp only;omega,⟨ht,by simp only;omega,by simp only[cX,aY,aW];omega,hb'⟩,aP.mk (by simp only[aB,seval]<;>rfl)⟩
  | false=>
   rw[h3,aH (by decide)] at ht
   simp only[jL,fM,rE,aB,seval]
   refine fin _ _ _ hb' ?_
   subst ht
   simp only[qC,eW,fX,jD,bF,bD]
abbrev cl0:Cl:=(FP,[])
def wL(o:Option Cl):AV:=match o with | some c=>.tup [aF c,.bool true] | none=>.tup [aF cl0,.bool false]
theorem pM:(AV.tup [.agg [.int .i64 0,.int .i64 0,.str ⟨#[]⟩,.fslice [],.fslice []],.bool false]).soft=wL none:=by simp only[wL,iO,jF,jW,jG,q0,mZ,mY,bF,bD]
theorem LU(c:Cl):(AV.tup [aF c,.bool true]).soft=wL (some c):=by
 obtain⟨⟨k,n,s,ks⟩,ts⟩:=c
 simp only[wL,iO,jF,jW,jG,q0,mZ,oZ,bF,bD]
theorem uL{l:List UInt8}{c:Cl}{e:Nat}(h:qO l=some (c,e))(h1:¬(l.length≤1000∧e+1=l.length∧cA l e 46=true∧sb (tX c)=l)):mV l=none:=by
 unfold mV
 rw[h]
 simp only
 rw[aH h1]
theorem NN{l:List UInt8}{c:Cl}{e:Nat}(h:qO l=some (c,e))(h1:l.length≤1000∧e+1=l.length∧cA l e 46=true∧sb (tX c)=l):mV l=some c:=by
 unfold mV
 rw[h]
 simp only
 rw[aN h1]
theorem N3{a b:ByteArray}(h:sb a=sb b):a=b:=by rw[←QW a,←QW b,h]
abbrev gV:=zi aX (zi cD (zi gE (zi uU (zi cG (zi cI (zi JH (zi cK m9)))))))
set_option maxHeartbeats 2000000 in
theorem aMK(s:ByteArray)(st:aA):aD prog 83 [.str s] st (fun r st'=>r=wL (mV (sb s))∧st'=st):=by
 refine aD.done ?_
 refine wF [1000000,6] 1 func83 ntmps83 rfl rfl ?_
 intro _
 simp only[aB,seval,gV]
 intro b2 hb2
 have hD:=fun(o:AO)=>(aJ.refl st).aC (o:=o) hb2
 by_cases hs:s.size≤1000
 case neg=>
  have hs':((1000:Int)<(s.size:Int))=True:=bP (by omega)
  have hP:mV (sb s)=none:=by
   unfold mV
   split
   · rfl
   · rw[aH fun h=>hs (by rw[←bX];exact h.1)]
  rw[hP]
  simp only[aG,hs',aV,aB,seval,gV]
  exact⟨pM,hD _⟩
 have hs':((1000:Int)<(s.size:Int))=False:=bB (by omega)
 have h0:=fun st=>SG hs 0 (f9 _) st
 rw[show((0:Nat):Int)=0 from rfl] at h0
 simp only[hs',a8,aB,seval]
 refine(h0 _).mono ?_
 rintro r _ ⟨hr,rfl⟩
 cases hRi:E2 (sb s) 0 with
 | none=>
  have hP:mV (sb s)=none:=by unfold mV qO;rw[hRi]
  rw[hP]
  rw[hRi] at hr
  obtain⟨k,hk,rfl⟩:=hr
  have hk0:((-1 - (k:Int))<0)=True:=bP (by omega)
  simp only[aG,aQ,cO,cR,hk0,kA,aV,aB,↓a9,seval,gV]
  exact⟨pM,hD _⟩
 | some p=>
  obtain⟨⟨hk,hn,hsn,hts⟩,e⟩:=p
  rw[hRi] at hr
  simp only[kX,bY] at hr
  subst hr
  obtain⟨g1,g2,g3⟩:=yC (by rw[bX];exact hs) _ _ _ 0 _ e (f9 _) hRi
  rw[bX] at g2
  have he0:((e:Int)<0)=False:=bB (by omega)
  obtain⟨f1,hf1⟩:∃f1,f1=e+1:=⟨_,rfl⟩
  obtain⟨f2,hf2⟩:∃f2,f2=e+2:=⟨_,rfl⟩
  have hw1:=iX (x:=(e:Int)+1) (m:=f1) (by omega) (by omega)
  have hw2:=iX (x:=(e:Int)+2) (m:=f2) (by omega) (by omega)
  simp only[aG,he0,a8,aB,↓a9,seval,gV]
  intro b6 h6
  have hbb:b6≠b2:=fun h=>by rw[h,aA.aK] at h6;cases h6
  have h6':st b6=none:=by rwa [aA.aO _ _ hbb] at h6
  have hE:∀o1 o2 o3,aJ (((st.aC b2 o1).aC b6 o2).aC b2 o3) st:=fun o1 o2 o3=>((hD _).aC h6').aC hb2
  refine(jU s e 58 _).to ?_
  by_cases hbd:(cA (sb s) e 58&&cA (sb s) (e+1) 45)=true
  case neg=>
   obtain⟨b,hb⟩:∃b:List Tm,b= []:=⟨_,rfl⟩
   have hcl:qO (sb s)=some ((.mk hk hn hsn hts,b),e):=by
    unfold qO
    rw[hRi,hb]
    simp only
    rw[aH hbd]
   obtain⟨e2,he2⟩:∃e2,e2=e:=⟨_,rfl⟩
   rw[←he2] at hcl
   cases h58:cA (sb s) e 58 with
   | false=>
    simp only[aB,seval,gV]
    rw[←he2]
    have hdn:=(HA (by rw[bX];exact hs) hcl).2.2
    have hwl:=bH (n:=(s.size:Int) - 1)
    by_cases he:e2+1=s.size
    case neg=>
     rw[uL hcl (fun h=>he (by rw[bX] at h;exact h.2.1))]
     have he':((e2:Int)=(s.size:Int) - 1)=False:=bB (by omega)
     simp only[aG,hwl,he',hbb.symm,a8,aB,seval,gV]
     exact⟨pM,hE _ _ _⟩
    have he':((e2:Int)=(s.size:Int) - 1)=True:=bP (by omega)
    simp only[hwl,he',aV,aB,seval]
    refine(jU s e2 46 _).to ?_
    cases hd:cA (sb s) e2 46 with
    | false=>
     rw[uL hcl (fun h=>by rw[hd] at h;exact absurd h.2.2.1 (by decide))]
     simp only[aG,hbb.symm,aB,seval,gV]
     exact⟨pM,hE _ _ _⟩
    | true=>
     simp only[aB,seval,gV]
     refine(aD.nY (by rw[show fT [AV.agg [.int .i64 hk,.int .i64 hn,.str hsn,.slice (hts.map Tm.av),.fslice []]]= [aF (.mk hk hn hsn hts,b)] by simp only[fT,iO,hb,jF,jG,mZ,oZ,mY,bF,bD]];exact K9 (.mk hk hn hsn hts,b) _):aD prog 132 _ _ _).to ?_
     by_cases hf:tX (.mk hk hn hsn hts,b)=s
     case neg=>
      rw[uL hcl (fun h=>hf (N3 h.2.2.2))]
      have hf':=bB hf
      simp only[aG,hf',hbb.symm,a8,aB,seval,gV]
      exact⟨pM,hE _ _ _⟩
     rw[NN hcl ⟨by rw[bX];exact hs,by rw[bX];exact he,hd,by rw[hf]⟩]
     have hf':=bP hf
     simp only[hf',aV,aB,seval,gV]
     refine(aD.nY (by rw[show fT [AV.agg [.int .i64 hk,.int .i64 hn,.str hsn,.slice (hts.map Tm.av),.fslice []]]= [aF (.mk hk hn hsn hts,b)] by simp only[fT,iO,hb,jF,jG,mZ,oZ,mY,bF,bD]];exact z4 (.mk hk hn hsn hts,b) hdn.1.2 (by have:=hdn.2.1;omega) (fun x hx=>(hdn.2.2 x hx).2) _):aD prog 62 _ _ _).to ?_
     rw[iO]
     simp only[aG,hbb.symm,aB,seval,gV]
     rw[←iO]
     exact⟨LU _,hE _ _ _⟩
   | true=>
    simp only[hw1,aB,seval]
    refine(jU s f1 45 _).to ?_
    rw[h58,dH,←hf1] at hbd
    rw[show cA (sb s) f1 45=false by simpa using hbd]
    simp only[aB,seval,gV]
    rw[←he2]
    have hdn:=(HA (by rw[bX];exact hs) hcl).2.2
    have hwl:=bH (n:=(s.size:Int) - 1)
    by_cases he:e2+1=s.size
    case neg=>
     rw[uL hcl (fun h=>he (by rw[bX] at h;exact h.2.1))]
     have he':((e2:Int)=(s.size:Int) - 1)=False:=bB (by omega)
     simp only[aG,hwl,he',hbb.symm,a8,aB,seval,gV]
     exact⟨pM,hE _ _ _⟩
    have he':((e2:Int)=(s.size:Int) - 1)=True:=bP (by omega)
    simp only[hwl,he',aV,aB,seval]
    refine(jU s e2 46 _).to ?_
    cases hd:cA (sb s) e2 46 with
    | false=>
     rw[uL hcl (fun h=>by rw[hd] at h;exact absurd h.2.2.1 (by decide))]
     simp only[aG,hbb.symm,aB,seval,gV]
     exact⟨pM,hE _ _ _⟩
    | true=>
     simp only[aB,seval,gV]
     refine(aD.nY (by rw[show fT [AV.agg [.int .i64 hk,.int .i64 hn,.str hsn,.slice (hts.map Tm.av),.fslice []]]= [aF (.mk hk hn hsn hts,b)] by simp only[fT,iO,hb,jF,jG,mZ,oZ,mY,bF,bD]];exact K9 (.mk hk hn hsn hts,b) _):aD prog 132 _ _ _).to ?_
     by_cases hf:tX (.mk hk hn hsn hts,b)=s
     case neg=>
      rw[uL hcl (fun h=>hf (N3 h.2.2.2))]
      have hf':=bB hf
      simp only[aG,hf',hbb.symm,a8,aB,seval,gV]
      exact⟨pM,hE _ _ _⟩
     rw[NN hcl ⟨by rw[bX];exact hs,by rw[bX];exact he,hd,by rw[hf]⟩]
     have hf':=bP hf
     simp only[hf',aV,aB,seval,gV]
     refine(aD.nY (by rw[show fT [AV.agg [.int .i64 hk,.int .i64 hn,.str hsn,.slice (hts.map Tm.av),.fslice []]]= [aF (.mk hk hn hsn hts,b)] by simp only[fT,iO,hb,jF,jG,mZ,oZ,mY,bF,bD]];exact z4 (.mk hk hn hsn hts,b) hdn.1.2 (by have:=hdn.2.1;omega) (fun x hx=>(hdn.2.2 x hx).2) _):aD prog 62 _ _ _).to ?_
     rw[iO]
     simp only[aG,hbb.symm,aB,seval,gV]
     rw[←iO]
     exact⟨LU _,hE _ _ _⟩
  rw[bG,←hf1] at hbd
  have aS4:=mR hbd.2
  rw[bX] at aS4
  rw[hbd.1]
  simp only[hw1,aB,seval]
  refine(jU s f1 45 _).to ?_
  rw[hbd.2]
  simp only[hw2,aB,seval]
  refine(RZ hs f2 (by omega) _).mono ?_
  rintro r _ ⟨hr,rfl⟩
  cases hG:qR (sb s) 7 f2 [] with
  | none=>
   have hP:mV (sb s)=none:=by
    unfold mV qO
    rw[hRi]
    simp only
    rw[aN (by rw[←hf1,hbd.1,hbd.2];try rfl),←hf2,hG]
   rw[hP]
   rw[hG] at hr
   simp only[qC] at hr
   subst hr
   have hwl:=bH (n:=(s.size:Int) - 1)
   have he':((-1:Int)=(s.size:Int) - 1)=False:=bB (by omega)
   simp only[aG,hwl,he',hbb.symm,a8,aB,seval,gV]
   exact⟨pM,hE _ _ _⟩
  | some p=>
   obtain⟨b,e2⟩:=p
   rw[hG] at hr
   simp only[qC] at hr
   subst hr
   have hcl:qO (sb s)=some ((.mk hk hn hsn hts,b),e2):=by
    unfold qO
    rw[hRi]
    simp only
    rw[aN (by rw[←hf1,hbd.1,hbd.2];try rfl),←hf2,hG]
   have hg2:=HQ (by rw[bX];exact hs) _ _ _ _ _ (by rw[bX];omega) (by simp) hG
   rw[bX] at hg2
   simp only[aG,aB,seval,gV]
   have hdn:=(HA (by rw[bX];exact hs) hcl).2.2
   have hwl:=bH (n:=(s.size:Int) - 1)
   by_cases he:e2+1=s.size
   case neg=>
    rw[uL hcl (fun h=>he (by rw[bX] at h;exact h.2.1))]
    have he':((e2:Int)=(s.size:Int) - 1)=False:=bB (by omega)
    simp only[aG,hwl,he',hbb.symm,a8,aB,seval,gV]
    exact⟨pM,hE _ _ _⟩
   have he':((e2:Int)=(s.size:Int) - 1)=True:=bP (by omega)
   simp only[hwl,he',aV,aB,seval]
   refine(jU s e2 46 _).to ?_
   cases hd:cA (sb s) e2 46 with
   | false=>
    rw[uL hcl (fun h=>by rw[hd] at h;exact absurd h.2.2.1 (by decide))]
    simp only[aG,hbb.symm,aB,seval,gV]
    exact⟨pM,hE _ _ _⟩
   | true=>
    simp only[aB,seval,gV]
    refine(aD.nY (by rw[show fT [AV.agg [.int .i64 hk,.int .i64 hn,.str hsn,.slice (hts.map Tm.av),.slice (b.map Tm.av)]]= [aF (.mk hk hn hsn hts,b)] by simp only[fT,iO,AV.soft]];exact K9 (.mk hk hn hsn hts,b) _):aD prog 132 _ _ _).to ?_
    by_cases hf:tX (.mk hk hn hsn hts,b)=s
    case neg=>
     rw[uL hcl (fun h=>hf (N3 h.2.2.2))]
     have hf':=bB hf
     simp only[aG,hf',hbb.symm,a8,aB,seval,gV]
     exact⟨pM,hE _ _ _⟩
    rw[NN hcl ⟨by rw[bX];exact hs,by rw[bX];exact he,hd,by rw[hf]⟩]
    have hf':=bP hf
    simp only[hf',aV,aB,seval,gV]
    refine(aD.nY (by rw[show fT [AV.agg [.int .i64 hk,.int .i64 hn,.str hsn,.slice (hts.map Tm.av),.slice (b.map Tm.av)]]= [aF (.mk hk hn hsn hts,b)] by simp only[fT,iO,AV.soft]];exact z4 (.mk hk hn hsn hts,b) hdn.1.2 (by have:=hdn.2.1;omega) (fun x hx=>(hdn.2.2 x hx).2) _):aD prog 62 _ _ _).to ?_
    rw[iO]
    simp only[aG,hbb.symm,aB,seval,gV]
    rw[←iO]
    exact⟨LU _,hE _ _ _⟩

end Go.AW
namespace Go.AW
def FU:List ByteArray:=[⟨#[97,112,112,40,91,93,44,65,44,65,41,46,10,97,112,112,40,91,65,124,66,93,44,67,44,91,65,124,68,93,41,58,45,97,112,112,40,66,44,67,44,68,41,46,10]⟩,
 ⟨#[109,101,109,40,65,44,91,65,124,66,93,41,46,10,109,101,109,40,65,44,91,66,124,67,93,41,58,45,109,101,109,40,65,44,67,41,46,10]⟩,
 ⟨#[112,40,49,41,46,10,112,40,50,41,46,10,112,40,51,41,46,10,113,40,65,41,58,45,112,40,65,41,44,65,62,49,44,33,46,10,114,40,65,44,66,41,58,45,112,40,65,41,44,112,40,66,41,46,10]⟩,
 ⟨#[108,101,110,40,91,93,44,48,41,46,10,108,101,110,40,91,65,124,66,93,44,67,41,58,45,108,101,110,40,66,44,68,41,44,67,32,105,115,32,68,43,49,46,10]⟩,
 ⟨#[109,97,120,40,65,44,66,44,65,41,58,45,65,62,61,66,44,33,46,10,109,97,120,40,65,44,66,44,66,41,46,10]⟩,
 ⟨#[101,40,97,44,98,41,46,10,101,40,98,44,99,41,46,10,101,40,99,44,100,41,46,10,116,40,65,44,66,41,58,45,101,40,65,44,66,41,46,10,116,40,65,44,66,41,58,45,101,40,65,44,67,41,44,116,40,67,44,66,41,46,10]⟩,
 ⟨#[108,111,111,112,58,45,108,111,111,112,46,10,111,107,46,10]⟩,
 ⟨#[102,97,99,40,48,44,49,41,58,45,33,46,10,102,97,99,40,65,44,66,41,58,45,65,62,48,44,67,32,105,115,32,65,45,49,44,102,97,99,40,67,44,68,41,44,66,32,105,115,32,65,42,68,46,10]⟩,
 ⟨#[115,40,65,41,58,45,65,61,102,40,66,41,44,97,114,103,40,49,44,65,44,66,41,44,66,61,49,46,10,115,40,65,41,58,45,118,97,114,40,65,41,44,65,61,110,111,110,101,46,10]⟩,
 ⟨#[114,101,118,40,91,93,44,65,44,65,41,46,10,114,101,118,40,91,65,124,66,93,44,67,44,68,41,58,45,114,101,118,40,66,44,91,65,124,67,93,44,68,41,46,10]⟩,
 ⟨#[98,97,100,40,65,41,58,45,66,32,105,115,32,65,43,102,111,111,44,67,61,66,46,10,98,105,103,40,65,41,58,45,65,32,105,115,32,57,57,57,43,49,46,10,117,110,40,65,41,58,45,110,111,115,117,99,104,40,65,41,46,10]⟩]
def PD:List ByteArray:=[⟨#[97,112,112,40,65,44,66,44,91,49,44,50,93,41]⟩,
 ⟨#[97,112,112,40,91,49,93,44,91,50,93,44,65,41]⟩,
 ⟨#[109,101,109,40,65,44,91,97,44,98,44,99,93,41]⟩,
 ⟨#[113,40,65,41]⟩,
 ⟨#[114,40,65,44,66,41,44,65,62,66]⟩,
 ⟨#[108,101,110,40,91,97,44,98,44,99,93,44,65,41]⟩,
 ⟨#[109,97,120,40,51,44,50,44,65,41]⟩,
 ⟨#[109,97,120,40,65,44,50,44,51,41]⟩,
 ⟨#[116,40,97,44,65,41]⟩,
 ⟨#[108,111,111,112]⟩,
 ⟨#[111,107,44,33]⟩,
 ⟨#[102,97,99,40,52,44,65,41]⟩,
 ⟨#[115,40,65,41]⟩,
 ⟨#[114,101,118,40,91,49,44,50,44,51,93,44,91,93,44,65,41]⟩,
 ⟨#[98,97,100,40,65,41]⟩,
 ⟨#[98,105,103,40,65,41]⟩,
 ⟨#[117,110,40,65,41]⟩,
 ⟨#[112,40,65,41,44,33,44,112,40,66,41]⟩,
 ⟨#[65,61,102,40,66,44,67,41,44,97,114,103,40,49,44,65,44,68,41]⟩,
 ⟨#[109,101,109,40,65,44,91,49,44,50,93,41,44,109,101,109,40,66,44,91,65,44,51,93,41]⟩,
 ⟨#[65,32,105,115,32,51,47,47,48]⟩,
 ⟨#[116,114,117,101]⟩,
 ⟨#[109,101,109,40,65,44,66,41]⟩,
 ⟨#[112,40,65,41,44,65,92,61,50]⟩]
def CF:List (List ByteArray):=[[⟨#[97,112,112,40,65,44,66,44,91,49,44,50,93,41]⟩,⟨#[97,112,112,40,91,49,93,44,91,50,124,65,93,44,66,41]⟩,⟨#[97,112,112,40,65,44,91,49,93,44,65,41]⟩],
 [⟨#[109,101,109,40,65,44,91,97,44,98,44,99,93,41]⟩,⟨#[109,101,109,40,65,44,91,49,44,50,93,41,44,109,101,109,40,66,44,91,65,44,51,93,41]⟩,⟨#[109,101,109,40,65,44,66,41]⟩],
 [⟨#[113,40,65,41]⟩,⟨#[114,40,65,44,66,41,44,65,62,66]⟩,⟨#[112,40,65,41,44,33,44,112,40,66,41]⟩,⟨#[114,40,65,44,65,41]⟩],
 [⟨#[108,101,110,40,91,97,44,98,44,99,93,44,65,41]⟩,⟨#[108,101,110,40,65,44,50,41]⟩],
 [⟨#[109,97,120,40,51,44,50,44,65,41]⟩,⟨#[109,97,120,40,65,44,50,44,51,41]⟩,⟨#[109,97,120,40,49,44,50,44,65,41]⟩],
 [⟨#[116,40,97,44,65,41]⟩,⟨#[116,40,65,44,100,41]⟩,⟨#[101,40,65,44,66,41]⟩],
 [⟨#[108,111,111,112]⟩,⟨#[111,107,44,33]⟩,⟨#[111,107,44,108,111,111,112]⟩],
 [⟨#[102,97,99,40,52,44,65,41]⟩,⟨#[102,97,99,40,48,44,65,41]⟩,⟨#[102,97,99,40,55,44,65,41]⟩],
 [⟨#[115,40,65,41]⟩,⟨#[115,40,66,41,44,66,61,102,40,49,41]⟩],
 [⟨#[114,101,118,40,91,49,44,50,44,51,93,44,91,93,44,65,41]⟩,⟨#[114,101,118,40,65,44,91,93,44,91,49,93,41]⟩],
 [⟨#[98,97,100,40,65,41]⟩,⟨#[98,105,103,40,65,41]⟩,⟨#[117,110,40,65,41]⟩]]
def NM(s:ByteArray):Bool:=decide (s.size≤200)&&match nW (sb s) with | some l=>decide (2≤l.length)&&decide (l.length≤20) | none=>false
theorem aYC:FU.all NM=true:=by decide +kernel
theorem aYD:FU.all (fun s=>match nW (sb s) with | some l=>gK l | none=>false)=true:=by decide +kernel
theorem aYA:CF.all (fun l=>decide (1≤l.length)&&l.all (fun s=>decide (s.size≤1000)))=true:=by decide +kernel
theorem aYB(y:List ByteArray)(h:y∈CF):y.length≤4:=by
 have h2:(CF.all fun l=>decide (l.length≤4))=true:=by decide +kernel
 simpa using dD.1 h2 y h
end Go.AW
namespace Go.AW
open Go.Proofs.Tryz
def kS(p:List UInt8):AV:=.str (ba p)
theorem aGF(l:List (List UInt8)):∀e∈l.map kS,e.width=1:=by intro e h;simp only[cL] at h;obtain⟨t,_,rfl⟩:=h;rfl
theorem aVM(l:List (List UInt8)):∀e∈l.map kS,e.bO=false:=by intro e h;simp only[cL] at h;obtain⟨t,_,rfl⟩:=h;rfl
abbrev FJ:=zi aX (zi gE (zi cG sQ))
set_option maxHeartbeats 1000000 in
theorem aM8(s:ByteArray)(c:Nat)(hs:s.size≤1048576)(st:aA):aD prog 82 [.str s,.int .u8 (c:Int)] st (fun r st'=>r=.slice ((lC c (sb s) []).map kS)∧st'=st):=by
 generalize hT:lC c (sb s) []=T
 refine aD.kK (aD.fin ?_)
 refine wF [1000000] 2 func82 ntmps82 rfl rfl ?_
 intro _
 simp only[aB,seval,FJ]
 refine gW (σ:=List (List UInt8)×Nat×Nat×Nat) [1000000] [0,1,4] (fun x=>((x.2.2.1≤s.size∧x.2.1≤x.2.2.1∧x.1++lC c ((sb s).drop x.2.2.1) (((sb s).drop x.2.1).take (x.2.2.1 - x.2.1))=T)∨(x.2.2.1=s.size+1∧x.2.1≤s.size+1∧x.1=T))∧x.1.length≤x.2.2.1∧(x.1.map kS≠[]→st x.2.2.2=none)) (fun x=>[(5,bQ 1 x.2.2.2 (x.1.map kS)),(6,.int .i64 (x.2.1:Int)),(7,.int .i64 (x.2.2.1:Int))]) (fun x=>aU st x.2.2.2 (x.1.map kS)) (fun x=>s.size+1 - x.2.2.1) (by decide +kernel) ⟨([],0,0,0),⟨Or.inl ⟨f9 _,c6 _,hT⟩,f9 _,by simp⟩,aP.mk (by simp only[bD,jM,aB,↓a9,seval])⟩ ?_
 rintro⟨out,f,i,b⟩ ⟨ht,hlen,hb⟩
 simp only at ht hlen hb ⊢
 by_cases hi:i≤s.size
 case neg=>
  obtain⟨h1,h2,rfl⟩:i=s.size+1∧f≤s.size+1∧out=T:=by
   rcases ht with h | h
   · exact absurd h.1 hi
   · exact h
  have hi':((i:Int)≤(s.size:Int))=False:=bB (by omega)
  simp only[hi',a8,aB,seval,FJ]
  exact⟨b,_,st,rfl,hb,aVM _,⟨1,aGF _⟩,by rw[kY],aJ.refl _⟩
 obtain⟨-,hfi,ht⟩:i≤s.size∧f≤i∧out++lC c ((sb s).drop i) (((sb s).drop f).take (i - f))=T:=by
  rcases ht with h | h
  · exact h
  · omega
 have hi':((i:Int)≤(s.size:Int))=True:=bP (by omega)
 have hw:=bH (n:=(i:Int)+1)
 have hsl:=fun(φ:AF) (y z:Operand) (h:φ.eval y=.int .i64 (f:Int)) (h':φ.eval z=.int .i64 (i:Int))=>E8 (s:=s) h h' hfi hi
 rw[DQ] at hsl
 generalize hp:((sb s).drop f).take (i - f)=p at *
 have aEC:∀(K:AV→aA→Prop),(∀b',((out++ [p]).map kS≠[]→st b'=none)→K (bQ 1 b' ((out++ [p]).map kS)) (aU st b' ((out++ [p]).map kS)))→i8 prog 65 (aU st b (out.map kS)) (bQ 1 b (out.map kS)) (.fslice [.str (ba p)]) K:=by
  intro K hK
  refine eE tS S5 S9 rfl rfl (gZ rfl rfl) (aGF _) hb (by simp only[aE,aY,aW];omega) (by simp only[aE,aY,aW];omega) (fun b' hb'=>?_)
  rw[show out.map kS++ [AV.str (ba p)]=(out++ [p]).map kS by simp [kS]] at hb' ⊢
  exact hK b' hb'
 by_cases hie:i=s.size
 case pos=>
  have H2:((i:Int)=(s.size:Int))=True:=bP (by omega)
  rw[F8 (by rw[bX];omega)] at ht
  simp only[lC] at ht
  simp only[hi',H2,hsl,aV,aB,seval,FJ]
  refine aEC _ fun b' hb'=>?_
  simp only[hw,aB,seval]
  refine⟨(out++ [p],i+1,i+1,b'),by simp only;omega,⟨Or.inr ⟨by simp only;omega,by simp only;omega,ht⟩,by simp only[cX,aY,aW];omega,hb'⟩,aP.mk (by simp only[aB,seval]<;>exact⟨rfl,rfl⟩)⟩
 have H2:((i:Int)=(s.size:Int))=False:=bB (by omega)
 obtain⟨x,hx⟩:=tM (s:=s) (n:=i) (by omega)
 have hix:=pS (P:=prog) (t:=9) oA hx
 obtain⟨hx1,hx2⟩:=gJ.1 hx
 rw[sT hx1,hx2] at ht
 unfold lC at ht
 by_cases hxc:x.toNat=c
 · rw[aN hxc] at ht
   have NA:((x.toNat:Int)=(c:Int))=True:=bP (by omega)
   simp only[hi',H2,hsl,hix,NA,aV,a8,aB,seval,FJ]
   refine aEC _ fun b' hb'=>?_
   simp only[hw,aB,seval]
   refine⟨(out++ [p],i+1,i+1,b'),by simp only;omega,⟨Or.inl ⟨by simp only;omega,c6 _,by rw[←ht];simp⟩,by simp only[cX,aY,aW];omega,hb'⟩,aP.mk (by simp only[aB,seval]<;>exact⟨rfl,rfl⟩)⟩
 · rw[aH hxc] at ht
   have NA:((x.toNat:Int)=(c:Int))=False:=bB (by omega)
   have hp':((sb s).drop f).take (i+1 - f)=p++ [x]:=by
    rw[show i+1 - f=(i - f)+1 by omega,eD,hp,KB,show f+(i - f)=i by omega,hx];try rfl
   simp only[hi',H2,hw,hix,NA,aV,a8,aB,seval,FJ]
   refine⟨(out,f,i+1,b),by simp only;omega,⟨Or.inl ⟨by simp only;omega,by simp only;omega,by simp only;rw[hp'];exact ht⟩,by simp only;omega,hb⟩,aP.mk (by simp only[aB,seval]<;>rfl)⟩
def PV(o:Option (List Cl))(st:aA)(r:AV)(st':aA):Prop:=match o with | some l=>∃b,(l.map aF≠[]→st b=none)∧r=.tup [bQ 5 b (l.map aF),.bool true]∧st'=aU st b (l.map aF) | none=>r=.tup [.fslice [],.bool false]∧st'=st
def zB(o:Option (List Cl))(r:AV):Prop:=match o with | some l=>r=.tup [.slice (l.map aF),.bool true] | none=>r=.tup [.slice [],.bool false]
theorem LS:∀(ls:List (List UInt8)) (acc r:List Cl),(∀c∈acc,w9 c∧lA c=true)→xU ls acc=some r→(∀c∈r,w9 c∧lA c=true)∧r.length=acc.length+ls.length
 | [],acc,r,h,h1=>by cases h1;exact⟨h,rfl⟩
 | l::ls,acc,r,h,h1=>by
  unfold xU at h1
  split at h1
  · cases h1
  rename_i c h2
  have:=LS ls (acc++ [c]) r (by intro x hx;rw[kW,KD] at hx;rcases hx with hx | rfl;exact h x hx;exact aGD h2) h1
  refine⟨this.1,?_⟩
  rw[this.2]
  simp only[cX,aY,aW]
  omega
abbrev wG:=zi aX (zi cD (zi gE (zi uU (zi cG (zi aIF (zi lK (zi m9 sQ)))))))
set_option maxHeartbeats 1000000 in
theorem aML(s:ByteArray)(hs:s.size≤100000)(st:aA):aD prog 31 [.str s] st (PV (nW (sb s)) st):=by
 generalize hP:nW (sb s)=T
 unfold nW at hP
 simp only at hP
 have H0:=fun st=>aM8 s 10 (by omega) st
 rw[show((10:Nat):Int)=10 from rfl] at H0
 have hne:=SV 10 (sb s) []
 have hcl:=LX 10 (sb s) []
 rw[bX] at hcl
 generalize lC 10 (sb s) []=L at *
 obtain⟨m,hm⟩:∃m,L.length=m+1:=⟨L.length - 1,by have:=List.length_pos_iff.2 hne;omega⟩
 obtain⟨y,hy⟩:∃y,L[m]?=some y:=⟨_,d4 (by omega)⟩
 have hgl:L.getLast?=some y:=by rw[PQ,hm];exact hy
 rw[hgl] at hP
 refine aD.pN ?_
 have sB:T=none→∀(b:Nat) (l:List Cl) (s0:aA),(l.map aF≠[]→s0 b=none)→aJ s0 st→∃s2,aJ (aU s0 b (l.map aF)) s2∧PV T st (AV.tup [.fslice [],.bool false]) s2:=by
  rintro rfl b l s0 hb hD
  exact⟨st,hD.aU fun h2=>(hD b).1 (hb h2),rfl,rfl⟩
 refine wF [1000000] 1 func31 ntmps31 rfl rfl ?_
 intro _
 simp only[aB,seval,wG]
 refine(H0 _).to ?_
 have hat:=bR (av:=kS) tS hy rfl
 have hw0:=iX (x:=(L.length:Int) - 1) (m:=m) (by omega) (by omega)
 by_cases h21:21<L.length
 case pos=>
  rw[aN (Or.inl h21)] at hP
  have HS:((21:Int)<(L.length:Int))=True:=bP (by omega)
  simp only[aE,HS,aV,aB,seval,wG]
  exact sB hP.symm 0 [] st (by simp) (aJ.refl _)
 have HS:((21:Int)<(L.length:Int))=False:=bB (by omega)
 by_cases hye:y= []
 case neg=>
  rw[aN (Or.inr (by simpa using hye))] at hP
  have NB:(ba y=⟨#[]⟩)=False:=bB fun h=>hye (by have:=qP sb h;exact this)
  simp only[aE,HS,hw0,hat,kS,NB,a8,aB,seval,wG]
  exact sB hP.symm 0 [] st (by simp) (aJ.refl _)
 rw[aH (by rintro(h | h);exact h21 h;exact h (by rw[hye]))] at hP
 have NB:(ba y=⟨#[]⟩)=True:=bP (by rw[hye])
 simp only[aE,HS,hw0,hat,kS,NB,aV,a8,aB,seval,wG]
 refine gW (σ:=Nat×List Cl×Nat) [1000000] [5] (fun x=>x.1≤m∧xU (L.dropLast.drop x.1) x.2.1=T∧x.2.1.length=x.1∧(∀c∈x.2.1,w9 c)∧(x.2.1.map aF≠[]→st x.2.2=none)) (fun x=>[(2,.fslice []),(3,.bool false),(4,bQ 5 x.2.2 (x.2.1.map aF)),(6,.int .i64 (x.1:Int))]) (fun x=>aU st x.2.2 (x.2.1.map aF)) (fun x=>m - x.1) (by decide +kernel) ⟨(0,[],0),⟨f9 _,hP,rfl,by simp,by simp⟩,aP.mk (by simp only[bD,jM,aB,↓a9,seval])⟩ ?_
 rintro⟨i,acc,b⟩ ⟨hi,ht,hlen,hdn,hb⟩
 simp only at hi ht hlen hdn hb ⊢
 have hdl:L.dropLast.length=m:=by rw[List.length_dropLast,hm];try rfl
 have hw1:=bH (n:=(i:Int)+1)
 by_cases him:i<m
 case neg=>
  have M2:((i:Int)+1<(L.length:Int))=False:=bB (by omega)
  rw[F8 (by omega)] at ht
  simp only[xU] at ht
  simp only[aE,M2,hw1,jL,fM,rE,a8,aB,seval,wG]
  exact⟨_,aJ.refl _,by rw[←ht];exact⟨b,hb,rfl,rfl⟩⟩
 have M2:((i:Int)+1<(L.length:Int))=True:=bP (by omega)
 obtain⟨z,hz⟩:∃z,L[i]?=some z:=⟨_,d4 (by omega)⟩
 have hz2:L.dropLast[i]?=some z:=by rw[List.getElem?_dropLast,aN (by omega)];exact hz
 obtain⟨hz3,hz4⟩:=gJ.1 hz2
 rw[sT hz3,hz4] at ht
 unfold xU at ht
 have EF:=bR (av:=kS) tS hz rfl
 have hpc:=aMK (ba z)
 rw[show sb (ba z)=z from rfl] at hpc
 simp only[aE,M2,hw1,EF,kS,aV,aB,seval,wG]
 refine(hpc _).to ?_
 cases hc:mV z with
 | none=>
  rw[hc] at ht
  simp only[wL,iO,aB,↓a9,seval,wG]
  exact sB ht.symm b acc st hb (aJ.refl _)
 | some c=>
  rw[hc] at ht
  simp only at ht
  have hcd:=(aGD hc).1
  have hca:=rY c
  have hcw:=jC c
  have hcj:=D0 c
  have hcs:=G8 c
  have hcc:=aO3 c
  simp only[wL,hca,hcw,hcj,hcs,aB,↓a9,seval,wG]
  refine eE oN D1 D5 rfl rfl (gZ hcw hcs) (z9 _) hb (by simp only[aE,aY,aW];omega) (by simp only[aE,aY,aW];omega) (fun b' hb'=>?_)
  rw[show acc.map aF++ [aF c]=(acc++ [c]).map aF by simp] at hb' ⊢
  simp only[hw1,aB,seval]
  refine⟨(i+1,acc++ [c],b'),by simp only;omega,⟨by simp only;omega,ht,by simp only[cX,aY,aW];omega,?_,hb'⟩,aP.mk (by simp only[aB,seval]<;>rfl)⟩
  intro x hx
  rw[kW,KD] at hx
  rcases hx with hx | rfl
  · exact hdn x hx
  · exact hcd
theorem Q8(s:ByteArray)(hs:s.size≤100000)(st:aA):aD prog 31 [.str s] st (fun r st'=>zB (nW (sb s)) r∧st'=st):=by
 refine aD.drop (Q:=zB _) (aD.fin ((aML s hs st).mono ?_))
 intro r st' h
 cases hT:nW (sb s) with
 | none=>
  rw[hT] at h
  obtain⟨rfl,rfl⟩:=h
  exact⟨0,[],st',rfl,by simp,by simp,⟨5,by simp⟩,aJ.refl _,by simp only[zB,eW,kN,lD,bF,bD]⟩
 | some l=>
  rw[hT] at h
  obtain⟨b,hb,rfl,rfl⟩:=h
  exact⟨b,_,st,rfl,hb,G9 _,⟨5,z9 _⟩,aJ.refl _,by simp only[zB,eW,kN,jD,bF,bD]⟩
def wO(o:Option (List Tm)):AV:=match o with | some l=>.tup [.slice (l.map Tm.av),.bool true] | none=>.tup [.slice [],.bool false]
theorem aGE{l:List UInt8}{q:List Tm}(h:kR l=some q):eR q=true∧∀t∈q,Dn t:=by
 unfold kR at h
 split at h
 · cases h
 rename_i g e h1
 split at h
 · rename_i h2
   cases h
   exact⟨h2.2.2,(HQ h2.1 7 0 [] _ _ (f9 _) (by simp) h1).2.2.1⟩
 · cases h
abbrev sP:=zi aX (zi cD (zi cG (zi cI cK)))
set_option maxHeartbeats 1000000 in
theorem LA(s:ByteArray)(st:aA):aD prog 222 [.str s] st (fun r st'=>r=wO (kR (sb s))∧st'=st):=by
 refine aD.kK (aD.fin ?_)
 have sB:kR (sb s)=none→∃b l s0,st=aU s0 b l∧(l≠[]→s0 b=none)∧(∀e∈l,e.bO=false)∧gN l∧(AV.tup [.fslice [],.bool false]).fin b l=wO (kR (sb s))∧aJ s0 st:=fun h=>by
  rw[h]
  exact⟨0,[],st,rfl,by simp,by simp,⟨4,by simp⟩,by simp only[wO,eW,kN,lD,bF,bD],aJ.refl _⟩
 refine wF [1000000] 1 func222 ntmps222 rfl rfl ?_
 intro _
 by_cases hs:s.size≤1000
 case neg=>
  have hs':((1000:Int)<(s.size:Int))=True:=bP (by omega)
  have hP:kR (sb s)=none:=by
   unfold kR
   split
   · rfl
   · rw[aH fun h=>hs (by rw[←bX];exact h.1)]
  simp only[hs',aV,aB,seval,sP]
  exact sB hP
 have hs':((1000:Int)<(s.size:Int))=False:=bB (by omega)
 have h0:=fun st=>RZ hs 0 (f9 _) st
 rw[show((0:Nat):Int)=0 from rfl] at h0
 simp only[hs',a8,aB,seval,sP]
 refine(h0 _).mono ?_
 rintro r st ⟨hr,rfl⟩
 cases hG:qR (sb s) 7 0 [] with
 | none=>
  have hP:kR (sb s)=none:=by unfold kR;rw[hG]
  rw[hG] at hr
  simp only[qC] at hr
  subst hr
  have he:((-1:Int)=(s.size:Int))=False:=bB (by omega)
  simp only[he,a8,aB,seval,sP]
  exact sB hP
 | some p=>
  obtain⟨g,e⟩:=p
  rw[hG] at hr
  simp only[qC] at hr
  subst hr
  have hg:=HQ (by rw[bX];exact hs) 7 0 [] _ _ (f9 _) (by simp) hG
  rw[bX] at hg
  simp only[aB,seval,sP]
  by_cases he:e=s.size
  case neg=>
   have hP:kR (sb s)=none:=by
    unfold kR
    rw[hG]
    simp only
    rw[aH fun h=>he (by rw[←bX];exact h.2.1)]
   have he':((e:Int)=(s.size:Int))=False:=bB (by omega)
   simp only[he',a8,aB,seval,sP]
   exact sB hP
  have he':((e:Int)=(s.size:Int))=True:=bP (by omega)
  simp only[he',aV,aB,seval]
  refine(DW g _).to ?_
  cases hq:eR g with
  | false=>
   have hP:kR (sb s)=none:=by
    unfold kR
    rw[hG]
    simp only
    rw[aH fun h=>by rw[hq] at h;exact absurd h.2.2 (by decide)]
   simp only[aB,seval,sP]
   exact sB hP
  | true=>
   have hP:kR (sb s)=some g:=by
    unfold kR
    rw[hG]
    simp only
    rw[aN ⟨by rw[bX];exact hs,by rw[bX];exact he,hq⟩]
   have hg6:g.length≤6:=by
    simp only[eR,bG,bK] at hq
    exact hq.1
   simp only[aB,seval,sP]
   refine d7 (σ:=Nat) [1000000] [2,3,4] g (fun i b=>((g.take i).map Tm.av≠[]→st b=none)) (fun i b=>[(6,bQ 4 b ((g.take i).map Tm.av)),(7,.int .i64 i)]) (fun i b=>aU st b ((g.take i).map Tm.av)) (by decide +kernel) ⟨0,fun h=>absurd rfl h,aP.mk (by simp only[jM,aB,↓a9,seval])⟩ (fun i x b hx hlt bN hdr hinv=>?_) (fun b hge hinv=>?_)
   case refine_1=>
    have hw:=bH (n:=(i:Int)+1)
    have cS:((g.take i).map Tm.av).length=i:=by simp only[aE,dE];omega
    have htk:(g.take i).map Tm.av++ [x.av]=(g.take (i+1)).map Tm.av:=by rw[eD,hx];simp
    have hat:=bR (av:=Tm.av) cF hx (aQ x)
    simp only[bN,aE,hat,bM,aQ,aB,seval,sP]
    refine(DT x _ (hg.2.2.1 x (cQ hx)).2).to ?_
    simp only[bM,aQ,cR,aB,seval,sP]
    refine eE cF kL kM rfl rfl (gZ (aQ _) (cO _)) (gF _) hinv (by simp only[cS,aY,aW];omega) (by simp only[cS,aY,aW];omega) (fun b' hb'=>?_)
    rw[htk] at hb' ⊢
    simp only[hw,aB,seval]
    exact⟨b',hb',aP.mk (by simp only[aB,seval])⟩
   rw[dR] at hinv ⊢
   simp only[aE,hge,jL,fM,rE,aB,seval,sP]
   rw[hP]
   exact⟨b,_,st,rfl,hinv,n8 _,⟨4,gF _⟩,by simp only[wO,eW,kN,jD,bF,bD],aJ.refl _⟩
end Go.AW
namespace Go.AW
section
variable {h:aZ} {st:aA}
end
def aJV(st s0:aA)(os us:List AV):Prop:=∀h vs,bZ h st→cJ h st os vs→cJ h s0 us vs
theorem s9.fin{s0:aA}{b:Nat}{l:List AV}{r:AV}(h0:l≠[]→s0 b=none)(h2:∀e∈l,e.bO=false)(h3:gN l):wR (aU s0 b l) s0∧s9 (aU s0 b l) r s0 (r.fin b l):=by
 cases l with
 | nil=>exact⟨(aJ.refl _).o5,fun h v S y=>y.soft⟩
 | cons e l=>
  have hb:=h0 (by simp)
  have h1:aU s0 b (e::l) b=some (.cells ((e::l).flatMap AV.cells)):=by simp only[aU,aA.aK]
  have e1:(aU s0 b (e::l)).erase b=s0:=by simp only[aU];exact aA.xC _ _ _ hb
  refine⟨?_,fun h v S y=>?_⟩
  · have:=(aJ.iP (aU s0 b (e::l)) b).o5
    rwa [e1] at this
  · have:=y.fz S h1 h2 h3
    rw[e1] at this
    exact this.soft
theorem aD.aDX{P:Program}{g:FuncId}{args:List AV}{st:aA}{Q:AV→aA→Prop}(x:aD P g args st (fun r st'=>∃r2 s2,(wR st' s2∧s9 st' r s2 r2)∧Q r2 s2)):aD P g args st Q:=
 x.mF fun r st' ⟨r2,s2,⟨h1,h2⟩,h3⟩=>⟨r2,s2,h1,h2,h3⟩
end Go.AW
namespace Go.AW
open Go.Proofs.Tryz
theorem aNY(st:aA):aD prog 81 [] st (fun r st'=>r=.slice (FU.map AV.str)∧st'=st):=by
 refine aD.done ?_
 refine wF [1000000] 0 func81 ntmps81 rfl rfl ?_
 intro _
 simp only[aB,seval,sQ]
 exact⟨rfl,aJ.refl _⟩
theorem aOA(st:aA):aD prog 243 [] st (fun r st'=>r=.slice (PD.map AV.str)∧st'=st):=by
 refine aD.done ?_
 refine wF [1000000] 0 func243 ntmps243 rfl rfl ?_
 intro _
 simp only[aB,seval,sQ]
 exact⟨rfl,aJ.refl _⟩
theorem V9{α:Type}{P:Program}{t:TypeId}{ag:Bool}{w:Nat}{av:α→AV}{l:List α}{i:Nat}{x:α}(hI:eI P t=some (ag,w))(h:l[i]?=some x)(hw:(av x).width=w):dP P t (.fslice (l.map av)) (.int .i64 (i:Int))=some (.pptr (av x)):=by
 simp only[dP,hI,fV,mI,h,nC,hw]
 simp
def aD4(l:List ByteArray):AV:=.fslice (l.map AV.str)
abbrev NU (q:List Tm):Prop:=q.length≤6∧∀t∈q,Dn t
theorem aGL(s:ByteArray):∃q:List Tm,(NU q∧eR q=true)∧∃f,wO (kR (sb s))=.tup [.slice (q.map Tm.av),.bool f]:=by
 cases h:kR (sb s) with
 | none=>exact⟨[],⟨⟨by simp,by simp⟩,rfl⟩,false,rfl⟩
 | some q=>
  obtain⟨h1,h2⟩:=aGE h
  exact⟨q,⟨⟨(IP h1).1,h2⟩,h1⟩,true,rfl⟩
theorem aVN{s:ByteArray}(h:NM s=true):s.size≤200∧∃l:List Cl,nW (sb s)=some l∧2≤l.length∧l.length≤20∧∀c∈l,w9 c:=by
 unfold NM at h
 rw[bG,bK] at h
 refine⟨h.1,?_⟩
 have h2:=h.2
 cases hp:nW (sb s) with
 | none=>rw[hp] at h2;simp at h2
 | some l=>
  rw[hp] at h2
  simp only[bG,bK] at h2
  refine⟨l,rfl,h2.1,h2.2,fun c hc=>?_⟩
  unfold nW at hp
  simp only at hp
  split at hp
  · cases hp
  · exact((LS _ [] l (by simp) hp).1 c hc).1
abbrev aIE:=zi aX (zi cG (zi cI (zi rD sQ)))
theorem aOB(bs:List Bt)(c p:Nat)(st:aA)(hp:p+10≤1099511627776)(hR:fC st c bs p):aD prog 221 [.ptr c 0] st (Dr bs c p 10 st (fun r=>∃q:List Tm,(NU q∧eR q=true)∧r=.slice (q.map Tm.av))):=by
 refine wF [1000000] 1 func221 ntmps221 rfl rfl ?_
 intro _
 simp only[aB,seval]
 refine(aOA _).to ?_
 simp only[aE,aB,seval,aIE]
 refine(tP bs c p (by omega) PD.length (by decide) (by decide) _ hR).mono ?_
 rintro _ _ ⟨k,hk,rfl,rfl⟩
 obtain⟨x,hx⟩:∃x,PD[k]?=some x:=⟨_,d4 hk⟩
 have hat:=bR (av:=AV.str) tS hx rfl
 simp only[hat,aB,seval,aIE]
 refine(LA x _).to ?_
 obtain⟨q,hq,f,hf⟩:=aGL x
 rw[hf]
 simp only[aB,seval]
 exact⟨p+1,by omega,by omega,rfl,q,hq,rfl⟩
abbrev FK:=zi aX (zi gE (zi cG (zi lK (zi cI (zi rD (zi sQ aX4))))))
set_option maxHeartbeats 1000000 in
theorem aN9(bs:List Bt)(c p:Nat)(st:aA)(hp:p+100≤1099511627776)(hR:fC st c bs p) :
 aD prog 187 [.ptr c 0] st (Dr bs c p 100 st (fun r=>∃(l:List Cl) (q:List Tm),((2≤l.length∧l.length≤20∧∀x∈l,w9 x)∧gK l=true)∧(NU q∧eR q=true)∧r=.tup [.slice (l.map aF),.slice (q.map Tm.av)])):=by
 refine wF [1000000] 1 func187 ntmps187 rfl rfl ?_
 intro _
 simp only[aB,seval]
 refine(aNY _).to ?_
 simp only[aE,aB,seval,FK]
 refine(tP bs c p (by omega) FU.length (by decide) (by decide) _ hR).mono ?_
 rintro _ _ ⟨k,hk,rfl,rfl⟩
 obtain⟨x,hx⟩:∃x,FU[k]?=some x:=⟨_,d4 hk⟩
 have hat:=bR (av:=AV.str) tS hx rfl
 have hk2:k<CF.length:=hk
 obtain⟨y,hy⟩:∃y,CF[k]?=some y:=⟨_,d4 hk2⟩
 obtain⟨hxs,l,hl1,hl2,hl3,hl4⟩:=aVN (dD.1 aYC x (cQ hx))
 have hpv:=dD.1 aYD x (cQ hx)
 rw[hl1] at hpv
 have hyo:=dD.1 aYA y (cQ hy)
 simp only[bG,bK] at hyo
 have aEE:=V9 (P:=prog) (av:=aD4) S6 hy rfl
 simp only[CF,aD4,bF,bD] at aEE
 have hpp:=fun st=>Q8 x (by omega) st
 rw[hl1] at hpp
 simp only[hat,aB,seval,FK]
 refine(hpp _).mono ?_
 rintro _ _ ⟨rfl,rfl⟩
 simp only[aEE,aB,seval,FK]
 refine(tP bs c (p+1) (by omega) 5 (by omega) (by omega) _ fC.new).mono ?_
 rintro _ _ ⟨j,hj,rfl,rfl⟩
 rw[d3]
 simp only[aB,seval]
 refine bE (fun h0=>?_) (fun h0=>?_)
 · simp only[aB,seval]
   refine(aOB bs c (p+1+1) _ (by omega) fC.new).mono ?_
   rintro _ _ ⟨p2,r1,r2,rfl,q,hq,rfl⟩
   rw[d3]
   simp only[aB,seval]
   exact⟨p2,by omega,by omega,rfl,l,q,⟨⟨hl2,hl3,hl4⟩,hpv⟩,hq,rfl⟩
 simp only[aE,aB,seval,FK]
 refine(tP bs c (p+1+1) (by omega) y.length (by omega) (by have:=aYB y (cQ hy);omega) _ fC.new).mono ?_
 rintro _ _ ⟨i,hi,rfl,rfl⟩
 rw[d3]
 obtain⟨z,hz⟩:∃z,y[i]?=some z:=⟨_,d4 hi⟩
 have MV:=V9 (P:=prog) (av:=AV.str) tS hz rfl
 simp only[MV,aB,seval,FK]
 refine(LA z _).to ?_
 obtain⟨q,hq,f,hf⟩:=aGL z
 rw[hf]
 simp only[aB,seval]
 exact⟨p+1+1+1,by omega,by omega,rfl,l,q,⟨⟨hl2,hl3,hl4⟩,hpv⟩,hq,rfl⟩
end Go.AW
namespace Go.AW

end Go.AW
namespace Go.AW
open Go.Proofs.Tryz

section
variable {st0 st:aA} {S c m:Nat} {qt qc qn:AV} {p:List Cl} {q:List Tm} {idx:Bool} {fuel used mx:Int} {nd:List AV} {i:IS}
end
section
variable {st0 st:aA} {S c m:Nat} {qt qc qn:AV} {p:List Cl} {q:List Tm} {idx:Bool} {fuel used mx:Int} {nd:List AV} {i:IS}
end
section
variable {st0 st:aA} {S c m:Nat} {qt qc qn:AV} {p:List Cl} {q:List Tm} {idx:Bool} {fuel used mx:Int} {nd:List AV} {i:IS}
end



end Go.AW
namespace Go.AW

end Go.AW
namespace Go.AW
open Go.Proofs.Tryz
section
variable {p:List Cl} (hp:∀c∈p,gX c) {cnd:Tm→List Nat→List Nat} (hc:∀(ρ:Int→Int) (t:Tm) (l:List Nat),cnd (hY ρ t) l=cnd t l)
include hp hc
end
section
variable {p:List Cl} (hp:∀c∈p,gX c∧c.2.length≤6) (hpl:p.length≤20) {cnd:Tm→List Nat→List Nat} (hc:∀(ρ:Int→Int) (t:Tm) (l:List Nat),cnd (hY ρ t) l=cnd t l) (hd:∀t l,(∀i∈cnd t l,i∈l)∧(cnd t l).length≤l.length)
include hp
end
section
variable {st0 st:aA} {S c m:Nat} {qt qc qn:AV} {p:List Cl} {q:List Tm} {idx:Bool} {fuel used mx:Int} {nd:List AV} {i:IS}
end



end Go.AW

namespace Go.AW
open Go.Proofs.Tryz
open Go.Shelf
set_option linter.unusedSimpArgs false
set_option linter.unusedVariables false
set_option maxRecDepth 100000
end Go.AW

namespace Go.AW
open Go.Proofs.Tryz









theorem zZ{k:Int}(h0:0≤k):IntKind.u8.wrap k=((k.toNat % 256:Nat):Int):=by
 simp only[IntKind.wrap,IntKind.signed,IntKind.bits]
 simp
 omega


noncomputable def mB(s:Ss)(u:Int):List (List Tm)×Int:=
 ((lI s.p (fun _ l=>l) s.q 20 u).1,if(lI s.p (fun _ l=>l) s.q 20 u).2=2∧u<s.quota then -1 else(lI s.p (fun _ l=>l) s.q 20 u).2)
noncomputable def AI(s:Ss):List (List Tm)×Int:=mB s s.used
def wA(s:Ss):Bool:=gK s.p&&(eR s.q&&(decide (0≤s.quota)&&(decide (s.quota≤300)&&(decide (0≤s.used)&&decide (s.used≤s.quota)))))
def N6(s:Ss):Bool:=decide (s.used=0)&&(decide (s.sent=0)&&decide (s.fin= -1))
noncomputable def o0(s:Ss):Bool:=wA s&&(N6 s||(decide (s.sent=((AI s).1.length:Int))&&decide (s.fin=(AI s).2)))
theorem aHD{s:Ss}(h:wA s=true):nZ s.p s.q 20 s.used=true:=by
 simp only[wA,bG,bK] at h
 obtain⟨h1,h2,h3,h4,h5,h6⟩:=h
 simp only[nZ,h1,h2,dH]
 rw[d6 h5,d6 (show s.used≤300 by omega)]
 decide
abbrev aH7:=zi aX (zi lK (zi cI (zi uW FM)))
theorem Q9(s:Ss)(u:Int)(h:nZ s.p s.q 20 u=true)(st:aA):aD prog 252 [kG s,.int .i64 u] st (fun r st'=>r=.tup [.slice ((mB s u).1.map eQ),.int .i64 (mB s u).2]∧st'=st):=by
 have hok:=h
 simp only[nZ,bG,bK] at h
 obtain⟨kp,kq,_,_,k3,k4⟩:=h
 obtain⟨p1,p2⟩:=aVV kp
 obtain⟨q1,q2⟩:=IP kq
 have hr:=aOC p2 p1 q2 q1 (most:=20) (fuel:=u.toNat) (by omega) (by omega)
 rw[show((20:Nat):Int)=20 from rfl,show((u.toNat:Nat):Int)=u by omega] at hr
 have hs:lI s.p (fun _ l=>l) s.q 20 u=v9 s.p (fun _ l=>l) s.q 20 u.toNat:=by
  unfold lI
  rw[aN hok]
  try rfl
 rw[←hs] at hr
 unfold mB
 generalize lI s.p (fun _ l=>l) s.q 20 u=T at *
 obtain⟨L,e⟩:=T
 simp only at hr ⊢
 obtain⟨p,q,i0,i1,i2,i3⟩:=s
 simp only[kG] at *
 refine wF [1000000] 2 func252 ntmps252 rfl rfl ?_
 intro _
 simp only[aB,seval,aH7]
 refine(hr _).to ?_
 repeat' (first
  | (simp only[*,aB,seval,aH7])
  | (refine c5 (fun h=>?_) (fun h=>?_))
  | (refine bE (fun h=>?_) (fun h=>?_)))
 all_goals simp_all
theorem aMT(s:Ss)(h:wA s=true)(st:aA):aD prog 252 [kG s,.int .i64 s.used] st (fun r st'=>r=.tup [.slice ((AI s).1.map eQ),.int .i64 (AI s).2]∧st'=st):=Q9 s s.used (aHD h) st
abbrev aH6:=zi aX (zi cD (zi lK (zi cI (zi uW FM))))
theorem aOR(s:Ss)(st:aA):aD prog 237 [kG s] st (fun r st'=>r=.bool (o0 s)∧st'=st):=by
 have ha:=aMT s
 unfold o0
 generalize AI s=T at *
 obtain⟨L,e⟩:=T
 obtain⟨p,q,i0,i1,i2,i3⟩:=s
 simp only[kG,wA,N6] at *
 refine aD.done ?_
 refine wF [1000000] 1 func237 ntmps237 rfl rfl ?_
 intro _
 simp only[aB,seval,aH6]
 repeat' (first
  | (simp only[*,aE,aB,seval,aH6])
  | (refine c5 (fun h=>?_) (fun h=>?_))
  | (refine(G4 p _).to ?_) | (refine(DW q _).to ?_) | (refine(ha (by simp_all) _).to ?_)
  | (refine bE (fun h=>?_) (fun h=>?_)))
 all_goals (refine⟨?_,aJ.refl _⟩;simp only[AV.soft];first | (simp_all;done) | (simp_all;intros;omega))
def kD(s:Ss)(n:Int):Int:=if n<s.quota - s.used then s.used+n else s.quota
noncomputable def nH(s:Ss)(n:Int):Ss:={ s with used:=kD s n,sent:=((mB s (kD s n)).1.length:Int),fin:=(mB s (kD s n)).2 }
noncomputable def qW(s:Ss)(n:Int):List (List Tm):=(mB s (kD s n)).1.drop s.sent.toNat
structure SlF (s:Ss) (n:Int):Prop where
 rng:wA s=true
 ok:nZ s.p s.q 20 (kD s n)=true
 u0:0≤s.used
 u1:s.used≤kD s n
 u2:kD s n≤s.quota
 q1:s.quota≤300
 s0:0≤s.sent
 s1:s.sent≤((mB s (kD s n)).1.length:Int)
 l:(mB s (kD s n)).1.length≤20
 nxt:o0 (nH s n)=true
theorem N7{s:Ss}:wA s=true↔gK s.p=true∧eR s.q=true∧0≤s.quota∧s.quota≤300∧0≤s.used∧s.used≤s.quota:=by
 simp only[wA,bG,bK]
theorem N8{s:Ss}{n:Int}(h:o0 s=true)(hn:0≤n):SlF s n:=by
 have h':=h
 simp only[o0,bG] at h'
 obtain⟨hr,hs⟩:=h'
 obtain⟨kp,kq,k1,k2,k3,k4⟩:=N7.1 hr
 have hu1:s.used≤kD s n:=by unfold kD;split<;>omega
 have hu2:kD s n≤s.quota:=by unfold kD;split<;>omega
 have aTI:nZ s.p s.q 20 s.used=true:=aHD hr
 have hok:nZ s.p s.q 20 (kD s n)=true:=IW.2 ⟨kp,kq,by omega,by omega,by omega,by omega⟩
 have hl:=aXD (cnd:=fun _ l=>l) hok
 have a0I:=(aSM (cnd:=fun _ l=>l) aTI hu1 (by omega)).2.length_le
 have aE3:0≤s.sent∧s.sent≤((mB s (kD s n)).1.length:Int):=by
  simp only[kV,N6,bG,bK] at hs
  rcases hs with ⟨_,h2,_⟩ | ⟨h1,_⟩
  · omega
  · simp only[AI,mB] at h1 ⊢
    omega
 refine⟨hr,hok,k3,hu1,hu2,k2,aE3.1,aE3.2,by simp only[mB];omega,?_⟩
 simp only[o0,bG]
 refine⟨N7.2 ⟨kp,kq,k1,k2,?_,hu2⟩,?_⟩
 · show 0≤kD s n
   omega
 · rw[kV]
   exact .inr (by rw[bG];exact⟨d6 rfl,d6 rfl⟩)
theorem aJ9{P:Program}{t:TypeId}{ag:Bool}{w:Nat}{φ:AF}{y:Operand}{L:List AV}{n:Nat}(hI:eI P t=some (ag,w))(hn:n≤L.length)(hw:∀e∈L,e.width=w)(h:φ.eval y=.int .i64 (n:Int)):fJ P φ t (.slice L) (some y) none none=some (.slice (L.drop n)):=by
 have h1:cU φ none L.length L.length=some L.length:=rfl
 have h3:cU φ (some y) 0 L.length=some n:=by
  simp only[cU,h]
  rw[aN ⟨by omega,by omega⟩]
  rw[fV]
 have hwd:oC L n w=true:=by
  unfold oC
  split
  · rename_i e he
    simp [hw e (cQ he)]
  · rfl
 unfold fJ l5
 rw[aH (by simp [nO])]
 simp only[hI,h1,h3,hwd]
 simp
theorem aKR(l:List (List Tm)):∀e∈l.map eQ,e.width=1:=by intro e h;simp only[cL] at h;obtain⟨t,_,rfl⟩:=h;rfl
abbrev wE:=zi aX (zi uW FM)
set_option maxHeartbeats 2000000 in
theorem aMU(s:Ss)(n:Int)(h:o0 s=true)(hn:0≤n)(st:aA):aD prog 239 [kG s,.int .i64 n] st (fun r st'=>r=.tup [kG (nH s n),.slice ((qW s n).map eQ)]∧st'=st):=by
 have hF:=N8 h hn
 obtain⟨kp,kq,k1,k2,k3,k4⟩:=N7.1 hF.rng
 obtain⟨p1,p2⟩:=IM kp
 obtain⟨q1,q2⟩:=NW kq
 have hcp:=LC s (by omega) p2 (by omega) q2
 have ha:=Q9 s (kD s n) hF.ok
 have hs0:=hF.s0
 have hs1:=hF.s1
 have hfl:=hF.l
 have hu0:=hF.u0
 have hu1:=hF.u1
 have hu2:=hF.u2
 have hq1:=hF.q1
 unfold nH qW
 generalize mB s (kD s n)=T at *
 obtain⟨L,e⟩:=T
 simp only at ha hs1 hfl ⊢
 have hnu:kD s n=if n<s.quota - s.used then s.used+n else s.quota:=rfl
 generalize kD s n=u at *
 obtain⟨p,q,i0,i1,i2,i3⟩:=s
 simp only[kG] at *
 obtain⟨k,rfl⟩:=uY hs0
 refine aD.done ?_
 refine wF [1000000,6] 2 func239 ntmps239 rfl rfl ?_
 intro _
 simp only[aB,seval,wE]
 intro b4 h4
 refine(hcp _).to ?_
 simp only[aG,aB,↓a9,seval,wE]
 intro b6 h6
 have h64:b6≠b4:=by rintro rfl;rw[aA.aK] at h6;cases h6
 have h6':st b6=none:=by rwa [aA.aO _ _ h64] at h6
 have hw0:=bH (n:=i0 - i1)
 have hsl:=fun(φ:AF) (y:Operand) (h:φ.eval y=.int .i64 (k:Int))=>aJ9 (P:=prog) (t:=259) (L:=L.map eQ) HH (by rw[aE];omega) (aKR L) h
 simp only[hw0,seval]
 refine bE (fun h1=>?_) (fun h1=>?_)
 · have h1':n<i0 - i1:=by simpa using h1
   rw[aN h1'] at hnu
   have hw1:=bH (n:=i1+n)
   rw[←hnu] at hw1
   simp only[aG,hw1,←hnu,d3,aB,seval,wE]
   refine(ha _).to ?_
   simp only[aE,aG,d3,aB,seval,wE]
   have qT:∀(o:AO),((st.aC b4 (.cells [.fslice [],.fslice [],.int .i64 0,.int .i64 0,.int .i64 0,.int .i64 0])).aC b6 o) b6=some o:=fun o=>aA.aK _ _ _
   refine CL [(0,1),(1,1),(2,1),(3,1),(4,1),(5,0),(6,1)] [0,1,2,3,4,6] (dW.aC b6 (.cells [.slice (p.map aF),.slice (q.map Tm.av),.int .i64 i0,.int .i64 (u),.int .i64 (L.length:Int),.int .i64 e])) mixed (by decide +kernel) (by decide +kernel) (by decide +kernel) rfl (lP (qT _)) ?_
   simp only[aG,h64.symm,hsl,aB,seval,wE]
   exact⟨lP (by rw[aA.aO _ _ h64,aA.aK]),by simp only[jF,jW,jG,oZ,bF,bD,fV,List.map_drop],(((aJ.refl _).aC h4).aC h6').aC h4⟩
 · have h1':¬n<i0 - i1:=by simpa using h1
   rw[aH h1'] at hnu
   obtain rfl:i0=u:=hnu.symm
   simp only[aB,seval,wE]
   refine(ha _).to ?_
   simp only[aE,aG,d3,aB,seval,wE]
   have qT:∀(o:AO),((st.aC b4 (.cells [.fslice [],.fslice [],.int .i64 0,.int .i64 0,.int .i64 0,.int .i64 0])).aC b6 o) b6=some o:=fun o=>aA.aK _ _ _
   refine CL [(0,1),(1,1),(2,1),(3,1),(4,1),(5,0),(6,1)] [0,1,2,3,4,6] (dW.aC b6 (.cells [.slice (p.map aF),.slice (q.map Tm.av),.int .i64 i0,.int .i64 (i0),.int .i64 (L.length:Int),.int .i64 e])) mixed (by decide +kernel) (by decide +kernel) (by decide +kernel) rfl (lP (qT _)) ?_
   simp only[aG,h64.symm,hsl,aB,seval,wE]
   exact⟨lP (by rw[aA.aO _ _ h64,aA.aK]),by simp only[jF,jW,jG,oZ,bF,bD,fV,List.map_drop],(((aJ.refl _).aC h4).aC h6').aC h4⟩
theorem aKD{P:Program}{t:TypeId}{ag:Bool}{φ:AF}{y z:Operand}{b n off:Nat}(hI:eI P t=some (ag,1))(h:φ.eval y=.int .i64 (n:Int))(h':φ.eval z=.int .i64 (n:Int)):fJ P φ t (.mslice b off n 1) none (some y) (some z)=some (.mslice b off n 1):=by
 have h3:∀y,φ.eval y=.int .i64 (n:Int)→cU φ (some y) n n=some n:=fun y h=>by
  simp only[cU,h]
  rw[aN ⟨by omega,by omega⟩]
  rw[fV]
 unfold fJ l5
 rw[aH (by simp [nO])]
 simp only[hI,h3 y h,h3 z h']
 rw[aN trivial]
theorem aKE{P:Program}{t:TypeId}{ag:Bool}{w:Nat}{φ:AF}{y z:Operand}(hI:eI P t=some (ag,w))(h:φ.eval y=.int .i64 0)(h':φ.eval z=.int .i64 0):fJ P φ t (.fslice []) none (some y) (some z)=some (.fslice []):=by
 have h3:∀y,φ.eval y=.int .i64 0→cU φ (some y) 0 0=some 0:=fun y h=>by
  simp only[cU,h]
  rw[aN ⟨by omega,by omega⟩]
  try rfl
 have h4:cU φ none 0 0=some 0:=rfl
 unfold fJ l5
 rw[aH (by simp [nO])]
 simp only[hI,aW,h3 y h,h3 z h',h4]
 simp [oC]

end Go.AW
namespace Go.AW
theorem aD.aFH{P:Program}{g:FuncId}{args args':List AV}{st s0:aA}{Q:AV→aA→Prop}(D:aJ st s0)(hv:aJV st s0 args' args)(x:aD P g args s0 Q):aD P g args' st Q:=
 ⟨x.1,fun w vs S V=>(x.2 w vs (D.BX S) (hv _ _ S V)).mono fun e w' ⟨v,r,st',e1,a,b,c,d,q⟩=>⟨v,r,st',e1,a,b,(D.step w.heap).trans c,d,q⟩⟩
end Go.AW
namespace Go.AW
open Go.Proofs.Tryz



end Go.AW
namespace Go.AW
theorem aV5{p:List Cl}{cnd:Tm→List Nat→List Nat}{s:RS}{g:RG}{rest:List RG}{e:Int}(h:iU p cnd s g rest=.stop e):0≤e:=by
 unfold iU at h
 repeat' split at h
 all_goals first | (cases h;done) | (injection h with h;subst h;unfold tU;repeat' split;all_goals omega) | (injection h with h;omega)
theorem aV0(p:List Cl)(cnd:Tm→List Nat→List Nat)(vars:List Int):∀(n most f:Nat) (s:RS),most+f≤n→0≤(iI p cnd vars most f s).2:=by
 intro n
 induction n with
 | zero=>
  intro most f s hn
  obtain rfl:most=0:=by omega
  obtain rfl:f=0:=by omega
  cases hg:s.goals with
  | nil=>rw[qZ hg];simp
  | cons g rest=>rw[nX (fuel:=0) hg];simp
 | succ n ih=>
  intro most f s hn
  cases hg:s.goals with
  | nil=>
   rw[qZ hg]
   by_cases hm:most=0
   · rw[aN hm];simp
   rw[aH hm]
   cases ha:oJ s.σ vars with
   | none=>simp
   | some a=>
    simp only
    cases hb:fG p s.chs.length s.chs with
    | none=>simp
    | some s'=>exact ih (most - 1) f s' (by omega)
  | cons g rest=>
   by_cases hf:f=0
   · subst hf
     rw[nX (fuel:=0) hg];simp
   rw[nX hg,aH hf]
   cases hst:iU p cnd s g rest with
   | stop e=>exact aV5 hst
   | go s'=>exact ih most (f - 1) s' (by omega)
   | fail=>
    simp only
    cases hb:fG p s.chs.length s.chs with
    | none=>simp
    | some s'=>exact ih most (f - 1) s' (by omega)
theorem aXB{p:List Cl}{cnd:Tm→List Nat→List Nat}{q:List Tm}{most fuel:Int}:0≤(lI p cnd q most fuel).2:=by
 unfold lI
 split
 · exact aV0 p cnd _ _ _ _ _ (c6 _)
 · simp
theorem wY{U:aA}{bo x:Nat}{os:List AV}(h:os≠[]→x≠bo):aU U bo os x=U x:=by
 by_cases hl:os= []
 · rw[hl,rT]
 · rw[tF (h hl)]
section
variable {P:Program}
def v3(ops:Array Oper)(S:List Nat):List (Nat×Nat)→Array Bool→Option (Array Bool)
 | [],aM=>some aM
 | (i,0)::r,aM=>if decide (Region.ready .any ops aM= [i])&& !S.contains i then v3 ops S r (aM.setIfInBounds i true) else none
 | (i,1)::r,aM=>if(Region.ready .any ops aM).contains i&&Region.free .any ops aM i&&S.contains i then v3 ops S r (aM.setIfInBounds i true) else none
 | _::_,_=>none
theorem KP{ops:Array Oper}{S:List Nat}{s0:aA}{K K':AF→aA→Prop}{n:Nat}:∀(p:List (Nat×Nat)) (aM l':Array Bool) (φ:AF) (st:aA),qB ops aM→v3 ops S p aM=some l'→dX s0 st →
 (∀φ st,qB ops l'→dX s0 st→K' φ st→tA P ops S s0 K n l' φ st)→wT P ops s0 K' p φ st→tA P ops S s0 K (p.length+n) aM φ st
 | [],aM,l',φ,st,hcl,hB,hx,hK,h=>by
  simp only[v3,Option.some.injEq] at hB
  subst hB
  rw[aW,jK]
  exact hK φ st hcl hx h
 | (i,0)::r,aM,l',φ,st,hcl,hB,hx,hK,h=>by
  simp only[v3] at hB
  split at hB
  case isFalse=>cases hB
  rename_i hc
  simp only[bG,bK,jI] at hc
  obtain⟨o,ho,h'⟩:=h
  have hr:i∈Region.ready .any ops aM:=by rw[hc.1];simp
  rw[aY,show r.length+1+n=(r.length+n)+1 by omega]
  refine⟨fun h0=>(by rw[hc.1] at h0;cases h0),fun j hj=>?_⟩
  rw[hc.1] at hj
  obtain rfl:j=i:=by simpa using hj
  exact⟨o,ho,.inr ⟨hc.2,qJ (fun v st' q=>⟨.inr q.1,KP r _ _ _ _ (hcl.set hr) hB q.1 hK q.2⟩) h'⟩⟩
 | (i,1)::r,aM,l',φ,st,hcl,hB,hx,hK,h=>by
  simp only[v3] at hB
  split at hB
  case isFalse=>cases hB
  rename_i hc
  simp only[bG] at hc
  obtain⟨⟨hr,hf⟩,hS⟩:=hc
  obtain⟨o,ho,v,hv,h'⟩:=h
  have hr':i∈Region.ready .any ops aM:=by simpa using hr
  rw[aY,show r.length+1+n=(r.length+n)+1 by omega]
  exact P4 ho hS _ aM φ st hcl (Region.free_spec ho hf) hr' hv hx (KP r _ _ _ _ (hcl.set hr') hB hx hK h')
 | (i,k+2)::r,aM,l',φ,st,hcl,hB,hx,hK,h=>by simp [v3] at hB
inductive PT where
 | fin (p:List (Nat×Nat))
 | br (p:List (Nat×Nat)) (i j:Nat) (a b:PT)
def PT.size:PT→Nat
 | .fin p=>p.length
 | .br p _ _ a _=>p.length+(a.size+1)
def BQ(ops:Array Oper)(S:List Nat):PT→Array Bool→Bool
 | .fin p,l=>pV ops S p l&&xV p
 | .br p i j a b,l=>match v3 ops S p l with
  | none=>false
  | some l'=>decide (Region.ready .any ops l'= [i,j])&& !S.contains i&& !S.contains j&&decide (b.size=a.size)&&BQ ops S a (l'.setIfInBounds i true)&&BQ ops S b (l'.setIfInBounds j true)
def pF(P:Program)(ops:Array Oper)(s0:aA)(K:AF→aA→Prop):PT→AF→aA→Prop
 | .fin p,φ,st=>fW P ops s0 K p φ st
 | .br p i j a b,φ,st=>fW P ops s0 (fun φ st=>
  (match ops[i]? with | none=>False | some o=>aT P [] ops [o] (fun φ' st'=>dX s0 st'∧pF P ops s0 K a φ' st') φ st) ∧
  (match ops[j]? with | none=>False | some o=>aT P [] ops [o] (fun φ' st'=>dX s0 st'∧pF P ops s0 K b φ' st') φ st)) p φ st
def H8(P:Program)(ops:Array Oper)(s0:aA)(K:AF→aA→Prop)(t:PT)(φ:AF)(st:aA):Prop:=dX s0 st∧pF P ops s0 K t φ st
def sK(P:Program)(ops:Array Oper)(s0:aA)(K:AF→aA→Prop)(t:PT)(φ:AF)(st:aA):Option Oper→Prop
 | none=>False
 | some o=>aT P [] ops [o] (H8 P ops s0 K t) φ st
def GX(P:Program)(ops:Array Oper)(s0:aA)(K:AF→aA→Prop)(i j:Nat)(a b:PT)(φ:AF)(st:aA):Prop:=sK P ops s0 K a φ st ops[i]?∧sK P ops s0 K b φ st ops[j]?
theorem KG{ops:Array Oper}{s0:aA}{K:AF→aA→Prop}{p:List (Nat×Nat)}{φ:AF}{st:aA}:pF P ops s0 K (.fin p) φ st=fW P ops s0 K p φ st:=by rw[pF]
theorem PS{ops:Array Oper}{s0:aA}{K:AF→aA→Prop}{p:List (Nat×Nat)}{i j:Nat}{a b:PT}{φ:AF}{st:aA}:pF P ops s0 K (.br p i j a b) φ st=fW P ops s0 (GX P ops s0 K i j a b) p φ st:=by
 rw[pF]
 congr 1
theorem aJT{l:List Oper}{s0:aA}{K:AF→aA→Prop}{i j:Nat}{a b:PT}{φ:AF}{st:aA}:GX P l.toArray s0 K i j a b φ st=(sK P l.toArray s0 K a φ st l[i]?∧sK P l.toArray s0 K b φ st l[j]?):=by
 simp only[GX,u6]
theorem aJU{ops:Array Oper}{s0:aA}{K:AF→aA→Prop}{t:PT}{φ:AF}{st:aA}{o:Oper}:sK P ops s0 K t φ st (some o)=aT P [] ops [o] (H8 P ops s0 K t) φ st:=by rw[sK]
theorem PU{ops:Array Oper}{s0:aA}{K:AF→aA→Prop}{t:PT}{φ:AF}{st:aA}:H8 P ops s0 K t φ st=(dX s0 st∧pF P ops s0 K t φ st):=by rw[H8]
theorem aHE{ops:Array Oper}{s0:aA}{K:AF→aA→Prop}{t:PT}{φ:AF}{st:aA}{i:Nat}(h:sK P ops s0 K t φ st ops[i]?) :
 ∃o,ops[i]?=some o∧gQ P ops o φ st (fun v st'=>dX s0 st'∧pF P ops s0 K t (φ.put o.dst v) st'):=by
 cases ho:ops[i]? with
 | none=>rw[ho] at h;exact h.elim
 | some o=>
  rw[ho] at h
  refine⟨o,rfl,?_⟩
  simp only[sK,aT] at h
  unfold gQ
  split at h
  · rename_i hg
    rw[hg]
    exact wV (fun v s q=>q) h
  · rename_i hg
    rw[hg]
    exact⟨h.1,h.2⟩
  · exact h.elim
theorem KO{ops:Array Oper}{S:List Nat}{s0:aA}{K:AF→aA→Prop}:∀(t:PT) (aM:Array Bool) (φ:AF) (st:aA),qB ops aM→BQ ops S t aM=true→dX s0 st→pF P ops s0 K t φ st→tA P ops S s0 K t.size aM φ st
 | .fin p,aM,φ,st,hcl,hB,hx,h=>by
  simp only[BQ,bG] at hB
  rw[KG] at h
  exact DI p _ _ _ hcl hB.1 (.inl ⟨hB.2,hx⟩) (rS _ _ _ h)
 | .br p i j a b,aM,φ,st,hcl,hB,hx,h=>by
  simp only[BQ] at hB
  split at hB
  · cases hB
  rename_i l' hl'
  simp only[bG,bK,jI] at hB
  obtain⟨⟨⟨⟨⟨hr,hSi⟩,hSj⟩,hsz⟩,hBa⟩,hBb⟩:=hB
  rw[PS] at h
  refine KP (K':=GX P ops s0 K i j a b) p _ _ _ _ hcl hl' hx (fun φ st hcl hx hK=>?_) (rS _ _ _ h)
  refine⟨fun h0=>(by rw[hr] at h0;cases h0),fun k hk=>?_⟩
  have hk':=hk
  rw[hr] at hk'
  rcases cT.1 hk' with rfl | hk'
  · obtain⟨o,ho,h2⟩:=aHE hK.1
    exact⟨o,ho,.inr ⟨hSi,qJ (fun v st' q=>⟨.inr q.1,KO a _ _ _ (hcl.set hk) hBa q.1 q.2⟩) h2⟩⟩
  · obtain rfl:k=j:=by simpa using hk'
    obtain⟨o,ho,h2⟩:=aHE hK.2
    have:=fun(v:AV) (st':aA) (q:dX s0 st'∧pF P ops s0 K b (φ.put o.dst v) st')=>KO (S:=S) b _ _ _ (hcl.set hk) hBb q.1 q.2
    rw[hsz] at this
    exact⟨o,ho,.inr ⟨hSj,qJ (fun v st' q=>⟨.inr q.1,this v st' q⟩) h2⟩⟩
theorem aLC{N:Nat}{id:Nat}{l:List Oper}{Q:Exit→AF→aA→Prop}{φ:AF}{st:aA}(t:PT)(S:List Nat)(s0:aA)(hm:P.follows .mixedOrders=true)(hok:nV N l.toArray=true)(hl:t.size=l.length)(hB:BQ l.toArray S t (Array.replicate l.toArray.size false)=true)(hs:dX s0 st)
 (h:pF P l.toArray s0 (Q .normal) t φ st):d8 P N (.region id l.toArray true) Q φ st:=by
 intro a w R
 refine wp_region_any hm ?_
 have R0:Rel N a { w with drawn:=w.drawn+1 } φ st:=⟨R.size,R.defers,R.frame,R.store⟩
 have key:=KO (P:=P) (ops:=l.toArray) (S:=S) (s0:=s0) (K:=Q .normal) t (Array.replicate l.toArray.size false) φ st (fun j o _ hl=>(by rw[MO] at hl;cases hl)) hB hs h
 rw[hl,←List.size_toArray] at key
 exact GK (vX hok) (uK hok) (w0:=w) (st0:=st) (fun φ' st' a' w' k R' T s=>⟨φ',st',R',T,s,k⟩) _ _ _ _ _ _ (GM _ _ _ _ key) R0 (bL.refl _ _) ⟨rfl,rfl,rfl⟩
end
@[congr] theorem aZ4 {P:Program} {ops:Array Oper} {s0:aA} {K:AF→aA→Prop} {t:PT} {φ φ':AF} {st st':aA} {o o':Option Oper} (h1:φ=φ') (h2:st=st') (h3:o=o'):sK P ops s0 K t φ st o=sK P ops s0 K t φ' st' o':=by rw[h1,h2,h3]
end Go.AW
namespace Go.AW
open Go.Proofs.Tryz


theorem BH{b:List Bt}(h:0<gD b):gD b=((2+dJ b:Nat):Int)∧2+dJ b≤b.length∧3≤2+dJ b∧gB (kQ b)=true∧uI b=kQ b:=by
 by_cases h0:b.length<2
 · rw[H9 h0] at h;omega
 by_cases h1:dJ b<1∨2001<dJ b
 · rw[xY h0 h1] at h;omega
 by_cases h2:b.length<2+dJ b
 · rw[IA h0 h1 h2] at h;omega
 have hd:=ES h0 h1 h2
 cases hf:gB (kQ b) with
 | false=>rw[hf,aH (by simp)] at hd;omega
 | true=>
  rw[hf,aN rfl] at hd
  exact⟨hd,by omega,by omega,rfl,by unfold uI;rw[aN h]⟩
def eS(b:List Bt):List Fr×List Bt×Bool:=
 if h:0<gD b then let r:=eS (b.drop (2+dJ b));(kQ b::r.1,r.2)
 else if gD b=0 then([],b,false) else([],[],true)
termination_by b.length
decreasing_by
 have:=BH h
 rw[jZ]
 omega
def GG(T:List Fr×List Bt×Bool)(r:AV):Prop:=r=.tup [.slice (T.1.map bC),.slice (T.2.1.map a7),.bool T.2.2]
theorem mC(l:List Fr):∀e∈l.map bC,e.bO=false:=fun e he=>by simp only[cL] at he;obtain⟨t,_,rfl⟩:=he;rfl
theorem kP(l:List Fr):∀e∈l.map bC,e.width=2:=fun e he=>by simp only[cL] at he;obtain⟨t,_,rfl⟩:=he;rfl
abbrev OH:=zi aX (zi cD (zi f0 (zi kU lZ)))
set_option maxHeartbeats 1000000 in
theorem aMX(b:List Bt)(st:aA)(hb:b.length≤4000000):aD prog 216 [.slice (b.map a7)] st (fun r st'=>GG (eS b) r∧st'=st):=by
 generalize hT:eS b=T
 refine aD.drop (Q:=GG T) (aD.fin ?_)
 refine wF [1000000,6] 1 func216 ntmps216 rfl rfl ?_
 intro _
 simp only[aB,seval,OH]
 refine gW (σ:=List Bt×List Fr×Nat×aA) [1000000,6] [] (fun x=>(x.2.1++(eS x.1).1,(eS x.1).2)=T∧x.2.1.length+x.1.length≤4000000∧aJ x.2.2.2 st∧(x.2.1.map bC≠[]→x.2.2.2 x.2.2.1=none)) (fun x=>[(0,.slice (x.1.map a7)),(2,.fslice []),(3,.fslice []),(4,.bool false),(5,bQ 2 x.2.2.1 (x.2.1.map bC))]) (fun x=>aU x.2.2.2 x.2.2.1 (x.2.1.map bC)) (fun x=>x.1.length) (by decide +kernel) ⟨(b,[],0,st),⟨by rw[dI];exact hT,by simp only[aW];omega,aJ.refl _,by simp⟩,aP.mk (by simp only[bD,jM,aB,seval])⟩ ?_
 rintro⟨b,acc,p,s0⟩ ⟨h1,h2,h3,h4⟩
 simp only at h1 h2 h3 h4 ⊢
 have hn:=RA b (aU s0 p (acc.map bC))
 unfold eS at h1
 have vN:=BH (b:=b)
 generalize hN:gD b=N at *
 generalize hF:uI b=F at *
 obtain⟨y,s⟩:=F
 simp only[aB,seval]
 refine hn.to ?_
 simp only[aG,aA.aK,bC,aB,↓a9,seval,OH]
 intro b6 hb6
 obtain⟨h5,h6⟩:=QG hb6
 have hW:∀o:AO,(aU s0 p (acc.map bC)).aC b6 o=aU (s0.aC b6 o) p (acc.map bC):=fun o=>nF h6
 have h6n:∀o:AO,(aU (s0.aC b6 o) p (acc.map bC)) b6=some o:=fun o=>by rw[wY h6,aA.aK]
 have h6u:∀(o o':AO),(aU (s0.aC b6 o) p (acc.map bC)).aC b6 o'=aU (s0.aC b6 o') p (acc.map bC):=fun o o'=>by rw[nF h6,d3]
 have h7:∀o:AO,aJ (s0.aC b6 o) st:=fun o=>h3.aC ((h3 b6).1 h5)
 have h8:∀o:AO,acc.map bC≠[]→(s0.aC b6 o) p=none:=fun o h=>by rw[aA.aO _ _ (dM (h6 h))];exact h4 h
 rw[hW]
 by_cases hz:N=0
 case pos=>
  subst hz
  rw[dif_neg (by omega),aN rfl] at h1
  simp only[gI] at h1
  simp only[jL,aB,seval]
  exact⟨p,_,_,rfl,h8 _,mC _,⟨2,kP _⟩,h7 _,by rw[←h1];simp only[GG,eW,kN,gY,jD,bF,bD]⟩
 have hz':=bB hz
 by_cases hg:N<0
 case pos=>
  rw[dif_neg (by omega),aH hz] at h1
  simp only[gI] at h1
  have hg':=bP hg
  simp only[hz',hg',a8,aV,jL,aB,seval]
  exact⟨p,_,_,rfl,h8 _,mC _,⟨2,kP _⟩,h7 _,by rw[←h1];simp only[GG,eW,kN,lD,jD,bF,bD]⟩
 have hg':=bB hg
 have hp:0<N:=by omega
 obtain⟨e1,e2,e3,-,e5⟩:=vN hp
 rw[dif_pos hp] at h1
 simp only at h1
 subst e1
 have hsl:=fun φ h=>aG6 (φ:=φ) (x:=.tmp 26) (l:=b) (k:=2+dJ b) h e2
 simp only[hz',hg',a8,h6n,aB,seval,OH]
 refine eE jQ nJ nK rfl rfl (gZ rfl rfl) (kP _) (h8 _) (by simp only[aE,aY,aW];omega) (by simp only[aE,aY,aW];omega) (fun p' hp'=>?_)
 rw[show acc.map bC++ [.agg [.int .i64 y,.str s]]=(acc++ [kQ b]).map bC by rw[←e5];simp [bC]] at hp' ⊢
 simp only[aB,seval]
 rw[hsl _ (by simp only[aB,seval])]
 simp only[aB,seval]
 refine⟨(b.drop (2+dJ b),acc++ [kQ b],p',_),by simp only[jZ];omega,⟨?_,?_,h7 _,hp'⟩,aP.mk (by simp only[aB,seval]<;>rfl)⟩
 · rw[←h1];simp
 · simp only[cX,aY,aW,jZ];omega
end Go.AW
