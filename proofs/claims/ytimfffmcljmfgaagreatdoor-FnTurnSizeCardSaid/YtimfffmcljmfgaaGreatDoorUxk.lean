import Derived.Test.YtimfffmcljmfgaaGreatDoorUxj
import Derived.Test.YtimfffmcljmfgaaGreatDoorUxi
set_option linter.unusedSimpArgs false
set_option linter.unusedVariables false
set_option maxRecDepth 100000
namespace Go.AW
open Go.Proofs.Tryz
theorem a6F{nm:ByteArray}(h:dW nm≠0):nm≠⟨#[]⟩:=by rintro rfl;exact h (by decide)
abbrev tU:=zi tI_3 (zi zI_3 (zi aY (zi tI_9 (zi zI_9 (zi cV (zi tI_31 (zi zI_31 (zi aQ (zi bS (zi bT (zi cI (zi tI_66 (zi zI_66 (zi bZ (zi b9 (zi cA (zi cB bY)))))))))))))))))
set_option maxHeartbeats 2000000 in
theorem aZF{s:ByteArray}(hs:s.size≤1000):∀(n d a lv:Nat) (st:aA),a≤s.size→lv≤3→d≤1048576→(s.size - a)*4+lv<n →
 aD prog 322 [.str s,.int .i64 (a:Int),.int .i64 (d:Int),.int .i64 (lv:Int)] st (fun r st'=>nW (rd (sb s) n d a lv) r∧st'=st):=by
 intro n
 induction n with
 | zero=>intro d a lv st _ _ _ h;omega
 | succ n IH=>
 intro d a lv st ha hlv hd hn
 have hl1:(sb s).length≤1000:=by rw[cQ];exact hs
 refine aD.TC ?_
 refine wF [1000000,10] 4 func322 ntmps322 rfl rfl ?_
 intro _
 generalize hP:rd (sb s) (n+1) d a lv=o
 simp -implicitDefEqProofs only[aB,seval,tU]
 intro b hb
 have hD:=fun(o:AO)=>(aL.refl st).aC (o:=o) hb
 cases lv with
 | zero=>
  simp only[rd] at hP
  have h0:(((0:Nat):Int)=0)=True:=dC rfl
  simp -implicitDefEqProofs only[bV,aB,↓aU,seval]
  refine(aZE (R:=fun d a=>rd (sb s) n d a 3) (a:=a) (fun d hd a' st' h1 h2=>IH d a' 3 st' h2 (by omega) hd (by omega)) (fun d=>DR hl1 n d 3) hs ha d hd _).mono ?_
  rintro r _ ⟨hr,rfl⟩
  rw[hP] at hr
  cases o with
  | none=>
   obtain⟨k,hk,rfl⟩:=hr
   simp -implicitDefEqProofs only[aK,cP,cU,cL,gI (cL _),gG (bG _),mT,aB,seval,tU]
   exact⟨BB hk,hD _⟩
  | some p=>
   obtain⟨t,e⟩:=p
   simp only[nW] at hr
   subst hr
   simp -implicitDefEqProofs only[aK,cP,cU,cL,gI (cL _),gG (bG _),aB,seval,tU]
   exact⟨tO rfl,hD _⟩
 | succ lv=>
  simp only[rd] at hP
  have h0:(((lv+1:Nat):Int)=0)=False:=cK (by omega)
  obtain⟨lw,hlw⟩:∃lw,lw=lv+1:=⟨_,rfl⟩
  rw[←hlw] at hP h0 ⊢
  have hwl:=pN (x:=(lw:Int) - 1) (m:=lv) (by omega) (by omega)
  simp -implicitDefEqProofs only[h0,hwl,bX,aB,seval]
  refine(IH d a lv _ ha (by omega) hd (by omega)).mono ?_
  rintro r _ ⟨hr,rfl⟩
  cases hRi:rd (sb s) n d a lv with
  | none=>
   rw[hRi] at hr hP
   simp only at hP
   subst hP
   obtain⟨k,hk,rfl⟩:=hr
   have hk0:((0:Int)≤(-1 - (k:Int)))=False:=cK (by omega)
   simp -implicitDefEqProofs only[aK,cP,cL,mT,aB,↓aU,seval,tU]
   intro b10 h10
   have hbb:b10≠b:=fun h=>by rw[h,aA.aJ] at h10;cases h10
   have TW:st b10=none:=by rwa [aA.aG _ _ hbb] at h10
   refine iP (σ:=Unit) [1000000,10] [0,2,3,8,10] (fun _=>True) (fun _=>[(9,.int .i64 0),(11,.int .i64 (-1 - (k:Int)))]) (fun _=>(st.aC b (.cells [.int .i64 0,.int .i64 0,.str ⟨#[]⟩,.fslice []])).aC b10 (.cells LC.av.cells)) (fun _=>0) (by decide +kernel) ⟨(),trivial,aM.mk (by simp -implicitDefEqProofs only[aB,seval])⟩ ?_
   rintro _ _
   simp -implicitDefEqProofs only[aK,hk0,hbb.symm,bX,aB,seval,tU]
   exact⟨GW hk,((hD _).aC TW).aC hb⟩
  | some p=>
   obtain⟨t,e⟩:=p
   rw[hRi] at hr hP
   simp only[nW] at hr hP
   subst hr
   obtain⟨g1,g2,g3⟩:=DR hl1 n d lv a t e (by rw[cQ];exact ha) hRi
   rw[cQ] at g2 hP
   simp -implicitDefEqProofs only[aK,cP,cL,aB,↓aU,seval,tU]
   intro b10 h10
   have hbb:b10≠b:=fun h=>by rw[h,aA.aJ] at h10;cases h10
   have TW:st b10=none:=by rwa [aA.aG _ _ hbb] at h10
   have hE:∀o1 o2 o3,aL (((st.aC b o1).aC b10 o2).aC b o3) st:=fun o1 o2 o3=>((hD _).aC TW).aC hb
   refine iP (σ:=Tm×Nat×Nat) [1000000,10] [0,2,3,8,10] (fun x=>GO (fun a=>rd (sb s) n d a lv) (sb s) lw x.2.2 x.1 x.2.1=o∧a<x.2.1∧x.2.1≤s.size∧s.size<x.2.2+x.2.1) (fun x=>[(9,.int .i64 0),(11,.int .i64 (x.2.1:Int))]) (fun x=>(st.aC b (.cells [.int .i64 0,.int .i64 0,.str ⟨#[]⟩,.fslice []])).aC b10 (.cells x.1.av.cells)) (fun x=>x.2.2) (by decide +kernel) ⟨(t,e,s.size+1),⟨hP,g1,g2,by simp only;omega⟩,aM.mk (by simp -implicitDefEqProofs only[aB,seval])⟩ ?_
   rintro⟨t,e,m⟩ ⟨ht,hae,hes,hm⟩
   simp only at ht hae hes hm ⊢
   obtain⟨m,rfl⟩:∃m',m=m'+1:=⟨m - 1,by omega⟩
   simp only[GO] at ht
   have he0:((0:Int)≤(e:Int))=True:=dC (by omega)
   simp -implicitDefEqProofs only[he0,bV,aB,seval]
   refine(aZC s hs e hes _).to ?_
   cases hop:sF (sb s) e with
   | none=>
    rw[hop] at ht
    simp only at ht
    subst ht
    simp -implicitDefEqProofs only[aK,cP,cU,cL,gI (cL _),gG (bG _),V8,hbb.symm,bV,aB,seval,tU]
    exact⟨tO rfl,hE _ _ _⟩
   | some p=>
    obtain⟨nm,e1⟩:=p
    rw[hop] at ht
    simp only at ht
    obtain⟨k1,k2,k3⟩:=aRD hop
    rw[cQ] at k2
    have hnm:=cK (a6F k3)
    simp -implicitDefEqProofs only[V8,hnm,bX,aB,seval]
    refine(x6 nm _).to ?_
    by_cases aPK:dW nm=lw
    case neg=>
     rw[aH aPK] at ht
     subst ht
     have hne:((dW nm:Int)=(lw:Int))=False:=cK (by omega)
     simp -implicitDefEqProofs only[aK,cP,cU,cL,gI (cL _),gG (bG _),hne,hbb.symm,bX,aB,seval,tU]
     exact⟨tO rfl,hE _ _ _⟩
    rw[aE (by simpa using aPK)] at ht
    have hne:((dW nm:Int)=(lw:Int))=True:=dC (by omega)
    simp -implicitDefEqProofs only[hne,hwl,bV,aB,seval]
    refine(IH d e1 lv _ k2 (by omega) hd (by omega)).mono ?_
    rintro r _ ⟨hr,rfl⟩
    cases hRj:rd (sb s) n d e1 lv with
    | none=>
     rw[hRj] at hr ht
     simp only at ht
     subst ht
     obtain⟨k,hk,rfl⟩:=hr
     have hk0:((-1 - (k:Int))<0)=True:=dC (by omega)
     simp -implicitDefEqProofs only[aK,aO,cP,cU,hk0,mT,hbb.symm,bV,aB,↓aU,seval,tU]
     exact⟨GW hk,hE _ _ _⟩
    | some p=>
     obtain⟨t2,e2⟩:=p
     rw[hRj] at hr ht
     simp only[nW] at hr ht
     subst hr
     obtain⟨q1,q2,q3⟩:=DR hl1 n d lv e1 t2 e2 (by rw[cQ];exact k2) hRj
     rw[cQ] at q2
     have he2:((e2:Int)<0)=False:=cK (by omega)
     simp -implicitDefEqProofs only[bG,aO,cP,cU,cL,gI (cL _),gG (bG _),he2,bX,aB,↓aU,seval,tU]
     refine(MR nm [t,t2] (by simp) _).to ?_
     by_cases h3:lw=3
     · rw[aH h3] at ht
       subst ht
       have h3':((lw:Int)=3)=True:=dC (by omega)
       simp -implicitDefEqProofs only[aK,cP,cU,cL,gI (cL _),gG (bG _),h3',hbb.symm,bV,aB,seval,tU]
       exact⟨tO rfl,hE _ _ _⟩
     · rw[aE h3] at ht
       have h3':((lw:Int)=3)=False:=cK (by omega)
       simp -implicitDefEqProofs only[aK,cP,cL,h3',bX,aB,seval,tU]
       exact⟨(p7 nm [t,t2],e2,m),by simp only;omega,⟨ht,by simp only;omega,q2,by simp only;omega⟩,aM.mk (by simp -implicitDefEqProofs only[aB,seval])⟩
end Go.AW
namespace Go.AW
def lS:Nat→Nat→ByteArray→ByteArray
 | 0,_,acc=>acc
 | f+1,n,acc=>if 9<n then lS f (n / 10) (⟨#[UInt8.ofNat (48+n % 10)]⟩++acc) else⟨#[UInt8.ofNat (48+n)]⟩++acc
def oJ(n:Int):ByteArray:=if n<0 then⟨#[45]⟩++lS 20 (-n).toNat ⟨#[]⟩ else lS 20 n.toNat ⟨#[]⟩
def OG(n:Int):ByteArray:=⟨#[UInt8.ofNat (65+n.toNat)]⟩
def tM(t:Tm):Bool:=decide (t.k=3)&&(decide (t.s=⟨#[46]⟩)&&decide (t.ts.length=2))
def OJ(t:Tm):Bool:=decide (t.k=3)&&(decide (t.s=⟨#[91,93]⟩)&&decide (t.ts.length=0))
def yS(t:Tm):Bool:=decide (t.k=3)&&(decide (t.ts.length=2)&&decide (0<dW t.s))
def G1(t:Tm):Bool:=decide (t.k=3)&&(decide (t.ts.length=0)&&decide (0<dW t.s))
def RU(t:Tm):Bool:=decide (t.k=3)&&decide (0<t.ts.length)
def p6(t:Tm)(i:Nat):Tm:=t.ts.getD i bAR
 where bAR:Tm:=.mk 0 0 ⟨#[]⟩ []
def mQ(T:Tm→ByteArray):List Tm→ByteArray
 | []=>⟨#[]⟩
 | x::xs=>xs.foldl (fun o y=>(o++⟨#[44]⟩)++T y) (⟨#[]⟩++T x)
def spine:Nat→Tm→List Tm×Tm
 | 0,t=>([],t)
 | n+1,t=>if tM t then(p6 t 0::(spine n (p6 t 1)).1,(spine n (p6 t 1)).2) else([],t)
def tP(nm:ByteArray):ByteArray:=if jO nm then(⟨#[32]⟩++nm)++⟨#[32]⟩ else nm
def OR(l:List UInt8):Bool:=gP l 0 letter||(gP l 0 d5||(gP l 0 vT||(cW l 0 91||cW l 0 40)))
def wE(T:Tm→ByteArray)(t:Tm)(lv:Nat):ByteArray:=if yS t&&decide (lv<dW t.s) then(⟨#[40]⟩++T t)++⟨#[41]⟩ else T t
def DD(T:Tm→ByteArray)(t:Tm)(lv:Nat):ByteArray:=if G1 t then(⟨#[40]⟩++T t)++⟨#[41]⟩ else wE T t lv
def DU(T:Tm→ByteArray)(t:Tm)(lv:Nat):ByteArray:=if G1 t|| !OR (sb (wE T t lv)) then(⟨#[40]⟩++wE T t lv)++⟨#[41]⟩ else wE T t lv
def KA(T:Tm→ByteArray)(p:List Tm×Tm):ByteArray:=if OJ p.2 then(⟨#[91]⟩++mQ T p.1)++⟨#[93]⟩ else(((⟨#[91]⟩++mQ T p.1)++⟨#[124]⟩)++T p.2)++⟨#[93]⟩
def GC(t:Tm):ByteArray:=if t.k=1 then OG t.n else if t.k=2 then oJ t.n else t.s
def lvl(n:Nat):Nat:=if n=3 then 2 else n
def tx:Nat→Tm→ByteArray
 | 0,_=>⟨#[]⟩
 | n+1,t=>if tM t then KA (tx n) (spine n t) else if yS t then(DD (tx n) (p6 t 0) (lvl (dW t.s))++tP t.s)++DU (tx n) (p6 t 1) (dW t.s - 1)
  else if RU t then((t.s++⟨#[40]⟩)++mQ (tx n) t.ts)++⟨#[41]⟩ else GC t
theorem aWL{T:Tm→ByteArray}{l:List Tm}{i:Nat}{x:Tm}(hx:l[i]?=some x):mQ T (l.take (i+1))=(if 0<i then mQ T (l.take i)++⟨#[44]⟩ else mQ T (l.take i))++T x:=by
 rw[eD,hx]
 cases l with
 | nil=>simp at hx
 | cons y l=>
  cases i with
  | zero=>simp at hx;subst hx;rfl
  | succ i=>
   rw[aH (by omega),xK]
   simp only[mQ,EO,iB,LU,B3,List.foldl_nil]
theorem dN(a b:ByteArray):(a++b).size=a.size+b.size:=ByteArray.size_append
theorem CN:∀(f n:Nat) (acc:ByteArray),(lS f n acc).size≤f+acc.size
 | 0,n,acc=>by simp [lS]
 | f+1,n,acc=>by
  unfold lS
  split
  · refine mK (CN f _ _) ?_
    rw[dN]
    show f+(1+acc.size)≤_
    omega
  · rw[dN]
    show 1+acc.size≤_
    omega
abbrev Ws (t:Tm):Prop:=∃d,t.shape d=true
theorem Ws.own{k n:Int}{s:ByteArray}{ts:List Tm}(h:Ws (.mk k n s ts)):eO k n s ts.length=true∧∀x∈ts,Ws x:=by
 obtain⟨d,h⟩:=h
 rw[Tm.G0,cF,cF,eH] at h
 exact⟨h.1.2,fun x hx=>⟨_,h.2 x hx⟩⟩
theorem KI{k n:Int}{s:ByteArray}{len:Int}(h:eO k n s len=true):(k=1∧0≤n∧n≤25∧s=⟨#[]⟩∧len=0)∨(k=2∧-999≤n∧n≤999∧s=⟨#[]⟩∧len=0)∨(k=3∧n=0∧A8 s=true∧len≤4):=by
 unfold eO at h
 by_cases h1:k=1
 · rw[fQ h1] at h
   simp only[cond_true,cF,bK] at h
   exact Or.inl ⟨h1,h.1.1.1,h.1.1.2,h.1.2,h.2⟩
 rw[fP h1] at h
 by_cases h2:k=2
 · rw[fQ h2] at h
   simp only[cond_true,CM,cF,bK] at h
   exact Or.inr (Or.inl ⟨h2,h.1.1.1,h.1.1.2,h.1.2,h.2⟩)
 rw[fP h2] at h
 by_cases h3:k=3
 · rw[fQ h3] at h
   simp only[cond_true,CM,cF,bK] at h
   exact Or.inr (Or.inr ⟨h3,h.1.1,h.1.2,h.2⟩)
 · rw[fP h3] at h
   cases h
theorem VT{s:ByteArray}(h:A8 s=true):1≤s.size∧s.size≤6:=by
 unfold A8 at h
 rw[pP] at h
 rcases h with h | h
 · simp only[vB,cF,bK] at h
   omega
 · rw[B1] at h
   obtain⟨x,hx,h⟩:=h
   rw[bK] at h
   subst h
   revert hx
   revert s
   decide
theorem Ws.size{t:Tm}(h:Ws t):t.s.size≤6∧(t.k=3→1≤t.s.size):=by
 obtain⟨k,n,s,ts⟩:=t
 rcases KI h.own.1 with h | h | h
 · rw[show(Tm.mk k n s ts).s=s from rfl,h.2.2.2.1];exact⟨by decide,fun h3=>by have:k=3:=h3;omega⟩
 · rw[show(Tm.mk k n s ts).s=s from rfl,h.2.2.2.1];exact⟨by decide,fun h3=>by have:k=3:=h3;omega⟩
 · have:=VT h.2.2.1;exact⟨this.2,fun _=>this.1⟩
theorem tK(t:Tm):1≤t.nodes:=by obtain⟨k,n,s,ts⟩:=t;rw[Tm.iD];omega
theorem aQQ{x:Tm}{l:List Tm}(h:x∈l):x.nodes≤bD Tm.nodes l:=by
 induction l with
 | nil=>cases h
 | cons y l ih=>
  simp only[bD]
  rcases c7.1 h with rfl | h
  · omega
  · have:=ih h;omega
theorem aSX:∀(l:List Tm) (i:Nat),bD Tm.nodes (l.take i)≤bD Tm.nodes l
 | [],i=>by simp
 | x::l,0=>by simp [bD]
 | x::l,i+1=>by simp only[xK,bD];have:=aSX l i;omega
theorem MH{T:Tm→ByteArray}{l:List Tm}(h:∀x∈l,(T x).size≤32*x.nodes):(mQ T l).size≤32*bD Tm.nodes l+l.length:=by
 have hg:∀(xs:List Tm) (o:ByteArray),(∀x∈xs,(T x).size≤32*x.nodes)→(xs.foldl (fun o y=>(o++⟨#[44]⟩)++T y) o).size≤o.size+32*bD Tm.nodes xs+xs.length:=by
  intro xs
  induction xs with
  | nil=>intro o _;simp [bD]
  | cons x xs ih=>
   intro o hx
   refine mK (ih _ fun y hy=>hx y (by simp [hy])) ?_
   rw[dN,dN]
   have:=hx x (by simp)
   simp only[bD,aX]
   show o.size+1+_+_+_≤_
   omega
 cases l with
 | nil=>exact jE _
 | cons x l=>
  refine mK (hg l _ fun y hy=>h y (by simp [hy])) ?_
  rw[dN]
  have:=h x (by simp)
  simp only[bD,aX]
  show 0+_+_+_≤_
  omega
theorem GS{t:Tm}(h:tM t=true):∃n x y,t=.mk 3 n ⟨#[46]⟩ [x,y]:=by
 obtain⟨k,n,s,ts⟩:=t
 simp only[tM,cF,bK] at h
 simp only[Tm.k,Tm.s,Tm.ts] at h
 obtain⟨rfl,rfl,h3⟩:=h
 match ts,h3 with
 | [x,y],_=>exact⟨n,x,y,rfl⟩
theorem GB{k n:Int}{s:ByteArray}{x y:Tm}:p6 (.mk k n s [x,y]) 0=x∧p6 (.mk k n s [x,y]) 1=y:=⟨rfl,rfl⟩
theorem W9:∀(n:Nat) (t:Tm),Ws t→(∀x∈(spine n t).1,Ws x)∧Ws (spine n t).2∧bD Tm.nodes (spine n t).1+(spine n t).1.length+(spine n t).2.nodes=t.nodes
 | 0,t,h=>⟨by simp [spine],h,by simp [spine,bD]⟩
 | n+1,t,h=>by
  unfold spine
  split
  · rename_i hp
    obtain⟨m,x,y,rfl⟩:=GS hp
    have hk:=h.own.2
    obtain⟨h1,h2,h3⟩:=W9 n y (hk y (by simp))
    simp only[GB]
    refine⟨fun z hz=>?_,h2,?_⟩
    · rcases c7.1 hz with rfl | hz
      · exact hk z (by simp)
      · exact h1 z hz
    · simp only[bD,aX,Tm.iD]
      omega
  · exact⟨by simp,h,by simp [bD]⟩
theorem VI{t:Tm}(h:yS t=true):∃n s x y,t=.mk 3 n s [x,y]∧0<dW s:=by
 obtain⟨k,n,s,ts⟩:=t
 simp only[yS,cF,bK] at h
 simp only[Tm.k,Tm.s,Tm.ts] at h
 obtain⟨rfl,h2,h3⟩:=h
 match ts,h2 with
 | [x,y],_=>exact⟨n,s,x,y,rfl,h3⟩
theorem R8{T:Tm→ByteArray}{t:Tm}(lv:Nat):(T t).size≤(wE T t lv).size∧(wE T t lv).size≤(T t).size+2:=by
 unfold wE
 split
 · rw[dN,dN];show _≤1+_+1∧1+_+1≤_;omega
 · omega
theorem a59{T:Tm→ByteArray}{t:Tm}(lv:Nat):(T t).size≤(DD T t lv).size∧(DD T t lv).size≤(T t).size+2:=by
 unfold DD
 split
 · rw[dN,dN];show _≤1+_+1∧1+_+1≤_;omega
 · exact R8 lv
theorem a8R{T:Tm→ByteArray}{t:Tm}(lv:Nat):(T t).size≤(DU T t lv).size∧(DU T t lv).size≤(T t).size+4:=by
 have:=R8 (T:=T) (t:=t) lv
 unfold DU
 split
 · rw[dN,dN];show _≤1+_+1∧1+_+1≤_;omega
 · omega
theorem QG:∀(n:Nat) (t:Tm),Ws t→(tx n t).size≤32*t.nodes
 | 0,t,_=>jE _
 | n+1,t,h=>by
  have hT:=QG n
  unfold tx
  split
  · rename_i hp
    obtain⟨h1,h2,h3⟩:=W9 n t h
    have ha:=MH (T:=tx n) (l:=(spine n t).1) fun x hx=>hT x (h1 x hx)
    have hb:=hT _ h2
    have hq:=tK (spine n t).2
    have hl:1≤(spine n t).1.length∨n=0:=by
     cases n with
     | zero=>exact Or.inr rfl
     | succ m=>left;unfold spine;rw[aH hp];simp
    have h4:3≤t.nodes:=by obtain⟨m,x,y,rfl⟩:=GS hp;simp only[Tm.iD,bD];have:=tK x;have:=tK y;omega
    have hb2:1≤(spine n t).1.length∨((tx n (spine n t).2).size=0∧(mQ (tx n) (spine n t).1).size=0):=by
     rcases hl with hl | rfl
     · left;omega
     · right;exact⟨rfl,rfl⟩
    unfold KA
    split
    · rw[dN,dN];show 1+_+1≤_;omega
    · rw[dN,dN,dN,dN];show 1+_+1+_+1≤_;omega
  split
  · rename_i hp
    obtain⟨m,s,x,y,rfl,hs⟩:=VI hp
    have hk:=h.own.2
    have h6:=h.size.1
    simp only[GB,Tm.iD,bD,Tm.s]
    have hx:=hT x (hk x (by simp))
    have hy:=hT y (hk y (by simp))
    have hl:=(a59 (T:=tx n) (t:=x) (lvl (dW s))).2
    have hr:=(a8R (T:=tx n) (t:=y) (dW s - 1)).2
    rw[dN,dN]
    have hsp:(tP s).size≤8:=by
     have h6:s.size≤6:=h6
     unfold tP
     split
     · rw[dN,dN];show 1+_+1≤_;omega
     · omega
    show _+(tP s).size+_≤_
    omega
  split
  · obtain⟨k,m,s,ts⟩:=t
    have ha:=MH (T:=tx n) (l:=ts) fun x hx=>hT x (h.own.2 x hx)
    have h6:s.size≤6:=h.size.1
    have h4:ts.length≤4:=by rcases KI h.own.1 with h | h | h<;>omega
    rw[dN,dN,dN,Tm.iD]
    simp only[Tm.s,Tm.ts]
    show s.size+1+_+1≤_
    omega
  · have h6:=h.size.1
    have hp:=tK t
    unfold GC
    split
    · show 1≤_;omega
    · split
      · unfold oJ
        split
        · rw[dN];have:=CN 20 (-t.n).toNat ⟨#[]⟩;have h0:(⟨#[]⟩:ByteArray).size=0:=rfl;show 1+_≤_;omega
        · have:=CN 20 t.n.toNat ⟨#[]⟩;have h0:(⟨#[]⟩:ByteArray).size=0:=rfl;omega
      · omega
def zB:Nat→Tm→Tm
 | 0,t=>t
 | i+1,t=>zB i (p6 t 1)
theorem aSK:∀(i:Nat) (t:Tm),zB (i+1) t=p6 (zB i t) 1
 | 0,t=>rfl
 | i+1,t=>by rw[zB,aSK i];try rfl
theorem aSL:∀(n:Nat) (t:Tm) (i:Nat) (x:Tm),(spine n t).1[i]?=some x→tM (zB i t)=true∧p6 (zB i t) 0=x
 | 0,t,i,x,h=>by simp [spine] at h
 | n+1,t,i,x,h=>by
  unfold spine at h
  split at h
  · rename_i hp
    cases i with
    | zero=>simp at h;exact⟨hp,h⟩
    | succ i=>exact aSL n _ i x (by simpa using h)
  · simp at h
theorem aSM:∀(n:Nat) (t:Tm),t.nodes≤n+1→(spine n t).2=zB (spine n t).1.length t∧tM (spine n t).2=false
 | 0,t,h=>by
  refine⟨rfl,?_⟩
  cases hp:tM t with
  | false=>exact hp
  | true=>obtain⟨m,x,y,rfl⟩:=GS hp;simp only[Tm.iD,bD] at h;have:=tK x;omega
 | n+1,t,h=>by
  unfold spine
  split
  · rename_i hp
    obtain⟨m,x,y,rfl⟩:=GS hp
    simp only[Tm.iD,bD] at h
    have:=tK x
    have:=aSM n y (by omega)
    exact⟨this.1,this.2⟩
  · rename_i hp
    exact⟨rfl,by simpa using hp⟩
theorem bA1{n:Nat}{t:Tm}(h:Ws t)(hn:1≤n):1≤(tx n t).size:=by
 obtain⟨n,rfl⟩:∃m,n=m+1:=⟨n - 1,by omega⟩
 unfold tx
 split
 · unfold KA
   split
   · rw[dN,dN];show 1≤1+_+1;omega
   · rw[dN];show 1≤_+1;omega
 split
 · rename_i hp
   obtain⟨m,s,x,y,rfl,hs⟩:=VI hp
   have h6:1≤s.size:=h.size.2 rfl
   rw[dN,dN]
   have:1≤(tP s).size:=by
    unfold tP
    split
    · rw[dN,dN];omega
    · exact h6
   show 1≤_+(tP s).size+_
   omega
 split
 · rw[dN];show 1≤_+1;omega
 · obtain⟨k,m,s,ts⟩:=t
   rw[show GC (.mk k m s ts)=if k=1 then OG m else if k=2 then oJ m else s from rfl]
   rcases KI h.own.1 with h1 | h1 | h1
   · rw[aH h1.1];exact cY _
   · rw[aE (by omega),aH h1.1]
     unfold oJ
     split
     · rw[dN];show 1≤1+_;omega
     · have hf:∀f n acc,1≤(lS (f+1) n acc).size:=by
        intro f
        induction f with
        | zero=>
         intro n acc;unfold lS;split
         · simp only[lS];rw[dN];show 1≤1+_;omega
         · rw[dN];show 1≤1+_;omega
        | succ f ih=>
         intro n acc;unfold lS;split
         · exact ih _ _
         · rw[dN];show 1≤1+_;omega
       exact hf 19 _ _
   · rw[aE (by omega),aE (by omega)];exact(VT h1.2.2.1).1
end Go.AW
namespace Go.AW
open Go.Proofs.Tryz
theorem aRI{k n:Int}{s:ByteArray}{ts:List Tm}:tM (.mk k n s ts)=(decide (k=3)&&(decide (s=⟨#[46]⟩)&&decide (ts.length=2))):=rfl
theorem a65{k n:Int}{s:ByteArray}{ts:List Tm}:OJ (.mk k n s ts)=(decide (k=3)&&(decide (s=⟨#[91,93]⟩)&&decide (ts.length=0))):=rfl
theorem a5T{k n:Int}{s:ByteArray}{ts:List Tm}:yS (.mk k n s ts)=(decide (k=3)&&(decide (ts.length=2)&&decide (0<dW s))):=rfl
theorem RT{k n:Int}{s:ByteArray}{ts:List Tm}:RU (.mk k n s ts)=(decide (k=3)&&decide (0<ts.length)):=rfl
theorem a9J{k n:Int}{s:ByteArray}{ts:List Tm}:G1 (.mk k n s ts)=(decide (k=3)&&(decide (ts.length=0)&&decide (0<dW s))):=rfl
abbrev XZ:=zi tI_3 (zi zI_3 (zi aY (zi tI_4 (zi zI_4 (zi cJ (zi tI_9 (zi zI_9 (zi cV (zi tI_31 (zi zI_31 (zi aQ (zi bS (zi bT (zi cI (zi tI_66 (zi zI_66 (zi bZ (zi b9 (zi cA (zi cB bY))))))))))))))))))))
theorem MQ(t:Tm)(st:aA):aD prog 274 [t.av] st (fun r st'=>r=.bool (tM t)∧st'=st):=by
 obtain⟨k,n,s,ts⟩:=t
 rw[aRI]
 refine wF [1000000] 1 func274 ntmps274 rfl rfl ?_
 intro _
 simp only[bA]
 by_cases h1:k=3
 case neg=>
  rw[fP h1,iA]
  simp -implicitDefEqProofs only[h1,bX,aB,seval,XZ]
 rw[fQ h1,eU]
 by_cases h2:s=⟨#[46]⟩
 case neg=>
  rw[fP h2,iA]
  simp -implicitDefEqProofs only[h1,h2,bV,bX,aB,seval,XZ]
 rw[fQ h2,eU]
 have h3:decide (((ts.length:Nat):Int)=2)=decide (ts.length=2):=by rw[CO];omega
 simp -implicitDefEqProofs only[h1,h2,h3,bV,aF,aB,seval,XZ]
abbrev X1:=zi tI_3 (zi zI_3 (zi aY (zi tI_4 (zi zI_4 (zi cJ (zi tI_9 (zi zI_9 (zi cV (zi tI_31 (zi zI_31 (zi aQ (zi bS (zi bT (zi cI (zi tI_66 (zi zI_66 (zi bZ (zi b9 (zi cA (zi cB bY))))))))))))))))))))
theorem aY0(t:Tm)(st:aA):aD prog 332 [t.av] st (fun r st'=>r=.bool (OJ t)∧st'=st):=by
 obtain⟨k,n,s,ts⟩:=t
 rw[a65]
 refine wF [1000000] 1 func332 ntmps332 rfl rfl ?_
 intro _
 simp only[bA]
 by_cases h1:k=3
 case neg=>
  rw[fP h1,iA]
  simp -implicitDefEqProofs only[h1,bX,aB,seval,X1]
 rw[fQ h1,eU]
 by_cases h2:s=⟨#[91,93]⟩
 case neg=>
  rw[fP h2,iA]
  simp -implicitDefEqProofs only[h1,h2,bV,bX,aB,seval,X1]
 rw[fQ h2,eU]
 have h3:decide (((ts.length:Nat):Int)=0)=decide (ts.length=0):=by rw[CO];omega
 simp -implicitDefEqProofs only[h1,h2,h3,bV,aF,aB,seval,X1]
abbrev X0:=zi tI_3 (zi zI_3 (zi aY (zi tI_4 (zi zI_4 (zi cJ (zi tI_9 (zi zI_9 (zi cV (zi tI_31 (zi zI_31 (zi aQ (zi bS (zi bT (zi cI (zi tI_66 (zi zI_66 (zi bZ (zi b9 (zi cA (zi cB bY))))))))))))))))))))
theorem aBU(t:Tm)(st:aA):aD prog 276 [t.av] st (fun r st'=>r=.bool (yS t)∧st'=st):=by
 obtain⟨k,n,s,ts⟩:=t
 rw[a5T]
 refine wF [1000000] 1 func276 ntmps276 rfl rfl ?_
 intro _
 simp only[bA]
 by_cases h1:k=3
 case neg=>
  rw[fP h1,iA]
  simp -implicitDefEqProofs only[h1,bX,aB,seval,X0]
 rw[fQ h1,eU]
 by_cases h2:ts.length=2
 case neg=>
  rw[fP h2,iA]
  have h2':(((ts.length:Nat):Int)=2)=False:=cK (by omega)
  simp -implicitDefEqProofs only[h1,h2',bV,bX,aF,aB,seval,X0]
 rw[fQ h2,eU]
 have h2':(((ts.length:Nat):Int)=2)=True:=dC (by omega)
 simp -implicitDefEqProofs only[h1,h2',bV,aF,aB,seval,X0]
 refine(x6 s _).to ?_
 have h3:decide ((0:Int)<(dW s:Int))=decide (0<dW s):=by rw[CO];omega
 simp -implicitDefEqProofs only[h3,aB,seval]
abbrev X2:=zi tI_3 (zi zI_3 (zi aY (zi tI_4 (zi zI_4 (zi cJ (zi tI_9 (zi zI_9 (zi cV (zi tI_31 (zi zI_31 (zi aQ (zi bS (zi bT (zi cI (zi tI_66 (zi zI_66 (zi bZ (zi b9 (zi cA (zi cB bY))))))))))))))))))))
theorem aBV(t:Tm)(st:aA):aD prog 333 [t.av] st (fun r st'=>r=.bool (G1 t)∧st'=st):=by
 obtain⟨k,n,s,ts⟩:=t
 rw[a9J]
 refine wF [1000000] 1 func333 ntmps333 rfl rfl ?_
 intro _
 simp only[bA]
 by_cases h1:k=3
 case neg=>
  rw[fP h1,iA]
  simp -implicitDefEqProofs only[h1,bX,aB,seval,X2]
 rw[fQ h1,eU]
 by_cases h2:ts.length=0
 case neg=>
  rw[fP h2,iA]
  have h2':(((ts.length:Nat):Int)=0)=False:=cK (by omega)
  simp -implicitDefEqProofs only[h1,h2',bV,bX,aF,aB,seval,X2]
 rw[fQ h2,eU]
 have h2':(((ts.length:Nat):Int)=0)=True:=dC (by omega)
 simp -implicitDefEqProofs only[h1,h2',bV,aF,aB,seval,X2]
 refine(x6 s _).to ?_
 have h3:decide ((0:Int)<(dW s:Int))=decide (0<dW s):=by rw[CO];omega
 simp -implicitDefEqProofs only[h3,aB,seval]
theorem aZH(s:ByteArray)(hs:s.size≤1000)(st:aA):aD prog 278 [.str s] st (fun r st'=>r=.str (tP s)∧st'=st):=by
 refine wF [1000000] 1 func278 ntmps278 rfl rfl ?_
 intro _
 have hm:maxLen=9223372036854775807:=by rfl
 have g1:(⟨#[32]⟩:ByteArray).size+s.size≤maxLen:=by show 1+s.size≤_;omega
 have g2:((⟨#[32]⟩:ByteArray)++s).size+(⟨#[32]⟩:ByteArray).size≤maxLen:=by rw[dN];show 1+s.size+1≤_;omega
 by_cases h1:s=⟨#[105,115]⟩
 · have hW:jO s=true:=by unfold jO;rw[fQ h1];try rfl
   unfold tP
   rw[aH hW]
   have h1':=dC h1
   simp -implicitDefEqProofs only[h1',g1,g2,↓reduceIte,bV,aB,seval]
 · have h1':=cK h1
   by_cases h2:s=⟨#[109,111,100]⟩
   · have hW:jO s=true:=by unfold jO;rw[fQ h2];exact xG _
     unfold tP
     rw[aH hW]
     have h2':=dC h2
     simp -implicitDefEqProofs only[h1',h2',g1,g2,↓reduceIte,bV,bX,aB,seval]
   · have hW:jO s=false:=by unfold jO;rw[fP h1,fP h2];try rfl
     unfold tP
     rw[aE (by rw[hW];decide)]
     have h2':=cK h2
     simp -implicitDefEqProofs only[h1',h2',bX,aB,seval]
theorem aZD(s:ByteArray)(hs:1≤s.size)(st:aA):aD prog 335 [.str s] st (fun r st'=>r=.bool (OR (sb s))∧st'=st):=by
 refine wF [1000000] 1 func335 ntmps335 rfl rfl ?_
 intro _
 obtain⟨x,hx⟩:=xZ (s:=s) (n:=0) (by omega)
 have hix:=u9 (P:=prog) (t:=9) cV hx
 rw[show((0:Nat):Int)=0 from rfl] at hix
 unfold OR
 simp only[yT hx,vA hx]
 simp -implicitDefEqProofs only[aB,seval]
 refine(aQX s 0 _).to ?_
 rw[yT hx]
 cases h1:letter x with
 | true=>
  simp -implicitDefEqProofs only[aB,seval]
  simp
 | false=>
  simp -implicitDefEqProofs only[aB,seval]
  refine(DH s 0 _).to ?_
  rw[yT hx]
  cases h2:d5 x with
  | true=>
   simp -implicitDefEqProofs only[aB,seval]
   simp
  | false=>
   by_cases h3:65≤x.toNat
   case' pos=>have h3':((65:Int)≤(x.toNat:Int))=True:=dC (by omega)
   case' neg=>have h3':((65:Int)≤(x.toNat:Int))=False:=cK (by omega)
   all_goals
    by_cases h4:x.toNat≤90
    case' pos=>have h4':((x.toNat:Int)≤90)=True:=dC (by omega)
    case' neg=>have h4':((x.toNat:Int)≤90)=False:=cK (by omega)
   all_goals
    by_cases h5:x.toNat=91
    case' pos=>have h5':((x.toNat:Int)=91)=True:=dC (by omega)
    case' neg=>have h5':((x.toNat:Int)=91)=False:=cK (by omega)
   all_goals
    by_cases h6:x.toNat=40
    case' pos=>have h6':((x.toNat:Int)=40)=True:=dC (by omega)
    case' neg=>have h6':((x.toNat:Int)=40)=False:=cK (by omega)
   all_goals try (exfalso;omega)
   all_goals
    simp -implicitDefEqProofs only[hix,h3',h4',h5',h6',bV,bX,aB,seval]
    simp [vT,h3,h4,h5,h6]
theorem SA(n:Nat):bytesOf [AV.int .u8 ((n:Nat):Int)]=some [UInt8.ofNat n]:=by simp only[bytesOf,jQ,pA]
theorem QP{x:Int}{m:Nat}(h:x=(m:Int))(hm:m≤255):IntKind.wrap .u8 x=(m:Int):=by rw[IntKind.wrap_u8];omega
abbrev bAN:=zi tI_3 (zi zI_3 (zi aY (zi tI_5 (zi zI_5 (zi m6 (zi tI_9 (zi zI_9 (zi cV (zi tI_40 (zi zI_40 (zi tD (zi AL (zi AP zH)))))))))))))
theorem aYZ(m:Nat)(hm:m≤25)(st:aA):aD prog 212 [.int .i64 (m:Int)] st (fun r st'=>r=.str (OG m)∧st'=st):=by
 refine wF [1000000] 1 func212 ntmps212 rfl rfl ?_
 intro _
 have hw:=QP (x:=(m:Int)) rfl (by omega)
 obtain⟨y,hy⟩:∃y,y=65+m:=⟨_,rfl⟩
 have hw2:=QP (x:=65+(m:Int)) (m:=y) (by omega) (by omega)
 simp -implicitDefEqProofs only[v7,hw,hw2,SA,aB,seval,bAN]
 subst hy
 rfl
abbrev aTX:=zi tI_3 (zi zI_3 (zi aY (zi tI_5 (zi zI_5 (zi m6 (zi tI_9 (zi zI_9 (zi cV (zi tI_40 (zi zI_40 (zi tD (zi AL (zi AP zH)))))))))))))
theorem aBJ(n:Nat)(hn:n≤1000000)(st:aA):aD prog 264 [.int .i64 (n:Int)] st (fun r st'=>r=.str (lS 20 n ⟨#[]⟩)∧st'=st):=by
 refine wF [1000000] 1 func264 ntmps264 rfl rfl ?_
 intro _
 have h1:((n:Int)< -9223372036854775807)=False:=cK (by omega)
 have h2:((n:Int)<0)=False:=cK (by omega)
 simp -implicitDefEqProofs only[h1,h2,bX,aB,seval]
 generalize hT:lS 20 n ⟨#[]⟩=T
 refine iP (σ:=Nat×ByteArray×Nat) [1000000] [2] (fun x=>lS x.2.2 x.1 x.2.1=T∧x.1<10 ^ x.2.2∧x.1≤1000000∧1≤x.2.2∧x.2.1.size+x.2.2≤20) (fun x=>[(0,.int .i64 (x.1:Int)),(3,.str x.2.1)]) (fun _=>st) (fun x=>x.2.2) (by decide +kernel) ⟨(n,⟨#[]⟩,20),⟨hT,by simp only;omega,hn,by simp only;omega,by show 0+20≤20;omega⟩,aM.mk (by simp -implicitDefEqProofs only[aB,seval])⟩ ?_
 rintro⟨k,acc,f⟩ ⟨hd,hk,hk6,hf,hb⟩
 simp only at hd hk hk6 hf hb ⊢
 obtain⟨f,rfl⟩:∃f',f=f'+1:=⟨f - 1,by omega⟩
 have hm:maxLen=9223372036854775807:=by rfl
 have hsz:∀u:UInt8,(⟨#[u]⟩:ByteArray).size+acc.size≤maxLen:=fun u=>by show 1+acc.size≤_;omega
 have hr:((k:Int)).tmod 10=((k % 10:Nat):Int):=by rw[Int.tmod_eq_emod_of_nonneg (by omega)];omega
 have hq:((k:Int)).tdiv 10=((k / 10:Nat):Int):=by rw[Int.tdiv_eq_ediv_of_nonneg (by omega)];omega
 simp -implicitDefEqProofs only[aB,seval]
 refine aP (fun h3=>?_) (fun h3=>?_)
 · simp only[bK] at h3
   unfold lS at hd
   rw[aH (by omega)] at hd
   rw[Nat.pow_succ] at hk
   obtain⟨y,hy⟩:∃y,y=48+k % 10:=⟨_,rfl⟩
   obtain⟨q,hq'⟩:∃q,q=k / 10:=⟨_,rfl⟩
   obtain⟨r,hr'⟩:∃r,r=k % 10:=⟨_,rfl⟩
   rw[←hr'] at hr
   rw[←hq'] at hq
   have hwr:=bE (n:=(r:Int))
   have hw:=pN (x:=48+(r:Int)) (m:=y) (by omega) (by omega)
   have hw8:=QP (x:=(y:Int)) (m:=y) rfl (by omega)
   have hw2:=bE (n:=(q:Int))
   simp -implicitDefEqProofs only[v7,hr,hq,hw,hw8,hw2,SA,hsz,aB,seval,aTX]
   refine⟨(q,⟨#[UInt8.ofNat y]⟩++acc,f),by simp only;omega,⟨by rw[hq',hy];exact hd,by simp only;omega,by simp only;omega,?_,?_⟩,aM.mk (by simp -implicitDefEqProofs only[aB,seval]<;>rfl)⟩
   · show 1≤f
     rcases Q3 f with rfl | h
     · simp only[Nat.pow_zero] at hk;omega
     · exact h
   · show(⟨#[UInt8.ofNat y]⟩++acc:ByteArray).size+f≤20
     rw[dN]
     show 1+acc.size+f≤20
     omega
 · simp only[dJ] at h3
   unfold lS at hd
   rw[aE (by omega)] at hd
   obtain⟨y,hy⟩:∃y,y=48+k:=⟨_,rfl⟩
   have hw:=pN (x:=48+(k:Int)) (m:=y) (by omega) (by omega)
   have hw8:=QP (x:=(y:Int)) (m:=y) rfl (by omega)
   simp -implicitDefEqProofs only[v7,hw,hw8,SA,hsz,aB,seval,aTX]
   rw[←hd,hy]
theorem aYV(n:Int)(h1: -999≤n)(h2:n≤999)(st:aA):aD prog 263 [.int .i64 n] st (fun r st'=>r=.str (oJ n)∧st'=st):=by
 refine wF [1000000] 1 func263 ntmps263 rfl rfl ?_
 intro _
 unfold oJ
 have hm:maxLen=9223372036854775807:=by rfl
 by_cases h:n<0
 · rw[aH h]
   obtain⟨m,hm'⟩:∃m:Nat,m=(-n).toNat:=⟨_,rfl⟩
   rw[←hm']
   have h':=dC h
   have hw:=pN (x:=0 - n) (m:=m) (by omega) (by omega)
   have hw':=pN (x:= -n) (m:=m) (by omega) (by omega)
   have hs:(⟨#[45]⟩:ByteArray).size+(lS 20 m ⟨#[]⟩).size≤maxLen:=by have:=CN 20 m ⟨#[]⟩;have h0:(⟨#[]⟩:ByteArray).size=0:=rfl;show 1+_≤_;omega
   simp -implicitDefEqProofs only[h',hw,↓reduceIte,bV,aB,seval]
   refine(aBJ m (by omega) _).to ?_
   simp -implicitDefEqProofs only[hs,↓reduceIte,aB,seval]
 · rw[aE h]
   obtain⟨m,rfl⟩:=t7 (show 0≤n by omega)
   have h':=cK h
   rw[jQ]
   simp -implicitDefEqProofs only[h',bX,aB,seval]
   refine(aBJ m (by omega) _).to ?_
   simp -implicitDefEqProofs only[aB,seval]
abbrev K7:=zi tI_3 (zi zI_3 (zi aY (zi tI_9 (zi zI_9 (zi cV (zi tI_31 (zi zI_31 (zi aQ (zi bS (zi bT (zi cI (zi tI_66 (zi zI_66 (zi bZ (zi b9 (zi cA (zi cB bY)))))))))))))))))
theorem aY8(t:Tm)(ht:Ws t)(h0:t.k=3→t.ts= [])(st:aA):aD prog 281 [t.av] st (fun r st'=>r=.str (GC t)∧st'=st):=by
 obtain⟨k,n,s,ts⟩:=t
 have hp:=MQ (.mk k n s ts)
 simp only[bA] at hp ⊢
 rw[show GC (.mk k n s ts)=if k=1 then OG n else if k=2 then oJ n else s from rfl]
 have h0:k=3→ts= []:=h0
 refine wF [1000000] 1 func281 ntmps281 rfl rfl ?_
 intro _
 rcases KI ht.own.1 with ⟨rfl,h1,h2,rfl,h4⟩ | ⟨rfl,h1,h2,rfl,h4⟩ | ⟨rfl,rfl,h2,h4⟩
 · obtain⟨m,rfl⟩:=t7 h1
   simp -implicitDefEqProofs only[aB,seval,K7]
   refine(aYZ m (by omega) _).to ?_
   simp -implicitDefEqProofs only[aB,seval]
 · skip
   simp -implicitDefEqProofs only[aB,seval,K7]
   refine(aYV n h1 h2 _).to ?_
   simp -implicitDefEqProofs only[aB,seval]
 · obtain rfl:=h0 rfl
   simp -implicitDefEqProofs only[a7,aB,seval,K7]
   refine(hp _).to ?_
   rw[show tM (.mk 3 0 s [])=false by rw[aRI];simp]
   simp -implicitDefEqProofs only[aB,seval,K7]
   refine iP (σ:=Unit) [1000000] [1,2] (fun _=>True) (fun _=>[(3,.str s),(4,.int .i64 0)]) (fun _=>st) (fun _=>0) (by decide +kernel) ⟨(),trivial,aM.mk (by simp -implicitDefEqProofs only[aB,seval])⟩ ?_
   rintro _ _
   simp -implicitDefEqProofs only[a8,aB,seval,K7]
def zX(T:Tm→ByteArray)(t:Tm):Prop:=(∀st:aA,aD prog 213 [t.av] st (fun r st'=>r=.str (T t)∧st'=st))∧(T t).size≤32*t.nodes∧1≤(T t).size∧t.nodes≤1000
abbrev X4:=zi tI_3 (zi zI_3 (zi aY (zi tI_9 (zi zI_9 (zi cV (zi tI_31 (zi zI_31 (zi aQ (zi bS (zi bT (zi cI (zi tI_66 (zi zI_66 (zi bZ (zi b9 (zi cA (zi cB bY)))))))))))))))))
theorem aBS{T:Tm→ByteArray}(l:List Tm)(hT:∀t∈l,zX T t)(hn:bD Tm.nodes l≤10000)(hl:l.length≤10000)(st:aA):aD prog 280 [.slice (l.map Tm.av)] st (fun r st'=>r=.str (mQ T l)∧st'=st):=by
 refine wF [1000000] 1 func280 ntmps280 rfl rfl ?_
 intro _
 simp -implicitDefEqProofs only[aB,seval]
 refine d8 (σ:=Unit) [1000000] [0,2] l (fun i _=>True) (fun i _=>[(3,.str (mQ T (l.take i))),(4,.int .i64 i)]) (fun _ _=>st) (by decide +kernel) ⟨(),trivial,aM.mk (by simp -implicitDefEqProofs only[jR,aB,↓aU,seval]<;>rfl)⟩ (fun i x _ hx hlt bL hdr hinv=>?_) (fun _ hge hinv=>?_)
 case refine_2=>
  rw[dZ]
  simp -implicitDefEqProofs only[hge,aF,aB,seval,X4]
 have hxm:=cM hx
 obtain⟨c1,c2,c3,c4⟩:=hT x hxm
 have hw:=bE (n:=(i:Int)+1)
 have hat:=bP (av:=Tm.av) aQ hx (aO x)
 have iQ:=aWL (T:=T) hx
 have hsz:=MH (T:=T) (l:=l.take i) fun y hy=>(hT y (m9 hy)).2.1
 have hsl:bD Tm.nodes (l.take i)≤bD Tm.nodes l:=aSX l i
 have hln:(l.take i).length≤10000:=by rw[dE];omega
 have hm:maxLen=9223372036854775807:=by rfl
 have hs1:(mQ T (l.take i)).size+(⟨#[44]⟩:ByteArray).size≤maxLen:=by show _+1≤_;omega
 have hs2:(mQ T (l.take i)++(⟨#[44]⟩:ByteArray)).size+(T x).size≤maxLen:=by rw[dN];show _+1+_≤_;omega
 have hs3:(mQ T (l.take i)).size+(T x).size≤maxLen:=by omega
 by_cases h0:0<i
 · rw[aH h0] at iQ
   have h0':((0:Int)<(i:Int))=True:=dC (by omega)
   simp -implicitDefEqProofs only[aF,hat,bG,aO,bL,h0',hs1,↓reduceIte,bV,aB,seval,X4]
   refine(c1 _).to ?_
   simp -implicitDefEqProofs only[hs2,↓reduceIte,aB,seval]
   exact⟨(),aM.mk (by simp -implicitDefEqProofs only[hw,iQ,↓reduceIte,aB,seval])⟩
 · rw[aE h0] at iQ
   have h0':((0:Int)<(i:Int))=False:=cK (by omega)
   simp -implicitDefEqProofs only[aF,hat,bG,aO,bL,h0',↓reduceIte,bV,bX,aB,seval,X4]
   refine(c1 _).to ?_
   simp -implicitDefEqProofs only[hs3,↓reduceIte,aB,seval]
   exact⟨(),aM.mk (by simp -implicitDefEqProofs only[hw,iQ,↓reduceIte,aB,seval])⟩
abbrev K8:=zi tI_3 (zi zI_3 (zi aY (zi tI_9 (zi zI_9 (zi cV (zi tI_66 (zi zI_66 (zi bZ (zi b9 (zi cA (zi cB bY)))))))))))
theorem aBT{T:Tm→ByteArray}(t:Tm)(hT:zX T t)(lv:Nat)(hlv:lv≤10)(st:aA):aD prog 334 [t.av,.int .i64 (lv:Int)] st (fun r st'=>r=.str (wE T t lv)∧st'=st):=by
 obtain⟨c1,c2,c3,c4⟩:=hT
 have hm:maxLen=9223372036854775807:=by rfl
 have hs1:(⟨#[40]⟩:ByteArray).size+(T t).size≤maxLen:=by show 1+_≤_;omega
 have hs2:((⟨#[40]⟩:ByteArray)++T t).size+(⟨#[41]⟩:ByteArray).size≤maxLen:=by rw[dN];show 1+_+1≤_;omega
 have hi:=aBU t
 obtain⟨k,n,s,ts⟩:=t
 rw[show wE T (.mk k n s ts) lv=if(yS (.mk k n s ts)&&decide (lv<dW s))=true then(⟨#[40]⟩++T (.mk k n s ts))++⟨#[41]⟩ else T (.mk k n s ts) from rfl]
 generalize hTT:T (.mk k n s ts)=u at *
 simp only[bA] at hi c1 ⊢
 refine wF [1000000] 2 func334 ntmps334 rfl rfl ?_
 intro _
 simp -implicitDefEqProofs only[aB,seval,K8]
 refine(hi _).to ?_
 cases hk:yS (.mk k n s ts) with
 | false=>
  rw[iA,aE (by decide)]
  simp -implicitDefEqProofs only[aB,seval,K8]
  refine(c1 _).to ?_
  simp -implicitDefEqProofs only[aB,seval]
 | true=>
  rw[eU]
  simp -implicitDefEqProofs only[aB,seval,K8]
  refine(x6 s _).to ?_
  by_cases h:lv<dW s
  · rw[fQ h,aH rfl]
    have h':((lv:Int)<(dW s:Int))=True:=dC (by omega)
    simp -implicitDefEqProofs only[h',↓reduceIte,bV,aB,seval,K8]
    refine(c1 _).to ?_
    simp -implicitDefEqProofs only[hs1,hs2,↓reduceIte,aB,seval]
  · rw[fP h,aE (by decide)]
    have h':((lv:Int)<(dW s:Int))=False:=cK (by omega)
    simp -implicitDefEqProofs only[h',↓reduceIte,bX,aB,seval,K8]
    refine(c1 _).to ?_
    simp -implicitDefEqProofs only[↓reduceIte,aB,seval]
abbrev X3:=zi tI_3 (zi zI_3 (zi aY (zi tI_9 (zi zI_9 (zi cV (zi tI_66 (zi zI_66 (zi bZ (zi b9 (zi cA (zi cB bY)))))))))))
theorem aZA{T:Tm→ByteArray}(t:Tm)(hT:zX T t)(lv:Nat)(hlv:lv≤10)(st:aA):aD prog 277 [t.av,.int .i64 (lv:Int)] st (fun r st'=>r=.str (DD T t lv)∧st'=st):=by
 have hb:=aBT t hT lv hlv
 obtain⟨c1,c2,c3,c4⟩:=hT
 have hm:maxLen=9223372036854775807:=by rfl
 have hs1:(⟨#[40]⟩:ByteArray).size+(T t).size≤maxLen:=by show 1+_≤_;omega
 have hs2:((⟨#[40]⟩:ByteArray)++T t).size+(⟨#[41]⟩:ByteArray).size≤maxLen:=by rw[dN];show 1+_+1≤_;omega
 have hi:=aBV t
 unfold DD
 refine wF [1000000] 2 func277 ntmps277 rfl rfl ?_
 intro _
 simp -implicitDefEqProofs only[bG,aO,cU,↓reduceIte,aB,seval,X3]
 refine(hi _).to ?_
 cases hk:G1 t with
 | false=>
  rw[aE (by decide)]
  simp -implicitDefEqProofs only[bG,aO,↓reduceIte,aB,seval,X3]
  refine(hb _).to ?_
  simp -implicitDefEqProofs only[↓reduceIte,aB,seval]
 | true=>
  rw[aH rfl]
  simp -implicitDefEqProofs only[bG,aO,↓reduceIte,aB,seval,X3]
  refine(c1 _).to ?_
  simp -implicitDefEqProofs only[↓reduceIte,hs1,hs2,aB,seval]
abbrev aTY:=zi tI_3 (zi zI_3 (zi aY (zi tI_4 (zi zI_4 (zi cJ (zi tI_9 (zi zI_9 (zi cV (zi tI_66 (zi zI_66 (zi bZ (zi b9 (zi cA (zi cB bY))))))))))))))
theorem aZG{T:Tm→ByteArray}(t:Tm)(hT:zX T t)(lv:Nat)(hlv:lv≤10)(st:aA):aD prog 279 [t.av,.int .i64 (lv:Int)] st (fun r st'=>r=.str (DU T t lv)∧st'=st):=by
 have hb:=aBT t hT lv hlv
 have hbs:=R8 (T:=T) (t:=t) lv
 obtain⟨c1,c2,c3,c4⟩:=hT
 have hm:maxLen=9223372036854775807:=by rfl
 unfold DU
 generalize wE T t lv=u at *
 have hs1:(⟨#[40]⟩:ByteArray).size+u.size≤maxLen:=by show 1+_≤_;omega
 have hs2:((⟨#[40]⟩:ByteArray)++u).size+(⟨#[41]⟩:ByteArray).size≤maxLen:=by rw[dN];show 1+_+1≤_;omega
 have hi:=aBV t
 have hpl:=aZD u (by omega)
 refine wF [1000000] 2 func279 ntmps279 rfl rfl ?_
 intro _
 simp -implicitDefEqProofs only[bG,aO,cU,↓reduceIte,aB,seval,aTY]
 refine(hb _).to ?_
 simp -implicitDefEqProofs only[bG,aO,↓reduceIte,aB,seval,aTY]
 refine(hi _).to ?_
 cases hk:G1 t with
 | true=>
  rw[zO,aH rfl]
  simp -implicitDefEqProofs only[↓reduceIte,hs1,hs2,aB,seval]
 | false=>
  rw[qD]
  simp -implicitDefEqProofs only[↓reduceIte,aB,seval]
  refine(hpl _).to ?_
  cases hq:OR (sb u) with
  | true=>
   rw[aE (by decide)]
   simp -implicitDefEqProofs only[↓reduceIte,aB,seval]
  | false=>
   rw[aH (by decide)]
   simp -implicitDefEqProofs only[↓reduceIte,hs1,hs2,aB,seval]
theorem Z2{st:aA}{b q:Nat}{l:List AV}{o:AO}(hb:l≠[]→st b=none)(h:st q=some o):aZ st b l q=some o:=by
 cases l with
 | nil=>exact h
 | cons x l=>exact(aA.aG _ _ (by rintro rfl;have:=hb (by simp);rw[h] at this;cases this)).trans h
abbrev D3:=zi tI_9 (zi zI_9 (zi cV (zi tI_31 (zi zI_31 (zi aQ (zi bS (zi bT (zi cI (zi tI_66 (zi zI_66 (zi bZ (zi b9 (zi cA (zi cB bY))))))))))))))
set_option maxHeartbeats 1000000 in
theorem aZB{T:Tm→ByteArray}(n:Nat)(t:Tm)(hn:t.nodes≤n+1)(hws:Ws t)(TX:t.nodes≤1000)(hT:∀x,Ws x→x.nodes<t.nodes→zX T x)(hp:tM t=true)(st:aA):aD prog 275 [t.av] st (fun r st'=>r=.str (KA T (spine n t))∧st'=st):=by
 obtain⟨q1,q2,q3⟩:=W9 n t hws
 obtain⟨e1,e2⟩:=aSM n t hn
 have eC:=aSL n t
 have hnp:=tK (spine n t).2
 have hne:1≤(spine n t).1.length:=by
  cases n with
  | zero=>obtain⟨m,x,y,rfl⟩:=GS hp;simp only[Tm.iD,bD] at hn;have:=tK x;omega
  | succ m=>unfold spine;rw[aH hp];simp
 generalize spine n t=p at *
 obtain⟨its,tl⟩:=p
 simp only at q1 q2 q3 e1 e2 eC hnp hne
 have hTi:∀x∈its,zX T x:=fun x hx=>hT x (q1 x hx) (by have:=aQQ hx;omega)
 have hTt:zX T tl:=hT tl q2 (by omega)
 have rZ:=aBS its hTi (by omega) (by omega)
 have bC8:=MH (T:=T) (l:=its) fun x hx=>(hTi x hx).2.1
 obtain⟨c1,c2,c3,c4⟩:=hTt
 have hm:maxLen=9223372036854775807:=by rfl
 have hs1:(⟨#[91]⟩:ByteArray).size+(mQ T its).size≤maxLen:=by show 1+_≤_;omega
 have hs2:((⟨#[91]⟩:ByteArray)++mQ T its).size+(⟨#[93]⟩:ByteArray).size≤maxLen:=by rw[dN];show 1+_+1≤_;omega
 have hs3:((⟨#[91]⟩:ByteArray)++mQ T its).size+(⟨#[124]⟩:ByteArray).size≤maxLen:=by rw[dN];show 1+_+1≤_;omega
 have hs4:(((⟨#[91]⟩:ByteArray)++mQ T its)++(⟨#[124]⟩:ByteArray)).size+(T tl).size≤maxLen:=by rw[dN,dN];show 1+_+1+_≤_;omega
 have hs5:((((⟨#[91]⟩:ByteArray)++mQ T its)++(⟨#[124]⟩:ByteArray))++T tl).size+(⟨#[93]⟩:ByteArray).size≤maxLen:=by rw[dN,dN,dN];show 1+_+1+_+1≤_;omega
 refine aD.oK ?_
 refine wF [1000000,1] 1 func275 ntmps275 rfl rfl ?_
 intro _
 simp -implicitDefEqProofs only[cU,↓reduceIte,aB,seval,D3]
 intro b1 hb1
 have hD:=fun(o:AO)=>(aL.refl st).aC (o:=o) hb1
 refine rK (σ:=Unit) [1000000,1] [1,2] its 4 3 (fun i _=>(its.take i).map Tm.av) (fun _ _=>True) (fun i _=>[]) (fun i _=>st.aC b1 (.cells (zB i t).av.cells)) (fun i _ _ e he=>by simp only[cH] at he;obtain⟨x,_,rfl⟩:=he;exact⟨cU _,aO _⟩) (by decide +kernel) ⟨(),0,trivial,fun h=>absurd rfl h,aM.mk (by simp -implicitDefEqProofs only[iY,jR,a7,↓reduceIte,aB,seval])⟩ (fun i x s b hx hlt bL hdr hinv hb=>?_) (fun s b hge hinv=>?_)
 case refine_1=>
  obtain⟨g1,g2⟩:=eC i x hx
  have hst:=aSK i t
  generalize zB i t=u at *
  have hpu:=MQ u
  rw[g1] at hpu
  obtain⟨m,y,z,rfl⟩:=GS g1
  rw[GB.1] at g2
  rw[GB.2] at hst
  subst g2
  have hcs:(Tm.mk 3 m ⟨#[46]⟩ [y,z]).av.cells= [.int .i64 3,.int .i64 m,.str ⟨#[46]⟩,.slice [y.av,z.av]]:=by rw[bA];try rfl
  rw[hcs] at hb ⊢
  have hlk:aZ (st.aC b1 (.cells [.int .i64 3,.int .i64 m,.str ⟨#[46]⟩,.slice [y.av,z.av]])) b ((its.take i).map Tm.av) b1=some (.cells [.int .i64 3,.int .i64 m,.str ⟨#[46]⟩,.slice [y.av,z.av]]):=Z2 hb (aA.aJ _ _ _)
  have hi0:=bP (av:=Tm.av) (l:=[y,z]) (i:=0) aQ rfl (aO y)
  have hi1:=bP (av:=Tm.av) (l:=[y,z]) (i:=1) aQ rfl (aO z)
  rw[show((0:Nat):Int)=0 from rfl] at hi0
  rw[show((1:Nat):Int)=1 from rfl] at hi1
  have c8:((its.take i).map Tm.av).length=i:=by simp only[aF,dE];omega
  have htk:(its.take i).map Tm.av++ [y.av]=(its.take (i+1)).map Tm.av:=by rw[eD,hx];simp
  rw[hst]
  simp only[bA,bH,a7] at hlk hpu hi0 hi1 hb ⊢
  have hLw:∀e∈(its.take i).map Tm.av,e.width=4:=gZ _
  generalize (its.take i).map Tm.av=L at *
  simp -implicitDefEqProofs only[↓reduceIte,hlk,aB,seval,D3]
  refine(hpu _).to ?_
  simp -implicitDefEqProofs only[bG,aO,cU,↓reduceIte,hlk,hi0,aB,seval,D3]
  refine eQ aQ bS bT rfl rfl (f9 (aO _) (cP _)) (fun e he=>hLw e he) hb (by simp only[c8,aX,a8];omega) (by simp only[c8,aX,a8];omega) (fun b' hb'=>?_)
  rw[htk] at hb' ⊢
  have a4I:=Z2 (l:=(its.take (i+1)).map Tm.av) hb' (aA.aJ st b1 (.cells [.int .i64 3,.int .i64 m,.str ⟨#[46]⟩,.slice [y.av,z.av]]))
  have hnb:(its.take (i+1)).map Tm.av≠[]→b1≠b':=fun h=>by rintro rfl;have:=hb' h;rw[aA.aJ] at this;cases this
  have hup:=fun o=>mP (st:=st.aC b1 (.cells [.int .i64 3,.int .i64 m,.str ⟨#[46]⟩,.slice [y.av,z.av]])) (o:=o) hnb
  simp -implicitDefEqProofs only[aK,bG,aO,cP,cL,↓reduceIte,a4I,hi1,hup,dS,aB,seval,D3]
  exact⟨(),b',fun h=>by have:=hb' h;rw[aA.aG _ _ (dH (hnb h))] at this ⊢;exact this,aM.mk (by simp -implicitDefEqProofs only[↓reduceIte,aB,seval])⟩
 rw[dZ,←e1]
 have hpt:=MQ tl
 rw[e2] at hpt
 have hnt:=aY0 tl
 simp -implicitDefEqProofs only[pE,JI,lU,a7,cL,gI (cL _),gG (bG _),↓reduceIte,aB,seval,D3]
 refine(hpt _).to ?_
 simp -implicitDefEqProofs only[cL,gI (cL _),gG (bG _),↓reduceIte,aB,seval,D3]
 refine(hnt _).to ?_
 unfold KA
 cases hnk:OJ tl with
 | true=>
  rw[aH rfl]
  simp -implicitDefEqProofs only[↓reduceIte,aB,seval]
  refine(rZ _).to ?_
  simp -implicitDefEqProofs only[↓reduceIte,hs1,hs2,aB,seval]
  exact hD _
 | false=>
  rw[aE (by decide)]
  simp -implicitDefEqProofs only[↓reduceIte,aB,seval]
  refine wP [(0,1),(1,2),(2,1),(3,1),(4,2),(5,2),(6,1),(7,1),(8,1)] [0,1,2,3,4,5,6,7,8] mixed ?_
  simp -implicitDefEqProofs only[↓reduceIte,aB,seval]
  refine jC (rZ _) ?_
  simp -implicitDefEqProofs only[cL,gI (cL _),gG (bG _),↓reduceIte,hs1,hs3,aB,seval,D3]
  refine jC (c1 _) ?_
  simp -implicitDefEqProofs only[↓reduceIte,hs4,hs5,aB,seval]
  exact hD _
abbrev vN:=zi tI_3 (zi zI_3 (zi aY (zi tI_9 (zi zI_9 (zi cV (zi tI_31 (zi zI_31 (zi aQ (zi bS (zi bT (zi cI (zi tI_66 (zi zI_66 (zi bZ (zi b9 (zi cA (zi cB bY)))))))))))))))))
set_option maxHeartbeats 1000000 in
theorem aZI:∀(n:Nat) (t:Tm) (st:aA),Ws t→t.nodes≤n→t.nodes≤1000→aD prog 213 [t.av] st (fun r st'=>r=.str (tx n t)∧st'=st):=by
 intro n
 induction n with
 | zero=>intro t st _ h;have:=tK t;omega
 | succ n IH=>
 intro t st hws hn TX
 have hsz:=QG (n+1) t hws
 have hT:∀x,Ws x→x.nodes<t.nodes→zX (tx n) x:=fun x hx hlt=>⟨fun st=>IH x st hx (by omega) (by omega),QG n x hx,bA1 hx (by have:=tK x;omega),by omega⟩
 have hpt:=MQ t
 have hit:=aBU t
 have a4H:=aZB (T:=tx n) n t hn hws TX hT
 have hm:maxLen=9223372036854775807:=by rfl
 unfold tx at hsz ⊢
 refine wF [1000000] 1 func213 ntmps213 rfl rfl ?_
 intro _
 simp -implicitDefEqProofs only[bG,aO,cU,↓reduceIte,aB,seval,vN]
 refine(hpt _).to ?_
 cases hp:tM t with
 | true=>
  rw[aH rfl]
  simp -implicitDefEqProofs only[bG,aO,↓reduceIte,aB,seval,vN]
  refine(a4H hp _).to ?_
  simp -implicitDefEqProofs only[↓reduceIte,aB,seval]
 | false=>
  rw[hp] at hsz
  rw[aE (by decide)] at hsz ⊢
  simp -implicitDefEqProofs only[bG,aO,↓reduceIte,aB,seval,vN]
  refine(hit _).to ?_
  cases hi:yS t with
  | true=>
   rw[hi] at hsz
   rw[aH rfl] at hsz ⊢
   obtain⟨m,s,x,y,rfl,hs⟩:=VI hi
   have hk:=hws.own.2
   have hxl:x.nodes<(Tm.mk 3 m s [x,y]).nodes:=by simp only[Tm.iD,bD];have:=tK y;omega
   have hyl:y.nodes<(Tm.mk 3 m s [x,y]).nodes:=by simp only[Tm.iD,bD];have:=tK x;omega
   have hx:=hT x (hk x (by simp)) hxl
   have hy:=hT y (hk y (by simp)) hyl
   rw[GB.1,GB.2,show(Tm.mk 3 m s [x,y]).s=s from rfl] at hsz ⊢
   have h6:s.size≤6:=hws.size.1
   have hl3:dW s≤3:=by unfold dW;cases (decide (s=⟨#[61]⟩)||decide (s=⟨#[92,61]⟩)||decide (s=⟨#[61,61]⟩)||decide (s=⟨#[60]⟩)||decide (s=⟨#[62]⟩)||decide (s=⟨#[61,60]⟩)||decide (s=⟨#[62,61]⟩)||decide (s=⟨#[61,58,61]⟩)||decide (s=⟨#[105,115]⟩))<;>cases (decide (s=⟨#[43]⟩)||decide (s=⟨#[45]⟩))<;>cases (decide (s=⟨#[42]⟩)||decide (s=⟨#[47,47]⟩)||decide (s=⟨#[109,111,100]⟩))<;>decide
   have hll:lvl (dW s)≤10:=by unfold lvl;split<;>omega
   have cl:=aZA x hx (lvl (dW s)) hll
   have cr:=aZG y hy (dW s - 1) (by omega)
   have csp:=aZH s (by omega)
   have clv:=x6 s
   rw[dN,dN] at hsz
   generalize hA:DD (tx n) x (lvl (dW s))=A at *
   generalize hB:DU (tx n) y (dW s - 1)=B at *
   generalize tP s=C at *
   have hs1:A.size+C.size≤maxLen:=by omega
   have hs2:(A++C).size+B.size≤maxLen:=by rw[dN];omega
   have hi0:=bP (av:=Tm.av) (l:=[x,y]) (i:=0) aQ rfl (aO x)
   have hi1:=bP (av:=Tm.av) (l:=[x,y]) (i:=1) aQ rfl (aO y)
   rw[show((0:Nat):Int)=0 from rfl] at hi0
   rw[show((1:Nat):Int)=1 from rfl] at hi1
   simp only[bA,bH,a7] at hi0 hi1 ⊢
   generalize hL:dW s=L at *
   obtain⟨L1,hL1⟩:∃L1,L1=L - 1:=⟨_,rfl⟩
   have hw:=pN (x:=(L:Int) - 1) (m:=L1) (by omega) (by omega)
   rw[←hL1] at cr
   by_cases h3:L=3
   case' pos=>
    have h3':((L:Int)=3)=True:=dC (by omega)
    have hlv:lvl L=2:=by unfold lvl;rw[aH h3]
   case' neg=>
    have h3':((L:Int)=3)=False:=cK (by omega)
    have hlv:lvl L=L:=by unfold lvl;rw[aE h3]
   all_goals
    rw[hlv] at cl
    simp -implicitDefEqProofs only[↓reduceIte,aB,seval,vN]
    refine(clv _).to ?_
    simp -implicitDefEqProofs only[↓reduceIte,h3',bV,bX,aB,seval]
    refine wP [(0,1),(4,1),(6,1),(10,1),(14,1),(15,1),(1,2),(2,1),(3,2),(5,2),(7,2),(8,2),(9,1),(11,2),(12,1),(13,2),(16,2),(17,1),(18,1)] [0,4,6,10,14,15,1,2,3,5,7,8,9,11,12,13,16,17,18] mixed ?_
    simp -implicitDefEqProofs only[bG,aO,↓reduceIte,hi0,hw,aB,seval,vN]
    refine jC (cl _) ?_
    simp -implicitDefEqProofs only[↓reduceIte,aB,seval,vN]
    refine jC (csp _) ?_
    simp -implicitDefEqProofs only[bG,aO,↓reduceIte,hi1,hs1,aB,seval,vN]
    refine jC (cr _) ?_
    simp -implicitDefEqProofs only[↓reduceIte,hs2,aB,seval]
  | false=>
   rw[hi] at hsz
   rw[aE (by decide)] at hsz ⊢
   cases ha:RU t with
   | true=>
    rw[ha] at hsz
    rw[aH rfl] at hsz ⊢
    obtain⟨k,m,s,ts⟩:=t
    rw[RT,cF,bK,bK] at ha
    obtain⟨rfl,h0⟩:=ha
    have h0':((0:Int)<(ts.length:Int))=True:=dC (by omega)
    simp only[Tm.s,Tm.ts] at hsz ⊢
    simp only[Tm.iD] at hn TX hT hsz
    have hk:=hws.own.2
    have h4:ts.length≤4:=by rcases KI hws.own.1 with h | h | h<;>omega
    have rZ:=aBS (T:=tx n) ts (fun x hx=>hT x (hk x hx) (by have:=aQQ hx;omega)) (by omega) (by omega)
    rw[dN,dN,dN] at hsz
    generalize mQ (tx n) ts=A at *
    have bDM:s.size+A.size≤100000:=by omega
    have hs1:s.size+(⟨#[40]⟩:ByteArray).size≤maxLen:=by show _+1≤_;omega
    have hs2:(s++(⟨#[40]⟩:ByteArray)).size+A.size≤maxLen:=by rw[dN];show _+1+_≤_;omega
    have hs3:((s++(⟨#[40]⟩:ByteArray))++A).size+(⟨#[41]⟩:ByteArray).size≤maxLen:=by rw[dN,dN];show _+1+_+1≤_;omega
    simp only[bA]
    simp -implicitDefEqProofs only[↓reduceIte,h0',aF,bV,aB,seval,vN]
    refine wP [(0,1),(3,1),(1,2),(2,1),(4,2),(5,2),(6,1),(7,1),(8,1)] [0,3,1,2,4,5,6,7,8] mixed ?_
    simp -implicitDefEqProofs only[↓reduceIte,hs1,aB,seval,vN]
    refine jC (rZ _) ?_
    simp -implicitDefEqProofs only[↓reduceIte,hs2,hs3,aB,seval]
   | false=>
    rw[aE (by decide)]
    have hl:=aY8 t hws (fun h=>by
     obtain⟨k,m,s,ts⟩:=t
     rw[RT,show k=3 from h] at ha
     simp only[bV,eU,dJ] at ha
     exact List.length_eq_zero_iff.1 (by show ts.length=0;omega))
    generalize GC t=A at *
    obtain⟨k,m,s,ts⟩:=t
    rw[RT] at ha
    simp only[bA] at hl ⊢
    by_cases hk:k=3
    case pos=>
     rw[hk] at ha hl ⊢
     simp only[bV,eU,dJ] at ha
     have h0':((0:Int)<(ts.length:Int))=False:=cK (by omega)
     simp -implicitDefEqProofs only[↓reduceIte,h0',aF,bV,bX,aB,seval,vN]
     refine(hl _).to ?_
     simp -implicitDefEqProofs only[↓reduceIte,aB,seval]
    case neg=>
     have hk':=cK hk
     simp -implicitDefEqProofs only[↓reduceIte,hk',bX,aB,seval,vN]
     refine(hl _).to ?_
     simp -implicitDefEqProofs only[↓reduceIte,aB,seval]
end Go.AW
namespace Go.AW
def sM(t:Tm):ByteArray:=tx 130 t
def wD(T:Tm→ByteArray)(h:ByteArray):List Tm→ByteArray
 | []=>h
 | x::xs=>xs.foldl (fun o y=>(o++⟨#[44]⟩)++T y) ((h++⟨#[58,45]⟩)++T x)
def SZ(c:Cl):ByteArray:=wD sM (sM c.1) c.2++⟨#[46]⟩
def fmtC(c:Cl):ByteArray:=if mS c then SZ c else⟨#[]⟩
def KM(l:List UInt8):mM:=fun a=>rd l (4*l.length+4) 30 a 3
def uS(l:List UInt8):Nat→Nat→List Tm→Option (List Tm×Nat)
 | 0,_,_=>none
 | m+1,a,acc=>match KM l a with
  | none=>none
  | some (t,e)=>if cW l e 44 then uS l m (e+1) (acc++ [t]) else some (acc++ [t],e)
def uN(l:List UInt8):Option (Cl×Nat):=
 match KM l 0 with
 | none=>none
 | some (h,e)=>if(cW l e 58&&cW l (e+1) 45)=true then match uS l 7 (e+2) [] with
  | none=>none
  | some (b,e2)=>some ((h,b),e2)
  else some ((h,[]),e)
def p9(l:List UInt8):Option Cl:=match uN l with
 | none=>none
 | some (c,e)=>if l.length≤1000∧e+1=l.length∧cW l e 46=true∧sb (fmtC c)=l then some c else none
def pC(c:Nat):List UInt8→List UInt8→List (List UInt8)
 | [],acc=>[acc]
 | x::l,acc=>if x.toNat=c then acc::pC c l [] else pC c l (acc++ [x])
def DE:List (List UInt8)→List Cl→Option (List Cl)
 | [],acc=>some acc
 | l::ls,acc=>match p9 l with
  | none=>none
  | some c=>DE ls (acc++ [c])
def DO(l:List UInt8):Option (List Cl):=
 let ls:=pC 10 l []
 if 21<ls.length∨ls.getLast?≠some [] then none else DE ls.dropLast []
def oR(l:List UInt8):Option (List Tm):=match uS l 7 0 [] with
 | none=>none
 | some (g,e)=>if l.length≤1000∧e=l.length∧lM g=true then some g else none
theorem aW2{T:Tm→ByteArray}{h:ByteArray}{l:List Tm}{i:Nat}{x:Tm}(hx:l[i]?=some x):wD T h (l.take (i+1))=(if i=0 then wD T h (l.take i)++⟨#[58,45]⟩ else wD T h (l.take i)++⟨#[44]⟩)++T x:=by
 rw[eD,hx]
 cases l with
 | nil=>simp at hx
 | cons y l=>
  cases i with
  | zero=>simp at hx;subst hx;rfl
  | succ i=>
   rw[aE (by omega),xK]
   simp only[wD,EO,iB,LU,B3,List.foldl_nil]
theorem aAW{T:Tm→ByteArray}{h:ByteArray}{l:List Tm}{m:Nat}(hT:∀x∈l,(T x).size≤m):(wD T h l).size≤h.size+l.length*(m+2):=by
 have hg:∀(xs:List Tm) (o:ByteArray),(∀x∈xs,(T x).size≤m)→(xs.foldl (fun o y=>(o++⟨#[44]⟩)++T y) o).size≤o.size+xs.length*(m+2):=by
  intro xs
  induction xs with
  | nil=>intro o _;simp
  | cons x xs ih=>
   intro o hx
   refine mK (ih _ fun y hy=>hx y (by simp [hy])) ?_
   rw[dN,dN]
   have:=hx x (by simp)
   simp only[aX,uC]
   show o.size+1+_+_≤_
   omega
 cases l with
 | nil=>simp [wD]
 | cons x l=>
  refine mK (hg l _ fun y hy=>hT y (by simp [hy])) ?_
  rw[dN,dN]
  have:=hT x (by simp)
  simp only[aX,uC]
  show h.size+2+_+_≤_
  omega
theorem aUV{t:Tm}(h:t.valid=true):Ws t∧t.nodes≤120:=by
 simp only[Tm.valid,cF,bK] at h
 exact⟨⟨_,h.1⟩,h.2⟩
theorem a2W{t:Tm}(h:t.goal=true):t.valid=true:=by
 obtain⟨k,n,s,ts⟩:=t
 simp only[Tm.goal,cF] at h
 exact h.1
theorem a0W{c:Cl}(h:mS c=true):(Ws c.1∧c.1.nodes≤120)∧c.2.length≤6∧∀x∈c.2,Ws x∧x.nodes≤120:=by
 simp only[mS,cF,bK,eH] at h
 exact⟨aUV h.1.1,h.2.1,fun x hx=>aUV (a2W (h.2.2 x hx))⟩
theorem NN{l:List UInt8}(hl:l.length≤1000):∀(m a:Nat) (acc ts:List Tm) (e:Nat),a≤l.length→(∀x∈acc,Dn x)→uS l m a acc=some (ts,e)→a<e∧e≤l.length∧(∀x∈ts,Dn x)∧ts.length≤acc.length+m:=by
 intro m
 induction m with
 | zero=>intro a acc ts e _ _ h;cases h
 | succ m ih=>
  intro a acc ts e ha gM h
  unfold uS at h
  split at h
  · cases h
  rename_i t e1 h1
  obtain⟨h2,h3,h4⟩:=DR hl _ _ _ a t e1 ha h1
  have JO:∀x∈acc++ [t],Dn x:=by intro x hx;rw[d6] at hx;rcases hx with hx | hx;exact gM x hx;rw[HS] at hx;subst hx;exact h4
  split at h
  · rename_i h5
    have h6:=p5 h5
    obtain⟨g1,g2,g3,g4⟩:=ih (e1+1) _ ts e (by omega) JO h
    rw[dQ,QZ] at g4
    exact⟨by omega,g2,g3,by omega⟩
  · cases h
    exact⟨h2,h3,JO,by rw[dQ,QZ];omega⟩
abbrev yA (c:Cl):Prop:=Dn c.1∧c.2.length≤7∧∀x∈c.2,Dn x
theorem M0{l:List UInt8}(hl:l.length≤1000){c:Cl}{e:Nat}(h:uN l=some (c,e)):0<e∧e≤l.length∧yA c:=by
 unfold uN at h
 split at h
 · cases h
 rename_i t e1 h1
 obtain⟨h2,h3,h4⟩:=DR hl _ _ _ 0 t e1 (jE _) h1
 split at h
 · rename_i h5
   rw[cF] at h5
   have h6:=p5 h5.2
   split at h
   · cases h
   rename_i b e2 h7
   obtain⟨g1,g2,g3,g4⟩:=NN hl _ _ _ _ _ (by omega) (by simp) h7
   cases h
   exact⟨by omega,g2,h4,by rw[a8] at g4;show b.length≤7;omega,g3⟩
 · cases h
   exact⟨h2,h3,h4,by show 0≤7;omega,by intro x hx;cases hx⟩
theorem aRJ{l:List UInt8}{c:Cl}(h:p9 l=some c):yA c∧mS c=true:=by
 unfold p9 at h
 split at h
 · cases h
 rename_i c' e h1
 split at h
 · rename_i h2
   cases h
   refine⟨(M0 h2.1 h1).2.2,?_⟩
   have h3:=h2.2.2.2
   unfold fmtC at h3
   split at h3
   · assumption
   · have:=gH List.length h3
     simp at this
     omega
 · cases h
theorem aC3(c:Nat):∀(l acc:List UInt8),pC c l acc≠[]
 | [],acc=>by simp [pC]
 | x::l,acc=>by unfold pC;split<;>simp [aC3 c l]
theorem S5(c:Nat):∀(l acc:List UInt8),(pC c l acc).length≤l.length+1
 | [],acc=>by simp [pC]
 | x::l,acc=>by unfold pC;split;have:=S5 c l [];simp only[aX];omega;have:=S5 c l (acc++ [x]);simp only[aX];omega
end Go.AW
namespace Go.AW
open Go.Proofs.Tryz
abbrev aS2:=zi tI_3 (zi zI_3 (zi aY (zi tI_29 (zi zI_29 (zi fN (zi iG (zi iI (zi jN (zi tI_84 (zi zI_84 (zi mA (zi mB l8))))))))))))
theorem aXL(l:List Cl)(g:FuncId)(dL:List AV)(p:Cl→Bool)(st:aA)(hc:∀x∈l,aD prog g ([bR x]++dL) st (fun r st'=>r=.bool (p x)∧st'=st)) :
 aD prog 215 [.slice (l.map bR),.func g dL] st (fun r st'=>∃j:Int,r=.int .i64 j∧decide (0≤j)=l.any p∧st'=st):=by
 refine wF [] 2 func215 ntmps215 rfl rfl ?_
 simp only[eW,AV.fits,fC,aF]
 intro ⟨hl,_⟩
 simp -implicitDefEqProofs only[aF,aB,seval,aS2]
 refine d8 (σ:=Unit) [] [0,1,7] l (fun i _=>(l.drop i).any p=l.any p) (fun i _=>[(8,.int .i64 i)]) (fun _ _=>st) (by decide +kernel) ⟨(),rfl,aM.mk (by simp -implicitDefEqProofs only[aB,↓aU,seval])⟩ (fun i x _ hx hlt bL hdr hinv=>?_) (fun _ hge hinv=>?_)
 case refine_2=>
  simp -implicitDefEqProofs only[hge,aB,seval]
  rw[kK] at hinv
  exact⟨-1,rfl,by rw[←hinv];try rfl⟩
 rw[hdr,B0] at hinv
 have hw:=bE (n:=(i:Int)+1)
 simp -implicitDefEqProofs only[bL,bP (av:=bR) fN hx (kA x),uM,kA,aB,seval,aS2]
 refine(hc x (cM hx)).to ?_
 simp -implicitDefEqProofs only[aB,seval]
 refine aP (fun h=>?_) (fun h=>?_)
 · simp -implicitDefEqProofs only[aB,seval]
   exact⟨i,rfl,by rw[←hinv,h];simp⟩
 · rw[h,qD] at hinv
   simp -implicitDefEqProofs only[aB,seval]
   exact⟨(),hinv,aM.mk (by simp -implicitDefEqProofs only[hw,aB,seval])⟩
theorem aXC(l:List Cl)(g:FuncId)(dL:List AV)(p:Cl→Bool)(st:aA)(hc:∀x∈l,aD prog g ([bR x]++dL) st (fun r st'=>r=.bool (p x)∧st'=st)) :
 aD prog 140 [.slice (l.map bR),.func g dL] st (fun r st'=>r=.bool (l.any p)∧st'=st):=by
 refine wF [] 2 func140 ntmps140 rfl rfl ?_
 intro _
 simp -implicitDefEqProofs only[aB,seval]
 refine(aXL l g dL p st hc).mono ?_
 rintro _ _ ⟨j,rfl,hj,rfl⟩
 simp -implicitDefEqProofs only[hj,aB,seval]
abbrev XH:=zi tI_4 (zi zI_4 (zi cJ (zi tI_31 (zi zI_31 (zi aQ (zi bS (zi bT (zi cI (zi tI_66 (zi zI_66 (zi bZ (zi b9 (zi cA (zi cB (zi bY (zi tI_84 (zi zI_84 (zi mA (zi mB l8)))))))))))))))))))
theorem aYA(c:Cl)(st:aA):aD prog 142 [bR c] st (fun r st'=>r=.bool (mS c)∧st'=st):=by
 obtain⟨⟨k,n,s,ts⟩,b⟩:=c
 have hv:=fun st=>aBD (.mk k n s ts) st
 have hp:=fun st=>aBG k n s ts st
 simp only[bA] at hv hp
 have hg:=fun st=>aBA b st
 simp only[iL,mS,WE]
 simp only[lM] at hg
 generalize (Tm.mk k n s ts).valid=v at *
 refine wF [1000000] 1 func142 ntmps142 rfl rfl ?_
 intro _
 simp -implicitDefEqProofs only[aB,seval,XH]
 refine(hv _).to ?_
 cases v with
 | false=>simp -implicitDefEqProofs only[iA,aB,seval]
 | true=>
  simp -implicitDefEqProofs only[lB,eU,aB,seval,XH]
  refine(hp _).to ?_
  cases hpl:sG k s (ts.length:Int) with
  | false=>simp -implicitDefEqProofs only[iA,aB,seval]
  | true=>
   simp -implicitDefEqProofs only[lB,eU,aB,seval,XH]
   refine(hg _).to ?_
   simp -implicitDefEqProofs only[aB,seval]
abbrev a9Y:=zi tI_4 (zi zI_4 (zi cJ (zi tI_84 (zi zI_84 (zi mA (zi mB l8))))))
theorem aXU(c:Cl)(st:aA):aD prog 141 [bR c] st (fun r st'=>r=.bool (!mS c)∧st'=st):=by
 refine wF [1000000] 1 func141 ntmps141 rfl rfl ?_
 intro _
 simp -implicitDefEqProofs only[CL,uM,kA,aB,seval,a9Y]
 refine(aYA c st).to ?_
 simp -implicitDefEqProofs only[aB,seval]
abbrev a9Z:=zi tI_3 (zi zI_3 (zi aY (zi tI_4 (zi zI_4 (zi cJ (zi tI_29 (zi zI_29 (zi fN (zi iG (zi iI jN))))))))))
theorem aBB(p:List Cl)(st:aA):aD prog 58 [.slice (p.map bR)] st (fun r st'=>r=.bool (pJ p)∧st'=st):=by
 refine wF [1000000] 1 func58 ntmps58 rfl rfl ?_
 simp only[eW,AV.fits,fC,aF]
 intro _
 unfold pJ
 simp -implicitDefEqProofs only[aF,aB,seval,a9Z]
 refine cX (fun h=>?_) (fun h=>?_)
 · simp only[bK] at h
   rw[show decide (p.length≤20)=true by simp;omega]
   simp -implicitDefEqProofs only[h,aB,seval]
   refine(aXC p _ [] (fun t=> !mS t) st fun x _=>aXU x st).to ?_
   simp -implicitDefEqProofs only[RQ,aB,seval]
 · simp only[kP,dJ] at h
   rw[show decide (p.length≤20)=false by simp;omega]
   simp -implicitDefEqProofs only[h,aB,seval]
   rfl
abbrev G6:=zi tI_3 (zi zI_3 (zi aY (zi tI_4 (zi zI_4 (zi cJ (zi tI_31 (zi zI_31 (zi aQ (zi bS (zi bT (zi cI (zi tI_66 (zi zI_66 (zi bZ (zi b9 (zi cA (zi cB (zi bY (zi tI_84 (zi zI_84 (zi mA (zi mB l8))))))))))))))))))))))
theorem aCD(c:Cl)(st:aA):aD prog 143 [bR c] st (fun r st'=>r=.bool (mS c)∧st'=st):=by
 obtain⟨⟨k,n,s,ts⟩,l⟩:=c
 have hv:=fun st=>ST (.mk k n s ts) st
 have hp:=fun st=>aBZ k n s ts st
 simp only[bA] at hv hp
 simp only[iL,mS,WE]
 generalize (Tm.mk k n s ts).valid=v at *
 refine wF [1000000] 1 func143 ntmps143 rfl rfl ?_
 simp only[eW,AV.fits,fC,aF]
 intro ⟨_,_,_,_,hl,_⟩
 have wN:l.all Tm.goal=true∨l.length>6→(decide ((l.length:Int)≤6)&&v&&sG k s (ts.length:Int))=(v&&sG k s (ts.length:Int)&&(decide (l.length≤6)&&l.all Tm.goal)):=fun h=>by
  by_cases h6:l.length≤6
  · have hg:l.all Tm.goal=true:=h.resolve_right (by omega)
    rw[hg,show decide ((l.length:Int)≤6)=true from fQ (by omega),show decide (l.length≤6)=true from fQ h6]
    simp
  · rw[show decide ((l.length:Int)≤6)=false from fP (by omega),show decide (l.length≤6)=false from fP h6]
    simp
 simp -implicitDefEqProofs only[aB,seval,G6]
 refine d8 (σ:=Unit) [1000000] [1] l (fun i _=>i≤7∧(l.take i).all Tm.goal=true) (fun i _=>[(2,.bool false),(3,.int .i64 i)]) (fun _ _=>st) (by decide +kernel) ⟨(),⟨by omega,by simp⟩,aM.mk (by simp -implicitDefEqProofs only[aB,↓aU,seval])⟩ (fun i x _ hx hlt bL hdr hinv=>?_) (fun _ hge hinv=>?_)
 · obtain⟨i1,i2⟩:=hinv
   have hw:=bE (n:=(i:Int)+1)
   by_cases h7:i≤6
   · have h7':decide ((i:Int)≤6)=true:=fQ (by omega)
     have hat:=bP (av:=Tm.av) aQ hx (aO x)
     simp -implicitDefEqProofs only[bL,bV,lB,aF,h7',hat,bG,aO,aB,seval,G6]
     refine(aCE x st).to ?_
     simp -implicitDefEqProofs only[aB,seval]
     refine aP (fun h2=>?_) (fun h2=>?_)
     · simp only[mG] at h2
       simp -implicitDefEqProofs only[aB,seval]
       have:l.all Tm.goal=false:=xT hx h2
       rw[this];simp
     · simp only[rM] at h2
       simp -implicitDefEqProofs only[aB,seval]
       refine⟨(),⟨by omega,?_⟩,aM.mk (by simp -implicitDefEqProofs only[hw,aB,seval])⟩
       rw[eD,hx,EH,i2]
       simp [h2]
   · have h7':decide ((i:Int)≤6)=false:=fP (by omega)
     have h8:decide ((l.length:Int)≤6)=false:=fP (by omega)
     rw[←wN (.inr (by omega)),h8]
     simp -implicitDefEqProofs only[bL,bV,lB,h8,iA,aF,h7',aB,seval,G6]
 · obtain⟨i1,i2⟩:=hinv
   rw[dZ] at i2
   rw[←wN (.inl i2)]
   cases h8:decide ((l.length:Int)≤6) with
   | false=>
    simp -implicitDefEqProofs only[hge,aF,h8,iA,aB,seval,G6]
   | true=>
    simp -implicitDefEqProofs only[hge,lB,aF,h8,eU,aB,seval,G6]
    refine(hv _).to ?_
    cases v with
    | false=>simp -implicitDefEqProofs only[iA,aB,seval]
    | true=>
     simp -implicitDefEqProofs only[lB,eU,aB,seval,G6]
     refine(hp _).to ?_
     simp -implicitDefEqProofs only[aB,seval]
abbrev XI:=zi tI_3 (zi zI_3 (zi aY (zi tI_4 (zi zI_4 (zi cJ (zi tI_29 (zi zI_29 (zi fN (zi iG (zi iI (zi jN (zi tI_84 (zi zI_84 (zi mA (zi mB l8)))))))))))))))
theorem aCF(l:List Cl)(st:aA):aD prog 59 [.slice (l.map bR)] st (fun r st'=>r=.bool (pJ l)∧st'=st):=by
 refine wF [1000000] 1 func59 ntmps59 rfl rfl ?_
 simp only[eW,AV.fits,fC,aF]
 intro ⟨hl,_⟩
 simp -implicitDefEqProofs only[aB,seval]
 refine d8 (σ:=Unit) [1000000] [0] l (fun i _=>i≤21∧(l.take i).all mS=true) (fun i _=>[(2,.bool false),(3,.int .i64 i)]) (fun _ _=>st) (by decide +kernel) ⟨(),⟨by omega,by simp⟩,aM.mk (by simp -implicitDefEqProofs only[aB,↓aU,seval])⟩ (fun i x _ hx hlt bL hdr hinv=>?_) (fun _ hge hinv=>?_)
 · obtain⟨i1,i2⟩:=hinv
   have hw:=bE (n:=(i:Int)+1)
   by_cases h7:i≤20
   · have h7':decide ((i:Int)≤20)=true:=fQ (by omega)
     have hat:=bP (av:=bR) fN hx (kA x)
     simp -implicitDefEqProofs only[bL,bV,lB,aF,h7',hat,uM,kA,aB,seval,XI]
     refine(aCD x st).to ?_
     simp -implicitDefEqProofs only[aB,seval]
     refine aP (fun h2=>?_) (fun h2=>?_)
     · simp only[mG] at h2
       simp -implicitDefEqProofs only[aB,seval]
       have:l.all mS=false:=xT hx h2
       simp only[pJ,this,vW]
     · simp only[rM] at h2
       simp -implicitDefEqProofs only[aB,seval]
       refine⟨(),⟨by omega,?_⟩,aM.mk (by simp -implicitDefEqProofs only[hw,aB,seval])⟩
       rw[eD,hx,EH,i2]
       simp [h2]
   · have h7':decide ((i:Int)≤20)=false:=fP (by omega)
     have h8:decide ((l.length:Int)≤20)=false:=fP (by omega)
     have h9:decide (l.length≤20)=false:=fP (by omega)
     simp -implicitDefEqProofs only[bL,bV,lB,aF,h7',h8,pJ,h9,iA,aB,seval,XI]
 · obtain⟨i1,i2⟩:=hinv
   rw[dZ] at i2
   simp -implicitDefEqProofs only[hge,aF,aB,seval,XI]
   simp only[pJ,i2,EF,AV.bool.injEq,CO]
   omega
theorem aCK{t:Tm}(h:Ws t∧t.nodes≤120)(st:aA):aD prog 213 [t.av] st (fun r st'=>r=.str (sM t)∧st'=st):=aZI 130 t st h.1 (by omega) (by omega)
theorem QH{t:Tm}(h:Ws t∧t.nodes≤120):(sM t).size≤3840:=by have:=QG 130 t h.1;unfold sM;omega
abbrev PS:=zi tI_3 (zi zI_3 (zi aY (zi tI_9 (zi zI_9 (zi cV (zi tI_31 (zi zI_31 (zi aQ (zi bS (zi bT (zi cI (zi tI_66 (zi zI_66 (zi bZ (zi b9 (zi cA (zi cB (zi bY (zi tI_84 (zi zI_84 (zi mA (zi mB l8))))))))))))))))))))))
set_option maxHeartbeats 1000000 in
theorem aZL(c:Cl)(hc:(Ws c.1∧c.1.nodes≤120)∧c.2.length≤6∧∀x∈c.2,Ws x∧x.nodes≤120)(st:aA):aD prog 370 [bR c] st (fun r st'=>r=.str (SZ c)∧st'=st):=by
 obtain⟨⟨k,n,s,ks⟩,ts⟩:=c
 obtain⟨hh,hl,hb⟩:=hc
 simp only at hh hl hb
 have hhd:=fun st=>aCK hh st
 have hhs:=QH hh
 unfold SZ
 simp only
 generalize sM (.mk k n s ks)=H at *
 simp only[bA] at hhd
 simp only[iL]
 have hm:maxLen=9223372036854775807:=by rfl
 refine wF [1000000] 1 func370 ntmps370 rfl rfl ?_
 intro _
 simp -implicitDefEqProofs only[aB,seval,PS]
 refine(hhd _).to ?_
 simp -implicitDefEqProofs only[aB,seval]
 refine d8 (σ:=Unit) [1000000] [1,2] ts (fun i _=>True) (fun i _=>[(3,.str (wD sM H (ts.take i))),(4,.int .i64 i)]) (fun _ _=>st) (by decide +kernel) ⟨(),trivial,aM.mk (by simp -implicitDefEqProofs only[jR,aB,↓aU,seval]<;>rfl)⟩ (fun i x _ hx hlt bL hdr hinv=>?_) (fun _ hge hinv=>?_)
 case refine_2=>
  rw[dZ]
  have hsz:=aAW (T:=sM) (h:=H) (l:=ts) (m:=3840) fun x hx=>QH (hb x hx)
  have hs:(wD sM H ts).size+(⟨#[46]⟩:ByteArray).size≤maxLen:=by
   have:ts.length*(3840+2)≤6*3842:=vZ _ hl
   show _+1≤_;omega
  simp -implicitDefEqProofs only[aF,hge,hs,↓reduceIte,aB,seval,PS]
 have hxm:=cM hx
 have c1:=fun st=>aCK (hb x hxm) st
 have c2:=QH (hb x hxm)
 have hw:=bE (n:=(i:Int)+1)
 have hat:=bP (av:=Tm.av) aQ hx (aO x)
 have iQ:=aW2 (T:=sM) (h:=H) hx
 have hsz:=aAW (T:=sM) (h:=H) (l:=ts.take i) (m:=3840) fun y hy=>QH (hb y (m9 hy))
 have hln:(ts.take i).length*(3840+2)≤6*3842:=vZ _ (by rw[dE];omega)
 generalize wD sM H (ts.take i)=B at *
 generalize sM x=X at *
 have hs1:B.size+(⟨#[44]⟩:ByteArray).size≤maxLen:=by show _+1≤_;omega
 have hs2:(B++(⟨#[44]⟩:ByteArray)).size+X.size≤maxLen:=by rw[dN];show _+1+_≤_;omega
 have hs3:B.size+(⟨#[58,45]⟩:ByteArray).size≤maxLen:=by show _+2≤_;omega
 have hs4:(B++(⟨#[58,45]⟩:ByteArray)).size+X.size≤maxLen:=by rw[dN];show _+2+_≤_;omega
 by_cases h0:i=0
 · rw[aH h0] at iQ
   have h0':((i:Int)=0)=True:=dC (by omega)
   simp -implicitDefEqProofs only[aF,hat,bG,aO,bL,h0',hs3,↓reduceIte,bV,aB,seval,PS]
   refine(c1 _).to ?_
   simp -implicitDefEqProofs only[hs4,↓reduceIte,aB,seval]
   exact⟨(),aM.mk (by simp -implicitDefEqProofs only[hw,iQ,↓reduceIte,aB,seval])⟩
 · rw[aE h0] at iQ
   have h0':((i:Int)=0)=False:=cK (by omega)
   simp -implicitDefEqProofs only[aF,hat,bG,aO,bL,h0',hs1,↓reduceIte,bV,bX,aB,seval,PS]
   refine(c1 _).to ?_
   simp -implicitDefEqProofs only[hs2,↓reduceIte,aB,seval]
   exact⟨(),aM.mk (by simp -implicitDefEqProofs only[hw,iQ,↓reduceIte,aB,seval])⟩
abbrev X7:=zi tI_4 (zi zI_4 (zi cJ (zi tI_9 (zi zI_9 (zi cV (zi tI_84 (zi zI_84 (zi mA (zi mB l8)))))))))
theorem SC(c:Cl)(st:aA):aD prog 324 [bR c] st (fun r st'=>r=.str (fmtC c)∧st'=st):=by
 have hv:=aCD c
 unfold fmtC
 cases h:mS c with
 | true=>
  rw[h] at hv
  have ht:=aZL c (a0W h)
  rw[aH rfl]
  obtain⟨⟨k,n,s,ks⟩,ts⟩:=c
  simp only[iL] at hv ht ⊢
  refine wF [1000000] 1 func324 ntmps324 rfl rfl ?_
  intro _
  simp -implicitDefEqProofs only[aB,seval,X7]
  refine(hv _).to ?_
  simp -implicitDefEqProofs only[aB,seval,X7]
  refine(ht _).to ?_
  simp -implicitDefEqProofs only[aB,seval]
 | false=>
  rw[h] at hv
  rw[aE (by decide)]
  obtain⟨⟨k,n,s,ks⟩,ts⟩:=c
  simp only[iL] at hv ⊢
  refine wF [1000000] 1 func324 ntmps324 rfl rfl ?_
  intro _
  simp -implicitDefEqProofs only[aB,seval,X7]
  refine(hv _).to ?_
  simp -implicitDefEqProofs only[aB,seval]
theorem aB8{s:ByteArray}(hs:s.size≤1000)(a:Nat)(ha:a≤s.size)(st:aA):aD prog 322 [.str s,.int .i64 (a:Int),.int .i64 30,.int .i64 3] st (fun r st'=>nW (KM (sb s) a) r∧st'=st):=
 aZF hs (4*(sb s).length+4) 30 a 3 st ha (by omega) (by omega) (by rw[cQ];omega)
def t6(o:Option (List Tm×Nat))(r:AV):Prop:=match o with | some (ts,e)=>r=.tup [.slice (ts.map Tm.av),.int .i64 (e:Int)] | none=>r=.tup [.slice [],.int .i64 (-1)]
abbrev X6:=zi tI_3 (zi zI_3 (zi aY (zi tI_4 (zi zI_4 (zi cJ (zi tI_5 (zi zI_5 (zi m6 (zi tI_8 (zi zI_8 (zi AS (zi AT (zi AU (zi AX (zi AD (zi tI_9 (zi zI_9 (zi cV (zi tI_31 (zi zI_31 (zi aQ (zi bS (zi bT (zi cI (zi tI_44 (zi zI_44 (zi aDH (zi aDE (zi aDJ (zi aUO (zi tI_66 (zi zI_66 (zi bZ (zi b9 (zi cA (zi cB bY))))))))))))))))))))))))))))))))))))
set_option maxHeartbeats 1000000 in
theorem aBY{s:ByteArray}(hs:s.size≤1000)(a:Nat)(ha:a≤s.size)(st:aA):aD prog 268 [.str s,.int .i64 (a:Int)] st (fun r st'=>t6 (uS (sb s) 7 a []) r∧st'=st):=by
 generalize hT:uS (sb s) 7 a []=T
 refine aD.drop (Q:=t6 T) (aD.fin ?_)
 refine wF [1000000] 2 func268 ntmps268 rfl rfl ?_
 intro _
 simp -implicitDefEqProofs only[aB,seval,X6]
 refine iP (σ:=Nat×List Tm×Nat×Nat) [1000000] [0] (fun x=>uS (sb s) x.2.2.1 x.1 x.2.1=T∧x.1≤s.size∧x.2.1.length+x.2.2.1=7∧(x.2.1.map Tm.av≠[]→st x.2.2.2=none)) (fun x=>[(1,.int .i64 (x.1:Int)),(4,.fslice []),(5,.int .i64 0),(6,bU 4 x.2.2.2 (x.2.1.map Tm.av))]) (fun x=>aZ st x.2.2.2 (x.2.1.map Tm.av)) (fun x=>x.2.2.1) (by decide +kernel) ⟨(a,[],7,0),⟨hT,ha,rfl,by simp⟩,aM.mk (by simp -implicitDefEqProofs only[a7,iY,aB,seval])⟩ ?_
 rintro⟨i,acc,m,b⟩ ⟨ht,hi,hlen,hb⟩
 simp only at ht hi hlen hb ⊢
 have fin:∀(l:List Tm) (b':Nat) (r':AV),(l.map Tm.av≠[]→st b'=none)→t6 T (r'.fin b' (l.map Tm.av))→∃b2 l2 s0,aZ st b' (l.map Tm.av)=aZ s0 b2 l2∧(l2≠[]→s0 b2=none)∧(∀e∈l2,e.cE=false)∧iV l2∧aL s0 st∧t6 T (r'.fin b2 l2):=fun l b' r' h1 h2=>⟨b',_,st,rfl,h1,pM _,⟨4,gZ _⟩,aL.refl _,h2⟩
 have hTn:T=none→∀(b':Nat) (l:List AV),t6 T ((AV.tup [.fslice [],.int .i64 (-1)]).fin b' l):=by
  rintro rfl b' l
  simp only[t6,kC,fS,oL,bH,a7]
 have hln:(acc.map Tm.av).length=acc.length:=aF _
 have hal:=CG (P:=prog) (b:=b) (w:=4) (l:=acc.map Tm.av) cI
 rw[hln] at hal
 by_cases h6:acc.length≤6
 case neg=>
  have h6':((acc.length:Int)≤6)=False:=cK (by omega)
  obtain rfl:m=0:=by omega
  simp -implicitDefEqProofs only[hal,h6',bX,aB,seval]
  exact fin _ _ _ hb (hTn ht.symm _ _)
 have h6':((acc.length:Int)≤6)=True:=dC (by omega)
 obtain⟨m,rfl⟩:∃m',m=m'+1:=⟨m - 1,by omega⟩
 simp only[uS] at ht
 simp -implicitDefEqProofs only[hal,h6',bV,aB,seval]
 refine(aB8 hs i hi _).mono ?_
 rintro r _ ⟨hr,rfl⟩
 cases hRi:KM (sb s) i with
 | none=>
  rw[hRi] at ht hr
  obtain⟨k,hk,rfl⟩:=hr
  have hk0:((-1 - (k:Int))<0)=True:=dC (by omega)
  simp -implicitDefEqProofs only[aO,cP,cU,hk0,mT,bV,aB,↓aU,seval,X6]
  exact fin _ _ _ hb (hTn ht.symm _ _)
 | some p=>
  obtain⟨t,e⟩:=p
  rw[hRi] at ht hr
  simp only at ht
  obtain⟨g1,g2,g3⟩:=DR (by rw[cQ];exact hs) _ _ _ i t e (by rw[cQ];exact hi) hRi
  rw[cQ] at g2
  simp only[nW] at hr
  subst hr
  have he0:((e:Int)<0)=False:=cK (by omega)
  simp -implicitDefEqProofs only[bG,aO,cP,cU,he0,o7,vP,bX,aB,↓aU,seval,X6]
  refine eQ aQ bS bT rfl rfl (f9 (aO _) (cP _)) (gZ _) hb (by simp only[aF,aX,a8];omega) (by simp only[aF,aX,a8];omega) (fun b' hb'=>?_)
  rw[show acc.map Tm.av++ [t.av]=(acc++ [t]).map Tm.av by simp] at hb' ⊢
  have hw1:=bE (n:=(e:Int)+1)
  simp -implicitDefEqProofs only[aB,seval]
  refine(mD s e 44 _).to ?_
  cases h3:cW (sb s) e 44 with
  | true=>
   have h4:=p5 h3
   rw[cQ] at h4
   rw[h3,aH rfl] at ht
   simp -implicitDefEqProofs only[hw1,aB,seval]
   refine⟨(e+1,acc++ [t],m,b'),by simp only;omega,⟨ht,by simp only;omega,by simp only[dQ,aX,a8];omega,hb'⟩,aM.mk (by simp -implicitDefEqProofs only[aB,seval]<;>rfl)⟩
  | false=>
   rw[h3,aE (by decide)] at ht
   simp -implicitDefEqProofs only[nF,o7,vP,aB,seval]
   refine fin _ _ _ hb' ?_
   subst ht
   simp only[t6,kC,fS,lU,bH,a7]
abbrev cl0:Cl:=(LC,[])
def BZ(o:Option Cl):AV:=match o with | some c=>.tup [bR c,.bool true] | none=>.tup [bR cl0,.bool false]
theorem s9:(AV.tup [.agg [.int .i64 0,.int .i64 0,.str ⟨#[]⟩,.fslice [],.fslice []],.bool false]).soft=BZ none:=by simp only[BZ,iL,iT,jZ,iU,sI,nT,mV,bH,a7]
theorem S4(c:Cl):(AV.tup [bR c,.bool true]).soft=BZ (some c):=by
 obtain⟨⟨k,n,s,ks⟩,ts⟩:=c
 simp only[BZ,iL,iT,jZ,iU,sI,nT,n9,bH,a7]
theorem y6{l:List UInt8}{c:Cl}{e:Nat}(h:uN l=some (c,e))(h1:¬(l.length≤1000∧e+1=l.length∧cW l e 46=true∧sb (fmtC c)=l)):p9 l=none:=by
 unfold p9
 rw[h]
 simp only
 rw[aE h1]
theorem WD{l:List UInt8}{c:Cl}{e:Nat}(h:uN l=some (c,e))(h1:l.length≤1000∧e+1=l.length∧cW l e 46=true∧sb (fmtC c)=l):p9 l=some c:=by
 unfold p9
 rw[h]
 simp only
 rw[aH h1]
theorem WX{a b:ByteArray}(h:sb a=sb b):a=b:=by rw[←aAQ a,←aAQ b,h]
abbrev kG:=zi tI_3 (zi zI_3 (zi aY (zi tI_4 (zi zI_4 (zi cJ (zi tI_5 (zi zI_5 (zi m6 (zi tI_8 (zi zI_8 (zi AS (zi AT (zi AU (zi AX (zi AD (zi tI_9 (zi zI_9 (zi cV (zi tI_31 (zi zI_31 (zi aQ (zi bS (zi bT (zi cI (zi tI_46 (zi zI_46 (zi cZ (zi eG (zi eE (zi eT (zi tI_58 (zi zI_58 (zi a2C (zi aWX (zi tI_66 (zi zI_66 (zi bZ (zi b9 (zi cA (zi cB (zi bY (zi tI_84 (zi zI_84 (zi mA (zi mB l8)))))))))))))))))))))))))))))))))))))))))))))
set_option maxHeartbeats 2000000 in
theorem aXS(s:ByteArray)(st:aA):aD prog 266 [.str s] st (fun r st'=>r=BZ (p9 (sb s))∧st'=st):=by
 refine aD.done ?_
 refine wF [1000000,6] 1 func266 ntmps266 rfl rfl ?_
 intro _
 simp -implicitDefEqProofs only[aB,seval,kG]
 intro b2 hb2
 have hD:=fun(o:AO)=>(aL.refl st).aC (o:=o) hb2
 by_cases hs:s.size≤1000
 case neg=>
  have hs':((1000:Int)<(s.size:Int))=True:=dC (by omega)
  have hP:p9 (sb s)=none:=by
   unfold p9
   split
   · rfl
   · rw[aE fun h=>hs (by rw[←cQ];exact h.1)]
  rw[hP]
  simp -implicitDefEqProofs only[aK,hs',bV,aB,seval,kG]
  exact⟨s9,hD _⟩
 have hs':((1000:Int)<(s.size:Int))=False:=cK (by omega)
 have h0:=fun st=>aB8 hs 0 (jE _) st
 rw[show((0:Nat):Int)=0 from rfl] at h0
 simp -implicitDefEqProofs only[hs',bX,aB,seval]
 refine(h0 _).mono ?_
 rintro r _ ⟨hr,rfl⟩
 cases hRi:KM (sb s) 0 with
 | none=>
  have hP:p9 (sb s)=none:=by unfold p9 uN;rw[hRi]
  rw[hP]
  rw[hRi] at hr
  obtain⟨k,hk,rfl⟩:=hr
  have hk0:((-1 - (k:Int))<0)=True:=dC (by omega)
  simp -implicitDefEqProofs only[aK,aO,cP,cU,hk0,mT,bV,aB,↓aU,seval,kG]
  exact⟨s9,hD _⟩
 | some p=>
  obtain⟨⟨hk,hn,hsn,hts⟩,e⟩:=p
  rw[hRi] at hr
  simp only[nW,bA] at hr
  subst hr
  obtain⟨g1,g2,g3⟩:=DR (by rw[cQ];exact hs) _ _ _ 0 _ e (jE _) hRi
  rw[cQ] at g2
  have he0:((e:Int)<0)=False:=cK (by omega)
  obtain⟨f1,hf1⟩:∃f1,f1=e+1:=⟨_,rfl⟩
  obtain⟨f2,hf2⟩:∃f2,f2=e+2:=⟨_,rfl⟩
  have hw1:=pN (x:=(e:Int)+1) (m:=f1) (by omega) (by omega)
  have hw2:=pN (x:=(e:Int)+2) (m:=f2) (by omega) (by omega)
  simp -implicitDefEqProofs only[aK,he0,bX,aB,↓aU,seval,kG]
  intro b6 h6
  have hbb:b6≠b2:=fun h=>by rw[h,aA.aJ] at h6;cases h6
  have h6':st b6=none:=by rwa [aA.aG _ _ hbb] at h6
  have hE:∀o1 o2 o3,aL (((st.aC b2 o1).aC b6 o2).aC b2 o3) st:=fun o1 o2 o3=>((hD _).aC h6').aC hb2
  refine(mD s e 58 _).to ?_
  by_cases hbd:(cW (sb s) e 58&&cW (sb s) (e+1) 45)=true
  case neg=>
   obtain⟨b,hb⟩:∃b:List Tm,b= []:=⟨_,rfl⟩
   have hcl:uN (sb s)=some ((.mk hk hn hsn hts,b),e):=by
    unfold uN
    rw[hRi,hb]
    simp only
    rw[aE hbd]
   obtain⟨e2,he2⟩:∃e2,e2=e:=⟨_,rfl⟩
   rw[←he2] at hcl
   cases h58:cW (sb s) e 58 with
   | false=>
    simp -implicitDefEqProofs only[aB,seval,kG]
    rw[←he2]
    have hdn:=(M0 (by rw[cQ];exact hs) hcl).2.2
    have hwl:=bE (n:=(s.size:Int) - 1)
    by_cases he:e2+1=s.size
    case neg=>
     rw[y6 hcl (fun h=>he (by rw[cQ] at h;exact h.2.1))]
     have he':((e2:Int)=(s.size:Int) - 1)=False:=cK (by omega)
     simp -implicitDefEqProofs only[aK,hwl,he',hbb.symm,bX,aB,seval,kG]
     exact⟨s9,hE _ _ _⟩
    have he':((e2:Int)=(s.size:Int) - 1)=True:=dC (by omega)
    simp -implicitDefEqProofs only[hwl,he',bV,aB,seval]
    refine(mD s e2 46 _).to ?_
    cases hd:cW (sb s) e2 46 with
    | false=>
     rw[y6 hcl (fun h=>by rw[hd] at h;exact absurd h.2.2.1 (by decide))]
     simp -implicitDefEqProofs only[aK,hbb.symm,aB,seval,kG]
     exact⟨s9,hE _ _ _⟩
    | true=>
     simp -implicitDefEqProofs only[aB,seval,kG]
     refine(aD.rH (by rw[show iS [AV.agg [.int .i64 hk,.int .i64 hn,.str hsn,.slice (hts.map Tm.av),.fslice []]]= [bR (.mk hk hn hsn hts,b)] by simp only[iS,iL,hb,iT,iU,nT,n9,mV,bH,a7]];exact SC (.mk hk hn hsn hts,b) _):aD prog 324 _ _ _).to ?_
     by_cases hf:fmtC (.mk hk hn hsn hts,b)=s
     case neg=>
      rw[y6 hcl (fun h=>hf (WX h.2.2.2))]
      have hf':=cK hf
      simp -implicitDefEqProofs only[aK,hf',hbb.symm,bX,aB,seval,kG]
      exact⟨s9,hE _ _ _⟩
     rw[WD hcl ⟨by rw[cQ];exact hs,by rw[cQ];exact he,hd,by rw[hf]⟩]
     have hf':=dC hf
     simp -implicitDefEqProofs only[hf',bV,aB,seval,kG]
     refine(aD.rH (by rw[show iS [AV.agg [.int .i64 hk,.int .i64 hn,.str hsn,.slice (hts.map Tm.av),.fslice []]]= [bR (.mk hk hn hsn hts,b)] by simp only[iS,iL,hb,iT,iU,nT,n9,mV,bH,a7]];exact MS (.mk hk hn hsn hts,b) hdn.1.2 (by have:=hdn.2.1;omega) (fun x hx=>(hdn.2.2 x hx).2) _):aD prog 248 _ _ _).to ?_
     rw[iL]
     simp -implicitDefEqProofs only[aK,hbb.symm,aB,seval,kG]
     rw[←iL]
     exact⟨S4 _,hE _ _ _⟩
   | true=>
    simp -implicitDefEqProofs only[hw1,aB,seval]
    refine(mD s f1 45 _).to ?_
    rw[h58,eU,←hf1] at hbd
    rw[show cW (sb s) f1 45=false by simpa using hbd]
    simp -implicitDefEqProofs only[aB,seval,kG]
    rw[←he2]
    have hdn:=(M0 (by rw[cQ];exact hs) hcl).2.2
    have hwl:=bE (n:=(s.size:Int) - 1)
    by_cases he:e2+1=s.size
    case neg=>
     rw[y6 hcl (fun h=>he (by rw[cQ] at h;exact h.2.1))]
     have he':((e2:Int)=(s.size:Int) - 1)=False:=cK (by omega)
     simp -implicitDefEqProofs only[aK,hwl,he',hbb.symm,bX,aB,seval,kG]
     exact⟨s9,hE _ _ _⟩
    have he':((e2:Int)=(s.size:Int) - 1)=True:=dC (by omega)
    simp -implicitDefEqProofs only[hwl,he',bV,aB,seval]
    refine(mD s e2 46 _).to ?_
    cases hd:cW (sb s) e2 46 with
    | false=>
     rw[y6 hcl (fun h=>by rw[hd] at h;exact absurd h.2.2.1 (by decide))]
     simp -implicitDefEqProofs only[aK,hbb.symm,aB,seval,kG]
     exact⟨s9,hE _ _ _⟩
    | true=>
     simp -implicitDefEqProofs only[aB,seval,kG]
     refine(aD.rH (by rw[show iS [AV.agg [.int .i64 hk,.int .i64 hn,.str hsn,.slice (hts.map Tm.av),.fslice []]]= [bR (.mk hk hn hsn hts,b)] by simp only[iS,iL,hb,iT,iU,nT,n9,mV,bH,a7]];exact SC (.mk hk hn hsn hts,b) _):aD prog 324 _ _ _).to ?_
     by_cases hf:fmtC (.mk hk hn hsn hts,b)=s
     case neg=>
      rw[y6 hcl (fun h=>hf (WX h.2.2.2))]
      have hf':=cK hf
      simp -implicitDefEqProofs only[aK,hf',hbb.symm,bX,aB,seval,kG]
      exact⟨s9,hE _ _ _⟩
     rw[WD hcl ⟨by rw[cQ];exact hs,by rw[cQ];exact he,hd,by rw[hf]⟩]
     have hf':=dC hf
     simp -implicitDefEqProofs only[hf',bV,aB,seval,kG]
     refine(aD.rH (by rw[show iS [AV.agg [.int .i64 hk,.int .i64 hn,.str hsn,.slice (hts.map Tm.av),.fslice []]]= [bR (.mk hk hn hsn hts,b)] by simp only[iS,iL,hb,iT,iU,nT,n9,mV,bH,a7]];exact MS (.mk hk hn hsn hts,b) hdn.1.2 (by have:=hdn.2.1;omega) (fun x hx=>(hdn.2.2 x hx).2) _):aD prog 248 _ _ _).to ?_
     rw[iL]
     simp -implicitDefEqProofs only[aK,hbb.symm,aB,seval,kG]
     rw[←iL]
     exact⟨S4 _,hE _ _ _⟩
  rw[cF,←hf1] at hbd
  have a31:=p5 hbd.2
  rw[cQ] at a31
  rw[hbd.1]
  simp -implicitDefEqProofs only[hw1,aB,seval]
  refine(mD s f1 45 _).to ?_
  rw[hbd.2]
  simp -implicitDefEqProofs only[hw2,aB,seval]
  refine(aBY hs f2 (by omega) _).mono ?_
  rintro r _ ⟨hr,rfl⟩
  cases hG:uS (sb s) 7 f2 [] with
  | none=>
   have hP:p9 (sb s)=none:=by
    unfold p9 uN
    rw[hRi]
    simp only
    rw[aH (by rw[←hf1,hbd.1,hbd.2];try rfl),←hf2,hG]
   rw[hP]
   rw[hG] at hr
   simp only[t6] at hr
   subst hr
   have hwl:=bE (n:=(s.size:Int) - 1)
   have he':((-1:Int)=(s.size:Int) - 1)=False:=cK (by omega)
   simp -implicitDefEqProofs only[aK,hwl,he',hbb.symm,bX,aB,seval,kG]
   exact⟨s9,hE _ _ _⟩
  | some p=>
   obtain⟨b,e2⟩:=p
   rw[hG] at hr
   simp only[t6] at hr
   subst hr
   have hcl:uN (sb s)=some ((.mk hk hn hsn hts,b),e2):=by
    unfold uN
    rw[hRi]
    simp only
    rw[aH (by rw[←hf1,hbd.1,hbd.2];try rfl),←hf2,hG]
   have hg2:=NN (by rw[cQ];exact hs) _ _ _ _ _ (by rw[cQ];omega) (by simp) hG
   rw[cQ] at hg2
   simp -implicitDefEqProofs only[aK,aB,seval,kG]
   have hdn:=(M0 (by rw[cQ];exact hs) hcl).2.2
   have hwl:=bE (n:=(s.size:Int) - 1)
   by_cases he:e2+1=s.size
   case neg=>
    rw[y6 hcl (fun h=>he (by rw[cQ] at h;exact h.2.1))]
    have he':((e2:Int)=(s.size:Int) - 1)=False:=cK (by omega)
    simp -implicitDefEqProofs only[aK,hwl,he',hbb.symm,bX,aB,seval,kG]
    exact⟨s9,hE _ _ _⟩
   have he':((e2:Int)=(s.size:Int) - 1)=True:=dC (by omega)
   simp -implicitDefEqProofs only[hwl,he',bV,aB,seval]
   refine(mD s e2 46 _).to ?_
   cases hd:cW (sb s) e2 46 with
   | false=>
    rw[y6 hcl (fun h=>by rw[hd] at h;exact absurd h.2.2.1 (by decide))]
    simp -implicitDefEqProofs only[aK,hbb.symm,aB,seval,kG]
    exact⟨s9,hE _ _ _⟩
   | true=>
    simp -implicitDefEqProofs only[aB,seval,kG]
    refine(aD.rH (by rw[show iS [AV.agg [.int .i64 hk,.int .i64 hn,.str hsn,.slice (hts.map Tm.av),.slice (b.map Tm.av)]]= [bR (.mk hk hn hsn hts,b)] by simp only[iS,iL,AV.soft]];exact SC (.mk hk hn hsn hts,b) _):aD prog 324 _ _ _).to ?_
    by_cases hf:fmtC (.mk hk hn hsn hts,b)=s
    case neg=>
     rw[y6 hcl (fun h=>hf (WX h.2.2.2))]
     have hf':=cK hf
     simp -implicitDefEqProofs only[aK,hf',hbb.symm,bX,aB,seval,kG]
     exact⟨s9,hE _ _ _⟩
    rw[WD hcl ⟨by rw[cQ];exact hs,by rw[cQ];exact he,hd,by rw[hf]⟩]
    have hf':=dC hf
    simp -implicitDefEqProofs only[hf',bV,aB,seval,kG]
    refine(aD.rH (by rw[show iS [AV.agg [.int .i64 hk,.int .i64 hn,.str hsn,.slice (hts.map Tm.av),.slice (b.map Tm.av)]]= [bR (.mk hk hn hsn hts,b)] by simp only[iS,iL,AV.soft]];exact MS (.mk hk hn hsn hts,b) hdn.1.2 (by have:=hdn.2.1;omega) (fun x hx=>(hdn.2.2 x hx).2) _):aD prog 248 _ _ _).to ?_
    rw[iL]
    simp -implicitDefEqProofs only[aK,hbb.symm,aB,seval,kG]
    rw[←iL]
    exact⟨S4 _,hE _ _ _⟩

end Go.AW
namespace Go.AW
def QF:List ByteArray:=[⟨#[97,112,112,40,91,93,44,65,44,65,41,46,10,97,112,112,40,91,65,124,66,93,44,67,44,91,65,124,68,93,41,58,45,97,112,112,40,66,44,67,44,68,41,46,10]⟩,
 ⟨#[109,101,109,40,65,44,91,65,124,66,93,41,46,10,109,101,109,40,65,44,91,66,124,67,93,41,58,45,109,101,109,40,65,44,67,41,46,10]⟩,
 ⟨#[112,40,49,41,46,10,112,40,50,41,46,10,112,40,51,41,46,10,113,40,65,41,58,45,112,40,65,41,44,65,62,49,44,33,46,10,114,40,65,44,66,41,58,45,112,40,65,41,44,112,40,66,41,46,10]⟩,
 ⟨#[108,101,110,40,91,93,44,48,41,46,10,108,101,110,40,91,65,124,66,93,44,67,41,58,45,108,101,110,40,66,44,68,41,44,67,32,105,115,32,68,43,49,46,10]⟩,
 ⟨#[109,97,120,40,65,44,66,44,65,41,58,45,65,62,61,66,44,33,46,10,109,97,120,40,65,44,66,44,66,41,46,10]⟩,
 ⟨#[101,40,97,44,98,41,46,10,101,40,98,44,99,41,46,10,101,40,99,44,100,41,46,10,116,40,65,44,66,41,58,45,101,40,65,44,66,41,46,10,116,40,65,44,66,41,58,45,101,40,65,44,67,41,44,116,40,67,44,66,41,46,10]⟩,
 ⟨#[108,111,111,112,58,45,108,111,111,112,46,10,111,107,46,10]⟩,
 ⟨#[102,97,99,40,48,44,49,41,58,45,33,46,10,102,97,99,40,65,44,66,41,58,45,65,62,48,44,67,32,105,115,32,65,45,49,44,102,97,99,40,67,44,68,41,44,66,32,105,115,32,65,42,68,46,10]⟩,
 ⟨#[115,40,65,41,58,45,65,61,102,40,66,41,44,97,114,103,40,49,44,65,44,66,41,44,66,61,49,46,10,115,40,65,41,58,45,118,97,114,40,65,41,44,65,61,110,111,110,101,46,10]⟩,
 ⟨#[114,101,118,40,91,93,44,65,44,65,41,46,10,114,101,118,40,91,65,124,66,93,44,67,44,68,41,58,45,114,101,118,40,66,44,91,65,124,67,93,44,68,41,46,10]⟩,
 ⟨#[98,97,100,40,65,41,58,45,66,32,105,115,32,65,43,102,111,111,44,67,61,66,46,10,98,105,103,40,65,41,58,45,65,32,105,115,32,57,57,57,43,49,46,10,117,110,40,65,41,58,45,110,111,115,117,99,104,40,65,41,46,10]⟩]
def YF:List ByteArray:=[⟨#[97,112,112,40,65,44,66,44,91,49,44,50,93,41]⟩,
 ⟨#[97,112,112,40,91,49,93,44,91,50,93,44,65,41]⟩,
 ⟨#[109,101,109,40,65,44,91,97,44,98,44,99,93,41]⟩,
 ⟨#[113,40,65,41]⟩,
 ⟨#[114,40,65,44,66,41,44,65,62,66]⟩,
 ⟨#[108,101,110,40,91,97,44,98,44,99,93,44,65,41]⟩,
 ⟨#[109,97,120,40,51,44,50,44,65,41]⟩,
 ⟨#[109,97,120,40,65,44,50,44,51,41]⟩,
 ⟨#[116,40,97,44,65,41]⟩,
 ⟨#[108,111,111,112]⟩,
 ⟨#[111,107,44,33]⟩,
 ⟨#[102,97,99,40,52,44,65,41]⟩,
 ⟨#[115,40,65,41]⟩,
 ⟨#[114,101,118,40,91,49,44,50,44,51,93,44,91,93,44,65,41]⟩,
 ⟨#[98,97,100,40,65,41]⟩,
 ⟨#[98,105,103,40,65,41]⟩,
 ⟨#[117,110,40,65,41]⟩,
 ⟨#[112,40,65,41,44,33,44,112,40,66,41]⟩,
 ⟨#[65,61,102,40,66,44,67,41,44,97,114,103,40,49,44,65,44,68,41]⟩,
 ⟨#[109,101,109,40,65,44,91,49,44,50,93,41,44,109,101,109,40,66,44,91,65,44,51,93,41]⟩,
 ⟨#[65,32,105,115,32,51,47,47,48]⟩,
 ⟨#[116,114,117,101]⟩,
 ⟨#[109,101,109,40,65,44,66,41]⟩,
 ⟨#[112,40,65,41,44,65,92,61,50]⟩]
def HJ:List (List ByteArray):=[[⟨#[97,112,112,40,65,44,66,44,91,49,44,50,93,41]⟩,⟨#[97,112,112,40,91,49,93,44,91,50,124,65,93,44,66,41]⟩,⟨#[97,112,112,40,65,44,91,49,93,44,65,41]⟩],
 [⟨#[109,101,109,40,65,44,91,97,44,98,44,99,93,41]⟩,⟨#[109,101,109,40,65,44,91,49,44,50,93,41,44,109,101,109,40,66,44,91,65,44,51,93,41]⟩,⟨#[109,101,109,40,65,44,66,41]⟩],
 [⟨#[113,40,65,41]⟩,⟨#[114,40,65,44,66,41,44,65,62,66]⟩,⟨#[112,40,65,41,44,33,44,112,40,66,41]⟩,⟨#[114,40,65,44,65,41]⟩],
 [⟨#[108,101,110,40,91,97,44,98,44,99,93,44,65,41]⟩,⟨#[108,101,110,40,65,44,50,41]⟩],
 [⟨#[109,97,120,40,51,44,50,44,65,41]⟩,⟨#[109,97,120,40,65,44,50,44,51,41]⟩,⟨#[109,97,120,40,49,44,50,44,65,41]⟩],
 [⟨#[116,40,97,44,65,41]⟩,⟨#[116,40,65,44,100,41]⟩,⟨#[101,40,65,44,66,41]⟩],
 [⟨#[108,111,111,112]⟩,⟨#[111,107,44,33]⟩,⟨#[111,107,44,108,111,111,112]⟩],
 [⟨#[102,97,99,40,52,44,65,41]⟩,⟨#[102,97,99,40,48,44,65,41]⟩,⟨#[102,97,99,40,55,44,65,41]⟩],
 [⟨#[115,40,65,41]⟩,⟨#[115,40,66,41,44,66,61,102,40,49,41]⟩],
 [⟨#[114,101,118,40,91,49,44,50,44,51,93,44,91,93,44,65,41]⟩,⟨#[114,101,118,40,65,44,91,93,44,91,49,93,41]⟩],
 [⟨#[98,97,100,40,65,41]⟩,⟨#[98,105,103,40,65,41]⟩,⟨#[117,110,40,65,41]⟩]]
def WC(s:ByteArray):Bool:=decide (s.size≤200)&&match DO (sb s) with | some l=>decide (2≤l.length)&&decide (l.length≤20) | none=>false
theorem bA0:QF.all WC=true:=by decide +kernel
theorem bAY:HJ.all (fun l=>decide (1≤l.length)&&l.all (fun s=>decide (s.size≤1000)))=true:=by decide +kernel
theorem bAZ(y:List ByteArray)(h:y∈HJ):y.length≤4:=by
 have h2:(HJ.all fun l=>decide (l.length≤4))=true:=by decide +kernel
 simpa using eH.1 h2 y h
end Go.AW
