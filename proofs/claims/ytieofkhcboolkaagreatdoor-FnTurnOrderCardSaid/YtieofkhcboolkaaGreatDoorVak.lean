/- The reference's writer as data. -/
import Derived.Test.YtieofkhcboolkaaGreatDoorVaj
import Derived.Test.YtieofkhcboolkaaGreatDoorVai
import Derived.Test.YtieofkhcboolkaaGreatDoorVaf
set_option linter.unusedSimpArgs false
set_option linter.unusedVariables false
set_option maxRecDepth 100000
namespace Go.AW
def k9:Nat→Nat→ByteArray→ByteArray
 | 0,_,acc=>acc
 | f+1,n,acc=>if 9<n then k9 f (n / 10) (⟨#[UInt8.ofNat (48+n % 10)]⟩++acc) else⟨#[UInt8.ofNat (48+n)]⟩++acc
def m7(n:Int):ByteArray:=if n<0 then⟨#[45]⟩++k9 20 (-n).toNat ⟨#[]⟩ else k9 20 n.toNat ⟨#[]⟩
def v6(n:Int):ByteArray:=⟨#[UInt8.ofNat (65+n.toNat)]⟩
def mP(t:Tm):Bool:=decide (t.k=3)&&(decide (t.s=⟨#[46]⟩)&&decide (t.ts.length=2))
def CE(t:Tm):Bool:=decide (t.k=3)&&(decide (t.s=⟨#[91,93]⟩)&&decide (t.ts.length=0))
def qE(t:Tm):Bool:=decide (t.k=3)&&(decide (t.ts.length=2)&&decide (0<cC t.s))
def CR(t:Tm):Bool:=decide (t.k=3)&&(decide (t.ts.length=0)&&decide (0<cC t.s))
def BK(t:Tm):Bool:=decide (t.k=3)&&decide (0<t.ts.length)
def nW(t:Tm)(i:Nat):Tm:=t.ts.getD i bBZ
 where bBZ:Tm:=.mk 0 0 ⟨#[]⟩ []
def gX(T:Tm→ByteArray):List Tm→ByteArray
 | []=>⟨#[]⟩
 | x::xs=>xs.foldl (fun o y=>(o++⟨#[44]⟩)++T y) (⟨#[]⟩++T x)
def spine:Nat→Tm→List Tm×Tm
 | 0,t=>([],t)
 | n+1,t=>if mP t then(nW t 0::(spine n (nW t 1)).1,(spine n (nW t 1)).2) else([],t)
def oU(nm:ByteArray):ByteArray:=if iI nm then(⟨#[32]⟩++nm)++⟨#[32]⟩ else nm
def v7(l:List UInt8):Bool:=gC l 0 letter||(gC l 0 dL||(gC l 0 r0||(cV l 0 91||cV l 0 40)))
def sI(T:Tm→ByteArray)(t:Tm)(lv:Nat):ByteArray:=if qE t&&decide (lv<cC t.s) then(⟨#[40]⟩++T t)++⟨#[41]⟩ else T t
def sV(T:Tm→ByteArray)(t:Tm)(lv:Nat):ByteArray:=if CR t then(⟨#[40]⟩++T t)++⟨#[41]⟩ else sI T t lv
def sZ(T:Tm→ByteArray)(t:Tm)(lv:Nat):ByteArray:=if CR t|| !v7 (sb (sI T t lv)) then(⟨#[40]⟩++sI T t lv)++⟨#[41]⟩ else sI T t lv
def zX(T:Tm→ByteArray)(p:List Tm×Tm):ByteArray:=if CE p.2 then(⟨#[91]⟩++gX T p.1)++⟨#[93]⟩ else(((⟨#[91]⟩++gX T p.1)++⟨#[124]⟩)++T p.2)++⟨#[93]⟩
def xT(t:Tm):ByteArray:=if t.k=1 then v6 t.n else if t.k=2 then m7 t.n else t.s
def lvl(n:Nat):Nat:=if n=3 then 2 else n
def tx:Nat→Tm→ByteArray
 | 0,_=>⟨#[]⟩
 | n+1,t=>if mP t then zX (tx n) (spine n t) else if qE t then(sV (tx n) (nW t 0) (lvl (cC t.s))++oU t.s)++sZ (tx n) (nW t 1) (cC t.s - 1)
  else if BK t then((t.s++⟨#[40]⟩)++gX (tx n) t.ts)++⟨#[41]⟩ else xT t
theorem YV{T:Tm→ByteArray}{l:List Tm}{i:Nat}{x:Tm}(hx:l[i]?=some x):gX T (l.take (i+1))=(if 0<i then gX T (l.take i)++⟨#[44]⟩ else gX T (l.take i))++T x:=by
 rw[dY,hx]
 cases l with
 | nil=>simp at hx
 | cons y l=>
  cases i with
  | zero=>simp at hx;subst hx;rfl
  | succ i=>
   rw[aG (by omega),wQ]
   simp only[gX,DL,gV,KN,vD,List.foldl_nil]
theorem cK(a b:ByteArray):(a++b).size=a.size+b.size:=ByteArray.size_append
theorem BT:∀(f n:Nat) (acc:ByteArray),(k9 f n acc).size≤f+acc.size
 | 0,n,acc=>by simp [k9]
 | f+1,n,acc=>by
  unfold k9
  split
  · refine kQ (BT f _ _) ?_
    rw[cK]
    show f+(1+acc.size)≤_
    omega
  · rw[cK]
    show 1+acc.size≤_
    omega
abbrev Ws (t:Tm):Prop:=∃d,t.shape d=true
theorem Ws.own{k n:Int}{s:ByteArray}{ts:List Tm}(h:Ws (.mk k n s ts)):eF k n s ts.length=true∧∀x∈ts,Ws x:=by
 obtain⟨d,h⟩:=h
 rw[Tm.FS,bV,bV,dW] at h
 exact⟨h.1.2,fun x hx=>⟨_,h.2 x hx⟩⟩
theorem z7{k n:Int}{s:ByteArray}{len:Int}(h:eF k n s len=true):(k=1∧0≤n∧n≤25∧s=⟨#[]⟩∧len=0)∨(k=2∧-999≤n∧n≤999∧s=⟨#[]⟩∧len=0)∨(k=3∧n=0∧zY s=true∧len≤4):=by
 unfold eF at h
 by_cases h1:k=1
 · rw[eE h1] at h
   simp only[cond_true,bV,bK] at h
   exact Or.inl ⟨h1,h.1.1.1,h.1.1.2,h.1.2,h.2⟩
 rw[d5 h1] at h
 by_cases h2:k=2
 · rw[eE h2] at h
   simp only[cond_true,BS,bV,bK] at h
   exact Or.inr (Or.inl ⟨h2,h.1.1.1,h.1.1.2,h.1.2,h.2⟩)
 rw[d5 h2] at h
 by_cases h3:k=3
 · rw[eE h3] at h
   simp only[cond_true,BS,bV,bK] at h
   exact Or.inr (Or.inr ⟨h3,h.1.1,h.1.2,h.2⟩)
 · rw[d5 h3] at h
   cases h
theorem TY{s:ByteArray}(h:zY s=true):1≤s.size∧s.size≤6:=by
 unfold zY at h
 rw[oZ] at h
 rcases h with h | h
 · simp only[sW,bV,bK] at h
   omega
 · rw[A5] at h
   obtain⟨x,hx,h⟩:=h
   rw[bK] at h
   subst h
   revert hx
   revert s
   decide
theorem Ws.size{t:Tm}(h:Ws t):t.s.size≤6∧(t.k=3→1≤t.s.size):=by
 obtain⟨k,n,s,ts⟩:=t
 rcases z7 h.own.1 with h | h | h
 · rw[show(Tm.mk k n s ts).s=s from rfl,h.2.2.2.1];exact⟨by decide,fun h3=>by have:k=3:=h3;omega⟩
 · rw[show(Tm.mk k n s ts).s=s from rfl,h.2.2.2.1];exact⟨by decide,fun h3=>by have:k=3:=h3;omega⟩
 · have:=TY h.2.2.1;exact⟨this.2,fun _=>this.1⟩
theorem nA(t:Tm):1≤t.nodes:=by obtain⟨k,n,s,ts⟩:=t;rw[Tm.gJ];omega
theorem NE{x:Tm}{l:List Tm}(h:x∈l):x.nodes≤bB Tm.nodes l:=by
 induction l with
 | nil=>cases h
 | cons y l ih=>
  simp only[bB]
  rcases cY.1 h with rfl | h
  · omega
  · have:=ih h;omega
theorem VM:∀(l:List Tm) (i:Nat),bB Tm.nodes (l.take i)≤bB Tm.nodes l
 | [],i=>by simp
 | x::l,0=>by simp [bB]
 | x::l,i+1=>by simp only[wQ,bB];have:=VM l i;omega
theorem DZ{T:Tm→ByteArray}{l:List Tm}(h:∀x∈l,(T x).size≤32*x.nodes):(gX T l).size≤32*bB Tm.nodes l+l.length:=by
 have hg:∀(xs:List Tm) (o:ByteArray),(∀x∈xs,(T x).size≤32*x.nodes)→(xs.foldl (fun o y=>(o++⟨#[44]⟩)++T y) o).size≤o.size+32*bB Tm.nodes xs+xs.length:=by
  intro xs
  induction xs with
  | nil=>intro o _;simp [bB]
  | cons x xs ih=>
   intro o hx
   refine kQ (ih _ fun y hy=>hx y (by simp [hy])) ?_
   rw[cK,cK]
   have:=hx x (by simp)
   simp only[bB,aU]
   show o.size+1+_+_+_≤_
   omega
 cases l with
 | nil=>exact iU _
 | cons x l=>
  refine kQ (hg l _ fun y hy=>h y (by simp [hy])) ?_
  rw[cK]
  have:=h x (by simp)
  simp only[bB,aU]
  show 0+_+_+_≤_
  omega
theorem xX{t:Tm}(h:mP t=true):∃n x y,t=.mk 3 n ⟨#[46]⟩ [x,y]:=by
 obtain⟨k,n,s,ts⟩:=t
 simp only[mP,bV,bK] at h
 simp only[Tm.k,Tm.s,Tm.ts] at h
 obtain⟨rfl,rfl,h3⟩:=h
 match ts,h3 with
 | [x,y],_=>exact⟨n,x,y,rfl⟩
theorem uJ{k n:Int}{s:ByteArray}{x y:Tm}:nW (.mk k n s [x,y]) 0=x∧nW (.mk k n s [x,y]) 1=y:=⟨rfl,rfl⟩
theorem NY:∀(n:Nat) (t:Tm),Ws t→(∀x∈(spine n t).1,Ws x)∧Ws (spine n t).2∧bB Tm.nodes (spine n t).1+(spine n t).1.length+(spine n t).2.nodes=t.nodes
 | 0,t,h=>⟨by simp [spine],h,by simp [spine,bB]⟩
 | n+1,t,h=>by
  unfold spine
  split
  · rename_i hp
    obtain⟨m,x,y,rfl⟩:=xX hp
    have hk:=h.own.2
    obtain⟨h1,h2,h3⟩:=NY n y (hk y (by simp))
    simp only[uJ]
    refine⟨fun z hz=>?_,h2,?_⟩
    · rcases cY.1 hz with rfl | hz
      · exact hk z (by simp)
      · exact h1 z hz
    · simp only[bB,aU,Tm.gJ]
      omega
  · exact⟨by simp,h,by simp [bB]⟩
theorem IW{t:Tm}(h:qE t=true):∃n s x y,t=.mk 3 n s [x,y]∧0<cC s:=by
 obtain⟨k,n,s,ts⟩:=t
 simp only[qE,bV,bK] at h
 simp only[Tm.k,Tm.s,Tm.ts] at h
 obtain⟨rfl,h2,h3⟩:=h
 match ts,h2 with
 | [x,y],_=>exact⟨n,s,x,y,rfl,h3⟩
theorem QL{T:Tm→ByteArray}{t:Tm}(lv:Nat):(T t).size≤(sI T t lv).size∧(sI T t lv).size≤(T t).size+2:=by
 unfold sI
 split
 · rw[cK,cK];show _≤1+_+1∧1+_+1≤_;omega
 · omega
theorem a60{T:Tm→ByteArray}{t:Tm}(lv:Nat):(T t).size≤(sV T t lv).size∧(sV T t lv).size≤(T t).size+2:=by
 unfold sV
 split
 · rw[cK,cK];show _≤1+_+1∧1+_+1≤_;omega
 · exact QL lv
theorem a9N{T:Tm→ByteArray}{t:Tm}(lv:Nat):(T t).size≤(sZ T t lv).size∧(sZ T t lv).size≤(T t).size+4:=by
 have:=QL (T:=T) (t:=t) lv
 unfold sZ
 split
 · rw[cK,cK];show _≤1+_+1∧1+_+1≤_;omega
 · omega
theorem C6:∀(n:Nat) (t:Tm),Ws t→(tx n t).size≤32*t.nodes
 | 0,t,_=>iU _
 | n+1,t,h=>by
  have hT:=C6 n
  unfold tx
  split
  · rename_i hp
    obtain⟨h1,h2,h3⟩:=NY n t h
    have ha:=DZ (T:=tx n) (l:=(spine n t).1) fun x hx=>hT x (h1 x hx)
    have hb:=hT _ h2
    have hq:=nA (spine n t).2
    have hl:1≤(spine n t).1.length∨n=0:=by
     cases n with
     | zero=>exact Or.inr rfl
     | succ m=>left;unfold spine;rw[aG hp];simp
    have h4:3≤t.nodes:=by obtain⟨m,x,y,rfl⟩:=xX hp;simp only[Tm.gJ,bB];have:=nA x;have:=nA y;omega
    have hb2:1≤(spine n t).1.length∨((tx n (spine n t).2).size=0∧(gX (tx n) (spine n t).1).size=0):=by
     rcases hl with hl | rfl
     · left;omega
     · right;exact⟨rfl,rfl⟩
    unfold zX
    split
    · rw[cK,cK];show 1+_+1≤_;omega
    · rw[cK,cK,cK,cK];show 1+_+1+_+1≤_;omega
  split
  · rename_i hp
    obtain⟨m,s,x,y,rfl,hs⟩:=IW hp
    have hk:=h.own.2
    have h6:=h.size.1
    simp only[uJ,Tm.gJ,bB,Tm.s]
    have hx:=hT x (hk x (by simp))
    have hy:=hT y (hk y (by simp))
    have hl:=(a60 (T:=tx n) (t:=x) (lvl (cC s))).2
    have hr:=(a9N (T:=tx n) (t:=y) (cC s - 1)).2
    rw[cK,cK]
    have hsp:(oU s).size≤8:=by
     have h6:s.size≤6:=h6
     unfold oU
     split
     · rw[cK,cK];show 1+_+1≤_;omega
     · omega
    show _+(oU s).size+_≤_
    omega
  split
  · obtain⟨k,m,s,ts⟩:=t
    have ha:=DZ (T:=tx n) (l:=ts) fun x hx=>hT x (h.own.2 x hx)
    have h6:s.size≤6:=h.size.1
    have h4:ts.length≤4:=by rcases z7 h.own.1 with h | h | h<;>omega
    rw[cK,cK,cK,Tm.gJ]
    simp only[Tm.s,Tm.ts]
    show s.size+1+_+1≤_
    omega
  · have h6:=h.size.1
    have hp:=nA t
    unfold xT
    split
    · show 1≤_;omega
    · split
      · unfold m7
        split
        · rw[cK];have:=BT 20 (-t.n).toNat ⟨#[]⟩;have h0:(⟨#[]⟩:ByteArray).size=0:=rfl;show 1+_≤_;omega
        · have:=BT 20 t.n.toNat ⟨#[]⟩;have h0:(⟨#[]⟩:ByteArray).size=0:=rfl;omega
      · omega
def qO:Nat→Tm→Tm
 | 0,t=>t
 | i+1,t=>qO i (nW t 1)
theorem VF:∀(i:Nat) (t:Tm),qO (i+1) t=nW (qO i t) 1
 | 0,t=>rfl
 | i+1,t=>by rw[qO,VF i];try rfl
theorem VG:∀(n:Nat) (t:Tm) (i:Nat) (x:Tm),(spine n t).1[i]?=some x→mP (qO i t)=true∧nW (qO i t) 0=x
 | 0,t,i,x,h=>by simp [spine] at h
 | n+1,t,i,x,h=>by
  unfold spine at h
  split at h
  · rename_i hp
    cases i with
    | zero=>simp at h;exact⟨hp,h⟩
    | succ i=>exact VG n _ i x (by simpa using h)
  · simp at h
theorem VH:∀(n:Nat) (t:Tm),t.nodes≤n+1→(spine n t).2=qO (spine n t).1.length t∧mP (spine n t).2=false
 | 0,t,h=>by
  refine⟨rfl,?_⟩
  cases hp:mP t with
  | false=>exact hp
  | true=>obtain⟨m,x,y,rfl⟩:=xX hp;simp only[Tm.gJ,bB] at h;have:=nA x;omega
 | n+1,t,h=>by
  unfold spine
  split
  · rename_i hp
    obtain⟨m,x,y,rfl⟩:=xX hp
    simp only[Tm.gJ,bB] at h
    have:=nA x
    have:=VH n y (by omega)
    exact⟨this.1,this.2⟩
  · rename_i hp
    exact⟨rfl,by simpa using hp⟩
theorem W3{n:Nat}{t:Tm}(h:Ws t)(hn:1≤n):1≤(tx n t).size:=by
 obtain⟨n,rfl⟩:∃m,n=m+1:=⟨n - 1,by omega⟩
 unfold tx
 split
 · unfold zX
   split
   · rw[cK,cK];show 1≤1+_+1;omega
   · rw[cK];show 1≤_+1;omega
 split
 · rename_i hp
   obtain⟨m,s,x,y,rfl,hs⟩:=IW hp
   have h6:1≤s.size:=h.size.2 rfl
   rw[cK,cK]
   have:1≤(oU s).size:=by
    unfold oU
    split
    · rw[cK,cK];omega
    · exact h6
   show 1≤_+(oU s).size+_
   omega
 split
 · rw[cK];show 1≤_+1;omega
 · obtain⟨k,m,s,ts⟩:=t
   rw[show xT (.mk k m s ts)=if k=1 then v6 m else if k=2 then m7 m else s from rfl]
   rcases z7 h.own.1 with h1 | h1 | h1
   · rw[aG h1.1];exact cU _
   · rw[aE (by omega),aG h1.1]
     unfold m7
     split
     · rw[cK];show 1≤1+_;omega
     · have hf:∀f n acc,1≤(k9 (f+1) n acc).size:=by
        intro f
        induction f with
        | zero=>
         intro n acc;unfold k9;split
         · simp only[k9];rw[cK];show 1≤1+_;omega
         · rw[cK];show 1≤1+_;omega
        | succ f ih=>
         intro n acc;unfold k9;split
         · exact ih _ _
         · rw[cK];show 1≤1+_;omega
       exact hf 19 _ _
   · rw[aE (by omega),aE (by omega)];exact(TY h1.2.2.1).1
end Go.AW
namespace Go.AW
open Go.Proofs.Tryz
theorem NL{k n:Int}{s:ByteArray}{ts:List Tm}:mP (.mk k n s ts)=(decide (k=3)&&(decide (s=⟨#[46]⟩)&&decide (ts.length=2))):=rfl
theorem aN6{k n:Int}{s:ByteArray}{ts:List Tm}:CE (.mk k n s ts)=(decide (k=3)&&(decide (s=⟨#[91,93]⟩)&&decide (ts.length=0))):=rfl
theorem TR{k n:Int}{s:ByteArray}{ts:List Tm}:qE (.mk k n s ts)=(decide (k=3)&&(decide (ts.length=2)&&decide (0<cC s))):=rfl
theorem HH{k n:Int}{s:ByteArray}{ts:List Tm}:BK (.mk k n s ts)=(decide (k=3)&&decide (0<ts.length)):=rfl
theorem aPQ{k n:Int}{s:ByteArray}{ts:List Tm}:CR (.mk k n s ts)=(decide (k=3)&&(decide (ts.length=0)&&decide (0<cC s))):=rfl
abbrev WD:=zi aW (zi cF (zi cW (zi cA bR)))
theorem LO(t:Tm)(st:aB):aD prog 233 [t.av] st (fun r st'=>r=.bool (mP t)∧st'=st):=by
 obtain⟨k,n,s,ts⟩:=t
 rw[NL]
 refine wF [1000000] 1 func233 ntmps233 rfl rfl ?_
 intro _
 simp only[aX]
 by_cases h1:k=3
 case neg=>
  rw[d5 h1,fF]
  simp only[h1,bP,aA,seval,WD]
 rw[eE h1,dU]
 by_cases h2:s=⟨#[46]⟩
 case neg=>
  rw[d5 h2,fF]
  simp only[h1,h2,bM,bP,aA,seval,WD]
 rw[eE h2,dU]
 have h3:decide (((ts.length:Nat):Int)=2)=decide (ts.length=2):=by rw[sN];omega
 simp only[h1,h2,h3,bM,aF,aA,seval,WD]
abbrev WF:=zi aW (zi cF (zi cW (zi cA bR)))
theorem aW4(t:Tm)(st:aB):aD prog 298 [t.av] st (fun r st'=>r=.bool (CE t)∧st'=st):=by
 obtain⟨k,n,s,ts⟩:=t
 rw[aN6]
 refine wF [1000000] 1 func298 ntmps298 rfl rfl ?_
 intro _
 simp only[aX]
 by_cases h1:k=3
 case neg=>
  rw[d5 h1,fF]
  simp only[h1,bP,aA,seval,WF]
 rw[eE h1,dU]
 by_cases h2:s=⟨#[91,93]⟩
 case neg=>
  rw[d5 h2,fF]
  simp only[h1,h2,bM,bP,aA,seval,WF]
 rw[eE h2,dU]
 have h3:decide (((ts.length:Nat):Int)=0)=decide (ts.length=0):=by rw[sN];omega
 simp only[h1,h2,h3,bM,aF,aA,seval,WF]
abbrev WE:=zi aW (zi cF (zi cW (zi cA bR)))
theorem Z2(t:Tm)(st:aB):aD prog 235 [t.av] st (fun r st'=>r=.bool (qE t)∧st'=st):=by
 obtain⟨k,n,s,ts⟩:=t
 rw[TR]
 refine wF [1000000] 1 func235 ntmps235 rfl rfl ?_
 intro _
 simp only[aX]
 by_cases h1:k=3
 case neg=>
  rw[d5 h1,fF]
  simp only[h1,bP,aA,seval,WE]
 rw[eE h1,dU]
 by_cases h2:ts.length=2
 case neg=>
  rw[d5 h2,fF]
  have h2':(((ts.length:Nat):Int)=2)=False:=bZ (by omega)
  simp only[h1,h2',bM,bP,aF,aA,seval,WE]
 rw[eE h2,dU]
 have h2':(((ts.length:Nat):Int)=2)=True:=cL (by omega)
 simp only[h1,h2',bM,aF,aA,seval,WE]
 refine(xA s _).to ?_
 have h3:decide ((0:Int)<(cC s:Int))=decide (0<cC s):=by rw[sN];omega
 simp only[h3,aA,seval]
abbrev WG:=zi aW (zi cF (zi cW (zi cA bR)))
theorem Z3(t:Tm)(st:aB):aD prog 299 [t.av] st (fun r st'=>r=.bool (CR t)∧st'=st):=by
 obtain⟨k,n,s,ts⟩:=t
 rw[aPQ]
 refine wF [1000000] 1 func299 ntmps299 rfl rfl ?_
 intro _
 simp only[aX]
 by_cases h1:k=3
 case neg=>
  rw[d5 h1,fF]
  simp only[h1,bP,aA,seval,WG]
 rw[eE h1,dU]
 by_cases h2:ts.length=0
 case neg=>
  rw[d5 h2,fF]
  have h2':(((ts.length:Nat):Int)=0)=False:=bZ (by omega)
  simp only[h1,h2',bM,bP,aF,aA,seval,WG]
 rw[eE h2,dU]
 have h2':(((ts.length:Nat):Int)=0)=True:=cL (by omega)
 simp only[h1,h2',bM,aF,aA,seval,WG]
 refine(xA s _).to ?_
 have h3:decide ((0:Int)<(cC s:Int))=decide (0<cC s):=by rw[sN];omega
 simp only[h3,aA,seval]
theorem aXL(s:ByteArray)(hs:s.size≤1000)(st:aB):aD prog 237 [.str s] st (fun r st'=>r=.str (oU s)∧st'=st):=by
 refine wF [1000000] 1 func237 ntmps237 rfl rfl ?_
 intro _
 have hm:maxLen=9223372036854775807:=by rfl
 have g1:(⟨#[32]⟩:ByteArray).size+s.size≤maxLen:=by show 1+s.size≤_;omega
 have g2:((⟨#[32]⟩:ByteArray)++s).size+(⟨#[32]⟩:ByteArray).size≤maxLen:=by rw[cK];show 1+s.size+1≤_;omega
 by_cases h1:s=⟨#[105,115]⟩
 · have hW:iI s=true:=by unfold iI;rw[eE h1];try rfl
   unfold oU
   rw[aG hW]
   have h1':=cL h1
   simp only[h1',g1,g2,↓reduceIte,bM,aA,seval]
 · have h1':=bZ h1
   by_cases h2:s=⟨#[109,111,100]⟩
   · have hW:iI s=true:=by unfold iI;rw[eE h2];exact vB _
     unfold oU
     rw[aG hW]
     have h2':=cL h2
     simp only[h1',h2',g1,g2,↓reduceIte,bM,bP,aA,seval]
   · have hW:iI s=false:=by unfold iI;rw[d5 h1,d5 h2];try rfl
     unfold oU
     rw[aE (by rw[hW];decide)]
     have h2':=bZ h2
     simp only[h1',h2',bP,aA,seval]
theorem aXH(s:ByteArray)(hs:1≤s.size)(st:aB):aD prog 301 [.str s] st (fun r st'=>r=.bool (v7 (sb s))∧st'=st):=by
 refine wF [1000000] 1 func301 ntmps301 rfl rfl ?_
 intro _
 obtain⟨x,hx⟩:=vL (s:=s) (n:=0) (by omega)
 have hix:=sU (P:=prog) (t:=9) rZ hx
 rw[show((0:Nat):Int)=0 from rfl] at hix
 unfold v7
 simp only[vX hx,rN hx]
 simp only[aA,seval]
 refine(aN4 s 0 _).to ?_
 rw[vX hx]
 cases h1:letter x with
 | true=>
  simp only[aA,seval]
  simp
 | false=>
  simp only[aA,seval]
  refine(CC s 0 _).to ?_
  rw[vX hx]
  cases h2:dL x with
  | true=>
   simp only[aA,seval]
   simp
  | false=>
   by_cases h3:65≤x.toNat
   case' pos=>have h3':((65:Int)≤(x.toNat:Int))=True:=cL (by omega)
   case' neg=>have h3':((65:Int)≤(x.toNat:Int))=False:=bZ (by omega)
   all_goals
    by_cases h4:x.toNat≤90
    case' pos=>have h4':((x.toNat:Int)≤90)=True:=cL (by omega)
    case' neg=>have h4':((x.toNat:Int)≤90)=False:=bZ (by omega)
   all_goals
    by_cases h5:x.toNat=91
    case' pos=>have h5':((x.toNat:Int)=91)=True:=cL (by omega)
    case' neg=>have h5':((x.toNat:Int)=91)=False:=bZ (by omega)
   all_goals
    by_cases h6:x.toNat=40
    case' pos=>have h6':((x.toNat:Int)=40)=True:=cL (by omega)
    case' neg=>have h6':((x.toNat:Int)=40)=False:=bZ (by omega)
   all_goals try (exfalso;omega)
   all_goals
    simp only[hix,h3',h4',h5',h6',bM,bP,aA,seval]
    simp [r0,h3,h4,h5,h6]
theorem LG(n:Nat):bytesOf [AV.int .u8 ((n:Nat):Int)]=some [UInt8.ofNat n]:=by simp only[bytesOf,jO,oG]
theorem KH{x:Int}{m:Nat}(h:x=(m:Int))(hm:m≤255):IntKind.wrap .u8 x=(m:Int):=by rw[IntKind.wrap_u8];omega
abbrev bBP:=zi aW (zi lH (zi cW C4))
theorem aW3(m:Nat)(hm:m≤25)(st:aB):aD prog 147 [.int .i64 (m:Int)] st (fun r st'=>r=.str (v6 m)∧st'=st):=by
 refine wF [1000000] 1 func147 ntmps147 rfl rfl ?_
 intro _
 have hw:=KH (x:=(m:Int)) rfl (by omega)
 obtain⟨y,hy⟩:∃y,y=65+m:=⟨_,rfl⟩
 have hw2:=KH (x:=65+(m:Int)) (m:=y) (by omega) (by omega)
 simp only[tQ,hw,hw2,LG,aA,seval,bBP]
 subst hy
 rfl
abbrev aQ6:=zi aW (zi lH (zi cW C4))
theorem ZR(n:Nat)(hn:n≤1000000)(st:aB):aD prog 253 [.int .i64 (n:Int)] st (fun r st'=>r=.str (k9 20 n ⟨#[]⟩)∧st'=st):=by
 refine wF [1000000] 1 func253 ntmps253 rfl rfl ?_
 intro _
 have h1:((n:Int)< -9223372036854775807)=False:=bZ (by omega)
 have h2:((n:Int)<0)=False:=bZ (by omega)
 simp only[h1,h2,bP,aA,seval]
 generalize hT:k9 20 n ⟨#[]⟩=T
 refine iJ (σ:=Nat×ByteArray×Nat) [1000000] [2] (fun x=>k9 x.2.2 x.1 x.2.1=T∧x.1<10 ^ x.2.2∧x.1≤1000000∧1≤x.2.2∧x.2.1.size+x.2.2≤20) (fun x=>[(0,.int .i64 (x.1:Int)),(3,.str x.2.1)]) (fun _=>st) (fun x=>x.2.2) (by decide +kernel) ⟨(n,⟨#[]⟩,20),⟨hT,by simp only;omega,hn,by simp only;omega,by show 0+20≤20;omega⟩,aO.mk (by simp only[aA,seval])⟩ ?_
 rintro⟨k,acc,f⟩ ⟨hd,hk,hk6,hf,hb⟩
 simp only at hd hk hk6 hf hb ⊢
 obtain⟨f,rfl⟩:∃f',f=f'+1:=⟨f - 1,by omega⟩
 have hm:maxLen=9223372036854775807:=by rfl
 have hsz:∀u:UInt8,(⟨#[u]⟩:ByteArray).size+acc.size≤maxLen:=fun u=>by show 1+acc.size≤_;omega
 have hr:((k:Int)).tmod 10=((k % 10:Nat):Int):=by rw[Int.tmod_eq_emod_of_nonneg (by omega)];omega
 have hq:((k:Int)).tdiv 10=((k / 10:Nat):Int):=by rw[Int.tdiv_eq_ediv_of_nonneg (by omega)];omega
 simp only[aA,seval]
 refine aP (fun h3=>?_) (fun h3=>?_)
 · simp only[bK] at h3
   unfold k9 at hd
   rw[aG (by omega)] at hd
   rw[Nat.pow_succ] at hk
   obtain⟨y,hy⟩:∃y,y=48+k % 10:=⟨_,rfl⟩
   obtain⟨q,hq'⟩:∃q,q=k / 10:=⟨_,rfl⟩
   obtain⟨r,hr'⟩:∃r,r=k % 10:=⟨_,rfl⟩
   rw[←hr'] at hr
   rw[←hq'] at hq
   have hwr:=bF (n:=(r:Int))
   have hw:=nJ (x:=48+(r:Int)) (m:=y) (by omega) (by omega)
   have hw8:=KH (x:=(y:Int)) (m:=y) rfl (by omega)
   have hw2:=bF (n:=(q:Int))
   simp only[tQ,hr,hq,hw,hw8,hw2,LG,hsz,aA,seval,aQ6]
   refine⟨(q,⟨#[UInt8.ofNat y]⟩++acc,f),by simp only;omega,⟨by rw[hq',hy];exact hd,by simp only;omega,by simp only;omega,?_,?_⟩,aO.mk (by simp only[aA,seval]<;>rfl)⟩
   · show 1≤f
     rcases PQ f with rfl | h
     · simp only[Nat.pow_zero] at hk;omega
     · exact h
   · show(⟨#[UInt8.ofNat y]⟩++acc:ByteArray).size+f≤20
     rw[cK]
     show 1+acc.size+f≤20
     omega
 · simp only[dF] at h3
   unfold k9 at hd
   rw[aE (by omega)] at hd
   obtain⟨y,hy⟩:∃y,y=48+k:=⟨_,rfl⟩
   have hw:=nJ (x:=48+(k:Int)) (m:=y) (by omega) (by omega)
   have hw8:=KH (x:=(y:Int)) (m:=y) rfl (by omega)
   simp only[tQ,hw,hw8,LG,hsz,aA,seval,aQ6]
   rw[←hd,hy]
theorem aWZ(n:Int)(h1: -999≤n)(h2:n≤999)(st:aB):aD prog 252 [.int .i64 n] st (fun r st'=>r=.str (m7 n)∧st'=st):=by
 refine wF [1000000] 1 func252 ntmps252 rfl rfl ?_
 intro _
 unfold m7
 have hm:maxLen=9223372036854775807:=by rfl
 by_cases h:n<0
 · rw[aG h]
   obtain⟨m,hm'⟩:∃m:Nat,m=(-n).toNat:=⟨_,rfl⟩
   rw[←hm']
   have h':=cL h
   have hw:=nJ (x:=0 - n) (m:=m) (by omega) (by omega)
   have hw':=nJ (x:= -n) (m:=m) (by omega) (by omega)
   have hs:(⟨#[45]⟩:ByteArray).size+(k9 20 m ⟨#[]⟩).size≤maxLen:=by have:=BT 20 m ⟨#[]⟩;have h0:(⟨#[]⟩:ByteArray).size=0:=rfl;show 1+_≤_;omega
   simp only[h',hw,↓reduceIte,bM,aA,seval]
   refine(ZR m (by omega) _).to ?_
   simp only[hs,↓reduceIte,aA,seval]
 · rw[aE h]
   obtain⟨m,rfl⟩:=qR (show 0≤n by omega)
   have h':=bZ h
   rw[jO]
   simp only[h',bP,aA,seval]
   refine(ZR m (by omega) _).to ?_
   simp only[aA,seval]
abbrev JY:=zi aW (zi cW (zi cA bR))
theorem aXC(t:Tm)(ht:Ws t)(h0:t.k=3→t.ts= [])(st:aB):aD prog 240 [t.av] st (fun r st'=>r=.str (xT t)∧st'=st):=by
 obtain⟨k,n,s,ts⟩:=t
 have hp:=LO (.mk k n s ts)
 simp only[aX] at hp ⊢
 rw[show xT (.mk k n s ts)=if k=1 then v6 n else if k=2 then m7 n else s from rfl]
 have h0:k=3→ts= []:=h0
 refine wF [1000000] 1 func240 ntmps240 rfl rfl ?_
 intro _
 rcases z7 ht.own.1 with ⟨rfl,h1,h2,rfl,h4⟩ | ⟨rfl,h1,h2,rfl,h4⟩ | ⟨rfl,rfl,h2,h4⟩
 · obtain⟨m,rfl⟩:=qR h1
   simp only[aA,seval,JY]
   refine(aW3 m (by omega) _).to ?_
   simp only[aA,seval]
 · skip
   simp only[aA,seval,JY]
   refine(aWZ n h1 h2 _).to ?_
   simp only[aA,seval]
 · obtain rfl:=h0 rfl
   simp only[aY,aA,seval,JY]
   refine(hp _).to ?_
   rw[show mP (.mk 3 0 s [])=false by rw[NL];simp]
   simp only[aA,seval,JY]
   refine iJ (σ:=Unit) [1000000] [1,2] (fun _=>True) (fun _=>[(3,.str s),(4,.int .i64 0)]) (fun _=>st) (fun _=>0) (by decide +kernel) ⟨(),trivial,aO.mk (by simp only[aA,seval])⟩ ?_
   rintro _ _
   simp only[aZ,aA,seval,JY]
def yU(T:Tm→ByteArray)(t:Tm):Prop:=(∀st:aB,aD prog 148 [t.av] st (fun r st'=>r=.str (T t)∧st'=st))∧(T t).size≤32*t.nodes∧1≤(T t).size∧t.nodes≤1000
abbrev WI:=zi aW (zi cW (zi cA bR))
theorem Z0{T:Tm→ByteArray}(l:List Tm)(hT:∀t∈l,yU T t)(hn:bB Tm.nodes l≤10000)(hl:l.length≤10000)(st:aB):aD prog 239 [.slice (l.map Tm.av)] st (fun r st'=>r=.str (gX T l)∧st'=st):=by
 refine wF [1000000] 1 func239 ntmps239 rfl rfl ?_
 intro _
 simp only[aA,seval]
 refine dX (σ:=Unit) [1000000] [0,2] l (fun i _=>True) (fun i _=>[(3,.str (gX T (l.take i))),(4,.int .i64 i)]) (fun _ _=>st) (by decide +kernel) ⟨(),trivial,aO.mk (by simp only[jA,aA,↓aS,seval]<;>rfl)⟩ (fun i x _ hx hlt bL hdr hinv=>?_) (fun _ hge hinv=>?_)
 case refine_2=>
  rw[dS]
  simp only[hge,aF,aA,seval,WI]
 have hxm:=cH hx
 obtain⟨c1,c2,c3,c4⟩:=hT x hxm
 have hw:=bF (n:=(i:Int)+1)
 have hat:=bH (av:=Tm.av) bQ hx (aN x)
 have g7:=YV (T:=T) hx
 have hsz:=DZ (T:=T) (l:=l.take i) fun y hy=>(hT y (mC hy)).2.1
 have hsl:bB Tm.nodes (l.take i)≤bB Tm.nodes l:=VM l i
 have hln:(l.take i).length≤10000:=by rw[c7];omega
 have hm:maxLen=9223372036854775807:=by rfl
 have hs1:(gX T (l.take i)).size+(⟨#[44]⟩:ByteArray).size≤maxLen:=by show _+1≤_;omega
 have hs2:(gX T (l.take i)++(⟨#[44]⟩:ByteArray)).size+(T x).size≤maxLen:=by rw[cK];show _+1+_≤_;omega
 have hs3:(gX T (l.take i)).size+(T x).size≤maxLen:=by omega
 by_cases h0:0<i
 · rw[aG h0] at g7
   have h0':((0:Int)<(i:Int))=True:=cL (by omega)
   simp only[aF,hat,a7,aN,bL,h0',hs1,↓reduceIte,bM,aA,seval,WI]
   refine(c1 _).to ?_
   simp only[hs2,↓reduceIte,aA,seval]
   exact⟨(),aO.mk (by simp only[hw,g7,↓reduceIte,aA,seval])⟩
 · rw[aE h0] at g7
   have h0':((0:Int)<(i:Int))=False:=bZ (by omega)
   simp only[aF,hat,a7,aN,bL,h0',↓reduceIte,bM,bP,aA,seval,WI]
   refine(c1 _).to ?_
   simp only[hs3,↓reduceIte,aA,seval]
   exact⟨(),aO.mk (by simp only[hw,g7,↓reduceIte,aA,seval])⟩
abbrev JZ:=zi aW (zi cW bR)
theorem Z1{T:Tm→ByteArray}(t:Tm)(hT:yU T t)(lv:Nat)(hlv:lv≤10)(st:aB):aD prog 300 [t.av,.int .i64 (lv:Int)] st (fun r st'=>r=.str (sI T t lv)∧st'=st):=by
 obtain⟨c1,c2,c3,c4⟩:=hT
 have hm:maxLen=9223372036854775807:=by rfl
 have hs1:(⟨#[40]⟩:ByteArray).size+(T t).size≤maxLen:=by show 1+_≤_;omega
 have hs2:((⟨#[40]⟩:ByteArray)++T t).size+(⟨#[41]⟩:ByteArray).size≤maxLen:=by rw[cK];show 1+_+1≤_;omega
 have hi:=Z2 t
 obtain⟨k,n,s,ts⟩:=t
 rw[show sI T (.mk k n s ts) lv=if(qE (.mk k n s ts)&&decide (lv<cC s))=true then(⟨#[40]⟩++T (.mk k n s ts))++⟨#[41]⟩ else T (.mk k n s ts) from rfl]
 generalize hTT:T (.mk k n s ts)=u at *
 simp only[aX] at hi c1 ⊢
 refine wF [1000000] 2 func300 ntmps300 rfl rfl ?_
 intro _
 simp only[aA,seval,JZ]
 refine(hi _).to ?_
 cases hk:qE (.mk k n s ts) with
 | false=>
  rw[fF,aE (by decide)]
  simp only[aA,seval,JZ]
  refine(c1 _).to ?_
  simp only[aA,seval]
 | true=>
  rw[dU]
  simp only[aA,seval,JZ]
  refine(xA s _).to ?_
  by_cases h:lv<cC s
  · rw[eE h,aG rfl]
    have h':((lv:Int)<(cC s:Int))=True:=cL (by omega)
    simp only[h',↓reduceIte,bM,aA,seval,JZ]
    refine(c1 _).to ?_
    simp only[hs1,hs2,↓reduceIte,aA,seval]
  · rw[d5 h,aE (by decide)]
    have h':((lv:Int)<(cC s:Int))=False:=bZ (by omega)
    simp only[h',↓reduceIte,bP,aA,seval,JZ]
    refine(c1 _).to ?_
    simp only[↓reduceIte,aA,seval]
abbrev WH:=zi aW (zi cW bR)
theorem aXE{T:Tm→ByteArray}(t:Tm)(hT:yU T t)(lv:Nat)(hlv:lv≤10)(st:aB):aD prog 236 [t.av,.int .i64 (lv:Int)] st (fun r st'=>r=.str (sV T t lv)∧st'=st):=by
 have hb:=Z1 t hT lv hlv
 obtain⟨c1,c2,c3,c4⟩:=hT
 have hm:maxLen=9223372036854775807:=by rfl
 have hs1:(⟨#[40]⟩:ByteArray).size+(T t).size≤maxLen:=by show 1+_≤_;omega
 have hs2:((⟨#[40]⟩:ByteArray)++T t).size+(⟨#[41]⟩:ByteArray).size≤maxLen:=by rw[cK];show 1+_+1≤_;omega
 have hi:=Z3 t
 unfold sV
 refine wF [1000000] 2 func236 ntmps236 rfl rfl ?_
 intro _
 simp only[a7,aN,cP,↓reduceIte,aA,seval,WH]
 refine(hi _).to ?_
 cases hk:CR t with
 | false=>
  rw[aE (by decide)]
  simp only[a7,aN,↓reduceIte,aA,seval,WH]
  refine(hb _).to ?_
  simp only[↓reduceIte,aA,seval]
 | true=>
  rw[aG rfl]
  simp only[a7,aN,↓reduceIte,aA,seval,WH]
  refine(c1 _).to ?_
  simp only[↓reduceIte,hs1,hs2,aA,seval]
abbrev aQ7:=zi aW (zi cF (zi cW bR))
theorem aXK{T:Tm→ByteArray}(t:Tm)(hT:yU T t)(lv:Nat)(hlv:lv≤10)(st:aB):aD prog 238 [t.av,.int .i64 (lv:Int)] st (fun r st'=>r=.str (sZ T t lv)∧st'=st):=by
 have hb:=Z1 t hT lv hlv
 have hbs:=QL (T:=T) (t:=t) lv
 obtain⟨c1,c2,c3,c4⟩:=hT
 have hm:maxLen=9223372036854775807:=by rfl
 unfold sZ
 generalize sI T t lv=u at *
 have hs1:(⟨#[40]⟩:ByteArray).size+u.size≤maxLen:=by show 1+_≤_;omega
 have hs2:((⟨#[40]⟩:ByteArray)++u).size+(⟨#[41]⟩:ByteArray).size≤maxLen:=by rw[cK];show 1+_+1≤_;omega
 have hi:=Z3 t
 have hpl:=aXH u (by omega)
 refine wF [1000000] 2 func238 ntmps238 rfl rfl ?_
 intro _
 simp only[a7,aN,cP,↓reduceIte,aA,seval,aQ7]
 refine(hb _).to ?_
 simp only[a7,aN,↓reduceIte,aA,seval,aQ7]
 refine(hi _).to ?_
 cases hk:CR t with
 | true=>
  rw[wL,aG rfl]
  simp only[↓reduceIte,hs1,hs2,aA,seval]
 | false=>
  rw[oY]
  simp only[↓reduceIte,aA,seval]
  refine(hpl _).to ?_
  cases hq:v7 (sb u) with
  | true=>
   rw[aE (by decide)]
   simp only[↓reduceIte,aA,seval]
  | false=>
   rw[aG (by decide)]
   simp only[↓reduceIte,hs1,hs2,aA,seval]
theorem HE{st:aB}{b q:Nat}{l:List AV}{o:AO}(hb:l≠[]→st b=none)(h:st q=some o):bE st b l q=some o:=by
 cases l with
 | nil=>exact h
 | cons x l=>exact(aB.aH _ _ (by rintro rfl;have:=hb (by simp);rw[h] at this;cases this)).trans h
abbrev CY:=zi cW (zi cA bR)
set_option maxHeartbeats 1000000 in
theorem aXF{T:Tm→ByteArray}(n:Nat)(t:Tm)(hn:t.nodes≤n+1)(hws:Ws t)(xK:t.nodes≤1000)(hT:∀x,Ws x→x.nodes<t.nodes→yU T x)(hp:mP t=true)(st:aB):aD prog 234 [t.av] st (fun r st'=>r=.str (zX T (spine n t))∧st'=st):=by
 obtain⟨q1,q2,q3⟩:=NY n t hws
 obtain⟨e1,e2⟩:=VH n t hn
 have dR:=VG n t
 have hnp:=nA (spine n t).2
 have hne:1≤(spine n t).1.length:=by
  cases n with
  | zero=>obtain⟨m,x,y,rfl⟩:=xX hp;simp only[Tm.gJ,bB] at hn;have:=nA x;omega
  | succ m=>unfold spine;rw[aG hp];simp
 generalize spine n t=p at *
 obtain⟨its,tl⟩:=p
 simp only at q1 q2 q3 e1 e2 dR hnp hne
 have hTi:∀x∈its,yU T x:=fun x hx=>hT x (q1 x hx) (by have:=NE hx;omega)
 have hTt:yU T tl:=hT tl q2 (by omega)
 have rG:=Z0 its hTi (by omega) (by omega)
 have SL:=DZ (T:=T) (l:=its) fun x hx=>(hTi x hx).2.1
 obtain⟨c1,c2,c3,c4⟩:=hTt
 have hm:maxLen=9223372036854775807:=by rfl
 have hs1:(⟨#[91]⟩:ByteArray).size+(gX T its).size≤maxLen:=by show 1+_≤_;omega
 have hs2:((⟨#[91]⟩:ByteArray)++gX T its).size+(⟨#[93]⟩:ByteArray).size≤maxLen:=by rw[cK];show 1+_+1≤_;omega
 have hs3:((⟨#[91]⟩:ByteArray)++gX T its).size+(⟨#[124]⟩:ByteArray).size≤maxLen:=by rw[cK];show 1+_+1≤_;omega
 have hs4:(((⟨#[91]⟩:ByteArray)++gX T its)++(⟨#[124]⟩:ByteArray)).size+(T tl).size≤maxLen:=by rw[cK,cK];show 1+_+1+_≤_;omega
 have hs5:((((⟨#[91]⟩:ByteArray)++gX T its)++(⟨#[124]⟩:ByteArray))++T tl).size+(⟨#[93]⟩:ByteArray).size≤maxLen:=by rw[cK,cK,cK];show 1+_+1+_+1≤_;omega
 refine aD.m8 ?_
 refine wF [1000000,1] 1 func234 ntmps234 rfl rfl ?_
 intro _
 simp only[cP,↓reduceIte,aA,seval,CY]
 intro b1 hb1
 have hD:=fun(o:AO)=>(aL.refl st).aC (o:=o) hb1
 refine oW (σ:=Unit) [1000000,1] [1,2] its 4 3 (fun i _=>(its.take i).map Tm.av) (fun _ _=>True) (fun i _=>[]) (fun i _=>st.aC b1 (.cells (qO i t).av.cells)) (fun i _ _ e he=>by simp only[cB] at he;obtain⟨x,_,rfl⟩:=he;exact⟨cP _,aN _⟩) (by decide +kernel) ⟨(),0,trivial,fun h=>absurd rfl h,aO.mk (by simp only[iV,jA,aY,↓reduceIte,aA,seval])⟩ (fun i x s b hx hlt bL hdr hinv hb=>?_) (fun s b hge hinv=>?_)
 case refine_1=>
  obtain⟨g1,g2⟩:=dR i x hx
  have hst:=VF i t
  generalize qO i t=u at *
  have hpu:=LO u
  rw[g1] at hpu
  obtain⟨m,y,z,rfl⟩:=xX g1
  rw[uJ.1] at g2
  rw[uJ.2] at hst
  subst g2
  have hcs:(Tm.mk 3 m ⟨#[46]⟩ [y,z]).av.cells= [.int .i64 3,.int .i64 m,.str ⟨#[46]⟩,.slice [y.av,z.av]]:=by rw[aX];try rfl
  rw[hcs] at hb ⊢
  have hlk:bE (st.aC b1 (.cells [.int .i64 3,.int .i64 m,.str ⟨#[46]⟩,.slice [y.av,z.av]])) b ((its.take i).map Tm.av) b1=some (.cells [.int .i64 3,.int .i64 m,.str ⟨#[46]⟩,.slice [y.av,z.av]]):=HE hb (aB.aJ _ _ _)
  have hi0:=bH (av:=Tm.av) (l:=[y,z]) (i:=0) bQ rfl (aN y)
  have hi1:=bH (av:=Tm.av) (l:=[y,z]) (i:=1) bQ rfl (aN z)
  rw[show((0:Nat):Int)=0 from rfl] at hi0
  rw[show((1:Nat):Int)=1 from rfl] at hi1
  have cM:((its.take i).map Tm.av).length=i:=by simp only[aF,c7];omega
  have htk:(its.take i).map Tm.av++ [y.av]=(its.take (i+1)).map Tm.av:=by rw[dY,hx];simp
  rw[hst]
  simp only[aX,bA,aY] at hlk hpu hi0 hi1 hb ⊢
  have hLw:∀e∈(its.take i).map Tm.av,e.width=4:=gO _
  generalize (its.take i).map Tm.av=L at *
  simp only[↓reduceIte,hlk,aA,seval,CY]
  refine(hpu _).to ?_
  simp only[a7,aN,cP,↓reduceIte,hlk,hi0,aA,seval,CY]
  refine eO bQ jE jF rfl rfl (fQ (aN _) (cI _)) (fun e he=>hLw e he) hb (by simp only[cM,aU,aZ];omega) (by simp only[cM,aU,aZ];omega) (fun b' hb'=>?_)
  rw[htk] at hb' ⊢
  have a44:=HE (l:=(its.take (i+1)).map Tm.av) hb' (aB.aJ st b1 (.cells [.int .i64 3,.int .i64 m,.str ⟨#[46]⟩,.slice [y.av,z.av]]))
  have hnb:(its.take (i+1)).map Tm.av≠[]→b1≠b':=fun h=>by rintro rfl;have:=hb' h;rw[aB.aJ] at this;cases this
  have hup:=fun o=>oH (st:=st.aC b1 (.cells [.int .i64 3,.int .i64 m,.str ⟨#[46]⟩,.slice [y.av,z.av]])) (o:=o) hnb
  simp only[aK,a7,aN,cI,cE,↓reduceIte,a44,hi1,hup,dO,aA,seval,CY]
  exact⟨(),b',fun h=>by have:=hb' h;rw[aB.aH _ _ (c9 (hnb h))] at this ⊢;exact this,aO.mk (by simp only[↓reduceIte,aA,seval])⟩
 rw[dS,←e1]
 have hpt:=LO tl
 rw[e2] at hpt
 have hnt:=aW4 tl
 simp only[m9,H1,kJ,aY,cE,fN (cE _),fG (a7 _),↓reduceIte,aA,seval,CY]
 refine(hpt _).to ?_
 simp only[cE,fN (cE _),fG (a7 _),↓reduceIte,aA,seval,CY]
 refine(hnt _).to ?_
 unfold zX
 cases hnk:CE tl with
 | true=>
  rw[aG rfl]
  simp only[↓reduceIte,aA,seval]
  refine(rG _).to ?_
  simp only[↓reduceIte,hs1,hs2,aA,seval]
  exact hD _
 | false=>
  rw[aE (by decide)]
  simp only[↓reduceIte,aA,seval]
  refine wP [(0,1),(1,2),(2,1),(3,1),(4,2),(5,2),(6,1),(7,1),(8,1)] [0,1,2,3,4,5,6,7,8] mixed ?_
  simp only[↓reduceIte,aA,seval]
  refine gP (rG _) ?_
  simp only[cE,fN (cE _),fG (a7 _),↓reduceIte,hs1,hs3,aA,seval,CY]
  refine gP (c1 _) ?_
  simp only[↓reduceIte,hs4,hs5,aA,seval]
  exact hD _
abbrev uV:=zi aW (zi cW (zi cA bR))
set_option maxHeartbeats 1000000 in
theorem aXM:∀(n:Nat) (t:Tm) (st:aB),Ws t→t.nodes≤n→t.nodes≤1000→aD prog 148 [t.av] st (fun r st'=>r=.str (tx n t)∧st'=st):=by
 intro n
 induction n with
 | zero=>intro t st _ h;have:=nA t;omega
 | succ n IH=>
 intro t st hws hn xK
 have hsz:=C6 (n+1) t hws
 have hT:∀x,Ws x→x.nodes<t.nodes→yU (tx n) x:=fun x hx hlt=>⟨fun st=>IH x st hx (by omega) (by omega),C6 n x hx,W3 hx (by have:=nA x;omega),by omega⟩
 have hpt:=LO t
 have hit:=Z2 t
 have a43:=aXF (T:=tx n) n t hn hws xK hT
 have hm:maxLen=9223372036854775807:=by rfl
 unfold tx at hsz ⊢
 refine wF [1000000] 1 func148 ntmps148 rfl rfl ?_
 intro _
 simp only[a7,aN,cP,↓reduceIte,aA,seval,uV]
 refine(hpt _).to ?_
 cases hp:mP t with
 | true=>
  rw[aG rfl]
  simp only[a7,aN,↓reduceIte,aA,seval,uV]
  refine(a43 hp _).to ?_
  simp only[↓reduceIte,aA,seval]
 | false=>
  rw[hp] at hsz
  rw[aE (by decide)] at hsz ⊢
  simp only[a7,aN,↓reduceIte,aA,seval,uV]
  refine(hit _).to ?_
  cases hi:qE t with
  | true=>
   rw[hi] at hsz
   rw[aG rfl] at hsz ⊢
   obtain⟨m,s,x,y,rfl,hs⟩:=IW hi
   have hk:=hws.own.2
   have hxl:x.nodes<(Tm.mk 3 m s [x,y]).nodes:=by simp only[Tm.gJ,bB];have:=nA y;omega
   have hyl:y.nodes<(Tm.mk 3 m s [x,y]).nodes:=by simp only[Tm.gJ,bB];have:=nA x;omega
   have hx:=hT x (hk x (by simp)) hxl
   have hy:=hT y (hk y (by simp)) hyl
   rw[uJ.1,uJ.2,show(Tm.mk 3 m s [x,y]).s=s from rfl] at hsz ⊢
   have h6:s.size≤6:=hws.size.1
   have hl3:cC s≤3:=by unfold cC;cases (decide (s=⟨#[61]⟩)||decide (s=⟨#[92,61]⟩)||decide (s=⟨#[61,61]⟩)||decide (s=⟨#[60]⟩)||decide (s=⟨#[62]⟩)||decide (s=⟨#[61,60]⟩)||decide (s=⟨#[62,61]⟩)||decide (s=⟨#[61,58,61]⟩)||decide (s=⟨#[105,115]⟩))<;>cases (decide (s=⟨#[43]⟩)||decide (s=⟨#[45]⟩))<;>cases (decide (s=⟨#[42]⟩)||decide (s=⟨#[47,47]⟩)||decide (s=⟨#[109,111,100]⟩))<;>decide
   have hll:lvl (cC s)≤10:=by unfold lvl;split<;>omega
   have cl:=aXE x hx (lvl (cC s)) hll
   have cr:=aXK y hy (cC s - 1) (by omega)
   have csp:=aXL s (by omega)
   have clv:=xA s
   rw[cK,cK] at hsz
   generalize hA:sV (tx n) x (lvl (cC s))=A at *
   generalize hB:sZ (tx n) y (cC s - 1)=B at *
   generalize oU s=C at *
   have hs1:A.size+C.size≤maxLen:=by omega
   have hs2:(A++C).size+B.size≤maxLen:=by rw[cK];omega
   have hi0:=bH (av:=Tm.av) (l:=[x,y]) (i:=0) bQ rfl (aN x)
   have hi1:=bH (av:=Tm.av) (l:=[x,y]) (i:=1) bQ rfl (aN y)
   rw[show((0:Nat):Int)=0 from rfl] at hi0
   rw[show((1:Nat):Int)=1 from rfl] at hi1
   simp only[aX,bA,aY] at hi0 hi1 ⊢
   generalize hL:cC s=L at *
   obtain⟨L1,hL1⟩:∃L1,L1=L - 1:=⟨_,rfl⟩
   have hw:=nJ (x:=(L:Int) - 1) (m:=L1) (by omega) (by omega)
   rw[←hL1] at cr
   by_cases h3:L=3
   case' pos=>
    have h3':((L:Int)=3)=True:=cL (by omega)
    have hlv:lvl L=2:=by unfold lvl;rw[aG h3]
   case' neg=>
    have h3':((L:Int)=3)=False:=bZ (by omega)
    have hlv:lvl L=L:=by unfold lvl;rw[aE h3]
   all_goals
    rw[hlv] at cl
    simp only[↓reduceIte,aA,seval,uV]
    refine(clv _).to ?_
    simp only[↓reduceIte,h3',bM,bP,aA,seval]
    refine wP [(0,1),(4,1),(6,1),(10,1),(14,1),(15,1),(1,2),(2,1),(3,2),(5,2),(7,2),(8,2),(9,1),(11,2),(12,1),(13,2),(16,2),(17,1),(18,1)] [0,4,6,10,14,15,1,2,3,5,7,8,9,11,12,13,16,17,18] mixed ?_
    simp only[a7,aN,↓reduceIte,hi0,hw,aA,seval,uV]
    refine gP (cl _) ?_
    simp only[↓reduceIte,aA,seval,uV]
    refine gP (csp _) ?_
    simp only[a7,aN,↓reduceIte,hi1,hs1,aA,seval,uV]
    refine gP (cr _) ?_
    simp only[↓reduceIte,hs2,aA,seval]
  | false=>
   rw[hi] at hsz
   rw[aE (by decide)] at hsz ⊢
   cases ha:BK t with
   | true=>
    rw[ha] at hsz
    rw[aG rfl] at hsz ⊢
    obtain⟨k,m,s,ts⟩:=t
    rw[HH,bV,bK,bK] at ha
    obtain⟨rfl,h0⟩:=ha
    have h0':((0:Int)<(ts.length:Int))=True:=cL (by omega)
    simp only[Tm.s,Tm.ts] at hsz ⊢
    simp only[Tm.gJ] at hn xK hT hsz
    have hk:=hws.own.2
    have h4:ts.length≤4:=by rcases z7 hws.own.1 with h | h | h<;>omega
    have rG:=Z0 (T:=tx n) ts (fun x hx=>hT x (hk x hx) (by have:=NE hx;omega)) (by omega) (by omega)
    rw[cK,cK,cK] at hsz
    generalize gX (tx n) ts=A at *
    have bE3:s.size+A.size≤100000:=by omega
    have hs1:s.size+(⟨#[40]⟩:ByteArray).size≤maxLen:=by show _+1≤_;omega
    have hs2:(s++(⟨#[40]⟩:ByteArray)).size+A.size≤maxLen:=by rw[cK];show _+1+_≤_;omega
    have hs3:((s++(⟨#[40]⟩:ByteArray))++A).size+(⟨#[41]⟩:ByteArray).size≤maxLen:=by rw[cK,cK];show _+1+_+1≤_;omega
    simp only[aX]
    simp only[↓reduceIte,h0',aF,bM,aA,seval,uV]
    refine wP [(0,1),(3,1),(1,2),(2,1),(4,2),(5,2),(6,1),(7,1),(8,1)] [0,3,1,2,4,5,6,7,8] mixed ?_
    simp only[↓reduceIte,hs1,aA,seval,uV]
    refine gP (rG _) ?_
    simp only[↓reduceIte,hs2,hs3,aA,seval]
   | false=>
    rw[aE (by decide)]
    have hl:=aXC t hws (fun h=>by
     obtain⟨k,m,s,ts⟩:=t
     rw[HH,show k=3 from h] at ha
     simp only[bM,dU,dF] at ha
     exact PJ.1 (by show ts.length=0;omega))
    generalize xT t=A at *
    obtain⟨k,m,s,ts⟩:=t
    rw[HH] at ha
    simp only[aX] at hl ⊢
    by_cases hk:k=3
    case pos=>
     rw[hk] at ha hl ⊢
     simp only[bM,dU,dF] at ha
     have h0':((0:Int)<(ts.length:Int))=False:=bZ (by omega)
     simp only[↓reduceIte,h0',aF,bM,bP,aA,seval,uV]
     refine(hl _).to ?_
     simp only[↓reduceIte,aA,seval]
    case neg=>
     have hk':=bZ hk
     simp only[↓reduceIte,hk',bP,aA,seval,uV]
     refine(hl _).to ?_
     simp only[↓reduceIte,aA,seval]
end Go.AW
namespace Go.AW
def rY(t:Tm):ByteArray:=tx 130 t
def vK(T:Tm→ByteArray)(h:ByteArray):List Tm→ByteArray
 | []=>h
 | x::xs=>xs.foldl (fun o y=>(o++⟨#[44]⟩)++T y) ((h++⟨#[58,45]⟩)++T x)
def RA(c:Cl):ByteArray:=vK rY (rY c.1) c.2++⟨#[46]⟩
def fmtC(c:Cl):ByteArray:=if lS c then RA c else⟨#[]⟩
def JB(l:List UInt8):lO:=fun a=>rd l (4*l.length+4) 30 a 3
def uC(l:List UInt8):Nat→Nat→List Tm→Option (List Tm×Nat)
 | 0,_,_=>none
 | m+1,a,acc=>match JB l a with
  | none=>none
  | some (t,e)=>if cV l e 44 then uC l m (e+1) (acc++ [t]) else some (acc++ [t],e)
def tX(l:List UInt8):Option (Cl×Nat):=
 match JB l 0 with
 | none=>none
 | some (h,e)=>if(cV l e 58&&cV l (e+1) 45)=true then match uC l 7 (e+2) [] with
  | none=>none
  | some (b,e2)=>some ((h,b),e2)
  else some ((h,[]),e)
def pL(l:List UInt8):Option Cl:=match tX l with
 | none=>none
 | some (c,e)=>if l.length≤1000∧e+1=l.length∧cV l e 46=true∧sb (fmtC c)=l then some c else none
def oL(c:Nat):List UInt8→List UInt8→List (List UInt8)
 | [],acc=>[acc]
 | x::l,acc=>if x.toNat=c then acc::oL c l [] else oL c l (acc++ [x])
def B9:List (List UInt8)→List Cl→Option (List Cl)
 | [],acc=>some acc
 | l::ls,acc=>match pL l with
  | none=>none
  | some c=>B9 ls (acc++ [c])
def z8(l:List UInt8):Option (List Cl):=
 let ls:=oL 10 l []
 if 21<ls.length∨ls.getLast?≠some [] then none else B9 ls.dropLast []
def nY(l:List UInt8):Option (List Tm):=match uC l 7 0 [] with
 | none=>none
 | some (g,e)=>if l.length≤1000∧e=l.length∧g8 g=true then some g else none
theorem aU2{T:Tm→ByteArray}{h:ByteArray}{l:List Tm}{i:Nat}{x:Tm}(hx:l[i]?=some x):vK T h (l.take (i+1))=(if i=0 then vK T h (l.take i)++⟨#[58,45]⟩ else vK T h (l.take i)++⟨#[44]⟩)++T x:=by
 rw[dY,hx]
 cases l with
 | nil=>simp at hx
 | cons y l=>
  cases i with
  | zero=>simp at hx;subst hx;rfl
  | succ i=>
   rw[aE (by omega),wQ]
   simp only[vK,DL,gV,KN,vD,List.foldl_nil]
theorem Y7{T:Tm→ByteArray}{h:ByteArray}{l:List Tm}{m:Nat}(hT:∀x∈l,(T x).size≤m):(vK T h l).size≤h.size+l.length*(m+2):=by
 have hg:∀(xs:List Tm) (o:ByteArray),(∀x∈xs,(T x).size≤m)→(xs.foldl (fun o y=>(o++⟨#[44]⟩)++T y) o).size≤o.size+xs.length*(m+2):=by
  intro xs
  induction xs with
  | nil=>intro o _;simp
  | cons x xs ih=>
   intro o hx
   refine kQ (ih _ fun y hy=>hx y (by simp [hy])) ?_
   rw[cK,cK]
   have:=hx x (by simp)
   simp only[aU,qV]
   show o.size+1+_+_≤_
   omega
 cases l with
 | nil=>simp [vK]
 | cons x l=>
  refine kQ (hg l _ fun y hy=>hT y (by simp [hy])) ?_
  rw[cK,cK]
  have:=hT x (by simp)
  simp only[aU,qV]
  show h.size+2+_+_≤_
  omega
theorem aSC{t:Tm}(h:t.valid=true):Ws t∧t.nodes≤120:=by
 simp only[Tm.valid,bV,bK] at h
 exact⟨⟨_,h.1⟩,h.2⟩
theorem SC{t:Tm}(h:t.goal=true):t.valid=true:=by
 obtain⟨k,n,s,ts⟩:=t
 simp only[Tm.goal,bV] at h
 exact h.1
theorem aZI{c:Cl}(h:lS c=true):(Ws c.1∧c.1.nodes≤120)∧c.2.length≤6∧∀x∈c.2,Ws x∧x.nodes≤120:=by
 simp only[lS,bV,bK,dW] at h
 exact⟨aSC h.1.1,h.2.1,fun x hx=>aSC (SC (h.2.2 x hx))⟩
theorem MK{l:List UInt8}(hl:l.length≤1000):∀(m a:Nat) (acc ts:List Tm) (e:Nat),a≤l.length→(∀x∈acc,Dn x)→uC l m a acc=some (ts,e)→a<e∧e≤l.length∧(∀x∈ts,Dn x)∧ts.length≤acc.length+m:=by
 intro m
 induction m with
 | zero=>intro a acc ts e _ _ h;cases h
 | succ m ih=>
  intro a acc ts e ha f9 h
  unfold uC at h
  split at h
  · cases h
  rename_i t e1 h1
  obtain⟨h2,h3,h4⟩:=CM hl _ _ _ a t e1 ha h1
  have H8:∀x∈acc++ [t],Dn x:=by intro x hx;rw[eH] at hx;rcases hx with hx | hx;exact f9 x hx;rw[DI] at hx;subst hx;exact h4
  split at h
  · rename_i h5
    have h6:=pH h5
    obtain⟨g1,g2,g3,g4⟩:=ih (e1+1) _ ts e (by omega) H8 h
    rw[dN,PL] at g4
    exact⟨by omega,g2,g3,by omega⟩
  · cases h
    exact⟨h2,h3,H8,by rw[dN,PL];omega⟩
abbrev vM (c:Cl):Prop:=Dn c.1∧c.2.length≤7∧∀x∈c.2,Dn x
theorem LX{l:List UInt8}(hl:l.length≤1000){c:Cl}{e:Nat}(h:tX l=some (c,e)):0<e∧e≤l.length∧vM c:=by
 unfold tX at h
 split at h
 · cases h
 rename_i t e1 h1
 obtain⟨h2,h3,h4⟩:=CM hl _ _ _ 0 t e1 (iU _) h1
 split at h
 · rename_i h5
   rw[bV] at h5
   have h6:=pH h5.2
   split at h
   · cases h
   rename_i b e2 h7
   obtain⟨g1,g2,g3,g4⟩:=MK hl _ _ _ _ _ (by omega) (by simp) h7
   cases h
   exact⟨by omega,g2,h4,by rw[aZ] at g4;show b.length≤7;omega,g3⟩
 · cases h
   exact⟨h2,h3,h4,by show 0≤7;omega,by intro x hx;cases hx⟩
theorem aOO{l:List UInt8}{c:Cl}(h:pL l=some c):vM c∧lS c=true:=by
 unfold pL at h
 split at h
 · cases h
 rename_i c' e h1
 split at h
 · rename_i h2
   cases h
   refine⟨(LX h2.1 h1).2.2,?_⟩
   have h3:=h2.2.2.2
   unfold fmtC at h3
   split at h3
   · assumption
   · have:=eA List.length h3
     simp at this
     omega
 · cases h
theorem aA6(c:Nat):∀(l acc:List UInt8),oL c l acc≠[]
 | [],acc=>by simp [oL]
 | x::l,acc=>by unfold oL;split<;>simp [aA6 c l]
theorem RE(c:Nat):∀(l acc:List UInt8),(oL c l acc).length≤l.length+1
 | [],acc=>by simp [oL]
 | x::l,acc=>by unfold oL;split;have:=RE c l [];simp only[aU];omega;have:=RE c l (acc++ [x]);simp only[aU];omega
end Go.AW
namespace Go.AW
open Go.Proofs.Tryz
abbrev aP9:=zi aW (zi jM mT)
theorem aVK(l:List Cl)(g:FuncId)(dD:List AV)(p:Cl→Bool)(st:aB)(hc:∀x∈l,aD prog g ([bY x]++dD) st (fun r st'=>r=.bool (p x)∧st'=st)) :
 aD prog 274 [.slice (l.map bY),.func g dD] st (fun r st'=>∃j:Int,r=.int .i64 j∧decide (0≤j)=l.any p∧st'=st):=by
 refine wF [] 2 func274 ntmps274 rfl rfl ?_
 simp only[eM,AV.fits,eS,aF]
 intro ⟨hl,_⟩
 simp only[aF,aA,seval,aP9]
 refine dX (σ:=Unit) [] [0,1,7] l (fun i _=>(l.drop i).any p=l.any p) (fun i _=>[(8,.int .i64 i)]) (fun _ _=>st) (by decide +kernel) ⟨(),rfl,aO.mk (by simp only[aA,↓aS,seval])⟩ (fun i x _ hx hlt bL hdr hinv=>?_) (fun _ hge hinv=>?_)
 case refine_2=>
  simp only[hge,aA,seval]
  rw[kB] at hinv
  exact⟨-1,rfl,by rw[←hinv];try rfl⟩
 rw[hdr,A4] at hinv
 have hw:=bF (n:=(i:Int)+1)
 simp only[bL,bH (av:=bY) rA hx (k8 x),zC,k8,aA,seval,aP9]
 refine(hc x (cH hx)).to ?_
 simp only[aA,seval]
 refine aP (fun h=>?_) (fun h=>?_)
 · simp only[aA,seval]
   exact⟨i,rfl,by rw[←hinv,h];simp⟩
 · rw[h,oY] at hinv
   simp only[aA,seval]
   exact⟨(),hinv,aO.mk (by simp only[hw,aA,seval])⟩
theorem aVC(l:List Cl)(g:FuncId)(dD:List AV)(p:Cl→Bool)(st:aB)(hc:∀x∈l,aD prog g ([bY x]++dD) st (fun r st'=>r=.bool (p x)∧st'=st)) :
 aD prog 204 [.slice (l.map bY),.func g dD] st (fun r st'=>r=.bool (l.any p)∧st'=st):=by
 refine wF [] 2 func204 ntmps204 rfl rfl ?_
 intro _
 simp only[aA,seval]
 refine(aVK l g dD p st hc).mono ?_
 rintro _ _ ⟨j,rfl,hj,rfl⟩
 simp only[hj,aA,seval]
abbrev VS:=zi cF (zi cA (zi bR mT))
theorem aWC(c:Cl)(st:aB):aD prog 206 [bY c] st (fun r st'=>r=.bool (lS c)∧st'=st):=by
 obtain⟨⟨k,n,s,ts⟩,b⟩:=c
 have hv:=fun st=>QR (.mk k n s ts) st
 have hp:=fun st=>ZO k n s ts st
 simp only[aX] at hv hp
 have hg:=fun st=>ZL b st
 simp only[iW,lS,UK]
 simp only[g8] at hg
 generalize (Tm.mk k n s ts).valid=v at *
 refine wF [1000000] 1 func206 ntmps206 rfl rfl ?_
 intro _
 simp only[aA,seval,VS]
 refine(hv _).to ?_
 cases v with
 | false=>simp only[fF,aA,seval]
 | true=>
  simp only[kG,dU,aA,seval,VS]
  refine(hp _).to ?_
  cases hpl:rR k s (ts.length:Int) with
  | false=>simp only[fF,aA,seval]
  | true=>
   simp only[kG,dU,aA,seval,VS]
   refine(hg _).to ?_
   simp only[aA,seval]
abbrev bA2:=zi cF mT
theorem aVS(c:Cl)(st:aB):aD prog 205 [bY c] st (fun r st'=>r=.bool (!lS c)∧st'=st):=by
 refine wF [1000000] 1 func205 ntmps205 rfl rfl ?_
 intro _
 simp only[BR,zC,k8,aA,seval,bA2]
 refine(aWC c st).to ?_
 simp only[aA,seval]
abbrev bA1:=zi aW (zi cF jM)
theorem ZM(p:List Cl)(st:aB):aD prog 119 [.slice (p.map bY)] st (fun r st'=>r=.bool (nB p)∧st'=st):=by
 refine wF [1000000] 1 func119 ntmps119 rfl rfl ?_
 simp only[eM,AV.fits,eS,aF]
 intro _
 unfold nB
 simp only[aF,aA,seval,bA1]
 refine cT (fun h=>?_) (fun h=>?_)
 · simp only[bK] at h
   rw[show decide (p.length≤20)=true by simp;omega]
   simp only[h,aA,seval]
   refine(aVC p _ [] (fun t=> !lS t) st fun x _=>aVS x st).to ?_
   simp only[K8,aA,seval]
 · simp only[jZ,dF] at h
   rw[show decide (p.length≤20)=false by simp;omega]
   simp only[h,aA,seval]
   rfl
abbrev FY:=zi aW (zi cF (zi cA (zi bR mT)))
theorem aAM(c:Cl)(st:aB):aD prog 155 [bY c] st (fun r st'=>r=.bool (lS c)∧st'=st):=by
 obtain⟨⟨k,n,s,ts⟩,l⟩:=c
 have hv:=fun st=>Q5 (.mk k n s ts) st
 have hp:=fun st=>Z7 k n s ts st
 simp only[aX] at hv hp
 simp only[iW,lS,UK]
 generalize (Tm.mk k n s ts).valid=v at *
 refine wF [1000000] 1 func155 ntmps155 rfl rfl ?_
 simp only[eM,AV.fits,eS,aF]
 intro ⟨_,_,_,_,hl,_⟩
 have vS:l.all Tm.goal=true∨l.length>6→(decide ((l.length:Int)≤6)&&v&&rR k s (ts.length:Int))=(v&&rR k s (ts.length:Int)&&(decide (l.length≤6)&&l.all Tm.goal)):=fun h=>by
  by_cases h6:l.length≤6
  · have hg:l.all Tm.goal=true:=h.resolve_right (by omega)
    rw[hg,show decide ((l.length:Int)≤6)=true from eE (by omega),show decide (l.length≤6)=true from eE h6]
    simp
  · rw[show decide ((l.length:Int)≤6)=false from d5 (by omega),show decide (l.length≤6)=false from d5 h6]
    simp
 simp only[aA,seval,FY]
 refine dX (σ:=Unit) [1000000] [1] l (fun i _=>i≤7∧(l.take i).all Tm.goal=true) (fun i _=>[(2,.bool false),(3,.int .i64 i)]) (fun _ _=>st) (by decide +kernel) ⟨(),⟨by omega,by simp⟩,aO.mk (by simp only[aA,↓aS,seval])⟩ (fun i x _ hx hlt bL hdr hinv=>?_) (fun _ hge hinv=>?_)
 · obtain⟨i1,i2⟩:=hinv
   have hw:=bF (n:=(i:Int)+1)
   by_cases h7:i≤6
   · have h7':decide ((i:Int)≤6)=true:=eE (by omega)
     have hat:=bH (av:=Tm.av) bQ hx (aN x)
     simp only[bL,bM,kG,aF,h7',hat,a7,aN,aA,seval,FY]
     refine(aAN x st).to ?_
     simp only[aA,seval]
     refine aP (fun h2=>?_) (fun h2=>?_)
     · simp only[lJ] at h2
       simp only[aA,seval]
       have:l.all Tm.goal=false:=w6 hx h2
       rw[this];simp
     · simp only[tH] at h2
       simp only[aA,seval]
       refine⟨(),⟨by omega,?_⟩,aO.mk (by simp only[hw,aA,seval])⟩
       rw[dY,hx,DF,i2]
       simp [h2]
   · have h7':decide ((i:Int)≤6)=false:=d5 (by omega)
     have h8:decide ((l.length:Int)≤6)=false:=d5 (by omega)
     rw[←vS (.inr (by omega)),h8]
     simp only[bL,bM,kG,h8,fF,aF,h7',aA,seval,FY]
 · obtain⟨i1,i2⟩:=hinv
   rw[dS] at i2
   rw[←vS (.inl i2)]
   cases h8:decide ((l.length:Int)≤6) with
   | false=>
    simp only[hge,aF,h8,fF,aA,seval,FY]
   | true=>
    simp only[hge,kG,aF,h8,dU,aA,seval,FY]
    refine(hv _).to ?_
    cases v with
    | false=>simp only[fF,aA,seval]
    | true=>
     simp only[kG,dU,aA,seval,FY]
     refine(hp _).to ?_
     simp only[aA,seval]
abbrev VT:=zi aW (zi cF (zi jM mT))
theorem aAO(l:List Cl)(st:aB):aD prog 80 [.slice (l.map bY)] st (fun r st'=>r=.bool (nB l)∧st'=st):=by
 refine wF [1000000] 1 func80 ntmps80 rfl rfl ?_
 simp only[eM,AV.fits,eS,aF]
 intro ⟨hl,_⟩
 simp only[aA,seval]
 refine dX (σ:=Unit) [1000000] [0] l (fun i _=>i≤21∧(l.take i).all lS=true) (fun i _=>[(2,.bool false),(3,.int .i64 i)]) (fun _ _=>st) (by decide +kernel) ⟨(),⟨by omega,by simp⟩,aO.mk (by simp only[aA,↓aS,seval])⟩ (fun i x _ hx hlt bL hdr hinv=>?_) (fun _ hge hinv=>?_)
 · obtain⟨i1,i2⟩:=hinv
   have hw:=bF (n:=(i:Int)+1)
   by_cases h7:i≤20
   · have h7':decide ((i:Int)≤20)=true:=eE (by omega)
     have hat:=bH (av:=bY) rA hx (k8 x)
     simp only[bL,bM,kG,aF,h7',hat,zC,k8,aA,seval,VT]
     refine(aAM x st).to ?_
     simp only[aA,seval]
     refine aP (fun h2=>?_) (fun h2=>?_)
     · simp only[lJ] at h2
       simp only[aA,seval]
       have:l.all lS=false:=w6 hx h2
       simp only[nB,this,l8]
     · simp only[tH] at h2
       simp only[aA,seval]
       refine⟨(),⟨by omega,?_⟩,aO.mk (by simp only[hw,aA,seval])⟩
       rw[dY,hx,DF,i2]
       simp [h2]
   · have h7':decide ((i:Int)≤20)=false:=d5 (by omega)
     have h8:decide ((l.length:Int)≤20)=false:=d5 (by omega)
     have h9:decide (l.length≤20)=false:=d5 (by omega)
     simp only[bL,bM,kG,aF,h7',h8,nB,h9,fF,aA,seval,VT]
 · obtain⟨i1,i2⟩:=hinv
   rw[dS] at i2
   simp only[hge,aF,aA,seval,VT]
   simp only[nB,i2,wJ,AV.bool.injEq,sN]
   omega
theorem aAS{t:Tm}(h:Ws t∧t.nodes≤120)(st:aB):aD prog 148 [t.av] st (fun r st'=>r=.str (rY t)∧st'=st):=aXM 130 t st h.1 (by omega) (by omega)
theorem O2{t:Tm}(h:Ws t∧t.nodes≤120):(rY t).size≤3840:=by have:=C6 130 t h.1;unfold rY;omega
abbrev OG:=zi aW (zi cW (zi cA (zi bR mT)))
set_option maxHeartbeats 1000000 in
theorem aXP(c:Cl)(hc:(Ws c.1∧c.1.nodes≤120)∧c.2.length≤6∧∀x∈c.2,Ws x∧x.nodes≤120)(st:aB):aD prog 328 [bY c] st (fun r st'=>r=.str (RA c)∧st'=st):=by
 obtain⟨⟨k,n,s,ks⟩,ts⟩:=c
 obtain⟨hh,hl,hb⟩:=hc
 simp only at hh hl hb
 have hhd:=fun st=>aAS hh st
 have hhs:=O2 hh
 unfold RA
 simp only
 generalize rY (.mk k n s ks)=H at *
 simp only[aX] at hhd
 simp only[iW]
 have hm:maxLen=9223372036854775807:=by rfl
 refine wF [1000000] 1 func328 ntmps328 rfl rfl ?_
 intro _
 simp only[aA,seval,OG]
 refine(hhd _).to ?_
 simp only[aA,seval]
 refine dX (σ:=Unit) [1000000] [1,2] ts (fun i _=>True) (fun i _=>[(3,.str (vK rY H (ts.take i))),(4,.int .i64 i)]) (fun _ _=>st) (by decide +kernel) ⟨(),trivial,aO.mk (by simp only[jA,aA,↓aS,seval]<;>rfl)⟩ (fun i x _ hx hlt bL hdr hinv=>?_) (fun _ hge hinv=>?_)
 case refine_2=>
  rw[dS]
  have hsz:=Y7 (T:=rY) (h:=H) (l:=ts) (m:=3840) fun x hx=>O2 (hb x hx)
  have hs:(vK rY H ts).size+(⟨#[46]⟩:ByteArray).size≤maxLen:=by
   have:ts.length*(3840+2)≤6*3842:=tN _ hl
   show _+1≤_;omega
  simp only[aF,hge,hs,↓reduceIte,aA,seval,OG]
 have hxm:=cH hx
 have c1:=fun st=>aAS (hb x hxm) st
 have c2:=O2 (hb x hxm)
 have hw:=bF (n:=(i:Int)+1)
 have hat:=bH (av:=Tm.av) bQ hx (aN x)
 have g7:=aU2 (T:=rY) (h:=H) hx
 have hsz:=Y7 (T:=rY) (h:=H) (l:=ts.take i) (m:=3840) fun y hy=>O2 (hb y (mC hy))
 have hln:(ts.take i).length*(3840+2)≤6*3842:=tN _ (by rw[c7];omega)
 generalize vK rY H (ts.take i)=B at *
 generalize rY x=X at *
 have hs1:B.size+(⟨#[44]⟩:ByteArray).size≤maxLen:=by show _+1≤_;omega
 have hs2:(B++(⟨#[44]⟩:ByteArray)).size+X.size≤maxLen:=by rw[cK];show _+1+_≤_;omega
 have hs3:B.size+(⟨#[58,45]⟩:ByteArray).size≤maxLen:=by show _+2≤_;omega
 have hs4:(B++(⟨#[58,45]⟩:ByteArray)).size+X.size≤maxLen:=by rw[cK];show _+2+_≤_;omega
 by_cases h0:i=0
 · rw[aG h0] at g7
   have h0':((i:Int)=0)=True:=cL (by omega)
   simp only[aF,hat,a7,aN,bL,h0',hs3,↓reduceIte,bM,aA,seval,OG]
   refine(c1 _).to ?_
   simp only[hs4,↓reduceIte,aA,seval]
   exact⟨(),aO.mk (by simp only[hw,g7,↓reduceIte,aA,seval])⟩
 · rw[aE h0] at g7
   have h0':((i:Int)=0)=False:=bZ (by omega)
   simp only[aF,hat,a7,aN,bL,h0',hs1,↓reduceIte,bM,bP,aA,seval,OG]
   refine(c1 _).to ?_
   simp only[hs2,↓reduceIte,aA,seval]
   exact⟨(),aO.mk (by simp only[hw,g7,↓reduceIte,aA,seval])⟩
abbrev WL:=zi cF (zi cW mT)
theorem QO(c:Cl)(st:aB):aD prog 284 [bY c] st (fun r st'=>r=.str (fmtC c)∧st'=st):=by
 have hv:=aAM c
 unfold fmtC
 cases h:lS c with
 | true=>
  rw[h] at hv
  have ht:=aXP c (aZI h)
  rw[aG rfl]
  obtain⟨⟨k,n,s,ks⟩,ts⟩:=c
  simp only[iW] at hv ht ⊢
  refine wF [1000000] 1 func284 ntmps284 rfl rfl ?_
  intro _
  simp only[aA,seval,WL]
  refine(hv _).to ?_
  simp only[aA,seval,WL]
  refine(ht _).to ?_
  simp only[aA,seval]
 | false=>
  rw[h] at hv
  rw[aE (by decide)]
  obtain⟨⟨k,n,s,ks⟩,ts⟩:=c
  simp only[iW] at hv ⊢
  refine wF [1000000] 1 func284 ntmps284 rfl rfl ?_
  intro _
  simp only[aA,seval,WL]
  refine(hv _).to ?_
  simp only[aA,seval]
theorem aAI{s:ByteArray}(hs:s.size≤1000)(a:Nat)(ha:a≤s.size)(st:aB):aD prog 282 [.str s,.int .i64 (a:Int),.int .i64 30,.int .i64 3] st (fun r st'=>mV (JB (sb s) a) r∧st'=st):=
 aXJ hs (4*(sb s).length+4) 30 a 3 st ha (by omega) (by omega) (by rw[cO];omega)
def tK(o:Option (List Tm×Nat))(r:AV):Prop:=match o with | some (ts,e)=>r=.tup [.slice (ts.map Tm.av),.int .i64 (e:Int)] | none=>r=.tup [.slice [],.int .i64 (-1)]
abbrev WK:=zi aW (zi cF (zi lH (zi AS (zi cW (zi cA bR)))))
set_option maxHeartbeats 1000000 in
theorem Z6{s:ByteArray}(hs:s.size≤1000)(a:Nat)(ha:a≤s.size)(st:aB):aD prog 220 [.str s,.int .i64 (a:Int)] st (fun r st'=>tK (uC (sb s) 7 a []) r∧st'=st):=by
 generalize hT:uC (sb s) 7 a []=T
 refine aD.drop (Q:=tK T) (aD.fin ?_)
 refine wF [1000000] 2 func220 ntmps220 rfl rfl ?_
 intro _
 simp only[aA,seval,WK]
 refine iJ (σ:=Nat×List Tm×Nat×Nat) [1000000] [0] (fun x=>uC (sb s) x.2.2.1 x.1 x.2.1=T∧x.1≤s.size∧x.2.1.length+x.2.2.1=7∧(x.2.1.map Tm.av≠[]→st x.2.2.2=none)) (fun x=>[(1,.int .i64 (x.1:Int)),(4,.fslice []),(5,.int .i64 0),(6,bS 4 x.2.2.2 (x.2.1.map Tm.av))]) (fun x=>bE st x.2.2.2 (x.2.1.map Tm.av)) (fun x=>x.2.2.1) (by decide +kernel) ⟨(a,[],7,0),⟨hT,ha,rfl,by simp⟩,aO.mk (by simp only[aY,iV,aA,seval])⟩ ?_
 rintro⟨i,acc,m,b⟩ ⟨ht,hi,hlen,hb⟩
 simp only at ht hi hlen hb ⊢
 have fin:∀(l:List Tm) (b':Nat) (r':AV),(l.map Tm.av≠[]→st b'=none)→tK T (r'.fin b' (l.map Tm.av))→∃b2 l2 s0,bE st b' (l.map Tm.av)=bE s0 b2 l2∧(l2≠[]→s0 b2=none)∧(∀e∈l2,e.cD=false)∧iT l2∧aL s0 st∧tK T (r'.fin b2 l2):=fun l b' r' h1 h2=>⟨b',_,st,rfl,h1,oV _,⟨4,gO _⟩,aL.refl _,h2⟩
 have hTn:T=none→∀(b':Nat) (l:List AV),tK T ((AV.tup [.fslice [],.int .i64 (-1)]).fin b' l):=by
  rintro rfl b' l
  simp only[tK,jS,eW,nS,bA,aY]
 have hln:(acc.map Tm.av).length=acc.length:=aF _
 have hal:=BJ (P:=prog) (b:=b) (w:=4) (l:=acc.map Tm.av) bCB
 rw[hln] at hal
 by_cases h6:acc.length≤6
 case neg=>
  have h6':((acc.length:Int)≤6)=False:=bZ (by omega)
  obtain rfl:m=0:=by omega
  simp only[hal,h6',bP,aA,seval]
  exact fin _ _ _ hb (hTn ht.symm _ _)
 have h6':((acc.length:Int)≤6)=True:=cL (by omega)
 obtain⟨m,rfl⟩:∃m',m=m'+1:=⟨m - 1,by omega⟩
 simp only[uC] at ht
 simp only[hal,h6',bM,aA,seval]
 refine(aAI hs i hi _).mono ?_
 rintro r _ ⟨hr,rfl⟩
 cases hRi:JB (sb s) i with
 | none=>
  rw[hRi] at ht hr
  obtain⟨k,hk,rfl⟩:=hr
  have hk0:((-1 - (k:Int))<0)=True:=cL (by omega)
  simp only[aN,cI,cP,hk0,lT,bM,aA,↓aS,seval,WK]
  exact fin _ _ _ hb (hTn ht.symm _ _)
 | some p=>
  obtain⟨t,e⟩:=p
  rw[hRi] at ht hr
  simp only at ht
  obtain⟨g1,g2,g3⟩:=CM (by rw[cO];exact hs) _ _ _ i t e (by rw[cO];exact hi) hRi
  rw[cO] at g2
  simp only[mV] at hr
  subst hr
  have he0:((e:Int)<0)=False:=bZ (by omega)
  simp only[a7,aN,cI,cP,he0,l9,uX,bP,aA,↓aS,seval,WK]
  refine eO bQ jE jF rfl rfl (fQ (aN _) (cI _)) (gO _) hb (by simp only[aF,aU,aZ];omega) (by simp only[aF,aU,aZ];omega) (fun b' hb'=>?_)
  rw[show acc.map Tm.av++ [t.av]=(acc++ [t]).map Tm.av by simp] at hb' ⊢
  have hw1:=bF (n:=(e:Int)+1)
  simp only[aA,seval]
  refine(lF s e 44 _).to ?_
  cases h3:cV (sb s) e 44 with
  | true=>
   have h4:=pH h3
   rw[cO] at h4
   rw[h3,aG rfl] at ht
   simp only[hw1,aA,seval]
   refine⟨(e+1,acc++ [t],m,b'),by simp only;omega,⟨ht,by simp only;omega,by simp only[dN,aU,aZ];omega,hb'⟩,aO.mk (by simp only[aA,seval]<;>rfl)⟩
  | false=>
   rw[h3,aE (by decide)] at ht
   simp only[mZ,l9,uX,aA,seval]
   refine fin _ _ _ hb' ?_
   subst ht
   simp only[tK,jS,eW,kJ,bA,aY]
abbrev cl0:Cl:=(J7,[])
def A3(o:Option Cl):AV:=match o with | some c=>.tup [bY c,.bool true] | none=>.tup [bY cl0,.bool false]
theorem sK:(AV.tup [.agg [.int .i64 0,.int .i64 0,.str ⟨#[]⟩,.fslice [],.fslice []],.bool false]).soft=A3 none:=by simp only[A3,iW,iF,jJ,iG,rU,mR,lV,bA,aY]
theorem RD(c:Cl):(AV.tup [bY c,.bool true]).soft=A3 (some c):=by
 obtain⟨⟨k,n,s,ks⟩,ts⟩:=c
 simp only[A3,iW,iF,jJ,iG,rU,mR,nE,bA,aY]
theorem xY{l:List UInt8}{c:Cl}{e:Nat}(h:tX l=some (c,e))(h1:¬(l.length≤1000∧e+1=l.length∧cV l e 46=true∧sb (fmtC c)=l)):pL l=none:=by
 unfold pL
 rw[h]
 simp only
 rw[aE h1]
theorem UJ{l:List UInt8}{c:Cl}{e:Nat}(h:tX l=some (c,e))(h1:l.length≤1000∧e+1=l.length∧cV l e 46=true∧sb (fmtC c)=l):pL l=some c:=by
 unfold pL
 rw[h]
 simp only
 rw[aG h1]
theorem U4{a b:ByteArray}(h:sb a=sb b):a=b:=by rw[←Y0 a,←Y0 b,h]
abbrev jX:=zi aW (zi cF (zi lH (zi AS (zi cW (zi cA (zi aRJ (zi bR mT)))))))
set_option maxHeartbeats 2000000 in
theorem aVQ(s:ByteArray)(st:aB):aD prog 218 [.str s] st (fun r st'=>r=A3 (pL (sb s))∧st'=st):=by
 refine aD.done ?_
 refine wF [1000000,6] 1 func218 ntmps218 rfl rfl ?_
 intro _
 simp only[aA,seval,jX]
 intro b2 hb2
 have hD:=fun(o:AO)=>(aL.refl st).aC (o:=o) hb2
 by_cases hs:s.size≤1000
 case neg=>
  have hs':((1000:Int)<(s.size:Int))=True:=cL (by omega)
  have hP:pL (sb s)=none:=by
   unfold pL
   split
   · rfl
   · rw[aE fun h=>hs (by rw[←cO];exact h.1)]
  rw[hP]
  simp only[aK,hs',bM,aA,seval,jX]
  exact⟨sK,hD _⟩
 have hs':((1000:Int)<(s.size:Int))=False:=bZ (by omega)
 have h0:=fun st=>aAI hs 0 (iU _) st
 rw[show((0:Nat):Int)=0 from rfl] at h0
 simp only[hs',bP,aA,seval]
 refine(h0 _).mono ?_
 rintro r _ ⟨hr,rfl⟩
 cases hRi:JB (sb s) 0 with
 | none=>
  have hP:pL (sb s)=none:=by unfold pL tX;rw[hRi]
  rw[hP]
  rw[hRi] at hr
  obtain⟨k,hk,rfl⟩:=hr
  have hk0:((-1 - (k:Int))<0)=True:=cL (by omega)
  simp only[aK,aN,cI,cP,hk0,lT,bM,aA,↓aS,seval,jX]
  exact⟨sK,hD _⟩
 | some p=>
  obtain⟨⟨hk,hn,hsn,hts⟩,e⟩:=p
  rw[hRi] at hr
  simp only[mV,aX] at hr
  subst hr
  obtain⟨g1,g2,g3⟩:=CM (by rw[cO];exact hs) _ _ _ 0 _ e (iU _) hRi
  rw[cO] at g2
  have he0:((e:Int)<0)=False:=bZ (by omega)
  obtain⟨f1,hf1⟩:∃f1,f1=e+1:=⟨_,rfl⟩
  obtain⟨f2,hf2⟩:∃f2,f2=e+2:=⟨_,rfl⟩
  have hw1:=nJ (x:=(e:Int)+1) (m:=f1) (by omega) (by omega)
  have hw2:=nJ (x:=(e:Int)+2) (m:=f2) (by omega) (by omega)
  simp only[aK,he0,bP,aA,↓aS,seval,jX]
  intro b6 h6
  have hbb:b6≠b2:=fun h=>by rw[h,aB.aJ] at h6;cases h6
  have h6':st b6=none:=by rwa [aB.aH _ _ hbb] at h6
  have hE:∀o1 o2 o3,aL (((st.aC b2 o1).aC b6 o2).aC b2 o3) st:=fun o1 o2 o3=>((hD _).aC h6').aC hb2
  refine(lF s e 58 _).to ?_
  by_cases hbd:(cV (sb s) e 58&&cV (sb s) (e+1) 45)=true
  case neg=>
   obtain⟨b,hb⟩:∃b:List Tm,b= []:=⟨_,rfl⟩
   have hcl:tX (sb s)=some ((.mk hk hn hsn hts,b),e):=by
    unfold tX
    rw[hRi,hb]
    simp only
    rw[aE hbd]
   obtain⟨e2,he2⟩:∃e2,e2=e:=⟨_,rfl⟩
   rw[←he2] at hcl
   cases h58:cV (sb s) e 58 with
   | false=>
    simp only[aA,seval,jX]
    rw[←he2]
    have hdn:=(LX (by rw[cO];exact hs) hcl).2.2
    have hwl:=bF (n:=(s.size:Int) - 1)
    by_cases he:e2+1=s.size
    case neg=>
     rw[xY hcl (fun h=>he (by rw[cO] at h;exact h.2.1))]
     have he':((e2:Int)=(s.size:Int) - 1)=False:=bZ (by omega)
     simp only[aK,hwl,he',hbb.symm,bP,aA,seval,jX]
     exact⟨sK,hE _ _ _⟩
    have he':((e2:Int)=(s.size:Int) - 1)=True:=cL (by omega)
    simp only[hwl,he',bM,aA,seval]
    refine(lF s e2 46 _).to ?_
    cases hd:cV (sb s) e2 46 with
    | false=>
     rw[xY hcl (fun h=>by rw[hd] at h;exact absurd h.2.2.1 (by decide))]
     simp only[aK,hbb.symm,aA,seval,jX]
     exact⟨sK,hE _ _ _⟩
    | true=>
     simp only[aA,seval,jX]
     refine(aD.rT (by rw[show iQ [AV.agg [.int .i64 hk,.int .i64 hn,.str hsn,.slice (hts.map Tm.av),.fslice []]]= [bY (.mk hk hn hsn hts,b)] by simp only[iQ,iW,hb,iF,iG,mR,nE,lV,bA,aY]];exact QO (.mk hk hn hsn hts,b) _):aD prog 284 _ _ _).to ?_
     by_cases hf:fmtC (.mk hk hn hsn hts,b)=s
     case neg=>
      rw[xY hcl (fun h=>hf (U4 h.2.2.2))]
      have hf':=bZ hf
      simp only[aK,hf',hbb.symm,bP,aA,seval,jX]
      exact⟨sK,hE _ _ _⟩
     rw[UJ hcl ⟨by rw[cO];exact hs,by rw[cO];exact he,hd,by rw[hf]⟩]
     have hf':=cL hf
     simp only[hf',bM,aA,seval,jX]
     refine(aD.rT (by rw[show iQ [AV.agg [.int .i64 hk,.int .i64 hn,.str hsn,.slice (hts.map Tm.av),.fslice []]]= [bY (.mk hk hn hsn hts,b)] by simp only[iQ,iW,hb,iF,iG,mR,nE,lV,bA,aY]];exact LQ (.mk hk hn hsn hts,b) hdn.1.2 (by have:=hdn.2.1;omega) (fun x hx=>(hdn.2.2 x hx).2) _):aD prog 203 _ _ _).to ?_
     rw[iW]
     simp only[aK,hbb.symm,aA,seval,jX]
     rw[←iW]
     exact⟨RD _,hE _ _ _⟩
   | true=>
    simp only[hw1,aA,seval]
    refine(lF s f1 45 _).to ?_
    rw[h58,dU,←hf1] at hbd
    rw[show cV (sb s) f1 45=false by simpa using hbd]
    simp only[aA,seval,jX]
    rw[←he2]
    have hdn:=(LX (by rw[cO];exact hs) hcl).2.2
    have hwl:=bF (n:=(s.size:Int) - 1)
    by_cases he:e2+1=s.size
    case neg=>
     rw[xY hcl (fun h=>he (by rw[cO] at h;exact h.2.1))]
     have he':((e2:Int)=(s.size:Int) - 1)=False:=bZ (by omega)
     simp only[aK,hwl,he',hbb.symm,bP,aA,seval,jX]
     exact⟨sK,hE _ _ _⟩
    have he':((e2:Int)=(s.size:Int) - 1)=True:=cL (by omega)
    simp only[hwl,he',bM,aA,seval]
    refine(lF s e2 46 _).to ?_
    cases hd:cV (sb s) e2 46 with
    | false=>
     rw[xY hcl (fun h=>by rw[hd] at h;exact absurd h.2.2.1 (by decide))]
     simp only[aK,hbb.symm,aA,seval,jX]
     exact⟨sK,hE _ _ _⟩
    | true=>
     simp only[aA,seval,jX]
     refine(aD.rT (by rw[show iQ [AV.agg [.int .i64 hk,.int .i64 hn,.str hsn,.slice (hts.map Tm.av),.fslice []]]= [bY (.mk hk hn hsn hts,b)] by simp only[iQ,iW,hb,iF,iG,mR,nE,lV,bA,aY]];exact QO (.mk hk hn hsn hts,b) _):aD prog 284 _ _ _).to ?_
     by_cases hf:fmtC (.mk hk hn hsn hts,b)=s
     case neg=>
      rw[xY hcl (fun h=>hf (U4 h.2.2.2))]
      have hf':=bZ hf
      simp only[aK,hf',hbb.symm,bP,aA,seval,jX]
      exact⟨sK,hE _ _ _⟩
     rw[UJ hcl ⟨by rw[cO];exact hs,by rw[cO];exact he,hd,by rw[hf]⟩]
     have hf':=cL hf
     simp only[hf',bM,aA,seval,jX]
     refine(aD.rT (by rw[show iQ [AV.agg [.int .i64 hk,.int .i64 hn,.str hsn,.slice (hts.map Tm.av),.fslice []]]= [bY (.mk hk hn hsn hts,b)] by simp only[iQ,iW,hb,iF,iG,mR,nE,lV,bA,aY]];exact LQ (.mk hk hn hsn hts,b) hdn.1.2 (by have:=hdn.2.1;omega) (fun x hx=>(hdn.2.2 x hx).2) _):aD prog 203 _ _ _).to ?_
     rw[iW]
     simp only[aK,hbb.symm,aA,seval,jX]
     rw[←iW]
     exact⟨RD _,hE _ _ _⟩
  rw[bV,←hf1] at hbd
  have a4N:=pH hbd.2
  rw[cO] at a4N
  rw[hbd.1]
  simp only[hw1,aA,seval]
  refine(lF s f1 45 _).to ?_
  rw[hbd.2]
  simp only[hw2,aA,seval]
  refine(Z6 hs f2 (by omega) _).mono ?_
  rintro r _ ⟨hr,rfl⟩
  cases hG:uC (sb s) 7 f2 [] with
  | none=>
   have hP:pL (sb s)=none:=by
    unfold pL tX
    rw[hRi]
    simp only
    rw[aG (by rw[←hf1,hbd.1,hbd.2];try rfl),←hf2,hG]
   rw[hP]
   rw[hG] at hr
   simp only[tK] at hr
   subst hr
   have hwl:=bF (n:=(s.size:Int) - 1)
   have he':((-1:Int)=(s.size:Int) - 1)=False:=bZ (by omega)
   simp only[aK,hwl,he',hbb.symm,bP,aA,seval,jX]
   exact⟨sK,hE _ _ _⟩
  | some p=>
   obtain⟨b,e2⟩:=p
   rw[hG] at hr
   simp only[tK] at hr
   subst hr
   have hcl:tX (sb s)=some ((.mk hk hn hsn hts,b),e2):=by
    unfold tX
    rw[hRi]
    simp only
    rw[aG (by rw[←hf1,hbd.1,hbd.2];try rfl),←hf2,hG]
   have hg2:=MK (by rw[cO];exact hs) _ _ _ _ _ (by rw[cO];omega) (by simp) hG
   rw[cO] at hg2
   simp only[aK,aA,seval,jX]
   have hdn:=(LX (by rw[cO];exact hs) hcl).2.2
   have hwl:=bF (n:=(s.size:Int) - 1)
   by_cases he:e2+1=s.size
   case neg=>
    rw[xY hcl (fun h=>he (by rw[cO] at h;exact h.2.1))]
    have he':((e2:Int)=(s.size:Int) - 1)=False:=bZ (by omega)
    simp only[aK,hwl,he',hbb.symm,bP,aA,seval,jX]
    exact⟨sK,hE _ _ _⟩
   have he':((e2:Int)=(s.size:Int) - 1)=True:=cL (by omega)
   simp only[hwl,he',bM,aA,seval]
   refine(lF s e2 46 _).to ?_
   cases hd:cV (sb s) e2 46 with
   | false=>
    rw[xY hcl (fun h=>by rw[hd] at h;exact absurd h.2.2.1 (by decide))]
    simp only[aK,hbb.symm,aA,seval,jX]
    exact⟨sK,hE _ _ _⟩
   | true=>
    simp only[aA,seval,jX]
    refine(aD.rT (by rw[show iQ [AV.agg [.int .i64 hk,.int .i64 hn,.str hsn,.slice (hts.map Tm.av),.slice (b.map Tm.av)]]= [bY (.mk hk hn hsn hts,b)] by simp only[iQ,iW,AV.soft]];exact QO (.mk hk hn hsn hts,b) _):aD prog 284 _ _ _).to ?_
    by_cases hf:fmtC (.mk hk hn hsn hts,b)=s
    case neg=>
     rw[xY hcl (fun h=>hf (U4 h.2.2.2))]
     have hf':=bZ hf
     simp only[aK,hf',hbb.symm,bP,aA,seval,jX]
     exact⟨sK,hE _ _ _⟩
    rw[UJ hcl ⟨by rw[cO];exact hs,by rw[cO];exact he,hd,by rw[hf]⟩]
    have hf':=cL hf
    simp only[hf',bM,aA,seval,jX]
    refine(aD.rT (by rw[show iQ [AV.agg [.int .i64 hk,.int .i64 hn,.str hsn,.slice (hts.map Tm.av),.slice (b.map Tm.av)]]= [bY (.mk hk hn hsn hts,b)] by simp only[iQ,iW,AV.soft]];exact LQ (.mk hk hn hsn hts,b) hdn.1.2 (by have:=hdn.2.1;omega) (fun x hx=>(hdn.2.2 x hx).2) _):aD prog 203 _ _ _).to ?_
    rw[iW]
    simp only[aK,hbb.symm,aA,seval,jX]
    rw[←iW]
    exact⟨RD _,hE _ _ _⟩

end Go.AW
namespace Go.AW
def KE:List ByteArray:=[⟨#[97,112,112,40,91,93,44,65,44,65,41,46,10,97,112,112,40,91,65,124,66,93,44,67,44,91,65,124,68,93,41,58,45,97,112,112,40,66,44,67,44,68,41,46,10]⟩,
 ⟨#[109,101,109,40,65,44,91,65,124,66,93,41,46,10,109,101,109,40,65,44,91,66,124,67,93,41,58,45,109,101,109,40,65,44,67,41,46,10]⟩,
 ⟨#[112,40,49,41,46,10,112,40,50,41,46,10,112,40,51,41,46,10,113,40,65,41,58,45,112,40,65,41,44,65,62,49,44,33,46,10,114,40,65,44,66,41,58,45,112,40,65,41,44,112,40,66,41,46,10]⟩,
 ⟨#[108,101,110,40,91,93,44,48,41,46,10,108,101,110,40,91,65,124,66,93,44,67,41,58,45,108,101,110,40,66,44,68,41,44,67,32,105,115,32,68,43,49,46,10]⟩,
 ⟨#[109,97,120,40,65,44,66,44,65,41,58,45,65,62,61,66,44,33,46,10,109,97,120,40,65,44,66,44,66,41,46,10]⟩,
 ⟨#[101,40,97,44,98,41,46,10,101,40,98,44,99,41,46,10,101,40,99,44,100,41,46,10,116,40,65,44,66,41,58,45,101,40,65,44,66,41,46,10,116,40,65,44,66,41,58,45,101,40,65,44,67,41,44,116,40,67,44,66,41,46,10]⟩,
 ⟨#[108,111,111,112,58,45,108,111,111,112,46,10,111,107,46,10]⟩,
 ⟨#[102,97,99,40,48,44,49,41,58,45,33,46,10,102,97,99,40,65,44,66,41,58,45,65,62,48,44,67,32,105,115,32,65,45,49,44,102,97,99,40,67,44,68,41,44,66,32,105,115,32,65,42,68,46,10]⟩,
 ⟨#[115,40,65,41,58,45,65,61,102,40,66,41,44,97,114,103,40,49,44,65,44,66,41,44,66,61,49,46,10,115,40,65,41,58,45,118,97,114,40,65,41,44,65,61,110,111,110,101,46,10]⟩,
 ⟨#[114,101,118,40,91,93,44,65,44,65,41,46,10,114,101,118,40,91,65,124,66,93,44,67,44,68,41,58,45,114,101,118,40,66,44,91,65,124,67,93,44,68,41,46,10]⟩,
 ⟨#[98,97,100,40,65,41,58,45,66,32,105,115,32,65,43,102,111,111,44,67,61,66,46,10,98,105,103,40,65,41,58,45,65,32,105,115,32,57,57,57,43,49,46,10,117,110,40,65,41,58,45,110,111,115,117,99,104,40,65,41,46,10]⟩]
def W2:List ByteArray:=[⟨#[97,112,112,40,65,44,66,44,91,49,44,50,93,41]⟩,
 ⟨#[97,112,112,40,91,49,93,44,91,50,93,44,65,41]⟩,
 ⟨#[109,101,109,40,65,44,91,97,44,98,44,99,93,41]⟩,
 ⟨#[113,40,65,41]⟩,
 ⟨#[114,40,65,44,66,41,44,65,62,66]⟩,
 ⟨#[108,101,110,40,91,97,44,98,44,99,93,44,65,41]⟩,
 ⟨#[109,97,120,40,51,44,50,44,65,41]⟩,
 ⟨#[109,97,120,40,65,44,50,44,51,41]⟩,
 ⟨#[116,40,97,44,65,41]⟩,
 ⟨#[108,111,111,112]⟩,
 ⟨#[111,107,44,33]⟩,
 ⟨#[102,97,99,40,52,44,65,41]⟩,
 ⟨#[115,40,65,41]⟩,
 ⟨#[114,101,118,40,91,49,44,50,44,51,93,44,91,93,44,65,41]⟩,
 ⟨#[98,97,100,40,65,41]⟩,
 ⟨#[98,105,103,40,65,41]⟩,
 ⟨#[117,110,40,65,41]⟩,
 ⟨#[112,40,65,41,44,33,44,112,40,66,41]⟩,
 ⟨#[65,61,102,40,66,44,67,41,44,97,114,103,40,49,44,65,44,68,41]⟩,
 ⟨#[109,101,109,40,65,44,91,49,44,50,93,41,44,109,101,109,40,66,44,91,65,44,51,93,41]⟩,
 ⟨#[65,32,105,115,32,51,47,47,48]⟩,
 ⟨#[116,114,117,101]⟩,
 ⟨#[109,101,109,40,65,44,66,41]⟩,
 ⟨#[112,40,65,41,44,65,92,61,50]⟩]
def GH:List (List ByteArray):=[[⟨#[97,112,112,40,65,44,66,44,91,49,44,50,93,41]⟩,⟨#[97,112,112,40,91,49,93,44,91,50,124,65,93,44,66,41]⟩,⟨#[97,112,112,40,65,44,91,49,93,44,65,41]⟩],
 [⟨#[109,101,109,40,65,44,91,97,44,98,44,99,93,41]⟩,⟨#[109,101,109,40,65,44,91,49,44,50,93,41,44,109,101,109,40,66,44,91,65,44,51,93,41]⟩,⟨#[109,101,109,40,65,44,66,41]⟩],
 [⟨#[113,40,65,41]⟩,⟨#[114,40,65,44,66,41,44,65,62,66]⟩,⟨#[112,40,65,41,44,33,44,112,40,66,41]⟩,⟨#[114,40,65,44,65,41]⟩],
 [⟨#[108,101,110,40,91,97,44,98,44,99,93,44,65,41]⟩,⟨#[108,101,110,40,65,44,50,41]⟩],
 [⟨#[109,97,120,40,51,44,50,44,65,41]⟩,⟨#[109,97,120,40,65,44,50,44,51,41]⟩,⟨#[109,97,120,40,49,44,50,44,65,41]⟩],
 [⟨#[116,40,97,44,65,41]⟩,⟨#[116,40,65,44,100,41]⟩,⟨#[101,40,65,44,66,41]⟩],
 [⟨#[108,111,111,112]⟩,⟨#[111,107,44,33]⟩,⟨#[111,107,44,108,111,111,112]⟩],
 [⟨#[102,97,99,40,52,44,65,41]⟩,⟨#[102,97,99,40,48,44,65,41]⟩,⟨#[102,97,99,40,55,44,65,41]⟩],
 [⟨#[115,40,65,41]⟩,⟨#[115,40,66,41,44,66,61,102,40,49,41]⟩],
 [⟨#[114,101,118,40,91,49,44,50,44,51,93,44,91,93,44,65,41]⟩,⟨#[114,101,118,40,65,44,91,93,44,91,49,93,41]⟩],
 [⟨#[98,97,100,40,65,41]⟩,⟨#[98,105,103,40,65,41]⟩,⟨#[117,110,40,65,41]⟩]]
def UI(s:ByteArray):Bool:=decide (s.size≤200)&&match z8 (sb s) with | some l=>decide (2≤l.length)&&decide (l.length≤20) | none=>false
theorem bB8:KE.all UI=true:=by decide +kernel
theorem bB9:KE.all (fun s=>match z8 (sb s) with | some l=>nB l | none=>false)=true:=by decide +kernel
theorem bB6:GH.all (fun l=>decide (1≤l.length)&&l.all (fun s=>decide (s.size≤1000)))=true:=by decide +kernel
theorem bB7(y:List ByteArray)(h:y∈GH):y.length≤4:=by
 have h2:(GH.all fun l=>decide (l.length≤4))=true:=by decide +kernel
 simpa using dW.1 h2 y h
end Go.AW
namespace Go.AW
open Go.Proofs.Tryz
def mQ(p:List UInt8):AV:=.str (ba p)
theorem aOP(l:List (List UInt8)):∀e∈l.map mQ,e.width=1:=by intro e h;simp only[cB] at h;obtain⟨t,_,rfl⟩:=h;rfl
theorem a8M(l:List (List UInt8)):∀e∈l.map mQ,e.cD=false:=by intro e h;simp only[cB] at h;obtain⟨t,_,rfl⟩:=h;rfl
abbrev J0:=zi aW (zi lH (zi cW pP))
set_option maxHeartbeats 1000000 in
theorem aWR(s:ByteArray)(c:Nat)(hs:s.size≤1048576)(st:aB):aD prog 217 [.str s,.int .u8 (c:Int)] st (fun r st'=>r=.slice ((oL c (sb s) []).map mQ)∧st'=st):=by
 generalize hT:oL c (sb s) []=T
 refine aD.m8 (aD.fin ?_)
 refine wF [1000000] 2 func217 ntmps217 rfl rfl ?_
 intro _
 simp only[aA,seval,J0]
 refine iJ (σ:=List (List UInt8)×Nat×Nat×Nat) [1000000] [0,1,4] (fun x=>((x.2.2.1≤s.size∧x.2.1≤x.2.2.1∧x.1++oL c ((sb s).drop x.2.2.1) (((sb s).drop x.2.1).take (x.2.2.1 - x.2.1))=T)∨(x.2.2.1=s.size+1∧x.2.1≤s.size+1∧x.1=T))∧x.1.length≤x.2.2.1∧(x.1.map mQ≠[]→st x.2.2.2=none)) (fun x=>[(5,bS 1 x.2.2.2 (x.1.map mQ)),(6,.int .i64 (x.2.1:Int)),(7,.int .i64 (x.2.2.1:Int))]) (fun x=>bE st x.2.2.2 (x.1.map mQ)) (fun x=>s.size+1 - x.2.2.1) (by decide +kernel) ⟨([],0,0,0),⟨Or.inl ⟨iU _,cU _,hT⟩,iU _,by simp⟩,aO.mk (by simp only[aY,iV,aA,↓aS,seval])⟩ ?_
 rintro⟨out,f,i,b⟩ ⟨ht,hlen,hb⟩
 simp only at ht hlen hb ⊢
 by_cases hi:i≤s.size
 case neg=>
  obtain⟨h1,h2,rfl⟩:i=s.size+1∧f≤s.size+1∧out=T:=by
   rcases ht with h | h
   · exact absurd h.1 hi
   · exact h
  have hi':((i:Int)≤(s.size:Int))=False:=bZ (by omega)
  simp only[hi',bP,aA,seval,J0]
  exact⟨b,_,st,rfl,hb,a8M _,⟨1,aOP _⟩,by rw[oI],aL.refl _⟩
 obtain⟨-,hfi,ht⟩:i≤s.size∧f≤i∧out++oL c ((sb s).drop i) (((sb s).drop f).take (i - f))=T:=by
  rcases ht with h | h
  · exact h
  · omega
 have hi':((i:Int)≤(s.size:Int))=True:=cL (by omega)
 have hw:=bF (n:=(i:Int)+1)
 have hsl:=fun(φ:AF) (y z:Operand) (h:φ.eval y=.int .i64 (f:Int)) (h':φ.eval z=.int .i64 (i:Int))=>JK (s:=s) h h' hfi hi
 rw[HJ] at hsl
 generalize hp:((sb s).drop f).take (i - f)=p at *
 have MQ:∀(K:AV→aB→Prop),(∀b',((out++ [p]).map mQ≠[]→st b'=none)→K (bS 1 b' ((out++ [p]).map mQ)) (bE st b' ((out++ [p]).map mQ)))→jC prog 148 (bE st b (out.map mQ)) (bS 1 b (out.map mQ)) (.fslice [.str (ba p)]) K:=by
  intro K hK
  refine eO sO L4 L7 rfl rfl (fQ rfl rfl) (aOP _) hb (by simp only[aF,aU,aZ];omega) (by simp only[aF,aU,aZ];omega) (fun b' hb'=>?_)
  rw[show out.map mQ++ [AV.str (ba p)]=(out++ [p]).map mQ by simp [mQ]] at hb' ⊢
  exact hK b' hb'
 by_cases hie:i=s.size
 case pos=>
  have MZ:((i:Int)=(s.size:Int))=True:=cL (by omega)
  rw[A6 (by rw[cO];omega)] at ht
  simp only[oL] at ht
  simp only[hi',MZ,hsl,bM,aA,seval,J0]
  refine MQ _ fun b' hb'=>?_
  simp only[hw,aA,seval]
  refine⟨(out++ [p],i+1,i+1,b'),by simp only;omega,⟨Or.inr ⟨by simp only;omega,by simp only;omega,ht⟩,by simp only[dN,aU,aZ];omega,hb'⟩,aO.mk (by simp only[aA,seval]<;>exact⟨rfl,rfl⟩)⟩
 have MZ:((i:Int)=(s.size:Int))=False:=bZ (by omega)
 obtain⟨x,hx⟩:=vL (s:=s) (n:=i) (by omega)
 have hix:=sU (P:=prog) (t:=9) rZ hx
 obtain⟨hx1,hx2⟩:=fA.1 hx
 rw[qS hx1,hx2] at ht
 unfold oL at ht
 by_cases hxc:x.toNat=c
 · rw[aG hxc] at ht
   have TL:((x.toNat:Int)=(c:Int))=True:=cL (by omega)
   simp only[hi',MZ,hsl,hix,TL,bM,bP,aA,seval,J0]
   refine MQ _ fun b' hb'=>?_
   simp only[hw,aA,seval]
   refine⟨(out++ [p],i+1,i+1,b'),by simp only;omega,⟨Or.inl ⟨by simp only;omega,cU _,by rw[←ht];simp⟩,by simp only[dN,aU,aZ];omega,hb'⟩,aO.mk (by simp only[aA,seval]<;>exact⟨rfl,rfl⟩)⟩
 · rw[aE hxc] at ht
   have TL:((x.toNat:Int)=(c:Int))=False:=bZ (by omega)
   have hp':((sb s).drop f).take (i+1 - f)=p++ [x]:=by
    rw[show i+1 - f=(i - f)+1 by omega,dY,hp,PI,show f+(i - f)=i by omega,hx];try rfl
   simp only[hi',MZ,hw,hix,TL,bM,bP,aA,seval,J0]
   refine⟨(out,f,i+1,b),by simp only;omega,⟨Or.inl ⟨by simp only;omega,by simp only;omega,by simp only;rw[hp'];exact ht⟩,by simp only;omega,hb⟩,aO.mk (by simp only[aA,seval]<;>rfl)⟩
def G0(o:Option (List Cl))(r:AV):Prop:=match o with | some l=>r=.tup [.slice (l.map bY),.bool true] | none=>r=.tup [.slice [],.bool false]
theorem aA1:∀(ls:List (List UInt8)) (acc r:List Cl),(∀c∈acc,vM c∧lS c=true)→B9 ls acc=some r→(∀c∈r,vM c∧lS c=true)∧r.length=acc.length+ls.length
 | [],acc,r,h,h1=>by cases h1;exact⟨h,rfl⟩
 | l::ls,acc,r,h,h1=>by
  unfold B9 at h1
  split at h1
  · cases h1
  rename_i c h2
  have:=aA1 ls (acc++ [c]) r (by intro x hx;rw[eH,DI] at hx;rcases hx with hx | rfl;exact h x hx;exact aOO h2) h1
  refine⟨this.1,?_⟩
  rw[this.2]
  simp only[dN,aU,aZ]
  omega
abbrev AP:=zi aW (zi cF (zi lH (zi AS (zi cW (zi bBR (zi jM (zi pP mT)))))))
set_option maxHeartbeats 1000000 in
theorem aVR(s:ByteArray)(hs:s.size≤100000)(st:aB):aD prog 130 [.str s] st (fun r st'=>G0 (z8 (sb s)) r∧st'=st):=by
 generalize hP:z8 (sb s)=T
 unfold z8 at hP
 simp only at hP
 have zP:=fun st=>aWR s 10 (by omega) st
 rw[show((10:Nat):Int)=10 from rfl] at zP
 have hne:=aA6 10 (sb s) []
 have hcl:=RE 10 (sb s) []
 rw[cO] at hcl
 generalize oL 10 (sb s) []=L at *
 obtain⟨m,hm⟩:∃m,L.length=m+1:=⟨L.length - 1,by have:=PK.2 hne;omega⟩
 obtain⟨y,hy⟩:∃y,L[m]?=some y:=⟨_,d4 (by omega)⟩
 have hgl:L.getLast?=some y:=by rw[XM,hm];exact hy
 rw[hgl] at hP
 refine aD.drop (Q:=G0 T) (aD.fin ?_)
 have vW:T=none→∀(b:Nat) (l:List Cl) (s0:aB),(l.map bY≠[]→s0 b=none)→aL s0 st→∃b2 l2 s1,bE s0 b (l.map bY)=bE s1 b2 l2∧(l2≠[]→s1 b2=none)∧(∀e∈l2,e.cD=false)∧iT l2∧aL s1 st∧G0 T ((AV.tup [.fslice [],.bool false]).fin b2 l2):=by
  rintro rfl b l s0 hb hD
  exact⟨b,_,s0,rfl,hb,RB _,⟨5,HU _⟩,hD,by simp only[G0,jS,rB,nS,bA,aY]⟩
 refine wF [1000000] 1 func130 ntmps130 rfl rfl ?_
 intro _
 simp only[aA,seval,AP]
 refine(zP _).to ?_
 have hat:=bH (av:=mQ) sO hy rfl
 have hw0:=nJ (x:=(L.length:Int) - 1) (m:=m) (by omega) (by omega)
 by_cases h21:21<L.length
 case pos=>
  rw[aG (Or.inl h21)] at hP
  have MM:((21:Int)<(L.length:Int))=True:=cL (by omega)
  simp only[aF,MM,bM,aA,seval,AP]
  exact vW hP.symm 0 [] st (by simp) (aL.refl _)
 have MM:((21:Int)<(L.length:Int))=False:=bZ (by omega)
 by_cases hye:y= []
 case neg=>
  rw[aG (Or.inr (by simpa using hye))] at hP
  have TM:(ba y=⟨#[]⟩)=False:=bZ fun h=>hye (by have:=eA sb h;exact this)
  simp only[aF,MM,hw0,hat,mQ,TM,bP,aA,seval,AP]
  exact vW hP.symm 0 [] st (by simp) (aL.refl _)
 rw[aE (by rintro(h | h);exact h21 h;exact h (by rw[hye]))] at hP
 have TM:(ba y=⟨#[]⟩)=True:=cL (by rw[hye])
 simp only[aF,MM,hw0,hat,mQ,TM,bM,bP,aA,seval,AP]
 refine iJ (σ:=Nat×List Cl×Nat) [1000000] [5] (fun x=>x.1≤m∧B9 (L.dropLast.drop x.1) x.2.1=T∧x.2.1.length=x.1∧(∀c∈x.2.1,vM c)∧(x.2.1.map bY≠[]→st x.2.2=none)) (fun x=>[(2,.fslice []),(3,.bool false),(4,bS 5 x.2.2 (x.2.1.map bY)),(6,.int .i64 (x.1:Int))]) (fun x=>bE st x.2.2 (x.2.1.map bY)) (fun x=>m - x.1) (by decide +kernel) ⟨(0,[],0),⟨iU _,hP,rfl,by simp,by simp⟩,aO.mk (by simp only[aY,iV,aA,↓aS,seval])⟩ ?_
 rintro⟨i,acc,b⟩ ⟨hi,ht,hlen,hdn,hb⟩
 simp only at hi ht hlen hdn hb ⊢
 have hdl:L.dropLast.length=m:=by rw[List.length_dropLast,hm];try rfl
 have hw1:=bF (n:=(i:Int)+1)
 by_cases him:i<m
 case neg=>
  have II:((i:Int)+1<(L.length:Int))=False:=bZ (by omega)
  rw[A6 (by omega)] at ht
  simp only[B9] at ht
  simp only[aF,II,hw1,mZ,l9,uX,bP,aA,seval,AP]
  exact⟨b,_,st,rfl,hb,RB _,⟨5,HU _⟩,aL.refl _,by rw[←ht];simp only[G0,jS,rB,kJ,bA,aY]⟩
 have II:((i:Int)+1<(L.length:Int))=True:=cL (by omega)
 obtain⟨z,hz⟩:∃z,L[i]?=some z:=⟨_,d4 (by omega)⟩
 have hz2:L.dropLast[i]?=some z:=by rw[List.getElem?_dropLast,aG (by omega)];exact hz
 obtain⟨hz3,hz4⟩:=fA.1 hz2
 rw[qS hz3,hz4] at ht
 unfold B9 at ht
 have a3X:=bH (av:=mQ) sO hz rfl
 have hpc:=aVQ (ba z)
 rw[show sb (ba z)=z from rfl] at hpc
 simp only[aF,II,hw1,a3X,mQ,bM,aA,seval,AP]
 refine(hpc _).to ?_
 cases hc:pL z with
 | none=>
  rw[hc] at ht
  simp only[A3,iW,aA,↓aS,seval,AP]
  exact vW ht.symm b acc st hb (aL.refl _)
 | some c=>
  rw[hc] at ht
  simp only at ht
  have hcd:=(aOO hc).1
  have hca:=zC c
  have hcw:=k8 c
  have hcj:=BR c
  have hcs:=LW c
  have hcc:=aZA c
  simp only[A3,hca,hcw,hcj,hcs,aA,↓aS,seval,AP]
  refine eO rA L5 L8 rfl rfl (fQ hcw hcs) (HU _) hb (by simp only[aF,aU,aZ];omega) (by simp only[aF,aU,aZ];omega) (fun b' hb'=>?_)
  rw[show acc.map bY++ [bY c]=(acc++ [c]).map bY by simp] at hb' ⊢
  simp only[hw1,aA,seval]
  refine⟨(i+1,acc++ [c],b'),by simp only;omega,⟨by simp only;omega,ht,by simp only[dN,aU,aZ];omega,?_,hb'⟩,aO.mk (by simp only[aA,seval]<;>rfl)⟩
  intro x hx
  rw[eH,DI] at hx
  rcases hx with hx | rfl
  · exact hdn x hx
  · exact hcd
def G1(o:Option (List Tm)):AV:=match o with | some l=>.tup [.slice (l.map Tm.av),.bool true] | none=>.tup [.slice [],.bool false]
theorem a8K{l:List UInt8}{q:List Tm}(h:nY l=some q):g8 q=true∧∀t∈q,Dn t:=by
 unfold nY at h
 split at h
 · cases h
 rename_i g e h1
 split at h
 · rename_i h2
   cases h
   exact⟨h2.2.2,(MK h2.1 7 0 [] _ _ (iU _) (by simp) h1).2.2.1⟩
 · cases h
abbrev wG:=zi aW (zi cF (zi cW (zi cA bR)))
set_option maxHeartbeats 1000000 in
theorem ZG(s:ByteArray)(st:aB):aD prog 132 [.str s] st (fun r st'=>r=G1 (nY (sb s))∧st'=st):=by
 refine aD.m8 (aD.fin ?_)
 have vW:nY (sb s)=none→∃b l s0,st=bE s0 b l∧(l≠[]→s0 b=none)∧(∀e∈l,e.cD=false)∧iT l∧(AV.tup [.fslice [],.bool false]).fin b l=G1 (nY (sb s))∧aL s0 st:=fun h=>by
  rw[h]
  exact⟨0,[],st,rfl,by simp,by simp,⟨4,by simp⟩,by simp only[G1,jS,rB,nS,bA,aY],aL.refl _⟩
 refine wF [1000000] 1 func132 ntmps132 rfl rfl ?_
 intro _
 by_cases hs:s.size≤1000
 case neg=>
  have hs':((1000:Int)<(s.size:Int))=True:=cL (by omega)
  have hP:nY (sb s)=none:=by
   unfold nY
   split
   · rfl
   · rw[aE fun h=>hs (by rw[←cO];exact h.1)]
  simp only[hs',bM,aA,seval,wG]
  exact vW hP
 have hs':((1000:Int)<(s.size:Int))=False:=bZ (by omega)
 have h0:=fun st=>Z6 hs 0 (iU _) st
 rw[show((0:Nat):Int)=0 from rfl] at h0
 simp only[hs',bP,aA,seval,wG]
 refine(h0 _).mono ?_
 rintro r st ⟨hr,rfl⟩
 cases hG:uC (sb s) 7 0 [] with
 | none=>
  have hP:nY (sb s)=none:=by unfold nY;rw[hG]
  rw[hG] at hr
  simp only[tK] at hr
  subst hr
  have he:((-1:Int)=(s.size:Int))=False:=bZ (by omega)
  simp only[he,bP,aA,seval,wG]
  exact vW hP
 | some p=>
  obtain⟨g,e⟩:=p
  rw[hG] at hr
  simp only[tK] at hr
  subst hr
  have hg:=MK (by rw[cO];exact hs) 7 0 [] _ _ (iU _) (by simp) hG
  rw[cO] at hg
  simp only[aA,seval,wG]
  by_cases he:e=s.size
  case neg=>
   have hP:nY (sb s)=none:=by
    unfold nY
    rw[hG]
    simp only
    rw[aE fun h=>he (by rw[←cO];exact h.2.1)]
   have he':((e:Int)=(s.size:Int))=False:=bZ (by omega)
   simp only[he',bP,aA,seval,wG]
   exact vW hP
  have he':((e:Int)=(s.size:Int))=True:=cL (by omega)
  simp only[he',bM,aA,seval]
  refine(Q4 g _).to ?_
  cases hq:g8 g with
  | false=>
   have hP:nY (sb s)=none:=by
    unfold nY
    rw[hG]
    simp only
    rw[aE fun h=>by rw[hq] at h;exact absurd h.2.2 (by decide)]
   simp only[aA,seval,wG]
   exact vW hP
  | true=>
   have hP:nY (sb s)=some g:=by
    unfold nY
    rw[hG]
    simp only
    rw[aG ⟨by rw[cO];exact hs,by rw[cO];exact he,hq⟩]
   have hg6:g.length≤6:=by
    simp only[g8,bV,bK] at hq
    exact hq.1
   simp only[aA,seval,wG]
   refine dX (σ:=Nat) [1000000] [2,3,4] g (fun i b=>((g.take i).map Tm.av≠[]→st b=none)) (fun i b=>[(6,bS 4 b ((g.take i).map Tm.av)),(7,.int .i64 i)]) (fun i b=>bE st b ((g.take i).map Tm.av)) (by decide +kernel) ⟨0,fun h=>absurd rfl h,aO.mk (by simp only[iV,aA,↓aS,seval])⟩ (fun i x b hx hlt bL hdr hinv=>?_) (fun b hge hinv=>?_)
   case refine_1=>
    have hw:=bF (n:=(i:Int)+1)
    have cM:((g.take i).map Tm.av).length=i:=by simp only[aF,c7];omega
    have htk:(g.take i).map Tm.av++ [x.av]=(g.take (i+1)).map Tm.av:=by rw[dY,hx];simp
    have hat:=bH (av:=Tm.av) bQ hx (aN x)
    simp only[bL,aF,hat,a7,aN,aA,seval,wG]
    refine(HM x _ (hg.2.2.1 x (cH hx)).2).to ?_
    simp only[a7,aN,cP,aA,seval,wG]
    refine eO bQ jE jF rfl rfl (fQ (aN _) (cI _)) (gO _) hinv (by simp only[cM,aU,aZ];omega) (by simp only[cM,aU,aZ];omega) (fun b' hb'=>?_)
    rw[htk] at hb' ⊢
    simp only[hw,aA,seval]
    exact⟨b',hb',aO.mk (by simp only[aA,seval])⟩
   rw[dS] at hinv ⊢
   simp only[aF,hge,mZ,l9,uX,aA,seval,wG]
   rw[hP]
   exact⟨b,_,st,rfl,hinv,oV _,⟨4,gO _⟩,by simp only[G1,jS,rB,kJ,bA,aY],aL.refl _⟩
end Go.AW
namespace Go.AW
section
variable {h:bJ} {st:aB}
end
def PX(n k:Nat)(q o:AV):Prop:=(k≤n∧∃b w,q=.mslice b 0 n w∧o=.mslice b (k*w) (n - k) w)∨(k=n∧o=.fslice [])
theorem aP6{n k:Nat}{q o:AV}(h:PX n k q o):o.isAgg=false∧o.cD=false∧o.width=1∧o.cells= [o]∧o.storable=true:=by
 rcases h with ⟨_,b,w,_,rfl⟩ | ⟨_,rfl⟩<;>exact⟨rfl,rfl,rfl,rfl,rfl⟩

end Go.AW
namespace Go.AW
open Go.Proofs.Tryz
theorem aXQ(st:aB):aD prog 129 [] st (fun r st'=>r=.slice (KE.map AV.str)∧st'=st):=by
 refine aD.done ?_
 refine wF [1000000] 0 func129 ntmps129 rfl rfl ?_
 intro _
 simp only[aA,seval,pP]
 exact⟨rfl,aL.refl _⟩
theorem aX3(st:aB):aD prog 219 [] st (fun r st'=>r=.slice (W2.map AV.str)∧st'=st):=by
 refine aD.done ?_
 refine wF [1000000] 0 func219 ntmps219 rfl rfl ?_
 intro _
 simp only[aA,seval,pP]
 exact⟨rfl,aL.refl _⟩
end Go.AW
