/- The reference's writer as data. -/
import Derived.Test.YtimfffmcljmfgaaGreatDoorUuo
import Derived.Test.YtimfffmcljmfgaaGreatDoorUui
import Derived.Test.YtimfffmcljmfgaaGreatDoorUuj
import Derived.Test.YtimfffmcljmfgaaGreatDoorUun
import Derived.Shelf.LaysM
import Derived.Shelf.Strconv.Itoa3
import Derived.Test.YtimfffmcljmfgaaGreatDoorUuk
set_option linter.unusedSimpArgs false
set_option linter.unusedVariables false
set_option maxRecDepth 100000
namespace Go.AW
def kM:Nat→Nat→ByteArray→ByteArray
 | 0,_,acc=>acc
 | f+1,n,acc=>if 9<n then kM f (n / 10) (⟨#[UInt8.ofNat (48+n % 10)]⟩++acc) else⟨#[UInt8.ofNat (48+n)]⟩++acc
def m8(n:Int):ByteArray:=if n<0 then⟨#[45]⟩++kM 20 (-n).toNat ⟨#[]⟩ else kM 20 n.toNat ⟨#[]⟩
def LF(n:Int):ByteArray:=⟨#[UInt8.ofNat (65+n.toNat)]⟩
def rH(t:Tm):Bool:=decide (t.k=3)&&(decide (t.s=⟨#[46]⟩)&&decide (t.ts.length=2))
def LH(t:Tm):Bool:=decide (t.k=3)&&(decide (t.s=⟨#[91,93]⟩)&&decide (t.ts.length=0))
def v6(t:Tm):Bool:=decide (t.k=3)&&(decide (t.ts.length=2)&&decide (0<dQ t.s))
def D7(t:Tm):Bool:=decide (t.k=3)&&(decide (t.ts.length=0)&&decide (0<dQ t.s))
def N7(t:Tm):Bool:=decide (t.k=3)&&decide (0<t.ts.length)
def oK(t:Tm)(i:Nat):Tm:=t.ts.getD i a4B
 where a4B:Tm:=.mk 0 0 ⟨#[]⟩ []
def lE(T:Tm→ByteArray):List Tm→ByteArray
 | []=>⟨#[]⟩
 | x::xs=>xs.foldl (fun o y=>(o++⟨#[44]⟩)++T y) (⟨#[]⟩++T x)
def spine:Nat→Tm→List Tm×Tm
 | 0,t=>([],t)
 | n+1,t=>if rH t then(oK t 0::(spine n (oK t 1)).1,(spine n (oK t 1)).2) else([],t)
def rL(nm:ByteArray):ByteArray:=if iV nm then(⟨#[32]⟩++nm)++⟨#[32]⟩ else nm
def LQ(l:List UInt8):Bool:=gC l 0 letter||(gC l 0 dT||(gC l 0 tF||(cT l 0 91||cT l 0 40)))
def tY(T:Tm→ByteArray)(t:Tm)(lv:Nat):ByteArray:=if v6 t&&decide (lv<dQ t.s) then(⟨#[40]⟩++T t)++⟨#[41]⟩ else T t
def AK(T:Tm→ByteArray)(t:Tm)(lv:Nat):ByteArray:=if D7 t then(⟨#[40]⟩++T t)++⟨#[41]⟩ else tY T t lv
def A6(T:Tm→ByteArray)(t:Tm)(lv:Nat):ByteArray:=if D7 t|| !LQ (sb (tY T t lv)) then(⟨#[40]⟩++tY T t lv)++⟨#[41]⟩ else tY T t lv
def HA(T:Tm→ByteArray)(p:List Tm×Tm):ByteArray:=if LH p.2 then(⟨#[91]⟩++lE T p.1)++⟨#[93]⟩ else(((⟨#[91]⟩++lE T p.1)++⟨#[124]⟩)++T p.2)++⟨#[93]⟩
def DO(t:Tm):ByteArray:=if t.k=1 then LF t.n else if t.k=2 then m8 t.n else t.s
def lvl(n:Nat):Nat:=if n=3 then 2 else n
def tx:Nat→Tm→ByteArray
 | 0,_=>⟨#[]⟩
 | n+1,t=>if rH t then HA (tx n) (spine n t) else if v6 t then(AK (tx n) (oK t 0) (lvl (dQ t.s))++rL t.s)++A6 (tx n) (oK t 1) (dQ t.s - 1)
  else if N7 t then((t.s++⟨#[40]⟩)++lE (tx n) t.ts)++⟨#[41]⟩ else DO t
theorem aQI{T:Tm→ByteArray}{l:List Tm}{i:Nat}{x:Tm}(hx:l[i]?=some x):lE T (l.take (i+1))=(if 0<i then lE T (l.take i)++⟨#[44]⟩ else lE T (l.take i))++T x:=by
 rw[fG,hx]
 cases l with
 | nil=>simp at hx
 | cons y l=>
  cases i with
  | zero=>simp at hx;subst hx;rfl
  | succ i=>
   rw[aH (by omega),uT]
   simp only[lE,BX,fL,List.foldl_append,yW,List.foldl_nil]
theorem dG(a b:ByteArray):(a++b).size=a.size+b.size:=ByteArray.size_append
theorem zP:∀(f n:Nat) (acc:ByteArray),(kM f n acc).size≤f+acc.size
 | 0,n,acc=>by simp [kM]
 | f+1,n,acc=>by
  unfold kM
  split
  · refine lA (zP f _ _) ?_
    rw[dG]
    show f+(1+acc.size)≤_
    omega
  · rw[dG]
    show 1+acc.size≤_
    omega
abbrev Ws (t:Tm):Prop:=∃d,t.shape d=true
theorem Ws.own{k n:Int}{s:ByteArray}{ts:List Tm}(h:Ws (.mk k n s ts)):eD k n s ts.length=true∧∀x∈ts,Ws x:=by
 obtain⟨d,h⟩:=h
 rw[Tm.A8,cA,cA,dW] at h
 exact⟨h.1.2,fun x hx=>⟨_,h.2 x hx⟩⟩
theorem HE{k n:Int}{s:ByteArray}{len:Int}(h:eD k n s len=true):(k=1∧0≤n∧n≤25∧s=⟨#[]⟩∧len=0)∨(k=2∧-999≤n∧n≤999∧s=⟨#[]⟩∧len=0)∨(k=3∧n=0∧x7 s=true∧len≤4):=by
 unfold eD at h
 by_cases h1:k=1
 · rw[gM h1] at h
   simp only[cond_true,cA,bJ] at h
   exact Or.inl ⟨h1,h.1.1.1,h.1.1.2,h.1.2,h.2⟩
 rw[fS h1] at h
 by_cases h2:k=2
 · rw[gM h2] at h
   simp only[cond_true,zO,cA,bJ] at h
   exact Or.inr (Or.inl ⟨h2,h.1.1.1,h.1.1.2,h.1.2,h.2⟩)
 rw[fS h2] at h
 by_cases h3:k=3
 · rw[gM h3] at h
   simp only[cond_true,zO,cA,bJ] at h
   exact Or.inr (Or.inr ⟨h3,h.1.1,h.1.2,h.2⟩)
 · rw[fS h3] at h
   cases h
theorem RB{s:ByteArray}(h:x7 s=true):1≤s.size∧s.size≤6:=by
 unfold x7 at h
 rw[pS] at h
 rcases h with h | h
 · simp only[sU,cA,bJ] at h
   omega
 · rw[List.any_eq_true] at h
   obtain⟨x,hx,h⟩:=h
   rw[bJ] at h
   subst h
   revert hx
   revert s
   decide
theorem Ws.size{t:Tm}(h:Ws t):t.s.size≤6∧(t.k=3→1≤t.s.size):=by
 obtain⟨k,n,s,ts⟩:=t
 rcases HE h.own.1 with h | h | h
 · rw[show(Tm.mk k n s ts).s=s from rfl,h.2.2.2.1];exact⟨by decide,fun h3=>by have:k=3:=h3;omega⟩
 · rw[show(Tm.mk k n s ts).s=s from rfl,h.2.2.2.1];exact⟨by decide,fun h3=>by have:k=3:=h3;omega⟩
 · have:=RB h.2.2.1;exact⟨this.2,fun _=>this.1⟩
theorem pO(t:Tm):1≤t.nodes:=by obtain⟨k,n,s,ts⟩:=t;rw[Tm.gI];omega
theorem aK4{x:Tm}{l:List Tm}(h:x∈l):x.nodes≤bF Tm.nodes l:=by
 induction l with
 | nil=>cases h
 | cons y l ih=>
  simp only[bF]
  rcases cX.1 h with rfl | h
  · omega
  · have:=ih h;omega
theorem aM2:∀(l:List Tm) (i:Nat),bF Tm.nodes (l.take i)≤bF Tm.nodes l
 | [],i=>by simp
 | x::l,0=>by simp [bF]
 | x::l,i+1=>by simp only[uT,bF];have:=aM2 l i;omega
theorem JN{T:Tm→ByteArray}{l:List Tm}(h:∀x∈l,(T x).size≤32*x.nodes):(lE T l).size≤32*bF Tm.nodes l+l.length:=by
 have hg:∀(xs:List Tm) (o:ByteArray),(∀x∈xs,(T x).size≤32*x.nodes)→(xs.foldl (fun o y=>(o++⟨#[44]⟩)++T y) o).size≤o.size+32*bF Tm.nodes xs+xs.length:=by
  intro xs
  induction xs with
  | nil=>intro o _;simp [bF]
  | cons x xs ih=>
   intro o hx
   refine lA (ih _ fun y hy=>hx y (by simp [hy])) ?_
   rw[dG,dG]
   have:=hx x (by simp)
   simp only[bF,aS]
   show o.size+1+_+_+_≤_
   omega
 cases l with
 | nil=>exact jD _
 | cons x l=>
  refine lA (hg l _ fun y hy=>h y (by simp [hy])) ?_
  rw[dG]
  have:=h x (by simp)
  simp only[bF,aS]
  show 0+_+_+_≤_
  omega
theorem D0{t:Tm}(h:rH t=true):∃n x y,t=.mk 3 n ⟨#[46]⟩ [x,y]:=by
 obtain⟨k,n,s,ts⟩:=t
 simp only[rH,cA,bJ] at h
 simp only[Tm.k,Tm.s,Tm.ts] at h
 obtain⟨rfl,rfl,h3⟩:=h
 match ts,h3 with
 | [x,y],_=>exact⟨n,x,y,rfl⟩
theorem DN{k n:Int}{s:ByteArray}{x y:Tm}:oK (.mk k n s [x,y]) 0=x∧oK (.mk k n s [x,y]) 1=y:=⟨rfl,rfl⟩
theorem SM:∀(n:Nat) (t:Tm),Ws t→(∀x∈(spine n t).1,Ws x)∧Ws (spine n t).2∧bF Tm.nodes (spine n t).1+(spine n t).1.length+(spine n t).2.nodes=t.nodes
 | 0,t,h=>⟨by simp [spine],h,by simp [spine,bF]⟩
 | n+1,t,h=>by
  unfold spine
  split
  · rename_i hp
    obtain⟨m,x,y,rfl⟩:=D0 hp
    have hk:=h.own.2
    obtain⟨h1,h2,h3⟩:=SM n y (hk y (by simp))
    simp only[DN]
    refine⟨fun z hz=>?_,h2,?_⟩
    · rcases cX.1 hz with rfl | hz
      · exact hk z (by simp)
      · exact h1 z hz
    · simp only[bF,aS,Tm.gI]
      omega
  · exact⟨by simp,h,by simp [bF]⟩
theorem Q5{t:Tm}(h:v6 t=true):∃n s x y,t=.mk 3 n s [x,y]∧0<dQ s:=by
 obtain⟨k,n,s,ts⟩:=t
 simp only[v6,cA,bJ] at h
 simp only[Tm.k,Tm.s,Tm.ts] at h
 obtain⟨rfl,h2,h3⟩:=h
 match ts,h2 with
 | [x,y],_=>exact⟨n,s,x,y,rfl,h3⟩
theorem OE{T:Tm→ByteArray}{t:Tm}(lv:Nat):(T t).size≤(tY T t lv).size∧(tY T t lv).size≤(T t).size+2:=by
 unfold tY
 split
 · rw[dG,dG];show _≤1+_+1∧1+_+1≤_;omega
 · omega
theorem aZY{T:Tm→ByteArray}{t:Tm}(lv:Nat):(T t).size≤(AK T t lv).size∧(AK T t lv).size≤(T t).size+2:=by
 unfold AK
 split
 · rw[dG,dG];show _≤1+_+1∧1+_+1≤_;omega
 · exact OE lv
theorem a15{T:Tm→ByteArray}{t:Tm}(lv:Nat):(T t).size≤(A6 T t lv).size∧(A6 T t lv).size≤(T t).size+4:=by
 have:=OE (T:=T) (t:=t) lv
 unfold A6
 split
 · rw[dG,dG];show _≤1+_+1∧1+_+1≤_;omega
 · omega
theorem MZ:∀(n:Nat) (t:Tm),Ws t→(tx n t).size≤32*t.nodes
 | 0,t,_=>jD _
 | n+1,t,h=>by
  have hT:=MZ n
  unfold tx
  split
  · rename_i hp
    obtain⟨h1,h2,h3⟩:=SM n t h
    have ha:=JN (T:=tx n) (l:=(spine n t).1) fun x hx=>hT x (h1 x hx)
    have hb:=hT _ h2
    have hq:=pO (spine n t).2
    have hl:1≤(spine n t).1.length∨n=0:=by
     cases n with
     | zero=>exact Or.inr rfl
     | succ m=>left;unfold spine;rw[aH hp];simp
    have h4:3≤t.nodes:=by obtain⟨m,x,y,rfl⟩:=D0 hp;simp only[Tm.gI,bF];have:=pO x;have:=pO y;omega
    have hb2:1≤(spine n t).1.length∨((tx n (spine n t).2).size=0∧(lE (tx n) (spine n t).1).size=0):=by
     rcases hl with hl | rfl
     · left;omega
     · right;exact⟨rfl,rfl⟩
    unfold HA
    split
    · rw[dG,dG];show 1+_+1≤_;omega
    · rw[dG,dG,dG,dG];show 1+_+1+_+1≤_;omega
  split
  · rename_i hp
    obtain⟨m,s,x,y,rfl,hs⟩:=Q5 hp
    have hk:=h.own.2
    have h6:=h.size.1
    simp only[DN,Tm.gI,bF,Tm.s]
    have hx:=hT x (hk x (by simp))
    have hy:=hT y (hk y (by simp))
    have hl:=(aZY (T:=tx n) (t:=x) (lvl (dQ s))).2
    have hr:=(a15 (T:=tx n) (t:=y) (dQ s - 1)).2
    rw[dG,dG]
    have hsp:(rL s).size≤8:=by
     have h6:s.size≤6:=h6
     unfold rL
     split
     · rw[dG,dG];show 1+_+1≤_;omega
     · omega
    show _+(rL s).size+_≤_
    omega
  split
  · obtain⟨k,m,s,ts⟩:=t
    have ha:=JN (T:=tx n) (l:=ts) fun x hx=>hT x (h.own.2 x hx)
    have h6:s.size≤6:=h.size.1
    have h4:ts.length≤4:=by rcases HE h.own.1 with h | h | h<;>omega
    rw[dG,dG,dG,Tm.gI]
    simp only[Tm.s,Tm.ts]
    show s.size+1+_+1≤_
    omega
  · have h6:=h.size.1
    have hp:=pO t
    unfold DO
    split
    · show 1≤_;omega
    · split
      · unfold m8
        split
        · rw[dG];have:=zP 20 (-t.n).toNat ⟨#[]⟩;have h0:(⟨#[]⟩:ByteArray).size=0:=rfl;show 1+_≤_;omega
        · have:=zP 20 t.n.toNat ⟨#[]⟩;have h0:(⟨#[]⟩:ByteArray).size=0:=rfl;omega
      · omega
def wK:Nat→Tm→Tm
 | 0,t=>t
 | i+1,t=>wK i (oK t 1)
theorem aMS:∀(i:Nat) (t:Tm),wK (i+1) t=oK (wK i t) 1
 | 0,t=>rfl
 | i+1,t=>by rw[wK,aMS i];try rfl
theorem aMT:∀(n:Nat) (t:Tm) (i:Nat) (x:Tm),(spine n t).1[i]?=some x→rH (wK i t)=true∧oK (wK i t) 0=x
 | 0,t,i,x,h=>by simp [spine] at h
 | n+1,t,i,x,h=>by
  unfold spine at h
  split at h
  · rename_i hp
    cases i with
    | zero=>simp at h;exact⟨hp,h⟩
    | succ i=>exact aMT n _ i x (by simpa using h)
  · simp at h
theorem aMU:∀(n:Nat) (t:Tm),t.nodes≤n+1→(spine n t).2=wK (spine n t).1.length t∧rH (spine n t).2=false
 | 0,t,h=>by
  refine⟨rfl,?_⟩
  cases hp:rH t with
  | false=>exact hp
  | true=>obtain⟨m,x,y,rfl⟩:=D0 hp;simp only[Tm.gI,bF] at h;have:=pO x;omega
 | n+1,t,h=>by
  unfold spine
  split
  · rename_i hp
    obtain⟨m,x,y,rfl⟩:=D0 hp
    simp only[Tm.gI,bF] at h
    have:=pO x
    have:=aMU n y (by omega)
    exact⟨this.1,this.2⟩
  · rename_i hp
    exact⟨rfl,by simpa using hp⟩
theorem a4I{n:Nat}{t:Tm}(h:Ws t)(hn:1≤n):1≤(tx n t).size:=by
 obtain⟨n,rfl⟩:∃m,n=m+1:=⟨n - 1,by omega⟩
 unfold tx
 split
 · unfold HA
   split
   · rw[dG,dG];show 1≤1+_+1;omega
   · rw[dG];show 1≤_+1;omega
 split
 · rename_i hp
   obtain⟨m,s,x,y,rfl,hs⟩:=Q5 hp
   have h6:1≤s.size:=h.size.2 rfl
   rw[dG,dG]
   have:1≤(rL s).size:=by
    unfold rL
    split
    · rw[dG,dG];omega
    · exact h6
   show 1≤_+(rL s).size+_
   omega
 split
 · rw[dG];show 1≤_+1;omega
 · obtain⟨k,m,s,ts⟩:=t
   rw[show DO (.mk k m s ts)=if k=1 then LF m else if k=2 then m8 m else s from rfl]
   rcases HE h.own.1 with h1 | h1 | h1
   · rw[aH h1.1];exact c7 _
   · rw[aE (by omega),aH h1.1]
     unfold m8
     split
     · rw[dG];show 1≤1+_;omega
     · have hf:∀f n acc,1≤(kM (f+1) n acc).size:=by
        intro f
        induction f with
        | zero=>
         intro n acc;unfold kM;split
         · simp only[kM];rw[dG];show 1≤1+_;omega
         · rw[dG];show 1≤1+_;omega
        | succ f ih=>
         intro n acc;unfold kM;split
         · exact ih _ _
         · rw[dG];show 1≤1+_;omega
       exact hf 19 _ _
   · rw[aE (by omega),aE (by omega)];exact(RB h1.2.2.1).1

def Q6(x:Tm):ByteArray:=if x.k=1 then⟨#[]⟩ else if x.k=2 then m8 x.n else x.s++⟨#[47]⟩++kM 20 x.ts.length ⟨#[]⟩
def x6(t:Tm):ByteArray:=if t.k=1 then⟨#[]⟩ else match t.ts with
 | []=>⟨#[]⟩
 | x::_=>Q6 x
def KM(a b:ByteArray):Bool:=decide (a=⟨#[]⟩)||(decide (b=⟨#[]⟩)||decide (a=b))
def CW(p:List Cl)(key:ByteArray)(i:Nat):Bool:=match p[i]? with
 | some c=>KM (x6 c.1) key
 | none=>false
def sF(p:List Cl)(t:Tm)(l:List Nat):List Nat:=l.filter (CW p (x6 t))
section
variable (p:List Cl)
variable {p}
end
end Go.AW

namespace Go.AW
open Go.Proofs.Tryz
open Go.Shelf
set_option linter.unusedSimpArgs false
set_option linter.unusedVariables false
set_option maxRecDepth 100000
def aZS:Go.Shelf.Ren:=⟨fun | 171=>258 | 243=>319 | 246=>365 | 283=>383 | 284=>384 | 285=>385 | 286=>386 | 129=>400 | 317=>399 | 318=>401 | 319=>402 | 320=>403 | 337=>407 | 338=>408 | n=>n,fun | 3=>3 | 9=>9 | 2=>2 | 4=>4 | 171=>370 | 0=>0 | 53=>371 | 37=>40 | 5=>5 | 173=>374 | 212=>391 | 51=>392 | 20=>20 | 213=>393 | 46=>394 | 232=>398 | 233=>399 | n=>n,fun | 17=>1 | 18=>2 | 19=>3 | n=>n⟩
theorem aZR:Go.Proofs.LaysM.n171 prog aZS:={
 mixed:=by kernel_rfl
 f129:=Go.Proofs.Tryz.func400.trans (gV some (by kernel_rfl))
 f171:=Go.Proofs.Tryz.func258.trans (gV some (by kernel_rfl))
 f243:=Go.Proofs.Tryz.func319.trans (gV some (by kernel_rfl))
 f246:=Go.Proofs.Tryz.func365.trans (gV some (by kernel_rfl))
 f283:=Go.Proofs.Tryz.func383.trans (gV some (by kernel_rfl))
 f284:=Go.Proofs.Tryz.func384.trans (gV some (by kernel_rfl))
 f285:=Go.Proofs.Tryz.func385.trans (gV some (by kernel_rfl))
 f286:=Go.Proofs.Tryz.func386.trans (gV some (by kernel_rfl))
 f317:=Go.Proofs.Tryz.func399.trans (gV some (by kernel_rfl))
 f318:=Go.Proofs.Tryz.func401.trans (gV some (by kernel_rfl))
 f319:=Go.Proofs.Tryz.func402.trans (gV some (by kernel_rfl))
 f320:=Go.Proofs.Tryz.func403.trans (gV some (by kernel_rfl))
 f337:=Go.Proofs.Tryz.func407.trans (gV some (by kernel_rfl))
 f338:=Go.Proofs.Tryz.func408.trans (gV some (by kernel_rfl))
 t0:=Go.Proofs.Tryz.underlying0
 a0:=Go.Proofs.Tryz.isAgg0
 z0:=Go.Proofs.Tryz.sizeOf0
 v0:=Go.Proofs.Tryz.zeroValue0
 t2:=Go.Proofs.Tryz.underlying2
 a2:=Go.Proofs.Tryz.isAgg2
 z2:=Go.Proofs.Tryz.sizeOf2
 v2:=Go.Proofs.Tryz.zeroValue2
 t3:=Go.Proofs.Tryz.underlying3
 a3:=Go.Proofs.Tryz.isAgg3
 z3:=Go.Proofs.Tryz.sizeOf3
 v3:=Go.Proofs.Tryz.zeroValue3
 t4:=Go.Proofs.Tryz.underlying4
 a4:=Go.Proofs.Tryz.isAgg4
 z4:=Go.Proofs.Tryz.sizeOf4
 v4:=Go.Proofs.Tryz.zeroValue4
 t5:=Go.Proofs.Tryz.underlying5
 a5:=Go.Proofs.Tryz.isAgg5
 z5:=Go.Proofs.Tryz.sizeOf5
 v5:=Go.Proofs.Tryz.zeroValue5
 t9:=Go.Proofs.Tryz.underlying9
 a9:=Go.Proofs.Tryz.isAgg9
 z9:=Go.Proofs.Tryz.sizeOf9
 v9:=Go.Proofs.Tryz.zeroValue9
 t20:=Go.Proofs.Tryz.underlying20
 a20:=Go.Proofs.Tryz.isAgg20
 z20:=Go.Proofs.Tryz.sizeOf20
 v20:=Go.Proofs.Tryz.zeroValue20
 t37:=Go.Proofs.Tryz.underlying40
 a37:=Go.Proofs.Tryz.isAgg40
 z37:=Go.Proofs.Tryz.sizeOf40
 v37:=Go.Proofs.Tryz.zeroValue40
 t46:=Go.Proofs.Tryz.underlying394
 a46:=Go.Proofs.Tryz.isAgg394
 z46:=Go.Proofs.Tryz.sizeOf394
 v46:=Go.Proofs.Tryz.zeroValue394
 t51:=Go.Proofs.Tryz.underlying392
 a51:=Go.Proofs.Tryz.isAgg392
 z51:=Go.Proofs.Tryz.sizeOf392
 v51:=Go.Proofs.Tryz.zeroValue392
 t53:=Go.Proofs.Tryz.underlying371
 a53:=Go.Proofs.Tryz.isAgg371
 z53:=Go.Proofs.Tryz.sizeOf371
 v53:=Go.Proofs.Tryz.zeroValue371
 t171:=Go.Proofs.Tryz.underlying370
 a171:=Go.Proofs.Tryz.isAgg370
 z171:=Go.Proofs.Tryz.sizeOf370
 v171:=Go.Proofs.Tryz.zeroValue370
 t173:=Go.Proofs.Tryz.underlying374
 a173:=Go.Proofs.Tryz.isAgg374
 z173:=Go.Proofs.Tryz.sizeOf374
 v173:=Go.Proofs.Tryz.zeroValue374
 t212:=Go.Proofs.Tryz.underlying391
 a212:=Go.Proofs.Tryz.isAgg391
 z212:=Go.Proofs.Tryz.sizeOf391
 v212:=Go.Proofs.Tryz.zeroValue391
 t213:=Go.Proofs.Tryz.underlying393
 a213:=Go.Proofs.Tryz.isAgg393
 z213:=Go.Proofs.Tryz.sizeOf393
 t232:=Go.Proofs.Tryz.underlying398
 a232:=Go.Proofs.Tryz.isAgg398
 z232:=Go.Proofs.Tryz.sizeOf398
 v232:=Go.Proofs.Tryz.zeroValue398
 t233:=Go.Proofs.Tryz.underlying399
 a233:=Go.Proofs.Tryz.isAgg399
 z233:=Go.Proofs.Tryz.sizeOf399
 v233:=Go.Proofs.Tryz.zeroValue399
 g17:=by kernel_rfl
 g18:=by kernel_rfl
 g19:=by kernel_rfl
 i0:=by kernel_rfl
 i2:=by kernel_rfl
 i3:=by kernel_rfl
 i4:=by kernel_rfl
 i5:=by kernel_rfl
 i9:=by kernel_rfl
 i20:=by kernel_rfl
 i37:=by kernel_rfl
 i46:=by kernel_rfl
 i51:=by kernel_rfl
 i53:=by kernel_rfl
 i171:=by kernel_rfl
 i173:=by kernel_rfl
 i212:=by kernel_rfl
 i232:=by kernel_rfl
 i233:=by kernel_rfl
 m17:=by kernel_rfl
 m18:=by kernel_rfl
 m19:=by kernel_rfl }
theorem O5:∀(f u:Nat) (acc:ByteArray),u<10 ^ f→0<f→kM f u acc=⟨(Lib.decDigits u).toArray⟩++acc
 | 0,_,_,_,h=>absurd h (by decide)
 | f+1,u,acc,h,_=>by
  rw[kM,Lib.decDigits]
  rw[Nat.pow_succ] at h
  by_cases h9:9<u
  · have hf:0<f:=by
     rcases NL f with rfl | h'
     · simp at h;omega
     · exact h'
    rw[aH h9,dif_neg (by omega),O5 f (u / 10) _ (by omega) hf]
    apply ByteArray.ext
    simp [ByteArray.data_append]
  · rw[aE h9,dif_pos (by omega)]
theorem aZT{n:Int}(h1: -999≤n)(h2:n≤999):(⟨(Lib.itoa n).toArray⟩:ByteArray)=m8 n:=by
 unfold Lib.itoa m8
 by_cases h:n<0
 · rw[aH h,aH h,O5 20 _ _ (by omega) (by decide),show n.natAbs=(-n).toNat by omega]
   apply ByteArray.ext
   simp [ByteArray.data_append]
 · rw[aE h,aE h,O5 20 _ _ (by omega) (by decide)]
   apply ByteArray.ext
   simp [ByteArray.data_append]
theorem aU4(n:Int):(m8 n).size≤21:=by
 have h0:(⟨#[]⟩:ByteArray).size=0:=rfl
 unfold m8
 split
 · have:=zP 20 (-n).toNat ⟨#[]⟩
   rw[dG]
   show 1+_≤_
   omega
 · have:=zP 20 n.toNat ⟨#[]⟩
   omega
def wG:AO:=.tab (Lib.pow10Tab.map fun z=>Value.int .u64 z).toArray
abbrev sY:Nat:=1
theorem a3A{P:Program}{w:World}{g:Nat}{name:String}{k:IntKind}{zs:List Int}{st:aB}(hg:P.globalNamed name=some g)(S:cY w.heap st)(h:st g=some (.tab (zs.map fun z=>Value.int k z).toArray)):Lib.TabIs P w name k zs:=by
 obtain⟨_,t,e⟩:=S g _ h
 unfold Lib.TabIs World.var?
 rw[hg,Option.bind_some,e]
theorem aLA(n:Int)(h1: -999≤n)(h2:n≤999)(st:aB)(hT:st sY=some wG):aD prog 258 [.int .i64 n] st (fun r st'=>r=.str (m8 n)∧st'=st):=by
 refine⟨⟨_,func258,rfl,by kernel_rfl⟩,fun w vs S V=>?_⟩
 obtain rfl:vs= [.int .i64 n]:=by
  obtain⟨v,r,rfl,v1,v2⟩:=V
  obtain rfl:r= []:=v2
  rw[v1.jZ]
 refine(Go.Proofs.Any.strconv_Itoa aZR n (by omega) (by omega) w (a3A (by kernel_rfl) S hT)).mono ?_
 rintro e w' ⟨rfl,k,os,rfl⟩
 rw[aZT h1 h2]
 have X:Ext w.heap (Sort.grow (w.drewN k) os).heap:=⟨by simp [Sort.grow],fun b hb=>by simp only[Sort.grow,World.heap_drewN];rw[Array.getElem?_append_left hb]⟩
 exact⟨_,.str (m8 n),st,rfl,⟨rfl,rfl,by have:=aU4 n;show _≤(9223372036854775807:Nat);omega⟩,S.ext X,X.step st,⟨rfl,rfl,rfl⟩,rfl,rfl⟩
end Go.AW

namespace Go.AW
open Go.Proofs.Tryz
def o9(s:ByteArray)(a:Int)(p:UInt8→Bool):Bool:=decide (0≤a)&&(decide (a<(s.size:Int))&&(match (sb s)[a.toNat]? with | some x=>p x | none=>false))
def yC(s:ByteArray)(a:Int)(c:Nat):Bool:=o9 s a fun x=>decide (x.toNat=c)
def xM(s:ByteArray)(a:Int):Bool:=o9 s a fun x=>decide (48≤x.toNat)&&decide (x.toNat≤57)
def yD(s:ByteArray)(a:Int):Bool:=o9 s a letter
theorem vE{s:ByteArray}{n:Nat}(h:n<s.size):∃x,(sb s)[n]?=some x:=⟨_,eE (by rw[cM];exact h)⟩
abbrev aNY:=zi tI_3 (zi zI_3 (zi aX (zi tI_4 (zi zI_4 (zi cE (zi tI_5 (zi zI_5 (zi lM (zi tI_9 (zi zI_9 cI))))))))))
theorem aSQ(s:ByteArray)(a:Int)(c:Nat)(st:aB):aD prog 323 [.str s,.int .i64 a,.int .u8 (c:Int)] st (fun r st'=>r=.bool (yC s a c)∧st'=st):=by
 by_cases h:0≤a∧a<(s.size:Int)
 · obtain⟨n,rfl⟩:=tL h.1
   obtain⟨x,hx⟩:=vE (s:=s) (n:=n) (by omega)
   have hix:=sS (P:=prog) (t:=9) cI hx
   have hv:yC s (n:Int) c=decide (x.toNat=c):=by simp only[yC,o9,kR,hx,gM h.1,gM h.2,eV]
   rw[hv]
   refine wF [1000000] 3 func323 ntmps323 rfl rfl ?_
   intro _
   repeat' (first
    | (simp -implicitDefEqProofs only[*,aA,seval,aNY])
    | (refine cV (fun h=>?_) (fun h=>?_))
    | (refine aQ (fun h=>?_) (fun h=>?_)))
   all_goals simp_all
   omega
 · by_cases h1:0≤a
   · have h2:¬a<(s.size:Int):=fun h2=>h ⟨h1,h2⟩
     have hv:yC s a c=false:=by simp only[yC,o9,fS h2,gK,tJ]
     rw[hv]
     clear hv h
     refine wF [1000000] 3 func323 ntmps323 rfl rfl ?_
     intro _
     simp -implicitDefEqProofs only[h1,h2,bU,bZ,aA,seval,aNY]
   · have hv:yC s a c=false:=by simp only[yC,o9,fS h1,gK]
     rw[hv]
     clear hv h
     refine wF [1000000] 3 func323 ntmps323 rfl rfl ?_
     intro _
     simp -implicitDefEqProofs only[h1,bZ,aA,seval]
abbrev aN0:=zi tI_3 (zi zI_3 (zi aX (zi tI_4 (zi zI_4 (zi cE (zi tI_5 (zi zI_5 (zi lM (zi tI_9 (zi zI_9 cI))))))))))
theorem aSI(s:ByteArray)(a:Int)(st:aB):aD prog 374 [.str s,.int .i64 a] st (fun r st'=>r=.bool (xM s a)∧st'=st):=by
 by_cases h:0≤a∧a<(s.size:Int)
 · obtain⟨n,rfl⟩:=tL h.1
   obtain⟨x,hx⟩:=vE (s:=s) (n:=n) (by omega)
   have hix:=sS (P:=prog) (t:=9) cI hx
   have hv:xM s (n:Int)=(decide (48≤x.toNat)&&decide (x.toNat≤57)):=by simp only[xM,o9,kR,hx,gM h.1,gM h.2,eV]
   rw[hv]
   refine wF [1000000] 2 func374 ntmps374 rfl rfl ?_
   intro _
   repeat' (first
    | (simp -implicitDefEqProofs only[*,aA,seval,aN0])
    | (refine cV (fun h=>?_) (fun h=>?_))
    | (refine aQ (fun h=>?_) (fun h=>?_)))
   all_goals clear hix hv hx
   all_goals (congr 1;rw[uQ];simp only[cA,bJ,dJ,kI,iL,false_iff,not_and] at *;omega)
 · by_cases h1:0≤a
   · have h2:¬a<(s.size:Int):=fun h2=>h ⟨h1,h2⟩
     have hv:xM s a=false:=by simp only[xM,o9,fS h2,gK,tJ]
     rw[hv]
     clear hv h
     refine wF [1000000] 2 func374 ntmps374 rfl rfl ?_
     intro _
     simp -implicitDefEqProofs only[h1,h2,bU,bZ,aA,seval,aN0]
   · have hv:xM s a=false:=by simp only[xM,o9,fS h1,gK]
     rw[hv]
     clear hv h
     refine wF [1000000] 2 func374 ntmps374 rfl rfl ?_
     intro _
     simp -implicitDefEqProofs only[h1,bZ,aA,seval]
abbrev aNZ:=zi tI_3 (zi zI_3 (zi aX (zi tI_4 (zi zI_4 (zi cE (zi tI_5 (zi zI_5 (zi lM (zi tI_9 (zi zI_9 cI))))))))))
theorem aSS(s:ByteArray)(a:Int)(st:aB):aD prog 373 [.str s,.int .i64 a] st (fun r st'=>r=.bool (yD s a)∧st'=st):=by
 by_cases h:0≤a∧a<(s.size:Int)
 · obtain⟨n,rfl⟩:=tL h.1
   obtain⟨x,hx⟩:=vE (s:=s) (n:=n) (by omega)
   have hix:=sS (P:=prog) (t:=9) cI hx
   have hv:yD s (n:Int)=(decide (97≤x.toNat)&&decide (x.toNat≤122)):=by simp only[yD,o9,letter,kR,hx,gM h.1,gM h.2,eV]
   rw[hv]
   refine wF [1000000] 2 func373 ntmps373 rfl rfl ?_
   intro _
   repeat' (first
    | (simp -implicitDefEqProofs only[*,aA,seval,aNZ])
    | (refine cV (fun h=>?_) (fun h=>?_))
    | (refine aQ (fun h=>?_) (fun h=>?_)))
   all_goals clear hix hv hx
   all_goals (congr 1;rw[uQ];simp only[cA,bJ,dJ,kI,iL,false_iff,not_and] at *;omega)
 · by_cases h1:0≤a
   · have h2:¬a<(s.size:Int):=fun h2=>h ⟨h1,h2⟩
     have hv:yD s a=false:=by simp only[yD,o9,fS h2,gK,tJ]
     rw[hv]
     clear hv h
     refine wF [1000000] 2 func373 ntmps373 rfl rfl ?_
     intro _
     simp -implicitDefEqProofs only[h1,h2,bU,bZ,aA,seval,aNZ]
   · have hv:yD s a=false:=by simp only[yD,o9,fS h1,gK]
     rw[hv]
     clear hv h
     refine wF [1000000] 2 func373 ntmps373 rfl rfl ?_
     intro _
     simp -implicitDefEqProofs only[h1,bZ,aA,seval]
theorem HU{φ:AF}{y z:Operand}{s:ByteArray}{k m:Nat}(h:φ.eval y=.int .i64 (k:Int))(h':φ.eval z=.int .i64 (m:Int))(hk:k≤m)(hm:m≤s.size):g7 prog φ 9 (.str s) (some y) (some z) none=some (.str (s.extract k m)):=by
 unfold g7 oA
 rw[aE (by simp [qG])]
 simp only[show prog.underlying 9=some .string from cI,dZ,h,h']
 rw[aH (by omega)]
 simp only[kR]
 rw[aH (by omega)]
 try simp
theorem OF(s:ByteArray)(n:Nat)(p:UInt8→Bool):o9 s (n:Int) p=gC (sb s) n p:=by
 unfold o9 gC
 rw[kR]
 by_cases h:n<s.size
 · rw[gM (by omega:(0:Int)≤(n:Int)),gM (by omega:(n:Int)<(s.size:Int))];try rfl
 · rw[fS (by omega:¬(n:Int)<(s.size:Int)),wY (by rw[cM];omega)];simp
theorem kZ(s:ByteArray)(n c:Nat)(st:aB):aD prog 323 [.str s,.int .i64 (n:Int),.int .u8 (c:Int)] st (fun r st'=>r=.bool (cT (sb s) n c)∧st'=st):=by
 have h:=aSQ s n c st
 rwa [show yC s n c=cT (sb s) n c from OF s n _] at h
theorem AQ(s:ByteArray)(n:Nat)(st:aB):aD prog 374 [.str s,.int .i64 (n:Int)] st (fun r st'=>r=.bool (gC (sb s) n dT)∧st'=st):=by
 have h:=aSI s n st
 rwa [show xM s n=gC (sb s) n dT from OF s n _] at h
theorem aK6(s:ByteArray)(n:Nat)(st:aB):aD prog 373 [.str s,.int .i64 (n:Int)] st (fun r st'=>r=.bool (gC (sb s) n letter)∧st'=st):=by
 have h:=aSS s n st
 rwa [show yD s n=gC (sb s) n letter from OF s n _] at h
theorem U4{n k:Nat}(h:n≤1048576)(hk:k≤1048576):IntKind.wrap .i64 ((n:Int)+(k:Int))=((n+k:Nat):Int):=by
 rw[wrap64 (by omega) (by omega)];try rfl
abbrev EJ:=zi tI_3 (zi zI_3 (zi aX (zi tI_4 (zi zI_4 (zi cE (zi tI_5 (zi zI_5 (zi lM (zi tI_9 (zi zI_9 cI))))))))))
theorem WH(s:ByteArray)(hd:∀x∈sb s,dT x=true)(hl:s.size≤4)(st:aB):aD prog 405 [.str s] st (fun r st'=>r=.tup [.int .i64 ((iI (sb s)).1:Int),.bool (iI (sb s)).2]∧st'=st):=by
 refine wF [1000000] 1 func405 ntmps405 rfl rfl ?_
 intro _
 by_cases hs:s.size=0
 · have e:iI (sb s)=(0,false):=by unfold iI;rw[aH (Or.inl (by rw[cM];exact hs))]
   rw[e]
   simp -implicitDefEqProofs only[hs,aA,↓aU,seval,EJ]
 have DG:(0:Int)<(s.size:Int):=by omega
 obtain⟨x0,hx0⟩:=vE (s:=s) (n:=0) (by omega)
 have hix:=sS (P:=prog) (t:=9) cI hx0
 rw[show((0:Nat):Int)=0 from rfl] at hix
 have hdx:=hd x0 (cP hx0)
 simp only[dT,cA,bJ] at hdx
 have h45:((x0.toNat:Int)=45)=False:=cH (by omega)
 have h0:((s.size:Int)=0)=False:=cH (by omega)
 have h17:((17:Int)<(s.size:Int))=False:=cH (by omega)
 simp -implicitDefEqProofs only[DG,hix,h45,h0,h17,bU,bZ,aA,seval,EJ]
 by_cases h48:x0.toNat=48
 case pos=>
  have C5:((x0.toNat:Int)=48)=True:=dB (by omega)
  by_cases h1:1<s.size
  case pos=>
   have h1':((1:Int)<(s.size:Int))=True:=dB (by omega)
   have e:iI (sb s)=(0,false):=by unfold iI;rw[aH (Or.inr ⟨by rw[sT hx0,h48];try rfl,by rw[cM];exact h1⟩)]
   rw[e]
   simp -implicitDefEqProofs only[C5,h1',bU,aA,↓aU,seval,EJ]
  have h1':((1:Int)<(s.size:Int))=False:=cH (by omega)
  have hnd:iI (sb s)=(nR (sb s),true):=by unfold iI;rw[aE (by rw[cM];rintro(h | ⟨_,h⟩)<;>omega)]
  simp -implicitDefEqProofs only[C5,h1',bU,bZ,aA,seval,EJ]
  rw[hnd]
  refine iE (σ:=Nat) [1000000] [0,4] (fun i=>i≤s.size) (fun i=>[(5,.int .i64 (nR ((sb s).take i):Int)),(6,.int .i64 (i:Int))]) (fun _=>st) (fun i=>s.size - i) (by decide +kernel) ⟨0,by omega,aO.mk (by simp -implicitDefEqProofs only[kS,aA,↓aU,seval];rfl)⟩ ?_
  intro i hi
  have hb:nR ((sb s).take i)<10000:=tP (O6 fun x hx=>hd x (mC hx)) (lA (NM (by omega) (by rw[dS];omega:((sb s).take i).length≤4)) (by decide))
  simp -implicitDefEqProofs only[aA,seval,EJ]
  refine aQ (fun h5=>?_) (fun h5=>?_)
  case refine_2=>
   simp only[dJ] at h5
   obtain rfl:i=s.size:=by omega
   rw[lO (by rw[cM];omega)]
   simp -implicitDefEqProofs only[aA,seval]
  simp only[bJ] at h5
  obtain⟨c,hc⟩:=vE (s:=s) (n:=i) (by omega)
  have hic:=sS (P:=prog) (t:=9) cI hc
  have hdc:=hd c (cP hc)
  simp only[dT,cA,bJ] at hdc
  have c48:((c.toNat:Int)<48)=False:=cH (by omega)
  have c57:((57:Int)<(c.toNat:Int))=False:=cH (by omega)
  have hw0:=U4 (n:=i) (k:=1) (by omega) (by omega)
  rw[show((1:Nat):Int)=1 from rfl] at hw0
  have hw1:=bO (n:=(nR ((sb s).take i):Int)*10)
  have hw2:IntKind.wrap .u8 ((c.toNat:Int) - 48)=((c.toNat - 48:Nat):Int):=by rw[IntKind.wrap_u8];omega
  have hw3:=bO (n:=((c.toNat - 48:Nat):Int))
  have hw4:=bO (n:=(nR ((sb s).take i):Int)*10+((c.toNat - 48:Nat):Int))
  have iS:=X0 hc
  simp -implicitDefEqProofs only[hic,c48,c57,hw1,hw2,bZ,aA,seval]
  refine⟨i+1,by omega,by omega,aO.mk ?_⟩
  rw[iS]
  simp -implicitDefEqProofs only[hw0,hw3,hw4,aA,seval]
  rfl
 have C5:((x0.toNat:Int)=48)=False:=cH (by omega)
 have hnd:iI (sb s)=(nR (sb s),true):=by unfold iI;rw[aE (by rw[cM,sT hx0];rintro(h | ⟨h,_⟩);omega;exact h48 (of_decide_eq_true h))]
 simp -implicitDefEqProofs only[C5,bZ,aA,seval]
 rw[hnd]
 refine iE (σ:=Nat) [1000000] [0,4] (fun i=>i≤s.size) (fun i=>[(5,.int .i64 (nR ((sb s).take i):Int)),(6,.int .i64 (i:Int))]) (fun _=>st) (fun i=>s.size - i) (by decide +kernel) ⟨0,by omega,aO.mk (by simp -implicitDefEqProofs only[kS,aA,↓aU,seval];rfl)⟩ ?_
 intro i hi
 have hb:nR ((sb s).take i)<10000:=tP (O6 fun x hx=>hd x (mC hx)) (lA (NM (by omega) (by rw[dS];omega:((sb s).take i).length≤4)) (by decide))
 simp -implicitDefEqProofs only[aA,seval,EJ]
 refine aQ (fun h5=>?_) (fun h5=>?_)
 case refine_2=>
  simp only[dJ] at h5
  obtain rfl:i=s.size:=by omega
  rw[lO (by rw[cM];omega)]
  simp -implicitDefEqProofs only[aA,seval]
 simp only[bJ] at h5
 obtain⟨c,hc⟩:=vE (s:=s) (n:=i) (by omega)
 have hic:=sS (P:=prog) (t:=9) cI hc
 have hdc:=hd c (cP hc)
 simp only[dT,cA,bJ] at hdc
 have c48:((c.toNat:Int)<48)=False:=cH (by omega)
 have c57:((57:Int)<(c.toNat:Int))=False:=cH (by omega)
 have hw0:=U4 (n:=i) (k:=1) (by omega) (by omega)
 rw[show((1:Nat):Int)=1 from rfl] at hw0
 have hw1:=bO (n:=(nR ((sb s).take i):Int)*10)
 have hw2:IntKind.wrap .u8 ((c.toNat:Int) - 48)=((c.toNat - 48:Nat):Int):=by rw[IntKind.wrap_u8];omega
 have hw3:=bO (n:=((c.toNat - 48:Nat):Int))
 have hw4:=bO (n:=(nR ((sb s).take i):Int)*10+((c.toNat - 48:Nat):Int))
 have iS:=X0 hc
 simp -implicitDefEqProofs only[hic,c48,c57,hw1,hw2,bZ,aA,seval]
 refine⟨i+1,by omega,by omega,aO.mk ?_⟩
 rw[iS]
 simp -implicitDefEqProofs only[hw0,hw3,hw4,aA,seval]
 rfl
theorem nY{x:Int}{m:Nat}(h:x=(m:Int))(hm:m≤1099511627776):IntKind.wrap .i64 x=(m:Int):=by rw[wrap64 (by omega) (by omega)];exact h
abbrev ID:Tm:=.mk 0 0 ⟨#[]⟩ []
def AS(o:Option (Int×Nat)):AV:=match o with | some (n,e)=>.tup [(Tm.mk 2 n ⟨#[]⟩ []).av,.int .i64 (e:Int)] | none=>.tup [ID.av,.int .i64 (-1)]
abbrev BE:=zi tI_3 (zi zI_3 (zi aX (zi tI_4 (zi zI_4 (zi cE (zi tI_5 (zi zI_5 (zi lM (zi tI_8 (zi zI_8 (zi xQ (zi xR (zi xS (zi xT (zi xG (zi tI_9 (zi zI_9 (zi cI (zi tI_66 (zi zI_66 (zi bQ (zi bR (zi bS (zi bT bP))))))))))))))))))))))))
set_option maxHeartbeats 1000000 in
theorem aSN(s:ByteArray)(hs:s.size≤1000)(a:Nat)(ha:a≤s.size)(st:aB):aD prog 389 [.str s,.int .i64 (a:Int)] st (fun r st'=>r=AS (uJ (sb s) a)∧st'=st):=by
 refine aD.done ?_
 refine wF [1000000] 2 func389 ntmps389 rfl rfl ?_
 intro _
 simp -implicitDefEqProofs only[aA,seval,BE]
 intro b hb
 refine(kZ s a 45 _).to ?_
 obtain⟨f1,hf1⟩:∃f,f=a+1:=⟨_,rfl⟩
 have hw1:=nY (x:=(a:Int)+1) (m:=f1) (by omega) (by omega)
 simp -implicitDefEqProofs only[aA,seval]
 refine aQ (fun h1=>?_) (fun h1=>?_)
 · have hf:=oI h1
   rw[cM] at hf
   simp -implicitDefEqProofs only[hw1,aA,seval]
   obtain⟨f,rfl⟩:∃f,f=f1:=⟨_,rfl⟩
   replace hf:f≤s.size:=by omega
   refine iE (σ:=Nat) [1000000] [0,1,4,5,7] (fun j=>f≤j∧j≤f+4∧j - f≤(((sb s).drop f).takeWhile dT).length) (fun j=>[(6,.int .i64 (j:Int))]) (fun _=>st.aC b (.cells [.int .i64 0,.int .i64 0,.str ⟨#[]⟩,.fslice []])) (fun j=>f+4 - j) (by decide +kernel) ⟨f,⟨by omega,by omega,by omega⟩,aO.mk (by simp -implicitDefEqProofs only[aA,seval])⟩ ?_
   rintro j ⟨hj1,hj4,hj⟩
   have hfi:j≤s.size:=by have:=IJ dT ((sb s).drop f);rw[mX,cM] at this;omega
   simp -implicitDefEqProofs only[aA,seval]
   refine(AQ s j _).to ?_
   have hw4:=bO (n:=(f:Int)+4)
   have G4:=bO (n:=(j:Int)+1)
   simp -implicitDefEqProofs only[aA,seval]
   refine cV (fun h5=>?_) (fun h5=>?_)
   simp -implicitDefEqProofs only[h5,hw4,aA,seval]
   refine aQ (fun h6=>?_) (fun h6=>?_)
   case' refine_1.refine_1=>
    rw[show j=f+(j - f) by omega,←DL] at h5
    simp only[bJ] at h6
    simp -implicitDefEqProofs only[G4,aA,seval]
    exact⟨j+1,by omega,⟨by omega,by omega,by have:=TK hj h5;omega⟩,aO.mk (by simp -implicitDefEqProofs only[aA,seval]<;>rfl)⟩
   all_goals
    have ht:(((sb s).drop f).takeWhile dT).take 4=((sb s).drop f).take (j - f):=by
     rw[aOK hj]
     rcases lB (j - f) 4 with h7 | h7
     · have h8:j - f=(((sb s).drop f).takeWhile dT).length:=by
        refine TJ hj ?_
        rw[DL,show f+(j - f)=j by omega]
        first | exact h5 | (simp only[dJ] at h6;omega)
       rw[h8,eS,lO (by omega)]
     · rw[show j - f=4 by omega]
    have hex:s.extract f j=ba ((((sb s).drop f).takeWhile dT).take 4):=by rw[FP,ht]
    have hln:((((sb s).drop f).takeWhile dT).take 4).length=j - f:=by rw[ht,dS,mX,cM];omega
    have hdg:∀x∈(((sb s).drop f).takeWhile dT).take 4,dT x=true:=fun x hx=>aOJ x (mC hx)
    have hsl:=fun(φ:AF) (y z:Operand) (h:φ.eval y=.int .i64 (f:Int)) (h':φ.eval z=.int .i64 (j:Int))=>HU (s:=s) h h' hj1 hfi
    rw[hex] at hsl
    have hrd:uJ (sb s) a=if(iI ((((sb s).drop f).takeWhile dT).take 4)).2=false∨(a<f∧(iI ((((sb s).drop f).takeWhile dT).take 4)).1=0)∨999<(iI ((((sb s).drop f).takeWhile dT).take 4)).1 then none else some (if a<f then -((iI ((((sb s).drop f).takeWhile dT).take 4)).1:Int) else((iI ((((sb s).drop f).takeWhile dT).take 4)).1:Int),f+((((sb s).drop f).takeWhile dT).take 4).length):=by
     unfold uJ
     simp only[h1,↓reduceIte,←hf1]
    rw[hrd]
    clear hrd
    generalize (((sb s).drop f).takeWhile dT).take 4=t at *
    simp -implicitDefEqProofs only[hsl,h5,aA,seval]
    refine(WH (ba t) hdg (by show t.length≤4;omega) _).to ?_
    have hn:=aK9 hdg (by omega)
    rw[show sb (ba t)=t from rfl]
    generalize iI t=nd at *
    obtain⟨n,ok⟩:=nd
    simp only at hn ⊢
    have hw5:=bO (n:=0 - (n:Int))
    have hw6:=bO (n:= -(n:Int))
    have hfa:((a:Int)<(f:Int))=True:=dB (by omega)
    have hfn:(a<f)=True:=dB (by omega)
    cases ok
    case false=>
     simp -implicitDefEqProofs only[aK,aA,seval,BE]
     refine⟨?_,(aM.refl _).aC hb⟩
     rw[aH (Or.inl trivial)]
     simp only[AS,aV,kO,k7,j6,l8,nD,bA,aW,aW]
    by_cases hz:(n:Int)=0
    case' pos=>have hz':n=0:=by omega
    case' neg=>have hz':n≠0:=by omega
    all_goals
     by_cases h9:(999:Int)<(n:Int)
     case' pos=>have h9':999<n:=by omega
     case' neg=>have h9':¬ 999<n:=by omega
     all_goals try (exfalso;omega)
     all_goals
      simp -implicitDefEqProofs only[aK,hw5,hz,h9,hfa,aA,seval,BE]
      try
       refine(CJ _ _).to ?_
       simp -implicitDefEqProofs only[aK,aA,seval,BE]
      refine⟨?_,(aM.refl _).aC hb⟩
      first
       | rw[aH (by omega)]
       | rw[aE (by omega),aH (by omega),show f+t.length=j by omega]
       | rw[aE (by omega),aE (by omega),show f+t.length=j by omega]
      simp only[AS,aV,kO,k7,j6,l8,rK,nD,bA,aW,aW,Int.zero_sub]
 · skip
   simp -implicitDefEqProofs only[aA,seval]
   obtain⟨f,rfl⟩:∃f,f=a:=⟨_,rfl⟩
   have hf:=ha
   refine iE (σ:=Nat) [1000000] [0,1,4,5,7] (fun j=>f≤j∧j≤f+4∧j - f≤(((sb s).drop f).takeWhile dT).length) (fun j=>[(6,.int .i64 (j:Int))]) (fun _=>st.aC b (.cells [.int .i64 0,.int .i64 0,.str ⟨#[]⟩,.fslice []])) (fun j=>f+4 - j) (by decide +kernel) ⟨f,⟨by omega,by omega,by omega⟩,aO.mk (by simp -implicitDefEqProofs only[aA,seval])⟩ ?_
   rintro j ⟨hj1,hj4,hj⟩
   have hfi:j≤s.size:=by have:=IJ dT ((sb s).drop f);rw[mX,cM] at this;omega
   simp -implicitDefEqProofs only[aA,seval]
   refine(AQ s j _).to ?_
   have hw4:=bO (n:=(f:Int)+4)
   have G4:=bO (n:=(j:Int)+1)
   simp -implicitDefEqProofs only[aA,seval]
   refine cV (fun h5=>?_) (fun h5=>?_)
   simp -implicitDefEqProofs only[h5,hw4,aA,seval]
   refine aQ (fun h6=>?_) (fun h6=>?_)
   case' refine_1.refine_1=>
    rw[show j=f+(j - f) by omega,←DL] at h5
    simp only[bJ] at h6
    simp -implicitDefEqProofs only[G4,aA,seval]
    exact⟨j+1,by omega,⟨by omega,by omega,by have:=TK hj h5;omega⟩,aO.mk (by simp -implicitDefEqProofs only[aA,seval]<;>rfl)⟩
   all_goals
    have ht:(((sb s).drop f).takeWhile dT).take 4=((sb s).drop f).take (j - f):=by
     rw[aOK hj]
     rcases lB (j - f) 4 with h7 | h7
     · have h8:j - f=(((sb s).drop f).takeWhile dT).length:=by
        refine TJ hj ?_
        rw[DL,show f+(j - f)=j by omega]
        first | exact h5 | (simp only[dJ] at h6;omega)
       rw[h8,eS,lO (by omega)]
     · rw[show j - f=4 by omega]
    have hex:s.extract f j=ba ((((sb s).drop f).takeWhile dT).take 4):=by rw[FP,ht]
    have hln:((((sb s).drop f).takeWhile dT).take 4).length=j - f:=by rw[ht,dS,mX,cM];omega
    have hdg:∀x∈(((sb s).drop f).takeWhile dT).take 4,dT x=true:=fun x hx=>aOJ x (mC hx)
    have hsl:=fun(φ:AF) (y z:Operand) (h:φ.eval y=.int .i64 (f:Int)) (h':φ.eval z=.int .i64 (j:Int))=>HU (s:=s) h h' hj1 hfi
    rw[hex] at hsl
    have hrd:uJ (sb s) f=if(iI ((((sb s).drop f).takeWhile dT).take 4)).2=false∨(f<f∧(iI ((((sb s).drop f).takeWhile dT).take 4)).1=0)∨999<(iI ((((sb s).drop f).takeWhile dT).take 4)).1 then none else some (if f<f then -((iI ((((sb s).drop f).takeWhile dT).take 4)).1:Int) else((iI ((((sb s).drop f).takeWhile dT).take 4)).1:Int),f+((((sb s).drop f).takeWhile dT).take 4).length):=by
     unfold uJ
     simp only[h1,↓reduceIte,iL]
    rw[hrd]
    clear hrd
    generalize (((sb s).drop f).takeWhile dT).take 4=t at *
    simp -implicitDefEqProofs only[hsl,h5,aA,seval]
    refine(WH (ba t) hdg (by show t.length≤4;omega) _).to ?_
    have hn:=aK9 hdg (by omega)
    rw[show sb (ba t)=t from rfl]
    generalize iI t=nd at *
    obtain⟨n,ok⟩:=nd
    simp only at hn ⊢
    have hw5:=bO (n:=0 - (n:Int))
    have hw6:=bO (n:= -(n:Int))
    have hfa:((f:Int)<(f:Int))=False:=cH (by omega)
    have hfn:(f<f)=False:=cH (by omega)
    cases ok
    case false=>
     simp -implicitDefEqProofs only[aK,aA,seval,BE]
     refine⟨?_,(aM.refl _).aC hb⟩
     rw[aH (Or.inl trivial)]
     simp only[AS,aV,kO,k7,j6,l8,nD,bA,aW,aW]
    by_cases hz:(n:Int)=0
    case' pos=>have hz':n=0:=by omega
    case' neg=>have hz':n≠0:=by omega
    all_goals
     by_cases h9:(999:Int)<(n:Int)
     case' pos=>have h9':999<n:=by omega
     case' neg=>have h9':¬ 999<n:=by omega
     all_goals try (exfalso;omega)
     all_goals
      simp -implicitDefEqProofs only[aK,hz,h9,hfa,aA,seval,BE]
      try
       refine(CJ _ _).to ?_
       simp -implicitDefEqProofs only[aK,aA,seval,BE]
      refine⟨?_,(aM.refl _).aC hb⟩
      first
       | rw[aH (by omega)]
       | rw[aE (by omega),aH (by omega),show f+t.length=j by omega]
       | rw[aE (by omega),aE (by omega),show f+t.length=j by omega]
      simp only[AS,aV,kO,k7,j6,l8,rK,nD,bA,aW,aW]
def AR(o:Option (ByteArray×Nat)):AV:=match o with | some (b,e)=>.tup [.str b,.int .i64 (e:Int)] | none=>.tup [.str ⟨#[]⟩,.int .i64 (-1)]
theorem aSR(st:aB):aD prog 367 [] st (fun r st'=>r=.slice (jA.map .str)∧st'=st):=aD.done ((WN st).mono (by rintro _ _ ⟨rfl,rfl⟩;exact⟨rfl,aM.refl _⟩))
abbrev BF:=zi tI_3 (zi zI_3 (zi aX (zi tI_9 (zi zI_9 (zi cI (zi tI_147 (zi zI_147 (zi iR (zi lS (zi lT mR))))))))))
set_option maxHeartbeats 1000000 in
theorem OO(s:ByteArray)(hs:s.size≤1000)(a:Nat)(ha:a≤s.size)(st:aB):aD prog 390 [.str s,.int .i64 (a:Int)] st (fun r st'=>r=AR (oP (sb s) a)∧st'=st):=by
 refine wF [1000000] 2 func390 ntmps390 rfl rfl ?_
 intro _
 simp -implicitDefEqProofs only[aA,seval]
 refine iE (σ:=Nat) [1000000] [0,1,4,5] (fun j=>a≤j∧j - a≤(((sb s).drop a).takeWhile letter).length) (fun j=>[(6,.int .i64 (j:Int))]) (fun _=>st) (fun j=>s.size - j) (by decide +kernel) ⟨a,⟨by omega,by omega⟩,aO.mk (by simp -implicitDefEqProofs only[aA,seval])⟩ ?_
 rintro j ⟨hj1,hj⟩
 have hfi:j≤s.size:=by have:=IJ letter ((sb s).drop a);rw[mX,cM] at this;omega
 simp -implicitDefEqProofs only[aA,seval]
 refine(aK6 s j _).to ?_
 have hw6:=bO (n:=(a:Int)+6)
 have G4:=bO (n:=(j:Int)+1)
 simp -implicitDefEqProofs only[aA,seval]
 refine aQ (fun h5=>?_) (fun h5=>?_)
 · have hlt:=aZN h5
   rw[show j=a+(j - a) by omega,←DL] at h5
   simp -implicitDefEqProofs only[G4,aA,seval]
   exact⟨j+1,by rw[cM] at hlt;omega,⟨by omega,by have:=TK hj h5;omega⟩,aO.mk (by simp -implicitDefEqProofs only[aA,seval]<;>rfl)⟩
 rw[show j=a+(j - a) by omega,←DL] at h5
 have he:=TJ hj h5
 have hex:s.extract a j=ba (((sb s).drop a).takeWhile letter):=by rw[FP,he,aOL]
 have hsl:=fun(φ:AF) (y z:Operand) (h:φ.eval y=.int .i64 (a:Int)) (h':φ.eval z=.int .i64 (j:Int))=>HU (s:=s) h h' hj1 hfi
 rw[hex] at hsl
 simp -implicitDefEqProofs only[hw6,aA,seval]
 refine aQ (fun h6=>?_) (fun h6=>?_)
 · simp only[bJ] at h6
   simp -implicitDefEqProofs only[aA,seval]
   unfold oP
   rw[aH (by omega)]
   try rfl
 simp only[dJ] at h6
 simp -implicitDefEqProofs only[aA,seval]
 refine aQ (fun h7=>?_) (fun h7=>?_)
 · simp only[bJ] at h7
   simp -implicitDefEqProofs only[hsl,aA,seval]
   unfold oP
   rw[aE (by omega),aH (by omega),←he,show a+(j - a)=j by omega]
   try rfl
 simp only[dJ] at h7
 obtain rfl:j=a:=by omega
 have hrd:oP (sb s) j=if(jA.foldl (j8 ((sb s).drop j)) ⟨#[]⟩).size=0 then none else some (jA.foldl (j8 ((sb s).drop j)) ⟨#[]⟩,j+(jA.foldl (j8 ((sb s).drop j)) ⟨#[]⟩).size):=by
  unfold oP
  rw[aE (by omega),aE (by omega)]
 rw[hrd]
 clear hrd
 simp -implicitDefEqProofs only[aA,seval]
 refine(aSR _).to ?_
 simp -implicitDefEqProofs only[aA,seval]
 refine iE (σ:=Nat) [1000000] [0,1,4,5,8] (fun i=>i≤jA.length) (fun i=>[(7,.str ((jA.take i).foldl (j8 ((sb s).drop j)) ⟨#[]⟩)),(9,.int .i64 (i:Int))]) (fun _=>st) (fun i=>jA.length - i) (by decide +kernel) ⟨0,by omega,aO.mk (by simp -implicitDefEqProofs only[kS,List.foldl_nil,aA,↓aU,seval])⟩ ?_
 intro i hi
 have hbl:=aQX ((sb s).drop j) i
 simp -implicitDefEqProofs only[aF,aA,seval,BF]
 refine aQ (fun h8=>?_) (fun h8=>?_)
 case refine_2=>
  simp only[dJ] at h8
  rw[show i=jA.length by omega,eS] at hbl ⊢
  generalize jA.foldl (j8 ((sb s).drop j)) ⟨#[]⟩=g at *
  have hw7:=bO (n:=(j:Int)+(g.size:Int))
  simp -implicitDefEqProofs only[aA,seval]
  refine aQ (fun h9=>?_) (fun h9=>?_)
  · simp only[bJ] at h9
    subst h9
    simp -implicitDefEqProofs only[aA,seval]
    rfl
  · simp only[dJ] at h9
    simp -implicitDefEqProofs only[hw7,aA,seval,BF]
    rw[aE fun h=>h9 (aQV h)]
    try rfl
 simp only[bJ] at h8
 obtain⟨g,hg⟩:∃g,jA[i]?=some g:=⟨_,eE (by omega)⟩
 have hat:=bM (av:=AV.str) iR hg rfl
 have hgl:=aMJ g (cP hg)
 have h15:jA.length=15:=rfl
 obtain⟨m,hm⟩:∃m,m=j+g.size:=⟨_,rfl⟩
 have hwn:=nY (x:=(j:Int)+(g.size:Int)) (m:=m) (by omega) (by omega)
 have hw1:=bO (n:=(i:Int)+1)
 have iS:(jA.take (i+1)).foldl (j8 ((sb s).drop j)) ⟨#[]⟩=j8 ((sb s).drop j) ((jA.take i).foldl (j8 ((sb s).drop j)) ⟨#[]⟩) g:=by
  rw[fG,hg,List.foldl_append];try rfl
 generalize hB:(jA.take i).foldl (j8 ((sb s).drop j)) ⟨#[]⟩=B at *
 simp -implicitDefEqProofs only[hat,aA,seval,BF]
 refine wP [(0,1),(1,1),(2,1),(3,1),(4,1),(5,1),(6,1),(7,1),(8,1),(9,1),(10,1),(11,1),(12,1),(13,1),(14,1),(15,1),(16,2),(17,1),(18,1),(19,1),(20,1),(21,1),(22,1),(23,1),(24,1)] [0,1,2,3,4,5,6,7,8,9,10,11,12,13,14,15,16,17,18,19,20,21,22,23,24] mixed ?_
 by_cases hle:m≤s.size
 · have hex:s.extract j m=ba (((sb s).drop j).take g.size):=by rw[FP,hm,Nat.add_sub_cancel_left]
   have hsl:=fun(φ:AF) (y z:Operand) (h:φ.eval y=.int .i64 (j:Int)) (h':φ.eval z=.int .i64 (m:Int))=>HU (s:=s) h h' (by omega) hle
   rw[hex] at hsl
   have GX:((m:Int)≤(s.size:Int))=True:=dB (by omega)
   by_cases heq:ba (((sb s).drop j).take g.size)=g
   · by_cases hlt:B.size<g.size
     · have bV:((B.size:Int)<(g.size:Int))=True:=dB (by omega)
       have hb:j8 ((sb s).drop j) B g=g:=by unfold j8;rw[aH ⟨gV sb heq,hlt⟩]
       simp -implicitDefEqProofs only[hat,hwn,hw1,GX,hsl,heq,bV,bU,aA,seval,BF]
       exact⟨i+1,by omega,by omega,aO.mk (by simp -implicitDefEqProofs only[iS,hb,aA,seval])⟩
     · have bV:((B.size:Int)<(g.size:Int))=False:=cH (by omega)
       have hb:j8 ((sb s).drop j) B g=B:=by unfold j8;rw[aE fun h=>hlt h.2]
       simp -implicitDefEqProofs only[hat,hwn,hw1,GX,hsl,heq,bV,bU,bZ,aA,seval,BF]
       exact⟨i+1,by omega,by omega,aO.mk (by simp -implicitDefEqProofs only[iS,hb,aA,seval])⟩
   · have hb:j8 ((sb s).drop j) B g=B:=by unfold j8;rw[aE fun h=>heq (by rw[h.1])]
     simp -implicitDefEqProofs only[hat,hwn,hw1,GX,hsl,heq,bU,bZ,aA,seval,BF]
     exact⟨i+1,by omega,by omega,aO.mk (by simp -implicitDefEqProofs only[iS,hb,aA,seval])⟩
 · have GX:((m:Int)≤(s.size:Int))=False:=cH (by omega)
   have hb:j8 ((sb s).drop j) B g=B:=by
    unfold j8
    rw[aE]
    rintro⟨h,_⟩
    have:=gV List.length h
    rw[dS,mX,cM,cM] at this
    omega
   simp -implicitDefEqProofs only[hwn,hw1,GX,bZ,aA,seval,BF]
   exact⟨i+1,by omega,by omega,aO.mk (by simp -implicitDefEqProofs only[iS,hb,aA,seval])⟩
def lF(a:Int):AV:=.tup [ID.av,.int .i64 (-1 - a)]
abbrev a35:=zi tI_3 (zi zI_3 (zi aX (zi tI_66 (zi zI_66 (zi bQ (zi bR (zi bS (zi bT bP))))))))
theorem CK(a:Nat)(ha:a≤1048576)(st:aB):aD prog 387 [.int .i64 (a:Int)] st (fun r st'=>r=lF a∧st'=st):=by
 refine aD.done ?_
 refine wF [1000000] 1 func387 ntmps387 rfl rfl ?_
 intro _
 have hw:=bO (n:= -1 - (a:Int))
 simp -implicitDefEqProofs only[aK,hw,aA,seval,a35]
 intro b hb
 exact⟨by simp only[lF,aV,kO,k7,j6,l8,nD,bA,aW,aW],(aM.refl _).aC hb⟩
def RN(a:Nat)(o:Option (ByteArray×Nat)):AV:=match o with | some (b,e)=>.tup [.str b,.int .i64 (e:Int)] | none=>.tup [.str ⟨#[]⟩,.int .i64 (a:Int)]
abbrev EK:=zi tI_3 (zi zI_3 (zi aX (zi tI_4 (zi zI_4 (zi cE (zi tI_5 (zi zI_5 (zi lM (zi tI_8 (zi zI_8 (zi xQ (zi xR (zi xS (zi xT (zi xG (zi tI_9 (zi zI_9 cI)))))))))))))))))
set_option maxHeartbeats 1000000 in
theorem aSZ(s:ByteArray)(hs:s.size≤1000)(a:Nat)(ha:a≤s.size)(st:aB):aD prog 369 [.str s,.int .i64 (a:Int)] st (fun r st'=>r=RN a (qK (sb s) a)∧st'=st):=by
 refine wF [1000000] 2 func369 ntmps369 rfl rfl ?_
 intro _
 simp -implicitDefEqProofs only[aA,seval]
 refine(kZ s a 32 _).to ?_
 obtain⟨f1,hf1⟩:∃f,f=a+1:=⟨_,rfl⟩
 have hw1:=nY (x:=(a:Int)+1) (m:=f1) (by omega) (by omega)
 simp -implicitDefEqProofs only[aA,seval]
 refine aQ (fun h1=>?_) (fun h1=>?_)
 · have hf:=oI h1
   rw[cM] at hf
   simp -implicitDefEqProofs only[hw1,aA,seval,EK]
   obtain⟨f,rfl⟩:∃f,f=f1:=⟨_,rfl⟩
   replace hf:f≤s.size:=by omega
   by_cases hlen:s.size≤f
   case pos=>
    have hrd:qK (sb s) a=none:=by
     unfold qK
     simp only[h1,↓reduceIte,←hf1]
     rw[aH (by rw[cM];exact hlen)]
    rw[hrd]
    have cZ:((s.size:Int)≤(f:Int))=True:=dB (by omega)
    simp -implicitDefEqProofs only[cZ,bU,aA,seval]
    rfl
   have cZ:((s.size:Int)≤(f:Int))=False:=cH (by omega)
   have hrd:qK (sb s) a=match oP (sb s) f with
    | none=>none
    | some (nm,e)=>if dQ nm=0 then none else if iV nm≠decide (a<f)∨(iV nm=true∧cT (sb s) e 32=false) then none else some (nm,if iV nm then e+1 else e):=by
    unfold qK
    simp only[h1,↓reduceIte,←hf1]
    rw[aE (by rw[cM];exact hlen)]
    try rfl
   rw[hrd]
   clear hrd
   have hfa:((a:Int)<(f:Int))=True:=dB (by omega)
   have hfn:(a<f)=True:=dB (by omega)
   simp -implicitDefEqProofs only[cZ,bZ,aA,seval]
   refine(OO s hs f (by omega) _).to ?_
   cases hn:oP (sb s) f with
   | none=>
    simp only[AR]
    simp -implicitDefEqProofs only[bU,aA,seval]
    rfl
   | some p=>
    obtain⟨nm,e⟩:=p
    have he:=HL (by rw[cM];omega) hn
    rw[cM] at he
    simp only[AR]
    have he0:((e:Int)<0)=False:=cH (by omega)
    simp -implicitDefEqProofs only[he0,bZ,aA,seval]
    refine(vF nm _).to ?_
    by_cases hl0:dQ nm=0
    case pos=>
     rw[aH hl0]
     have pH:((dQ nm:Int)=0)=True:=dB (by omega)
     simp -implicitDefEqProofs only[pH,bU,aA,seval]
     rfl
    rw[aE hl0]
    have pH:((dQ nm:Int)=0)=False:=cH (by omega)
    simp only[hfn,bU]
    have hw1:=bO (n:=(e:Int)+1)
    by_cases hi:nm=⟨#[105,115]⟩
    case' pos=>
     have hi':=dB hi
     have hm':(nm=⟨#[109,111,100]⟩)=False:=cH (by rw[hi];decide)
     have hW:iV nm=true:=by unfold iV;rw[gM hi];try rfl
    case' neg=>
     have hi':=cH hi
     by_cases hm:nm=⟨#[109,111,100]⟩
     case' pos=>
      have hm':=dB hm
      have hW:iV nm=true:=by unfold iV;rw[gM hm];exact yS _
     case' neg=>
      have hm':=cH hm
      have hW:iV nm=false:=by unfold iV;rw[fS hm,fS hi];try rfl
    all_goals
     rw[hW]
     simp -implicitDefEqProofs only[pH,hfa,hi',hm',bU,bZ,aA,seval,EK]
     first
      | (rw[aH (Or.inl trivial)];rfl)
      | (rw[aE fun h=>h.1];rfl)
      | skip
     try
      refine(kZ s e 32 _).to ?_
      cases hb:cT (sb s) e 32 with
      | false=>
       simp -implicitDefEqProofs only[aA,seval]
       rfl
      | true=>
       simp -implicitDefEqProofs only[hw1,aA,seval]
       rfl
 · skip
   simp -implicitDefEqProofs only[aA,seval,EK]
   obtain⟨f,rfl⟩:∃f,f=a:=⟨_,rfl⟩
   have hf:=ha
   by_cases hlen:s.size≤f
   case pos=>
    have hrd:qK (sb s) f=none:=by
     unfold qK
     simp only[h1,↓reduceIte,iL]
     rw[aH (by rw[cM];exact hlen)]
    rw[hrd]
    have cZ:((s.size:Int)≤(f:Int))=True:=dB (by omega)
    simp -implicitDefEqProofs only[cZ,bU,aA,seval]
    rfl
   have cZ:((s.size:Int)≤(f:Int))=False:=cH (by omega)
   have hrd:qK (sb s) f=match oP (sb s) f with
    | none=>none
    | some (nm,e)=>if dQ nm=0 then none else if iV nm≠decide (f<f)∨(iV nm=true∧cT (sb s) e 32=false) then none else some (nm,if iV nm then e+1 else e):=by
    unfold qK
    simp only[h1,↓reduceIte,iL]
    rw[aE (by rw[cM];exact hlen)]
    try rfl
   rw[hrd]
   clear hrd
   have hfa:((f:Int)<(f:Int))=False:=cH (by omega)
   have hfn:(f<f)=False:=cH (by omega)
   simp -implicitDefEqProofs only[cZ,bZ,aA,seval]
   refine(OO s hs f (by omega) _).to ?_
   cases hn:oP (sb s) f with
   | none=>
    simp only[AR]
    simp -implicitDefEqProofs only[bU,aA,seval]
    rfl
   | some p=>
    obtain⟨nm,e⟩:=p
    have he:=HL (by rw[cM];omega) hn
    rw[cM] at he
    simp only[AR]
    have he0:((e:Int)<0)=False:=cH (by omega)
    simp -implicitDefEqProofs only[he0,bZ,aA,seval]
    refine(vF nm _).to ?_
    by_cases hl0:dQ nm=0
    case pos=>
     rw[aH hl0]
     have pH:((dQ nm:Int)=0)=True:=dB (by omega)
     simp -implicitDefEqProofs only[pH,bU,aA,seval]
     rfl
    rw[aE hl0]
    have pH:((dQ nm:Int)=0)=False:=cH (by omega)
    simp only[hfn,bZ]
    have hw1:=bO (n:=(e:Int)+1)
    by_cases hi:nm=⟨#[105,115]⟩
    case' pos=>
     have hi':=dB hi
     have hm':(nm=⟨#[109,111,100]⟩)=False:=cH (by rw[hi];decide)
     have hW:iV nm=true:=by unfold iV;rw[gM hi];try rfl
    case' neg=>
     have hi':=cH hi
     by_cases hm:nm=⟨#[109,111,100]⟩
     case' pos=>
      have hm':=dB hm
      have hW:iV nm=true:=by unfold iV;rw[gM hm];exact yS _
     case' neg=>
      have hm':=cH hm
      have hW:iV nm=false:=by unfold iV;rw[fS hm,fS hi];try rfl
    all_goals
     rw[hW]
     simp -implicitDefEqProofs only[pH,hfa,hi',hm',bU,bZ,aA,seval,EK]
     first
      | (rw[aH (Or.inl trivial)];rfl)
      | (rw[aE fun h=>h.1];rfl)
      | skip
     try
      refine(kZ s e 32 _).to ?_
      cases hb:cT (sb s) e 32 with
      | false=>
       simp -implicitDefEqProofs only[pH,hfa,hi',hm',hw1,bU,bZ,aA,↓aU,seval,EK]
       rfl
      | true=>
       simp -implicitDefEqProofs only[pH,hfa,hi',hm',hw1,bU,bZ,aA,↓aU,seval,EK]
       rfl
theorem aUK{ts:List Tm}{i:Nat}{x t:Tm}(hx:ts[i]?=some x):vH (ts.drop i) t=oM ⟨#[46]⟩ [x,vH (ts.drop (i+1)) t]:=by
 obtain⟨h1,h2⟩:=gP.1 hx
 rw[qS h1,h2]
 try rfl
abbrev MF:=zi tI_3 (zi zI_3 (zi aX (zi tI_9 (zi zI_9 (zi cI (zi tI_31 (zi zI_31 (zi aN (zi bG (zi bH (zi b9 (zi tI_46 (zi zI_46 (zi dH (zi fA (zi eX (zi fB (zi tI_66 (zi zI_66 (zi bQ (zi bR (zi bS (zi bT bP)))))))))))))))))))))))
set_option maxHeartbeats 1000000 in
theorem WI(ts:List Tm)(tl:Tm)(hl:ts.length≤1048576)(st:aB):aD prog 404 [.slice (ts.map Tm.av),tl.av] st (fun r st'=>r=(vH ts tl).av∧st'=st):=by
 refine aD.done ?_
 refine wF [1000000,5] 2 func404 ntmps404 rfl rfl ?_
 intro _
 have hw0:=bO (n:=(ts.length:Int) - 1)
 simp -implicitDefEqProofs only[aK,aT,aJ,cC,cG,bY,aF,hw0,aA,↓aU,seval,MF]
 intro b hb b5 hb5
 have hbb:b5≠b:=fun h=>by rw[h,aB.aP] at hb5;cases hb5
 refine iE (σ:=Nat) [1000000] [0,4,5] (fun i=>i≤ts.length) (fun i=>[(6,.int .i64 ((i:Int) - 1))]) (fun i=>(st.aC b (.cells [.int .i64 0,.int .i64 0,.str ⟨#[]⟩,.fslice []])).aC b5 (.cells (vH (ts.drop i) tl).av.cells)) (fun i=>i) (by decide +kernel) ⟨ts.length,by omega,by rw[kK];exact aO.mk (by simp -implicitDefEqProofs only[aA,seval])⟩ ?_
 intro i hi
 simp -implicitDefEqProofs only[aA,seval]
 refine aQ (fun h1=>?_) (fun h1=>?_)
 · simp only[bJ] at h1
   obtain⟨k,rfl⟩:∃k,i=k+1:=⟨i - 1,by omega⟩
   obtain⟨x,hx⟩:∃x,ts[k]?=some x:=⟨_,eE (by omega)⟩
   have hk:((k+1:Nat):Int) - 1=(k:Int):=by omega
   have hw:=bO (n:=(k:Int) - 1)
   have hst:=aUK (t:=tl) hx
   have hat:=bM (av:=Tm.av) aN hx (aJ x)
   rw[hk]
   generalize vH (ts.drop (k+1)) tl=y at *
   have hax:=bY x
   have hay:=bY y
   simp -implicitDefEqProofs only[aA,seval]
   refine wP [(0,1),(1,1),(2,1),(3,2),(4,2),(5,1),(6,2),(7,0)] [0,1,2,3,4,5,6] mixed ?_
   simp -implicitDefEqProofs only[aT,aJ,cG,bY,eO (bY _),eK (aT _),hat,aA,seval,MF]
   refine iD (sB ⟨#[46]⟩ [x,y] (by simp) _) ?_
   simp -implicitDefEqProofs only[aK,cC,bY,hw,aA,seval,MF]
   refine⟨k,by omega,by omega,?_⟩
   rw[hst]
   exact aO.mk (by simp -implicitDefEqProofs only[aA,seval])
 · simp only[dJ] at h1
   obtain rfl:i=0:=by omega
   rw[qT]
   simp -implicitDefEqProofs only[aK,cC,bY,eO (bY _),eK (aT _),hbb.symm,aA,↓aU,seval,MF]
   exact⟨Tm.soft _,(((aM.refl _).aC hb).aC (by rwa [aB.aL _ _ hbb] at hb5)).aC hb⟩
def mF(o:Option (Tm×Nat))(r:AV):Prop:=match o with | some (t,e)=>r=.tup [t.av,.int .i64 (e:Int)] | none=>∃k:Nat,k≤1048576∧r=lF k
def uX(o:Option (List Tm×Nat))(r:AV):Prop:=match o with | some (ts,e)=>r=.tup [.slice (ts.map Tm.av),.int .i64 (e:Int)] | none=>∃k:Nat,k≤1048576∧r=.tup [.slice [],.int .i64 (-1 - (k:Int))]
abbrev NO (s:ByteArray) (R:lC) (d lv lo:Nat):Prop:=∀(a:Nat) (st:aB),lo≤a→a≤s.size→aD prog 322 [.str s,.int .i64 (a:Int),.int .i64 (d:Int),.int .i64 (lv:Int)] st (fun r st'=>mF (R a) r∧st'=st)
abbrev TB:=zi tI_3 (zi zI_3 (zi aX (zi tI_4 (zi zI_4 (zi cE (zi tI_5 (zi zI_5 (zi lM (zi tI_8 (zi zI_8 (zi xQ (zi xR (zi xS (zi xT (zi xG (zi tI_9 (zi zI_9 (zi cI (zi tI_31 (zi zI_31 (zi aN (zi bG (zi bH (zi b9 (zi tI_44 (zi zI_44 (zi YA (zi X7 (zi YC (zi aON (zi tI_66 (zi zI_66 (zi bQ (zi bR (zi bS (zi bT bP))))))))))))))))))))))))))))))))))))
set_option maxHeartbeats 1000000 in
theorem WU{s:ByteArray}{R:lC}{d lo c1 c2:Nat}(hR:NO s R d 3 lo)(hok:w7 R (sb s))(hs:s.size≤1000)(a:Nat)(ha:lo≤a)(ha':a≤s.size)(st:aB) :
 aD prog 391 [.str s,.int .i64 (a:Int),.int .i64 (d:Int),.int .u8 (c1:Int),.int .u8 (c2:Int)] st (fun r st'=>uX (rQ R (sb s) c1 c2 ((sb s).length+1) a []) r∧st'=st):=by
 generalize hT:rQ R (sb s) c1 c2 ((sb s).length+1) a []=T
 rw[cM] at hT
 refine aD.drop (Q:=uX T) (aD.fin ?_)
 refine wF [1000000] 5 func391 ntmps391 rfl rfl ?_
 intro _
 simp -implicitDefEqProofs only[aA,seval,TB]
 refine iE (σ:=Nat×List Tm×Nat×Nat) [1000000] [0,2,3,4] (fun x=>rQ R (sb s) c1 c2 x.2.2.1 x.1 x.2.1=T∧lo≤x.1∧x.1≤s.size∧s.size<x.2.2.1+x.1∧x.2.1.length+x.2.2.1≤1001∧(x.2.1.map Tm.av≠[]→st x.2.2.2=none)) (fun x=>[(1,.int .i64 (x.1:Int)),(10,.fslice []),(11,.int .i64 0),(12,bD 4 x.2.2.2 (x.2.1.map Tm.av))]) (fun x=>a7 st x.2.2.2 (x.2.1.map Tm.av)) (fun x=>x.2.2.1) (by decide +kernel) ⟨(a,[],s.size+1,0),⟨hT,ha,ha',by simp only;omega,by simp only[aZ];omega,by simp⟩,aO.mk (by simp -implicitDefEqProofs only[aW,jG,aA,seval])⟩ ?_
 rintro⟨i,acc,m,b⟩ ⟨ht,hlo,hi,hm,hlen,hb⟩
 simp only at ht hlo hi hm hlen hb ⊢
 obtain⟨m,rfl⟩:∃m',m=m'+1:=⟨m - 1,by omega⟩
 simp only[rQ] at ht
 simp -implicitDefEqProofs only[aA,seval]
 refine(hR i _ hlo hi).mono ?_
 rintro r _ ⟨hr,rfl⟩
 have fin:∀(l:List Tm) (b':Nat) (r':AV),(l.map Tm.av≠[]→st b'=none)→uX T (r'.fin b' (l.map Tm.av))→∃b2 l2 s0,a7 st b' (l.map Tm.av)=a7 s0 b2 l2∧(l2≠[]→s0 b2=none)∧(∀e∈l2,e.cF=false)∧gZ l2∧aM s0 st∧uX T (r'.fin b2 l2):=fun l b' r' h1 h2=>⟨b',_,st,rfl,h1,iU _,⟨4,d6 _⟩,aM.refl _,h2⟩
 have hTn:T=none→∀k:Nat,k≤1048576→∀(b':Nat) (l:List AV),uX T ((AV.tup [.fslice [],.int .i64 (-1 - (k:Int))]).fin b' l):=by
  rintro rfl k hk b' l
  exact⟨k,hk,by simp only[jQ,eG,oD,bA,aW]⟩
 cases hRi:R i with
 | none=>
  rw[hRi] at ht hr
  obtain⟨k,hk,rfl⟩:=hr
  have hk0:((-1 - (k:Int))<0)=True:=dB (by omega)
  simp -implicitDefEqProofs only[aJ,cC,cG,hk0,lF,bU,aA,↓aU,seval,TB]
  exact fin _ _ _ hb (hTn ht.symm k hk _ _)
 | some p=>
  obtain⟨t,e⟩:=p
  rw[hRi] at ht hr
  simp only at ht
  obtain⟨g1,g2,g3⟩:=hok i t e (by rw[cM];exact hi) hRi
  rw[cM] at g2
  simp only[mF] at hr
  subst hr
  have he0:((e:Int)<0)=False:=cH (by omega)
  simp -implicitDefEqProofs only[aT,aJ,cC,cG,he0,lN,tD,bZ,aA,↓aU,seval,TB]
  refine eW aN bG bH rfl rfl (fM (aJ _) (cC _)) (d6 _) hb (by simp only[aF,aS,aZ];omega) (by simp only[aF,aS,aZ];omega) (fun b' hb'=>?_)
  rw[show acc.map Tm.av++ [t.av]=(acc++ [t]).map Tm.av by simp] at hb' ⊢
  simp -implicitDefEqProofs only[aA,seval]
  have xY:T=some (acc++ [t],e)→uX T ((AV.tup [bD 4 b' ((acc++ [t]).map Tm.av),.int .i64 (e:Int)]).fin b' ((acc++ [t]).map Tm.av)):=by
   rintro rfl
   simp only[uX,jQ,eG,lV,bA,aW]
  have hw1:=bO (n:=(e:Int)+1)
  have hw2:=bO (n:= -1 - (e:Int))
  refine(kZ s e c1 _).to ?_
  cases h1:cT (sb s) e c1 with
  | true=>
   rw[h1,uR,aH rfl] at ht
   simp -implicitDefEqProofs only[nL,lN,tD,aA,seval]
   exact fin _ _ _ hb' (xY ht.symm)
  | false=>
  simp -implicitDefEqProofs only[aA,seval]
  refine(kZ s e c2 _).to ?_
  cases h2:cT (sb s) e c2 with
  | true=>
   rw[h2,yS,aH rfl] at ht
   simp -implicitDefEqProofs only[nL,lN,tD,aA,seval]
   exact fin _ _ _ hb' (xY ht.symm)
  | false=>
  rw[h1,h2,EU,aE (by decide)] at ht
  simp -implicitDefEqProofs only[aA,seval]
  refine(kZ s e 44 _).to ?_
  cases h3:cT (sb s) e 44 with
  | true=>
   have h4:=oI h3
   rw[cM] at h4
   rw[h3,aH rfl] at ht
   simp -implicitDefEqProofs only[hw1,aA,seval]
   refine⟨(e+1,acc++ [t],m,b'),by simp only;omega,⟨ht,by simp only;omega,by simp only;omega,by simp only;omega,by simp only[dM,aS,aZ];omega,hb'⟩,aO.mk (by simp -implicitDefEqProofs only[aA,seval]<;>rfl)⟩
  | false=>
   rw[h3,aE (by decide)] at ht
   simp -implicitDefEqProofs only[hw2,aA,seval]
   exact fin _ _ _ hb' (hTn ht.symm e (by omega) _ _)
theorem aD.PE{P:Program}{g:FuncId}{args:List AV}{st:aB}{Q:AV→Prop}(x:aD P g args st (fun r' st'=>Q r'.soft∧aM st' st)):aD P g args st (fun r' st'=>Q r'∧st'=st):=
 aD.drop (aD.soft (x.mono fun _ _ h=>⟨h.2,h.1⟩))
theorem D4{k:Nat}(hk:k≤1048576):mF none (AV.tup [.agg [.int .i64 0,.int .i64 0,.str ⟨#[]⟩,.fslice []],.int .i64 (-1 - (k:Int))]).soft:=
 ⟨k,hk,by simp only[lF,aV,kO,k7,j6,l8,nD,bA,aW]⟩
theorem rI{t:Tm}{e:Nat}{x:Int}(h:x=(e:Int)):mF (some (t,e)) (AV.tup [t.av,.int .i64 x]).soft:=by
 subst h
 simp only[mF,k7,j6,Tm.soft,bA,aW]
theorem x9{k:Nat}(hk:k≤1048576):mF none (AV.tup [ID.av,.int .i64 (-1 - (k:Int))]).soft:=
 ⟨k,hk,by simp only[lF,k7,j6,Tm.soft,bA,aW]⟩
abbrev yK:=zi tI_3 (zi zI_3 (zi aX (zi tI_4 (zi zI_4 (zi cE (zi tI_5 (zi zI_5 (zi lM (zi tI_8 (zi zI_8 (zi xQ (zi xR (zi xS (zi xT (zi xG (zi tI_9 (zi zI_9 (zi cI (zi tI_31 (zi zI_31 (zi aN (zi bG (zi bH (zi b9 (zi tI_66 (zi zI_66 (zi bQ (zi bR (zi bS (zi bT (zi bP (zi tI_91 (zi zI_91 (zi aWA (zi aWB aQU)))))))))))))))))))))))))))))))))))
set_option maxHeartbeats 1000000 in
theorem aSW{s:ByteArray}{R:lC}{d lo:Nat}(hR:NO s R d 3 lo)(hok:w7 R (sb s))(hs:s.size≤1000)(a:Nat)(ha:lo≤a)(ha':a≤s.size)(st:aB) :
 aD prog 388 [.str s,.int .i64 (a:Int),.int .i64 (d:Int)] st (fun r st'=>mF (AJ R (sb s) a) r∧st'=st):=by
 refine aD.PE ?_
 refine wF [1000000] 3 func388 ntmps388 rfl rfl ?_
 intro _
 simp -implicitDefEqProofs only[aA,seval,yK]
 intro b hb
 unfold AJ
 refine(WU hR hok hs a ha ha' _ (c1:=93) (c2:=124)).mono ?_
 rintro r _ ⟨hr,rfl⟩
 have hD:=fun(o:AO)=>(aM.refl st).aC (o:=o) hb
 cases hT:rQ R (sb s) 93 124 ((sb s).length+1) a [] with
 | none=>
  rw[hT] at hr
  obtain⟨k,hk,rfl⟩:=hr
  have hk0:((-1 - (k:Int))<0)=True:=dB (by omega)
  simp -implicitDefEqProofs only[aK,hk0,bU,aA,seval,yK]
  exact⟨D4 hk,hD _⟩
 | some p=>
  obtain⟨ts,e⟩:=p
  rw[hT] at hr
  simp only[uX] at hr
  subst hr
  obtain⟨g1,g2,g3,g4,g5⟩:=MQ hok _ _ _ _ _ (by rw[cM];exact ha') (by simp) hT
  rw[cM] at g2 g4
  rw[aZ] at g4
  have he0:((e:Int)<0)=False:=cH (by omega)
  obtain⟨f,hf⟩:∃f,f=e+1:=⟨_,rfl⟩
  have hw:=nY (x:=(e:Int)+1) (m:=f) (by omega) (by omega)
  simp -implicitDefEqProofs only[he0,bZ,aA,seval]
  refine(kZ s e 93 _).to ?_
  cases h1:cT (sb s) e 93 with
  | true=>
   simp -implicitDefEqProofs only[aA,seval]
   refine(sB ⟨#[91,93]⟩ [] (by simp) _).to ?_
   simp -implicitDefEqProofs only[aA,seval]
   refine(WI ts (oM ⟨#[91,93]⟩ []) (by omega) _).to ?_
   simp -implicitDefEqProofs only[aK,cC,cG,bY,eO (bY _),eK (aT _),hw,aA,seval,yK]
   exact⟨rI (by omega),hD _⟩
  | false=>
   simp -implicitDefEqProofs only[hw,aA,seval]
   refine(hR f _ (by omega) (by omega)).mono ?_
   rintro r _ ⟨hr,rfl⟩
   rw[←hf]
   cases hRi:R f with
   | none=>
    rw[hRi] at hr
    obtain⟨k,hk,rfl⟩:=hr
    have hk0:((-1 - (k:Int))<0)=True:=dB (by omega)
    simp -implicitDefEqProofs only[aK,aJ,cC,cG,hk0,lF,bU,aA,↓aU,seval,yK]
    exact⟨D4 hk,hD _⟩
   | some p=>
    obtain⟨t,e2⟩:=p
    rw[hRi] at hr
    simp only[mF] at hr
    subst hr
    obtain⟨k1,k2,k3⟩:=hok f t e2 (by rw[cM];omega) hRi
    rw[cM] at k2
    have he2:((e2:Int)<0)=False:=cH (by omega)
    have hw2:=bO (n:=(e2:Int)+1)
    simp -implicitDefEqProofs only[aJ,cC,cG,he2,bZ,aA,↓aU,seval,yK]
    refine(kZ s e2 93 _).to ?_
    cases h2:cT (sb s) e2 93 with
    | true=>
     simp -implicitDefEqProofs only[aT,aJ,aA,seval,yK]
     refine(WI ts t (by omega) _).to ?_
     simp -implicitDefEqProofs only[aK,cC,cG,bY,eO (bY _),eK (aT _),hw2,aA,seval,yK]
     exact⟨rI rfl,hD _⟩
    | false=>
     simp -implicitDefEqProofs only[aA,seval]
     refine(CK e2 (by omega) _).to ?_
     simp -implicitDefEqProofs only[aK,cC,cG,bY,eO (bY _),eK (aT _),lF,aA,seval,yK]
     exact⟨x9 (by omega),hD _⟩
theorem a1E{R:Nat→lC}{l:List UInt8}{d a:Nat}(h:d<1∨l.length≤a):nB R l d a=none:=by unfold nB;rw[aH h]
theorem a1F{R:Nat→lC}{l:List UInt8}{d a:Nat}(h:¬(d<1∨l.length≤a))(h1:cT l a 40=true):nB R l d a=match R d (a+1) with
 | none=>none
 | some (t,e)=>if cT l e 41 then some (t,e+1) else none:=by unfold nB;rw[aE h,aH h1];try rfl
theorem a1B{R:Nat→lC}{l:List UInt8}{d a:Nat}(h:¬(d<1∨l.length≤a))(h1:cT l a 40=false)(h2:cT l a 91=true)(h3:cT l (a+1) 93=false):nB R l d a=AJ (R (d - 1)) l (a+1):=by
 unfold nB;rw[aE h,aE (by simp [h1]),aH (by simp [h2,h3])]
theorem a1G{R:Nat→lC}{l:List UInt8}{d a:Nat}(h:¬(d<1∨l.length≤a))(h1:cT l a 40=false)(h2:(cT l a 91&& !cT l (a+1) 93)=false)(h3:gC l a tF=true):nB R l d a=some (vr ((JQ l a - 65:Nat):Int),a+1):=by
 unfold nB;rw[aE h,aE (by simp [h1]),aE (by simp [h2]),aH h3]
theorem a1D{R:Nat→lC}{l:List UInt8}{d a:Nat}(h:¬(d<1∨l.length≤a))(h1:cT l a 40=false)(h2:(cT l a 91&& !cT l (a+1) 93)=false)(h3:gC l a tF=false)(h4:(gC l a dT||(cT l a 45&&gC l (a+1) dT))=true):nB R l d a=match uJ l a with
 | none=>none
 | some (n,e)=>some (.mk 2 n ⟨#[]⟩ [],e):=by
 unfold nB;rw[aE h,aE (by simp [h1]),aE (by simp [h2]),aE (by simp [h3]),aH h4];try rfl
theorem a1C{R:Nat→lC}{l:List UInt8}{d a:Nat}(h:¬(d<1∨l.length≤a))(h1:cT l a 40=false)(h2:(cT l a 91&& !cT l (a+1) 93)=false)(h3:gC l a tF=false)(h4:(gC l a dT||(cT l a 45&&gC l (a+1) dT))=false):nB R l d a=match oP l a with
 | none=>none
 | some (nm,e)=>if cT l e 40=false then some (oM nm [],e) else match rQ (R (d - 1)) l 41 41 (l.length+1) (e+1) [] with
  | none=>none
  | some (ts,e')=>some (oM nm ts,e'+1):=by
 unfold nB;rw[aE h,aE (by simp [h1]),aE (by simp [h2]),aE (by simp [h3]),aE (by simp [h4])];try rfl
abbrev kG:=zi tI_3 (zi zI_3 (zi aX (zi tI_4 (zi zI_4 (zi cE (zi tI_5 (zi zI_5 (zi lM (zi tI_8 (zi zI_8 (zi xQ (zi xR (zi xS (zi xT (zi xG (zi tI_9 (zi zI_9 (zi cI (zi tI_31 (zi zI_31 (zi aN (zi bG (zi bH (zi b9 (zi tI_40 (zi zI_40 (zi sH (zi zS (zi zW (zi yN (zi tI_66 (zi zI_66 (zi bQ (zi bR (zi bS (zi bT bP))))))))))))))))))))))))))))))))))))
set_option maxHeartbeats 2000000 in
theorem aS1{s:ByteArray}{R:Nat→lC}{a:Nat}(hR:∀d,d≤1048576→NO s (R d) d 3 (a+1))(hok:∀d,w7 (R d) (sb s))(hs:s.size≤1000)(ha:a≤s.size)(d:Nat)(hd:d≤1048576)(st:aB) :
 aD prog 368 [.str s,.int .i64 (a:Int),.int .i64 (d:Int)] st (fun r st'=>mF (nB R (sb s) d a) r∧st'=st):=by
 refine aD.PE ?_
 refine wF [1000000] 3 func368 ntmps368 rfl rfl ?_
 intro _
 generalize hP:nB R (sb s) d a=o
 simp -implicitDefEqProofs only[aA,seval,kG]
 intro b hb
 have hD:=fun(o:AO)=>(aM.refl st).aC (o:=o) hb
 by_cases h0:d<1∨s.size≤a
 case pos=>
  rw[a1E (by rw[cM];exact h0)] at hP
  subst hP
  by_cases h01:d<1
  case pos=>
   have vU:((d:Int)<1)=True:=dB (by omega)
   simp -implicitDefEqProofs only[vU,bU,aA,seval]
   refine(CK a (by omega) _).to ?_
   simp -implicitDefEqProofs only[aK,cC,cG,bY,eO (bY _),eK (aT _),lF,aA,seval,kG]
   exact⟨x9 (by omega),hD _⟩
  case neg=>
   have vU:((d:Int)<1)=False:=cH (by omega)
   have zZ:((s.size:Int)≤(a:Int))=True:=dB (by omega)
   simp -implicitDefEqProofs only[vU,zZ,bU,bZ,aA,seval,kG]
   refine(CK a (by omega) _).to ?_
   simp -implicitDefEqProofs only[aK,cC,cG,bY,eO (bY _),eK (aT _),lF,aA,seval,kG]
   exact⟨x9 (by omega),hD _⟩
 have h0':¬(d<1∨(sb s).length≤a):=by rw[cM];exact h0
 have vU:((d:Int)<1)=False:=cH (by omega)
 have zZ:((s.size:Int)≤(a:Int))=False:=cH (by omega)
 obtain⟨x,hx⟩:=vE (s:=s) (n:=a) (by omega)
 have hix:=sS (P:=prog) (t:=9) cI hx
 obtain⟨f,hf⟩:∃f,f=a+1:=⟨_,rfl⟩
 have hw:=nY (x:=(a:Int)+1) (m:=f) (by omega) (by omega)
 obtain⟨d1,hd1⟩:∃d1,d1=d - 1:=⟨_,rfl⟩
 have hwd:=nY (x:=(d:Int) - 1) (m:=d1) (by omega) (by omega)
 by_cases h40:x.toNat=40
 case pos=>
  rw[a1F h0' (by rw[sT hx,h40];try rfl),←hf] at hP
  have C3:((x.toNat:Int)=40)=True:=dB (by omega)
  simp -implicitDefEqProofs only[vU,zZ,hix,C3,hw,bU,bZ,aA,seval,kG]
  refine(hR d hd f _ (by omega) (by omega)).mono ?_
  rintro r _ ⟨hr,rfl⟩
  cases hRi:R d f with
  | none=>
   rw[hRi] at hr hP
   subst hP
   obtain⟨k,hk,rfl⟩:=hr
   have hk0:((-1 - (k:Int))<0)=True:=dB (by omega)
   simp -implicitDefEqProofs only[aK,aJ,cC,cG,hk0,lF,bU,aA,↓aU,seval,kG]
   exact⟨D4 hk,hD _⟩
  | some p=>
   obtain⟨t,e2⟩:=p
   rw[hRi] at hr hP
   simp only[mF] at hr
   subst hr
   obtain⟨k1,k2,k3⟩:=hok d f t e2 (by rw[cM];omega) hRi
   rw[cM] at k2
   have he2:((e2:Int)<0)=False:=cH (by omega)
   have hw2:=bO (n:=(e2:Int)+1)
   simp -implicitDefEqProofs only[aJ,cC,cG,he2,bZ,aA,↓aU,seval,kG]
   refine(kZ s e2 41 _).to ?_
   cases h2:cT (sb s) e2 41 with
   | true=>
    simp only[h2,↓reduceIte] at hP
    subst hP
    simp -implicitDefEqProofs only[aK,aT,aJ,cC,cG,bY,eO (bY _),eK (aT _),hw2,aA,seval,kG]
    exact⟨rI rfl,hD _⟩
   | false=>
    simp only[h2,↓reduceIte,iL] at hP
    subst hP
    simp -implicitDefEqProofs only[aA,seval]
    refine(CK e2 (by omega) _).to ?_
    simp -implicitDefEqProofs only[aK,cC,cG,bY,eO (bY _),eK (aT _),lF,aA,seval,kG]
    exact⟨x9 (by omega),hD _⟩
 have g40:cT (sb s) a 40=false:=by rw[sT hx];exact fS h40
 have C3:((x.toNat:Int)=40)=False:=cH (by omega)
 -- a list
 by_cases hL:x.toNat=91∧cT (sb s) f 93=false
 case pos=>
  obtain⟨h91,h93⟩:=hL
  rw[a1B h0' g40 (by rw[sT hx,h91];try rfl) (by rw[←hf];exact h93),←hf,←hd1] at hP
  subst hP
  have sL:((x.toNat:Int)=91)=True:=dB (by omega)
  simp -implicitDefEqProofs only[vU,zZ,hix,C3,sL,hw,bU,bZ,aA,seval,kG]
  refine(kZ s f 93 _).to ?_
  rw[h93]
  simp -implicitDefEqProofs only[hw,hwd,aA,seval]
  refine(aSW (hR d1 (by omega)) (hok d1) hs f (by omega) (by omega) _).mono ?_
  rintro r _ ⟨hr,rfl⟩
  cases hI:AJ (R d1) (sb s) f with
  | none=>
   rw[hI] at hr
   obtain⟨k,hk,rfl⟩:=hr
   simp -implicitDefEqProofs only[aK,cC,cG,bY,eO (bY _),eK (aT _),lF,aA,seval,kG]
   exact⟨x9 hk,hD _⟩
  | some p=>
   obtain⟨t,e2⟩:=p
   rw[hI] at hr
   simp only[mF] at hr
   subst hr
   simp -implicitDefEqProofs only[aK,cC,cG,bY,eO (bY _),eK (aT _),aA,seval,kG]
   exact⟨rI rfl,hD _⟩
 have gL:(cT (sb s) a 91&& !cT (sb s) (a+1) 93)=false:=by
  rw[←hf,sT hx]
  rcases Nat.decEq x.toNat 91 with h | h
  · rw[fS h,gK]
  · rw[gM h,eV]
    cases h93:cT (sb s) f 93 with
    | true=>rfl
    | false=>exact absurd ⟨h,h93⟩ hL
 by_cases hU:tF x=true
 case pos=>
  have hP':=a1G (R:=R) h0' g40 gL (by rw[v7 hx];exact hU)
  rw[hP'] at hP
  subst hP
  have hbn:JQ (sb s) a=x.toNat:=by unfold JQ;rw[hx]
  simp only[tF,cA,bJ] at hU
  have sL:((x.toNat:Int)=91)=False:=cH (by omega)
  have h65:((65:Int)≤(x.toNat:Int))=True:=dB (by omega)
  have h90:((x.toNat:Int)≤90)=True:=dB (by omega)
  obtain⟨y,hy⟩:∃y,y=x.toNat - 65:=⟨_,rfl⟩
  have hw2:IntKind.wrap .u8 ((x.toNat:Int) - 65)=(y:Int):=by rw[IntKind.wrap_u8];omega
  have hw3:=bO (n:=(y:Int))
  simp -implicitDefEqProofs only[vU,zZ,hix,C3,sL,h65,h90,hw2,hw3,tR,bU,bZ,aA,seval,kG]
  refine(JW (y:Int) _).to ?_
  simp -implicitDefEqProofs only[aK,cC,cG,bY,eO (bY _),eK (aT _),hw,aA,seval,kG]
  rw[hbn,←hy,←hf]
  exact⟨rI rfl,hD _⟩
 have gU:gC (sb s) a tF=false:=by rw[v7 hx];simpa using hU
 cases hdg:(gC (sb s) a dT||(cT (sb s) a 45&&gC (sb s) (a+1) dT)) with
 | true=>
  have hP':=a1D (R:=R) h0' g40 gL gU hdg
  rw[hP'] at hP
  by_cases hdx:dT x=true
  case' pos=>have C4:=hdx
  case' neg=>
   have hdx:dT x=false:=by simpa using hdx
   rw[v7 hx,hdx,oV,cA,sT hx,bJ] at hdg
   have C4:((x.toNat:Int)=45)=True:=dB (by omega)
  all_goals
   by_cases h91:x.toNat=91
   case' pos=>
    have sL:((x.toNat:Int)=91)=True:=dB (by omega)
    have h93:cT (sb s) f 93=true:=by rw[sT hx,gM h91,eV,←hf] at gL;simpa using gL
   case' neg=>
    have sL:((x.toNat:Int)=91)=False:=cH (by omega)
    have h93:=sL
   all_goals
    by_cases h65:65≤x.toNat
    case' pos=>
     have vV:((65:Int)≤(x.toNat:Int))=True:=dB (by omega)
     have z6:((x.toNat:Int)≤90)=False:=cH (by intro h;exact hU (by simp only[tF,cA,bJ];omega))
    case' neg=>
     have vV:((65:Int)≤(x.toNat:Int))=False:=cH (by omega)
     have z6:=vV
   all_goals
    simp -implicitDefEqProofs only[vU,zZ,hix,C3,sL,vV,z6,hw,bU,bZ,aA,seval,kG]
    try
     refine(kZ s f 93 _).to ?_
     rw[h93]
     simp -implicitDefEqProofs only[hix,vV,z6,bU,bZ,aA,seval]
    refine(AQ s a _).to ?_
    rw[v7 hx]
   all_goals
    simp -implicitDefEqProofs only[hix,hdx,C4,hw,bU,aA,seval]
    try
     refine(AQ s f _).to ?_
     rw[hf,hdg.2]
     simp -implicitDefEqProofs only[aA,seval]
    refine(aSN s hs a ha _).to ?_
    cases hn:uJ (sb s) a with
    | none=>
     rw[hn] at hP
     subst hP
     simp -implicitDefEqProofs only[aJ,cC,cG,AS,bU,aA,↓aU,seval,kG]
     refine(CK a (by omega) _).to ?_
     simp -implicitDefEqProofs only[aK,cC,cG,bY,eO (bY _),eK (aT _),lF,aA,seval,kG]
     exact⟨x9 (by omega),hD _⟩
    | some p=>
     obtain⟨n,e⟩:=p
     rw[hn] at hP
     subst hP
     have he0:((e:Int)<0)=False:=cH (by omega)
     simp -implicitDefEqProofs only[aK,aT,aJ,cC,cG,bY,eO (bY _),eK (aT _),AS,he0,bZ,aA,↓aU,seval,kG]
     exact⟨rI rfl,hD _⟩
 | false=>
  have hP':=a1C (R:=R) h0' g40 gL gU hdg
  rw[hP',←hd1] at hP
  rw[v7 hx,Bool.or_eq_false_iff,sT hx,←hf] at hdg
  have hdx:=hdg.1
  by_cases h45:x.toNat=45
  case' pos=>
   have C4:((x.toNat:Int)=45)=True:=dB (by omega)
   have hfd:gC (sb s) f dT=false:=by have:=hdg.2;rwa [gM h45,eV] at this
  case' neg=>
   have C4:((x.toNat:Int)=45)=False:=cH (by omega)
   have hfd:=C4
  all_goals
   by_cases h91:x.toNat=91
   case' pos=>
    have sL:((x.toNat:Int)=91)=True:=dB (by omega)
    have h93:cT (sb s) f 93=true:=by rw[sT hx,gM h91,eV,←hf] at gL;simpa using gL
   case' neg=>
    have sL:((x.toNat:Int)=91)=False:=cH (by omega)
    have h93:=sL
   all_goals
    by_cases h65:65≤x.toNat
    case' pos=>
     have vV:((65:Int)≤(x.toNat:Int))=True:=dB (by omega)
     have z6:((x.toNat:Int)≤90)=False:=cH (by intro h;exact hU (by simp only[tF,cA,bJ];omega))
    case' neg=>
     have vV:((65:Int)≤(x.toNat:Int))=False:=cH (by omega)
     have z6:=vV
   all_goals
    simp -implicitDefEqProofs only[vU,zZ,hix,C3,sL,vV,z6,hw,bU,bZ,aA,seval,kG]
    try
     refine(kZ s f 93 _).to ?_
     rw[h93]
     simp -implicitDefEqProofs only[hix,vV,z6,bU,bZ,aA,seval]
    refine(AQ s a _).to ?_
    rw[v7 hx]
   all_goals
    simp -implicitDefEqProofs only[hix,hdx,C4,hw,bU,bZ,aA,seval]
    try
     refine(AQ s f _).to ?_
     rw[hfd]
     simp -implicitDefEqProofs only[aA,seval]
    refine(OO s hs a ha _).to ?_
    cases hn:oP (sb s) a with
    | none=>
     rw[hn] at hP
     subst hP
     simp -implicitDefEqProofs only[AR,bU,aA,seval]
     refine(CK a (by omega) _).to ?_
     simp -implicitDefEqProofs only[aK,cC,cG,bY,eO (bY _),eK (aT _),lF,aA,seval,kG]
     exact⟨x9 (by omega),hD _⟩
    | some p=>
     obtain⟨nm,e⟩:=p
     rw[hn] at hP
     simp only at hP
     have hel:=HL (by rw[cM];exact ha) hn
     rw[cM] at hel
     have he0:((e:Int)<0)=False:=cH (by omega)
     obtain⟨f2,hf2⟩:∃f2,f2=e+1:=⟨_,rfl⟩
     have hwe:=nY (x:=(e:Int)+1) (m:=f2) (by omega) (by omega)
     simp -implicitDefEqProofs only[AR,he0,bZ,aA,seval]
     refine(kZ s e 40 _).to ?_
     cases h4:cT (sb s) e 40 with
     | false=>
      rw[aH h4] at hP
      subst hP
      simp -implicitDefEqProofs only[aA,seval]
      refine(sB nm [] (by simp) _).to ?_
      simp -implicitDefEqProofs only[aK,cC,cG,bY,eO (bY _),eK (aT _),aA,seval,kG]
      exact⟨rI rfl,hD _⟩
     | true=>
      rw[aE (by simp [h4]),←hf2] at hP
      have h5:=oI h4
      rw[cM] at h5
      simp -implicitDefEqProofs only[hwd,hwe,aA,seval]
      refine(WU (hR d1 (by omega)) (hok d1) hs f2 (by omega) (by omega) _ (c1:=41) (c2:=41)).mono ?_
      rintro r _ ⟨hr,rfl⟩
      cases hT:rQ (R d1) (sb s) 41 41 ((sb s).length+1) f2 [] with
      | none=>
       rw[hT] at hr hP
       subst hP
       obtain⟨k,hk,rfl⟩:=hr
       have hk0:((-1 - (k:Int))<0)=True:=dB (by omega)
       simp -implicitDefEqProofs only[aK,hk0,bU,aA,seval,kG]
       exact⟨D4 hk,hD _⟩
      | some p=>
       obtain⟨ts,e3⟩:=p
       rw[hT] at hr hP
       simp only[uX] at hr hP
       subst hr hP
       obtain⟨g1,g2,g3,g4,g5⟩:=MQ (hok d1) _ _ _ _ _ (by rw[cM];omega) (by simp) hT
       rw[cM] at g2
       have he3:((e3:Int)<0)=False:=cH (by omega)
       have hw3:=bO (n:=(e3:Int)+1)
       simp -implicitDefEqProofs only[aK,he3,hw3,bZ,aA,seval,kG]
       exact⟨by rw[show(AV.agg [.int .i64 3,.int .i64 0,.str nm,.slice (ts.map Tm.av)])=(oM nm ts).av from (aV ..).symm];exact rI rfl,hD _⟩
theorem aZ2{nm:ByteArray}(h:dQ nm≠0):nm≠⟨#[]⟩:=by rintro rfl;exact h (by decide)
abbrev rP:=zi tI_3 (zi zI_3 (zi aX (zi tI_9 (zi zI_9 (zi cI (zi tI_31 (zi zI_31 (zi aN (zi bG (zi bH (zi b9 (zi tI_66 (zi zI_66 (zi bQ (zi bR (zi bS (zi bT bP)))))))))))))))))
set_option maxHeartbeats 2000000 in
theorem aS2{s:ByteArray}(hs:s.size≤1000):∀(n d a lv:Nat) (st:aB),a≤s.size→lv≤3→d≤1048576→(s.size - a)*4+lv<n →
 aD prog 322 [.str s,.int .i64 (a:Int),.int .i64 (d:Int),.int .i64 (lv:Int)] st (fun r st'=>mF (rd (sb s) n d a lv) r∧st'=st):=by
 intro n
 induction n with
 | zero=>intro d a lv st _ _ _ h;omega
 | succ n IH=>
 intro d a lv st ha hlv hd hn
 have hl1:(sb s).length≤1000:=by rw[cM];exact hs
 refine aD.PE ?_
 refine wF [1000000,10] 4 func322 ntmps322 rfl rfl ?_
 intro _
 generalize hP:rd (sb s) (n+1) d a lv=o
 simp -implicitDefEqProofs only[aA,seval,rP]
 intro b hb
 have hD:=fun(o:AO)=>(aM.refl st).aC (o:=o) hb
 cases lv with
 | zero=>
  simp only[rd] at hP
  have h0:(((0:Nat):Int)=0)=True:=dB rfl
  simp -implicitDefEqProofs only[bU,aA,↓aU,seval]
  refine(aS1 (R:=fun d a=>rd (sb s) n d a 3) (a:=a) (fun d hd a' st' h1 h2=>IH d a' 3 st' h2 (by omega) hd (by omega)) (fun d=>A3 hl1 n d 3) hs ha d hd _).mono ?_
  rintro r _ ⟨hr,rfl⟩
  rw[hP] at hr
  cases o with
  | none=>
   obtain⟨k,hk,rfl⟩:=hr
   simp -implicitDefEqProofs only[aK,cC,cG,bY,eO (bY _),eK (aT _),lF,aA,seval,rP]
   exact⟨x9 hk,hD _⟩
  | some p=>
   obtain⟨t,e⟩:=p
   simp only[mF] at hr
   subst hr
   simp -implicitDefEqProofs only[aK,cC,cG,bY,eO (bY _),eK (aT _),aA,seval,rP]
   exact⟨rI rfl,hD _⟩
 | succ lv=>
  simp only[rd] at hP
  have h0:(((lv+1:Nat):Int)=0)=False:=cH (by omega)
  obtain⟨lw,hlw⟩:∃lw,lw=lv+1:=⟨_,rfl⟩
  rw[←hlw] at hP h0 ⊢
  have hwl:=nY (x:=(lw:Int) - 1) (m:=lv) (by omega) (by omega)
  simp -implicitDefEqProofs only[h0,hwl,bZ,aA,seval]
  refine(IH d a lv _ ha (by omega) hd (by omega)).mono ?_
  rintro r _ ⟨hr,rfl⟩
  cases hRi:rd (sb s) n d a lv with
  | none=>
   rw[hRi] at hr hP
   simp only at hP
   subst hP
   obtain⟨k,hk,rfl⟩:=hr
   have hk0:((0:Int)≤(-1 - (k:Int)))=False:=cH (by omega)
   simp -implicitDefEqProofs only[aK,cC,bY,lF,aA,↓aU,seval,rP]
   intro b10 h10
   have hbb:b10≠b:=fun h=>by rw[h,aB.aP] at h10;cases h10
   have PV:st b10=none:=by rwa [aB.aL _ _ hbb] at h10
   refine iE (σ:=Unit) [1000000,10] [0,2,3,8,10] (fun _=>True) (fun _=>[(9,.int .i64 0),(11,.int .i64 (-1 - (k:Int)))]) (fun _=>(st.aC b (.cells [.int .i64 0,.int .i64 0,.str ⟨#[]⟩,.fslice []])).aC b10 (.cells ID.av.cells)) (fun _=>0) (by decide +kernel) ⟨(),trivial,aO.mk (by simp -implicitDefEqProofs only[aA,seval])⟩ ?_
   rintro _ _
   simp -implicitDefEqProofs only[aK,hk0,hbb.symm,bZ,aA,seval,rP]
   exact⟨D4 hk,((hD _).aC PV).aC hb⟩
  | some p=>
   obtain⟨t,e⟩:=p
   rw[hRi] at hr hP
   simp only[mF] at hr hP
   subst hr
   obtain⟨g1,g2,g3⟩:=A3 hl1 n d lv a t e (by rw[cM];exact ha) hRi
   rw[cM] at g2 hP
   simp -implicitDefEqProofs only[aK,cC,bY,aA,↓aU,seval,rP]
   intro b10 h10
   have hbb:b10≠b:=fun h=>by rw[h,aB.aP] at h10;cases h10
   have PV:st b10=none:=by rwa [aB.aL _ _ hbb] at h10
   have hE:∀o1 o2 o3,aM (((st.aC b o1).aC b10 o2).aC b o3) st:=fun o1 o2 o3=>((hD _).aC PV).aC hb
   refine iE (σ:=Tm×Nat×Nat) [1000000,10] [0,2,3,8,10] (fun x=>DY (fun a=>rd (sb s) n d a lv) (sb s) lw x.2.2 x.1 x.2.1=o∧a<x.2.1∧x.2.1≤s.size∧s.size<x.2.2+x.2.1) (fun x=>[(9,.int .i64 0),(11,.int .i64 (x.2.1:Int))]) (fun x=>(st.aC b (.cells [.int .i64 0,.int .i64 0,.str ⟨#[]⟩,.fslice []])).aC b10 (.cells x.1.av.cells)) (fun x=>x.2.2) (by decide +kernel) ⟨(t,e,s.size+1),⟨hP,g1,g2,by simp only;omega⟩,aO.mk (by simp -implicitDefEqProofs only[aA,seval])⟩ ?_
   rintro⟨t,e,m⟩ ⟨ht,hae,hes,hm⟩
   simp only at ht hae hes hm ⊢
   obtain⟨m,rfl⟩:∃m',m=m'+1:=⟨m - 1,by omega⟩
   simp only[DY] at ht
   have he0:((0:Int)≤(e:Int))=True:=dB (by omega)
   simp -implicitDefEqProofs only[he0,bU,aA,seval]
   refine(aSZ s hs e hes _).to ?_
   cases hop:qK (sb s) e with
   | none=>
    rw[hop] at ht
    simp only at ht
    subst ht
    simp -implicitDefEqProofs only[aK,cC,cG,bY,eO (bY _),eK (aT _),RN,hbb.symm,bU,aA,seval,rP]
    exact⟨rI rfl,hE _ _ _⟩
   | some p=>
    obtain⟨nm,e1⟩:=p
    rw[hop] at ht
    simp only at ht
    obtain⟨k1,k2,k3⟩:=aLK hop
    rw[cM] at k2
    have hnm:=cH (aZ2 k3)
    simp -implicitDefEqProofs only[RN,hnm,bZ,aA,seval]
    refine(vF nm _).to ?_
    by_cases aJ7:dQ nm=lw
    case neg=>
     rw[aH aJ7] at ht
     subst ht
     have hne:((dQ nm:Int)=(lw:Int))=False:=cH (by omega)
     simp -implicitDefEqProofs only[aK,cC,cG,bY,eO (bY _),eK (aT _),hne,hbb.symm,bZ,aA,seval,rP]
     exact⟨rI rfl,hE _ _ _⟩
    rw[aE (by simpa using aJ7)] at ht
    have hne:((dQ nm:Int)=(lw:Int))=True:=dB (by omega)
    simp -implicitDefEqProofs only[hne,hwl,bU,aA,seval]
    refine(IH d e1 lv _ k2 (by omega) hd (by omega)).mono ?_
    rintro r _ ⟨hr,rfl⟩
    cases hRj:rd (sb s) n d e1 lv with
    | none=>
     rw[hRj] at hr ht
     simp only at ht
     subst ht
     obtain⟨k,hk,rfl⟩:=hr
     have hk0:((-1 - (k:Int))<0)=True:=dB (by omega)
     simp -implicitDefEqProofs only[aK,aJ,cC,cG,hk0,lF,hbb.symm,bU,aA,↓aU,seval,rP]
     exact⟨D4 hk,hE _ _ _⟩
    | some p=>
     obtain⟨t2,e2⟩:=p
     rw[hRj] at hr ht
     simp only[mF] at hr ht
     subst hr
     obtain⟨q1,q2,q3⟩:=A3 hl1 n d lv e1 t2 e2 (by rw[cM];exact k2) hRj
     rw[cM] at q2
     have he2:((e2:Int)<0)=False:=cH (by omega)
     simp -implicitDefEqProofs only[aT,aJ,cC,cG,bY,eO (bY _),eK (aT _),he2,bZ,aA,↓aU,seval,rP]
     refine(sB nm [t,t2] (by simp) _).to ?_
     by_cases h3:lw=3
     · rw[aH h3] at ht
       subst ht
       have h3':((lw:Int)=3)=True:=dB (by omega)
       simp -implicitDefEqProofs only[aK,cC,cG,bY,eO (bY _),eK (aT _),h3',hbb.symm,bU,aA,seval,rP]
       exact⟨rI rfl,hE _ _ _⟩
     · rw[aE h3] at ht
       have h3':((lw:Int)=3)=False:=cH (by omega)
       simp -implicitDefEqProofs only[aK,cC,bY,h3',bZ,aA,seval,rP]
       exact⟨(oM nm [t,t2],e2,m),by simp only;omega,⟨ht,by simp only;omega,q2,by simp only;omega⟩,aO.mk (by simp -implicitDefEqProofs only[aA,seval])⟩
theorem aLN{k n:Int}{s:ByteArray}{ts:List Tm}:rH (.mk k n s ts)=(decide (k=3)&&(decide (s=⟨#[46]⟩)&&decide (ts.length=2))):=rfl
theorem a0N{k n:Int}{s:ByteArray}{ts:List Tm}:LH (.mk k n s ts)=(decide (k=3)&&(decide (s=⟨#[91,93]⟩)&&decide (ts.length=0))):=rfl
theorem aZJ{k n:Int}{s:ByteArray}{ts:List Tm}:v6 (.mk k n s ts)=(decide (k=3)&&(decide (ts.length=2)&&decide (0<dQ s))):=rfl
theorem N6{k n:Int}{s:ByteArray}{ts:List Tm}:N7 (.mk k n s ts)=(decide (k=3)&&decide (0<ts.length)):=rfl
theorem a2X{k n:Int}{s:ByteArray}{ts:List Tm}:D7 (.mk k n s ts)=(decide (k=3)&&(decide (ts.length=0)&&decide (0<dQ s))):=rfl
abbrev S5:=zi tI_3 (zi zI_3 (zi aX (zi tI_4 (zi zI_4 (zi cE (zi tI_9 (zi zI_9 (zi cI (zi tI_31 (zi zI_31 (zi aN (zi bG (zi bH (zi b9 (zi tI_66 (zi zI_66 (zi bQ (zi bR (zi bS (zi bT bP))))))))))))))))))))
theorem JV(t:Tm)(st:aB):aD prog 274 [t.av] st (fun r st'=>r=.bool (rH t)∧st'=st):=by
 obtain⟨k,n,s,ts⟩:=t
 rw[aLN]
 refine wF [1000000] 1 func274 ntmps274 rfl rfl ?_
 intro _
 simp only[aV]
 by_cases h1:k=3
 case neg=>
  rw[fS h1,gK]
  simp -implicitDefEqProofs only[h1,bZ,aA,seval,S5]
 rw[gM h1,eV]
 by_cases h2:s=⟨#[46]⟩
 case neg=>
  rw[fS h2,gK]
  simp -implicitDefEqProofs only[h1,h2,bU,bZ,aA,seval,S5]
 rw[gM h2,eV]
 have h3:decide (((ts.length:Nat):Int)=2)=decide (ts.length=2):=by rw[zQ];omega
 simp -implicitDefEqProofs only[h1,h2,h3,bU,aF,aA,seval,S5]
abbrev S7:=zi tI_3 (zi zI_3 (zi aX (zi tI_4 (zi zI_4 (zi cE (zi tI_9 (zi zI_9 (zi cI (zi tI_31 (zi zI_31 (zi aN (zi bG (zi bH (zi b9 (zi tI_66 (zi zI_66 (zi bQ (zi bR (zi bS (zi bT bP))))))))))))))))))))
theorem aSM(t:Tm)(st:aB):aD prog 332 [t.av] st (fun r st'=>r=.bool (LH t)∧st'=st):=by
 obtain⟨k,n,s,ts⟩:=t
 rw[a0N]
 refine wF [1000000] 1 func332 ntmps332 rfl rfl ?_
 intro _
 simp only[aV]
 by_cases h1:k=3
 case neg=>
  rw[fS h1,gK]
  simp -implicitDefEqProofs only[h1,bZ,aA,seval,S7]
 rw[gM h1,eV]
 by_cases h2:s=⟨#[91,93]⟩
 case neg=>
  rw[fS h2,gK]
  simp -implicitDefEqProofs only[h1,h2,bU,bZ,aA,seval,S7]
 rw[gM h2,eV]
 have h3:decide (((ts.length:Nat):Int)=0)=decide (ts.length=0):=by rw[zQ];omega
 simp -implicitDefEqProofs only[h1,h2,h3,bU,aF,aA,seval,S7]
abbrev S6:=zi tI_3 (zi zI_3 (zi aX (zi tI_4 (zi zI_4 (zi cE (zi tI_9 (zi zI_9 (zi cI (zi tI_31 (zi zI_31 (zi aN (zi bG (zi bH (zi b9 (zi tI_66 (zi zI_66 (zi bQ (zi bR (zi bS (zi bT bP))))))))))))))))))))
theorem WS(t:Tm)(st:aB):aD prog 276 [t.av] st (fun r st'=>r=.bool (v6 t)∧st'=st):=by
 obtain⟨k,n,s,ts⟩:=t
 rw[aZJ]
 refine wF [1000000] 1 func276 ntmps276 rfl rfl ?_
 intro _
 simp only[aV]
 by_cases h1:k=3
 case neg=>
  rw[fS h1,gK]
  simp -implicitDefEqProofs only[h1,bZ,aA,seval,S6]
 rw[gM h1,eV]
 by_cases h2:ts.length=2
 case neg=>
  rw[fS h2,gK]
  have h2':(((ts.length:Nat):Int)=2)=False:=cH (by omega)
  simp -implicitDefEqProofs only[h1,h2',bU,bZ,aF,aA,seval,S6]
 rw[gM h2,eV]
 have h2':(((ts.length:Nat):Int)=2)=True:=dB (by omega)
 simp -implicitDefEqProofs only[h1,h2',bU,aF,aA,seval,S6]
 refine(vF s _).to ?_
 have h3:decide ((0:Int)<(dQ s:Int))=decide (0<dQ s):=by rw[zQ];omega
 simp -implicitDefEqProofs only[h3,aA,seval]
abbrev S8:=zi tI_3 (zi zI_3 (zi aX (zi tI_4 (zi zI_4 (zi cE (zi tI_9 (zi zI_9 (zi cI (zi tI_31 (zi zI_31 (zi aN (zi bG (zi bH (zi b9 (zi tI_66 (zi zI_66 (zi bQ (zi bR (zi bS (zi bT bP))))))))))))))))))))
theorem WT(t:Tm)(st:aB):aD prog 333 [t.av] st (fun r st'=>r=.bool (D7 t)∧st'=st):=by
 obtain⟨k,n,s,ts⟩:=t
 rw[a2X]
 refine wF [1000000] 1 func333 ntmps333 rfl rfl ?_
 intro _
 simp only[aV]
 by_cases h1:k=3
 case neg=>
  rw[fS h1,gK]
  simp -implicitDefEqProofs only[h1,bZ,aA,seval,S8]
 rw[gM h1,eV]
 by_cases h2:ts.length=0
 case neg=>
  rw[fS h2,gK]
  have h2':(((ts.length:Nat):Int)=0)=False:=cH (by omega)
  simp -implicitDefEqProofs only[h1,h2',bU,bZ,aF,aA,seval,S8]
 rw[gM h2,eV]
 have h2':(((ts.length:Nat):Int)=0)=True:=dB (by omega)
 simp -implicitDefEqProofs only[h1,h2',bU,aF,aA,seval,S8]
 refine(vF s _).to ?_
 have h3:decide ((0:Int)<(dQ s:Int))=decide (0<dQ s):=by rw[zQ];omega
 simp -implicitDefEqProofs only[h3,aA,seval]
theorem aS4(s:ByteArray)(hs:s.size≤1000)(st:aB):aD prog 278 [.str s] st (fun r st'=>r=.str (rL s)∧st'=st):=by
 refine wF [1000000] 1 func278 ntmps278 rfl rfl ?_
 intro _
 have hm:maxLen=9223372036854775807:=by rfl
 have g1:(⟨#[32]⟩:ByteArray).size+s.size≤maxLen:=by show 1+s.size≤_;omega
 have g2:((⟨#[32]⟩:ByteArray)++s).size+(⟨#[32]⟩:ByteArray).size≤maxLen:=by rw[dG];show 1+s.size+1≤_;omega
 by_cases h1:s=⟨#[105,115]⟩
 · have hW:iV s=true:=by unfold iV;rw[gM h1];try rfl
   unfold rL
   rw[aH hW]
   have h1':=dB h1
   simp -implicitDefEqProofs only[h1',g1,g2,↓reduceIte,bU,aA,seval]
 · have h1':=cH h1
   by_cases h2:s=⟨#[109,111,100]⟩
   · have hW:iV s=true:=by unfold iV;rw[gM h2];exact yS _
     unfold rL
     rw[aH hW]
     have h2':=dB h2
     simp -implicitDefEqProofs only[h1',h2',g1,g2,↓reduceIte,bU,bZ,aA,seval]
   · have hW:iV s=false:=by unfold iV;rw[fS h1,fS h2];try rfl
     unfold rL
     rw[aE (by rw[hW];decide)]
     have h2':=cH h2
     simp -implicitDefEqProofs only[h1',h2',bZ,aA,seval]
theorem aS0(s:ByteArray)(hs:1≤s.size)(st:aB):aD prog 335 [.str s] st (fun r st'=>r=.bool (LQ (sb s))∧st'=st):=by
 refine wF [1000000] 1 func335 ntmps335 rfl rfl ?_
 intro _
 obtain⟨x,hx⟩:=vE (s:=s) (n:=0) (by omega)
 have hix:=sS (P:=prog) (t:=9) cI hx
 rw[show((0:Nat):Int)=0 from rfl] at hix
 unfold LQ
 simp only[v7 hx,sT hx]
 simp -implicitDefEqProofs only[aA,seval]
 refine(aK6 s 0 _).to ?_
 rw[v7 hx]
 cases h1:letter x with
 | true=>
  simp -implicitDefEqProofs only[aA,seval]
  simp
 | false=>
  simp -implicitDefEqProofs only[aA,seval]
  refine(AQ s 0 _).to ?_
  rw[v7 hx]
  cases h2:dT x with
  | true=>
   simp -implicitDefEqProofs only[aA,seval]
   simp
  | false=>
   by_cases h3:65≤x.toNat
   case' pos=>have h3':((65:Int)≤(x.toNat:Int))=True:=dB (by omega)
   case' neg=>have h3':((65:Int)≤(x.toNat:Int))=False:=cH (by omega)
   all_goals
    by_cases h4:x.toNat≤90
    case' pos=>have h4':((x.toNat:Int)≤90)=True:=dB (by omega)
    case' neg=>have h4':((x.toNat:Int)≤90)=False:=cH (by omega)
   all_goals
    by_cases h5:x.toNat=91
    case' pos=>have h5':((x.toNat:Int)=91)=True:=dB (by omega)
    case' neg=>have h5':((x.toNat:Int)=91)=False:=cH (by omega)
   all_goals
    by_cases h6:x.toNat=40
    case' pos=>have h6':((x.toNat:Int)=40)=True:=dB (by omega)
    case' neg=>have h6':((x.toNat:Int)=40)=False:=cH (by omega)
   all_goals try (exfalso;omega)
   all_goals
    simp -implicitDefEqProofs only[hix,h3',h4',h5',h6',bU,bZ,aA,seval]
    simp [tF,h3,h4,h5,h6]
end Go.AW
