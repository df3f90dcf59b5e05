/- The rules by which the code is evaluated: equations for simp. -/
import Derived.Test.YtimfffmcljmfgaaGreatDoorUzc
set_option linter.unusedSimpArgs false
set_option linter.unusedVariables false
set_option maxRecDepth 100000
namespace Go.AW
section
variable {P:Program} {N:Nat} {mt:List Nat} {Q:Exit→AF→aB→Prop} {φ:AF} {st:aB} {x y:Code} {ops:Array Oper} {id:Nat}
theorem aJ8:gT P N mt .skip Q φ st=Q .normal φ st:=rfl
theorem aJ5:gT P N mt (.seq x y) Q φ st=gT P N mt x (J3 (gT P N mt y Q) Q) φ st:=rfl
def JG(P:Program)(mt:List Nat)(l:List Oper)(Q:Exit→AF→aB→Prop)(φ:AF)(st:aB):Bool→Prop
 | true=>gV P mt l.toArray l (Q .normal) φ st
 | false=>bK P mt l.toArray l (Q .normal) φ st
theorem aJA{l:List Oper}:gT P N mt (.region id l.toArray false) Q φ st=JG P mt l Q φ st (mt.contains 1000000):=by
 simp only[gT,jC,dI]
 cases mt.contains 1000000<;>rfl
theorem aI9{l:List Oper}:JG P mt l Q φ st true=gV P mt l.toArray l (Q .normal) φ st:=rfl
theorem aI8{l:List Oper}:JG P mt l Q φ st false=bK P mt l.toArray l (Q .normal) φ st:=rfl
theorem aF6:gT P N mt (.region id ops true) Q φ st=g7 P N (.region id ops true) Q φ st:=by simp [gT]
theorem aF3{c:Operand}:gT P N mt (.cond c x y) Q φ st=w4 (φ.eval c) (gT P N mt x Q) (gT P N mt y Q) φ st:=rfl
theorem aE0:gT P N mt (.block id x) Q φ st=gT P N mt x (D9 id Q) φ st:=rfl
theorem aH1:gT P N mt (.loop x) Q φ st=g7 P N (.loop x) Q φ st:=rfl
theorem aF9:gT P N mt (.exit id) Q φ st=Q (.exit id) φ st:=rfl
theorem aJC:gT P N mt .ret Q φ st=Q .ret φ st:=rfl
theorem aLN{k₁ k₂:AF→aB→Prop}:w4 (.bool true) k₁ k₂ φ st=k₁ φ st:=by simp [w4]
theorem aGB{k₁ k₂:AF→aB→Prop}:w4 (.bool false) k₁ k₂ φ st=k₂ φ st:=by simp [w4]
theorem aK7{k:AF→aB→Prop}:J3 k Q .normal φ st=k φ st:=rfl
theorem aK6{k:AF→aB→Prop}:J3 k Q (.exit id) φ st=Q (.exit id) φ st:=rfl
theorem aK8{k:AF→aB→Prop}:J3 k Q .ret φ st=Q .ret φ st:=rfl
theorem aE2:D9 id Q .normal φ st=Q .normal φ st:=rfl
theorem aE1{i:Nat}:D9 id Q (.exit i) φ st=if i=id then Q .normal φ st else Q (.exit i) φ st:=rfl
theorem aE3:D9 id Q .ret φ st=Q .ret φ st:=rfl
theorem aH3{k:AF→aB→Prop}:qJ k Q .normal φ st=k φ st:=rfl
theorem aH2{k:AF→aB→Prop}:qJ k Q (.exit id) φ st=Q (.exit id) φ st:=rfl
theorem aH4{k:AF→aB→Prop}:qJ k Q .ret φ st=Q .ret φ st:=rfl
def nW(P:Program)(rs:List ResultVar)(K:AV→aB→Prop)(φ:AF)(st:aB):Prop:=
 match qV P φ st rs with
 | some xs=>J8 K st xs
 | none=>False
theorem aJO{rs:Array ResultVar}{K:AV→aB→Prop}:JI P rs K .ret φ st=nW P rs.toList K φ st:=rfl
theorem aJN{rs:Array ResultVar}{K:AV→aB→Prop}:JI P rs K .normal φ st=nW P rs.toList K φ st:=rfl
theorem aJE{t:Tmp}{K:AV→aB→Prop}:nW P [.tmp t] K φ st=K (φ t) st:=rfl
theorem aJD{K:AV→aB→Prop}:nW P [] K φ st=K (.tup []) st:=by simp [nW,qV,J8,lJ]
theorem aJF{t u:Tmp}{K:AV→aB→Prop}:nW P [.tmp t,.tmp u] K φ st=(lJ [φ t,φ u]=true∧K (.tup [φ t,φ u]) st):=rfl
theorem aJG{t u v:Tmp}{K:AV→aB→Prop}:nW P [.tmp t,.tmp u,.tmp v] K φ st=(lJ [φ t,φ u,φ v]=true∧K (.tup [φ t,φ u,φ v]) st):=rfl
theorem aJH{t u v w:Tmp}{K:AV→aB→Prop}:nW P [.tmp t,.tmp u,.tmp v,.tmp w] K φ st=(lJ [φ t,φ u,φ v,φ w]=true∧K (.tup [φ t,φ u,φ v,φ w]) st):=rfl
def NV(k:AV→Prop):Option AV→Prop
 | some r=>k r
 | none=>False
theorem aJI{p:Tmp}{t:TypeId}{K:AV→aB→Prop}:nW P [.cell p t] K φ st=NV (fun r=>K r st) (iM P st t (φ p)):=by
 simp only[nW,qV,D3]
 cases iM P st t (φ p)<;>rfl
theorem aJJ{p u:Tmp}{t:TypeId}{K:AV→aB→Prop}:nW P [.cell p t,.tmp u] K φ st=NV (fun r=>lJ [r,φ u]=true∧K (.tup [r,φ u]) st) (iM P st t (φ p)):=by
 simp only[nW,qV,D3]
 cases iM P st t (φ p)<;>rfl
theorem aJM{u p:Tmp}{t:TypeId}{K:AV→aB→Prop}:nW P [.tmp u,.cell p t] K φ st=NV (fun r=>lJ [φ u,r]=true∧K (.tup [φ u,r]) st) (iM P st t (φ p)):=by
 simp only[nW,qV,D3]
 cases iM P st t (φ p)<;>rfl
theorem aIL{k:AV→Prop}{r:AV}:NV k (some r)=k r:=rfl
def kW(P:Program)(mt:List Nat)(ops:Array Oper)(rest:List Oper)(K:AF→aB→Prop)(φ:AF)(dst:Option Tmp)(st:aB):Option AV→Prop
 | some r=>bK P mt ops rest K (φ.put dst r) st
 | none=>False
def pJ(P:Program)(mt:List Nat)(ops:Array Oper)(rest:List Oper)(K:AF→aB→Prop)(φ:AF)(dst:Option Tmp)(r:AV)(st:aB):Prop:=bK P mt ops rest K (φ.put dst r) st
def x9(P:Program)(mt:List Nat)(ops:Array Oper)(o:Oper)(rest:List Oper)(K:AF→aB→Prop)(φ:AF)(st:aB):Option Bool→Prop
 | some true=>bK P mt ops ({ o with guard:=none }::rest) K φ st
 | some false=>bK P mt ops rest K (φ.put o.dst .undef) st
 | none=>False
def gd(ops:Array Oper)(φ:AF)(j:Nat)(want:Bool):Option Bool:=
 match (ops[j]?).bind (·.dst) with
 | none=>some false
 | some d=>match φ d with
  | .bool b=>some (b == want)
  | .undef=>some false
  | _=>none
section
variable {rest:List Oper} {K:AF→aB→Prop} {dst:Option Tmp} {type:TypeId} {pos:String} {after:Array Edge}
theorem aII:bK P mt ops [] K φ st=K φ st:=rfl
theorem aGL{op:Op}{j:Nat}{want:Bool}:bK P mt ops (⟨dst,op,type,pos,after,some (j,want)⟩::rest) K φ st=x9 P mt ops ⟨dst,op,type,pos,after,some (j,want)⟩ rest K φ st (gd ops φ j want):=by
 simp only[bK]
 have h1:jW ops φ ⟨dst,op,type,pos,after,some (j,want)⟩=gd ops φ j want:=rfl
 rw[h1]
 cases gd ops φ j want with
 | none=>rfl
 | some b=>cases b<;>simp [x9,bK,jW,fY,lV]
theorem aCG{r:AV}:pJ P mt ops rest K φ dst r st=bK P mt ops rest K (φ.put dst r) st:=rfl
theorem aC6{r:AV}:kW P mt ops rest K φ dst st (some r)=bK P mt ops rest K (φ.put dst r) st:=rfl
theorem aCI{op:Op}{g:Option (Nat×Bool)}:x9 P mt ops ⟨dst,op,type,pos,after,g⟩ rest K φ st (some true)=bK P mt ops (⟨dst,op,type,pos,after,none⟩::rest) K φ st:=rfl
theorem aCH{op:Op}{g:Option (Nat×Bool)}:x9 P mt ops ⟨dst,op,type,pos,after,g⟩ rest K φ st (some false)=bK P mt ops rest K (φ.put dst .undef) st:=rfl
theorem mO{o:Oper}(hg:o.guard=none)(e:∀K',fY P mt φ st o K'=match lV P φ st o with | some r=>K' r st | none=>False):bK P mt ops (o::rest) K φ st=kW P mt ops rest K φ o.dst st (lV P φ st o):=by
 simp only[bK,jW,hg,e]
 cases lV P φ st o<;>rfl
def KG:AV→AV→AV→Option AV
 | .bool b,x,y=>some (if b then x else y)
 | _,_,_=>none
def A7:AV→Option AV
 | .ptr b q=>some (.ptr b q)
 | .pptr e=>some (.pptr e)
 | _=>none
def KI(P:Program)(t f:Nat)(x:AV):Option AV:=match fI P t f,x with | some (off,ag,sz),.agg cs=>sub ag cs off sz | _,_=>none
def KH(x:AV)(i:Nat):Option AV:=match x with | .tup vs=>vs[i]? | _=>none
def K8(g:FuncId)(cs:List AV):Option AV:=if lJ cs=true then some (.func g cs) else none
def tZ(P:Program)(f:AV)(args:List AV)(st:aB)(K:AV→aB→Prop):Prop:=match f with | .func g dT=>aD P g (args++dT) st K | _=>False
def y7(P:Program)(m:Bool)(t:TypeId)(x:AV)(st:aB)(K:AV→aB→Prop)(k:Option AV→Prop):Prop:=
 if m=true then x.cH=false∧∀b,st b=none→K (.ptr b 0) (st.aC b (.cells x.cells)) else k (yL P t x)
def LE(zs:Option (List AV))(st:aB)(K:AV→aB→Prop):Prop:=match zs with | some zs=>∀b,st b=none→K (.ptr b 0) (st.aC b (.cells zs)) | none=>False
def N9(P:Program)(t:TypeId)(p x:AV)(st:aB)(K:AV→aB→Prop):Prop:=
 match p with
 | .ptr b q=>match st b,tI P t with
  | some (.cells cs),some (_,sz)=>x.cells.length=sz∧q+sz≤cs.length∧x.cells.all AV.storable=true∧K .undef (st.aC b (.cells (aG cs q x.cells)))
  | _,_=>False
 | _=>False
theorem aIE{x:Operand}:bK P mt ops (⟨dst,.move x,type,pos,after,none⟩::rest) K φ st=bK P mt ops rest K (φ.put dst (φ.eval x)) st:=rfl
theorem aEW{x:Operand}:bK P mt ops (⟨dst,.assign x,type,pos,after,none⟩::rest) K φ st=bK P mt ops rest K (φ.put dst (φ.eval x)) st:=rfl
theorem aIN{c x y:Operand}:bK P mt ops (⟨dst,.pick c x y,type,pos,after,none⟩::rest) K φ st=kW P mt ops rest K φ dst st (KG (φ.eval c) (φ.eval x) (φ.eval y)):=by
 rw[mO rfl fun _=>rfl]
 simp only[lV]
 cases φ.eval c<;>rfl
theorem aEZ{op:BinOp}{t t':TypeId}{x y:Operand}:bK P mt ops (⟨dst,.binOp op t x y t',type,pos,after,none⟩::rest) K φ st=kW P mt ops rest K φ dst st (eL P op t (φ.eval x) (φ.eval y)):=mO rfl fun _=>rfl
theorem aLO{op:UnOp}{t:TypeId}{x:Operand}:bK P mt ops (⟨dst,.unOp op t x,type,pos,after,none⟩::rest) K φ st=kW P mt ops rest K φ dst st (G4 op (φ.eval x)):=mO rfl fun _=>rfl
theorem aIJ{x:Operand}:bK P mt ops (⟨dst,.nilCheck x,type,pos,after,none⟩::rest) K φ st=kW P mt ops rest K φ dst st (A7 (φ.eval x)):=by
 rw[mO rfl fun _=>rfl]
 try rfl
theorem aGD{t f:Nat}{x:Operand}:bK P mt ops (⟨dst,.fieldAddr t x f,type,pos,after,none⟩::rest) K φ st=kW P mt ops rest K φ dst st (tF P t f (φ.eval x)):=mO rfl fun _=>rfl
theorem aHZ{t:TypeId}{x:Operand}:bK P mt ops (⟨dst,.load t x,type,pos,after,none⟩::rest) K φ st=kW P mt ops rest K φ dst st (iM P st t (φ.eval x)):=mO rfl fun _=>rfl
theorem aGC{t f:Nat}{x:Operand}:bK P mt ops (⟨dst,.field t x f,type,pos,after,none⟩::rest) K φ st=kW P mt ops rest K φ dst st (KI P t f (φ.eval x)):=by
 rw[mO rfl fun _=>rfl]
 try rfl
theorem aHO{t:TypeId}{x i:Operand}:bK P mt ops (⟨dst,.indexAddr t x i,type,pos,after,none⟩::rest) K φ st=kW P mt ops rest K φ dst st (dM P t (φ.eval x) (φ.eval i)):=mO rfl fun _=>rfl
theorem aHN{t:TypeId}{x i:Operand}:bK P mt ops (⟨dst,.index t x i,type,pos,after,none⟩::rest) K φ st=kW P mt ops rest K φ dst st (DZ P t (φ.eval x) (φ.eval i)):=mO rfl fun _=>rfl
theorem aJ9{t:TypeId}{x:Operand}{lo hi mx:Option Operand}:bK P mt ops (⟨dst,.slice t x lo hi mx,type,pos,after,none⟩::rest) K φ st=kW P mt ops rest K φ dst st (iK P φ t (φ.eval x) lo hi mx):=mO rfl fun _=>rfl
theorem aGA{x:Operand}{i:Nat}:bK P mt ops (⟨dst,.extract x i,type,pos,after,none⟩::rest) K φ st=kW P mt ops rest K φ dst st (KH (φ.eval x) i):=by
 rw[mO rfl fun _=>rfl]
 try rfl
theorem aH6{g:FuncId}{dT:Array Operand}:bK P mt ops (⟨dst,.makeFunc (.func g) #[] dT,type,pos,after,none⟩::rest) K φ st=kW P mt ops rest K φ dst st (K8 g (dT.toList.map φ.eval)):=by
 rw[mO rfl fun _=>rfl]
 congr 1
 simp [lV,K8]
theorem aE8{t:TypeId}{ps:Array (Nat×Operand)}:bK P mt ops (⟨dst,.build t ps,type,pos,after,none⟩::rest) K φ st=kW P mt ops rest K φ dst st (A6 P φ t ps):=mO rfl fun _=>rfl
theorem aE9{t:TypeId}{n:Nat}{ps:Array (Nat×Operand)}:bK P mt ops (⟨dst,.buildSlice t n ps,type,pos,after,none⟩::rest) K φ st=kW P mt ops rest K φ dst st (DI P φ t n ps):=mO rfl fun _=>rfl
theorem aF4{t u:TypeId}{x:Operand}:bK P mt ops (⟨dst,.convert t u x,type,pos,after,none⟩::rest) K φ st=kW P mt ops rest K φ dst st (tP P t u (φ.eval x)):=mO rfl fun _=>rfl
theorem aH0{t:TypeId}{x i:Operand}{ok:Bool}:bK P mt ops (⟨dst,.lookup t x i ok,type,pos,after,none⟩::rest) K φ st=kW P mt ops rest K φ dst st (pT P st t ok (φ.eval x) (φ.eval i)):=mO rfl fun _=>rfl
theorem aHT{x:Operand}{t:TypeId}:bK P mt ops (⟨dst,.call { callee:=.builtin .len,args:=#[x],argTypes:=#[t] },type,pos,after,none⟩::rest) K φ st=kW P mt ops rest K φ dst st (m8 P t (φ.eval x)):=mO rfl fun _=>rfl
theorem aFH{f:Operand}{args:List Operand}{ats:Array TypeId}:bK P mt ops (⟨dst,.call { callee:=.value f,args:=args.toArray,argTypes:=ats },type,pos,after,none⟩::rest) K φ st=tZ P (φ.eval f) (args.map φ.eval) st (pJ P mt ops rest K φ dst):=rfl
theorem aIA{x y:Operand}{ts:Array TypeId}:bK P mt ops (⟨dst,.call { callee:=.builtin .max,args:=#[x,y],argTypes:=ts },type,pos,after,none⟩::rest) K φ st=kW P mt ops rest K φ dst st (yX (φ.eval x) (φ.eval y)):=mO rfl fun _=>rfl
theorem aIC{x y:Operand}{ts:Array TypeId}:bK P mt ops (⟨dst,.call { callee:=.builtin .min,args:=#[x,y],argTypes:=ts },type,pos,after,none⟩::rest) K φ st=kW P mt ops rest K φ dst st (D0 (φ.eval x) (φ.eval y)):=mO rfl fun _=>rfl
theorem aD6{s x:Operand}{t t':TypeId}:bK P mt ops (⟨dst,.call { callee:=.builtin .append,args:=#[s,x],argTypes:=#[t,t'] },type,pos,after,none⟩::rest) K φ st=(if t=t' then kY P t st (φ.eval s) (φ.eval x) (pJ P mt ops rest K φ dst) else tO P t t' st (φ.eval s) (φ.eval x) (pJ P mt ops rest K φ dst)):=rfl
theorem aF2{x:Operand}{t:TypeId}:bK P mt ops (⟨dst,.call { callee:=.builtin .clear,args:=#[x],argTypes:=#[t] },type,pos,after,none⟩::rest) K φ st=wZ P t st (φ.eval x) (pJ P mt ops rest K φ dst):=rfl
theorem aF5{m k:Operand}{t t':TypeId}:bK P mt ops (⟨dst,.call { callee:=.builtin .delete,args:=#[m,k],argTypes:=#[t,t'] },type,pos,after,none⟩::rest) K φ st=BK P t st (φ.eval m) (φ.eval k) (pJ P mt ops rest K φ dst):=rfl
theorem aE5{t:TypeId}{x:Operand}:bK P mt ops (⟨dst,.box t x,type,pos,after,none⟩::rest) K φ st=y7 P (DJ mt dst) t (φ.eval x) st (pJ P mt ops rest K φ dst) (kW P mt ops rest K φ dst st):=by
 simp only[bK,jW,fY,y7,pJ]
 split
 · rfl
 · cases yL P t (φ.eval x)<;>rfl
theorem aD3{t:TypeId}:bK P mt ops (⟨dst,.alloc t,type,pos,after,none⟩::rest) K φ st=LE (zI P t) st (pJ P mt ops rest K φ dst):=rfl
theorem aK0{t:TypeId}{p x:Operand}:bK P mt ops (⟨dst,.store t p x,type,pos,after,none⟩::rest) K φ st=N9 P t (φ.eval p) (φ.eval x) st (pJ P mt ops rest K φ dst):=rfl
theorem aH7{t:TypeId}:bK P mt ops (⟨dst,.makeMap t none,type,pos,after,none⟩::rest) K φ st=∀b,st b=none→pJ P mt ops rest K φ dst (.map b) (st.aC b (.map fun _=>none)):=rfl
theorem aH8{t:TypeId}{n c:Operand}:bK P mt ops (⟨dst,.makeSlice t n c,type,pos,after,none⟩::rest) K φ st=tQ P t st (φ.eval n) (φ.eval c) (pJ P mt ops rest K φ dst):=rfl
theorem aH9{t:TypeId}{m k x:Operand}:bK P mt ops (⟨dst,.mapUpdate t m k x,type,pos,after,none⟩::rest) K φ st=tR P t st (φ.eval m) (φ.eval k) (φ.eval x) (pJ P mt ops rest K φ dst):=rfl
theorem aLM{t:Tmp}:φ.eval (.tmp t)=φ t:=rfl
theorem aFC{k:IntKind}{n:Int}:φ.eval (.const (.int k n))=.int k n:=rfl
theorem aFA{b:Bool}:φ.eval (.const (.bool b))=.bool b:=rfl
theorem aFE:φ.eval (.const (.slice none 0 0))=.fslice []:=rfl
theorem aFF:φ.eval (.const (.pointer none))=.nilptr:=rfl
theorem aFD:φ.eval (.const (.map none))=.nilmap:=rfl
theorem aFB{g:FuncId}:φ.eval (.func g)=.func g []:=rfl
theorem aFG{l:List UInt8}:φ.eval (.const (.string ⟨l.toArray⟩))=if l.length≤9223372036854775807 then .str ⟨l.toArray⟩ else .junk:=by
 simp [AF.eval,ofConst,ByteArray.size,maxLen]
theorem aLP{d e:Nat}{v:AV}:(φ.aC d v) e=if e=d then v else φ e:=rfl
theorem aI5{d:Nat}{v:AV}:φ.put (some d) v=φ.aC d v:=rfl
theorem aI6{v:AV}:φ.put none v=φ:=rfl
theorem aD8{i:Nat}:vG i []=AF.bot:=rfl
theorem aD7{i:Nat}{a:AV}{as:List AV}:vG i (a::as)=(vG (i+1) as).aC i a:=rfl
theorem aDE{P:Program}{t:TypeId}{k:IntKind}{a b:Int}:eL P .add t (.int k a) (.int k b)=some (.int k (k.wrap (a+b))):=by simp [eL,lH]
theorem aK5{P:Program}{t:TypeId}{k:IntKind}{a b:Int}:eL P .sub t (.int k a) (.int k b)=some (.int k (k.wrap (a - b))):=by simp [eL,lH]
theorem aIF{P:Program}{t:TypeId}{k:IntKind}{a b:Int}:eL P .mul t (.int k a) (.int k b)=some (.int k (k.wrap (a*b))):=by simp [eL,lH]
theorem aI7{P:Program}{t:TypeId}{k:IntKind}{a b:Int}:eL P .quo t (.int k a) (.int k b)=if b=0 then none else some (.int k (k.wrap (a.tdiv b))):=by simp [eL,lH]
theorem aJB{P:Program}{t:TypeId}{k:IntKind}{a b:Int}:eL P .rem t (.int k a) (.int k b)=if b=0 then none else some (.int k (a.tmod b)):=by simp [eL,lH]
theorem aF8{P:Program}{t:TypeId}{k:IntKind}{a b:Int}:eL P .eql t (.int k a) (.int k b)=some (.bool (decide (a=b))):=by simp [eL,lH]
theorem aIH{P:Program}{t:TypeId}{k:IntKind}{a b:Int}:eL P .neq t (.int k a) (.int k b)=some (.bool (!decide (a=b))):=by simp [eL,lH]
theorem aH5{P:Program}{t:TypeId}{k:IntKind}{a b:Int}:eL P .lss t (.int k a) (.int k b)=some (.bool (decide (a<b))):=by simp [eL,lH]
theorem aHY{P:Program}{t:TypeId}{k:IntKind}{a b:Int}:eL P .leq t (.int k a) (.int k b)=some (.bool (decide (a≤b))):=by simp [eL,lH]
theorem aGK{P:Program}{t:TypeId}{k:IntKind}{a b:Int}:eL P .gtr t (.int k a) (.int k b)=some (.bool (decide (b<a))):=by simp [eL,lH]
theorem aGJ{P:Program}{t:TypeId}{k:IntKind}{a b:Int}:eL P .geq t (.int k a) (.int k b)=some (.bool (decide (b≤a))):=by simp [eL,lH]
theorem aL7{P:Program}{t:TypeId}{k:IntKind}{a b:Int}:eL P .xor t (.int k a) (.int k b)=some (.int k (G5 k a b)):=by simp [eL,lH]
theorem aD5{P:Program}{t:TypeId}{k:IntKind}{a b:Int}:eL P .and t (.int k a) (.int k b)=some (.int k (QG k a b)):=by simp [eL,lH]
theorem aIM{P:Program}{t:TypeId}{k:IntKind}{a b:Int}:eL P .or t (.int k a) (.int k b)=some (.int k (QK k a b)):=by simp [eL,lH]
theorem aIB{k:IntKind}{a b:Int}:yX (.int k a) (.int k b)=some (.int k (if a<b then b else a)):=by simp [yX]
theorem aID{k:IntKind}{a b:Int}:D0 (.int k a) (.int k b)=some (.int k (if b<a then b else a)):=by simp [D0]
theorem aJ6{P:Program}{t:TypeId}{a b:ByteArray}:eL P .eql t (.str a) (.str b)=some (.bool (decide (a=b))):=by simp [eL,lH]
theorem aKB{P:Program}{t:TypeId}{a b:ByteArray}:eL P .neq t (.str a) (.str b)=some (.bool (!decide (a=b))):=by simp [eL,lH]
theorem aJP{P:Program}{t:TypeId}{a b:ByteArray}:eL P .add t (.str a) (.str b)=if a.size+b.size≤maxLen then some (.str (a++b)) else none:=by simp [eL,lH]
theorem aKA{P:Program}{t:TypeId}{a b:ByteArray}:eL P .lss t (.str a) (.str b)=some (.bool (Op.bytesLess a.toList b.toList)):=by simp [eL,lH]
theorem aJ7{P:Program}{t:TypeId}{a b:ByteArray}:eL P .gtr t (.str a) (.str b)=some (.bool (!(Op.bytesLess a.toList b.toList||decide (a=b)))):=by simp [eL,lH]
theorem aEY{P:Program}{t:TypeId}{a b:Bool}(h:P.underlying t=some .bool):eL P .eql t (.bool a) (.bool b)=some (.bool (a == b)):=by simp [eL,h]
theorem aE4{P:Program}{t:TypeId}{a b:Bool}(h:P.underlying t=some .bool):eL P .neq t (.bool a) (.bool b)=some (.bool (!(a == b))):=by simp [eL,h]
theorem aIK{b:Bool}:G4 .not (.bool b)=some (.bool (!b)):=rfl
theorem aIG{k:IntKind}{n:Int}:G4 .neg (.int k n)=some (.int k (k.wrap (0 - n))):=rfl
end
end
@[congr] theorem bAB {P:Program} {N:Nat} {mt:List Nat} {c:Code} {Q:Exit→AF→aB→Prop} {φ φ':AF} {st st':aB} (h1:φ=φ') (h2:st=st'):gT P N mt c Q φ st=gT P N mt c Q φ' st':=by rw[h1,h2]
@[congr] theorem bAG {P:Program} {mt:List Nat} {ops:Array Oper} {l:List Oper} {K:AF→aB→Prop} {φ φ':AF} {st st':aB} (h1:φ=φ') (h2:st=st'):bK P mt ops l K φ st=bK P mt ops l K φ' st':=by rw[h1,h2]
@[congr] theorem bAU {P:Program} {mt:List Nat} {ops:Array Oper} {l:List Oper} {K:AF→aB→Prop} {φ:AF} {st:aB} {dst:Option Tmp} {x x':Option AV} (h1:x=x'):kW P mt ops l K φ dst st x=kW P mt ops l K φ dst st x':=by rw[h1]
@[congr] theorem bAT {P:Program} {mt:List Nat} {ops:Array Oper} {o:Oper} {l:List Oper} {K:AF→aB→Prop} {φ:AF} {st:aB} {x x':Option Bool} (h1:x=x'):x9 P mt ops o l K φ st x=x9 P mt ops o l K φ st x':=by rw[h1]
@[congr] theorem bAS {P:Program} {mt:List Nat} {ops:Array Oper} {l:List Oper} {K:AF→aB→Prop} {φ:AF} {dst:Option Tmp} {r r':AV} {st st':aB} (h1:r=r') (h2:st=st'):pJ P mt ops l K φ dst r st=pJ P mt ops l K φ dst r' st':=by rw[h1,h2]
@[congr] theorem bAC {c c':AV} {k₁ k₂:AF→aB→Prop} {φ:AF} {st:aB} (h1:c=c'):w4 c k₁ k₂ φ st=w4 c' k₁ k₂ φ st:=by rw[h1]
@[congr] theorem a97 {P:Program} {N:Nat} {c:Code} {Q:Exit→AF→aB→Prop} {φ φ':AF} {st st':aB} (h1:φ=φ') (h2:st=st'):g7 P N c Q φ st=g7 P N c Q φ' st':=by rw[h1,h2]
@[congr] theorem a96 {P:Program} {g:FuncId} {args args':List AV} {st st':aB} {K:AV→aB→Prop} (h1:args=args') (h2:st=st'):aD P g args st K=aD P g args' st' K:=by rw[h1,h2]
@[congr] theorem bAP {P:Program} {f f':AV} {args args':List AV} {st st':aB} {K:AV→aB→Prop} (h0:f=f') (h1:args=args') (h2:st=st'):tZ P f args st K=tZ P f' args' st' K:=by rw[h0,h1,h2]
@[congr] theorem bAL {P:Program} {m m':Bool} {t:TypeId} {x x':AV} {st st':aB} {K:AV→aB→Prop} {k:Option AV→Prop} (h0:m=m') (h1:x=x') (h2:st=st'):y7 P m t x st K k=y7 P m' t x' st' K k:=by rw[h0,h1,h2]
@[congr] theorem bAK {zs zs':Option (List AV)} {st st':aB} {K:AV→aB→Prop} (h1:zs=zs') (h2:st=st'):LE zs st K=LE zs' st' K:=by rw[h1,h2]
@[congr] theorem bA0 {P:Program} {t:TypeId} {p p' x x':AV} {st st':aB} {K:AV→aB→Prop} (h0:p=p') (h1:x=x') (h2:st=st'):N9 P t p x st K=N9 P t p' x' st' K:=by rw[h0,h1,h2]
@[congr] theorem bAF {x x' y y':AV} (h0:x=x') (h1:y=y'):yX x y=yX x' y':=by rw[h0,h1]
@[congr] theorem bAA {P:Program} {t:TypeId} {x x':AV} {st st':aB} {K:AV→aB→Prop} (h1:x=x') (h2:st=st'):wZ P t st x K=wZ P t st' x' K:=by rw[h1,h2]
@[congr] theorem a99 {P:Program} {t t':TypeId} {s s' x x':AV} {st st':aB} {K:AV→aB→Prop} (h0:s=s') (h1:x=x') (h2:st=st'):tO P t t' st s x K=tO P t t' st' s' x' K:=by rw[h0,h1,h2]
@[congr] theorem a98 {P:Program} {t:TypeId} {s s' x x':AV} {st st':aB} {K:AV→aB→Prop} (h0:s=s') (h1:x=x') (h2:st=st'):kY P t st s x K=kY P t st' s' x' K:=by rw[h0,h1,h2]
@[congr] theorem bAD {P:Program} {t:TypeId} {s s' x x':AV} {st st':aB} {K:AV→aB→Prop} (h0:s=s') (h1:x=x') (h2:st=st'):tQ P t st s x K=tQ P t st' s' x' K:=by rw[h0,h1,h2]
@[congr] theorem bAE {P:Program} {t:TypeId} {m m' s s' x x':AV} {st st':aB} {K:AV→aB→Prop} (h:m=m') (h0:s=s') (h1:x=x') (h2:st=st'):tR P t st m s x K=tR P t st' m' s' x' K:=by rw[h,h0,h1,h2]
theorem aFI{P:Program}{g:FuncId}{dT args:List AV}{st:aB}{K:AV→aB→Prop}:tZ P (.func g dT) args st K=aD P g (args++dT) st K:=rfl
theorem aE6{P:Program}{t:TypeId}{x:AV}{st:aB}{K:AV→aB→Prop}{k:Option AV→Prop}:y7 P false t x st K k=k (yL P t x):=by simp [y7]
theorem aE7{P:Program}{t:TypeId}{x:AV}{st:aB}{K:AV→aB→Prop}{k:Option AV→Prop}:y7 P true t x st K k=(x.cH=false∧∀b,st b=none→K (.ptr b 0) (st.aC b (.cells x.cells))):=by simp [y7]
theorem aD4{zs:List AV}{st:aB}{K:AV→aB→Prop}:LE (some zs) st K=∀b,st b=none→K (.ptr b 0) (st.aC b (.cells zs)):=rfl
theorem aK1{P:Program}{t:TypeId}{b q:Nat}{x:AV}{st:aB}{K:AV→aB→Prop}:N9 P t (.ptr b q) x st K=match st b,tI P t with
 | some (.cells cs),some (_,sz)=>x.cells.length=sz∧q+sz≤cs.length∧x.cells.all AV.storable=true∧K .undef (st.aC b (.cells (aG cs q x.cells)))
 | _,_=>False:=rfl
def kI:Op→Bool
 | .alloc _=>true
 | _=>false
def j4:Op→Bool
 | .store _ _ _=>true
 | _=>false
def zK(P:Program)(mt:List Nat)(ops:Array Oper)(rest:List Oper)(K:AF→aB→Prop)(φ:AF)(st:aB):Prop:=gV P mt ops rest K φ st
def zF(P:Program)(mt:List Nat)(ops:Array Oper)(rest:List Oper)(K:AF→aB→Prop)(φ:AF)(d:Nat)(st:aB)(r:AV):Prop:=gV P mt ops rest K (φ.aC d r) st
def xP(x:AV)(K:AV→Prop):Option (List AV)→Option (Bool×Nat)→Prop
 | some zs,some (_,sz)=>zs.length=sz∧x.width=sz∧x.cells.all AV.storable=true∧x.cH=false∧K (.pptr x)
 | _,_=>False
def zM(P:Program)(mt:List Nat)(ops:Array Oper)(o:Oper)(s:Oper)(rest:List Oper)(K:AF→aB→Prop)(φ:AF)(st:aB)(d:Nat)(t:TypeId)(x:AV):Bool→Prop
 | true=>bK P mt ops [o] (zK P mt ops (s::rest) K) φ st
 | false=>xP x (zF P mt ops rest K φ d st) (zI P t) (tI P t)
section
variable {P:Program} {mt:List Nat} {ops:Array Oper} {rest:List Oper} {K:AF→aB→Prop} {φ:AF} {st:aB} {dst EJ:Option Tmp} {type wL:TypeId} {pos pos':String} {after vF:Array Edge} {g g':Option (Nat×Bool)} {op op':Op}
theorem MK:zK P mt ops rest K φ st=gV P mt ops rest K φ st:=rfl
theorem aL8{d:Nat}{r:AV}:zF P mt ops rest K φ d st r=gV P mt ops rest K (φ.aC d r) st:=rfl
theorem aC9:gV P mt ops [] K φ st=K φ st:=by rw[gV]
theorem MI(h:kI op=false):gV P mt ops (⟨dst,op,type,pos,after,g⟩::rest) K φ st=bK P mt ops [⟨dst,op,type,pos,after,g⟩] (zK P mt ops rest K) φ st:=by
 rw[gV]
 · rfl
 · intro d t ty ps af t' d' x ty' ps' af' r e1 e2
   cases e1
   cases h
 · intro d t ty ps af e y ty2 ps2 af2 t' d' x ty' ps' af' r e1 e2
   cases e1
   cases h
theorem MJ{t:TypeId}{x:AV}{k:AV→Prop}:DY P t x k=xP x k (zI P t) (tI P t):=by
 unfold DY xP
 simp only[vL]
 cases zI P t<;>cases tI P t<;>rfl
theorem aGI{x:AV}{k:AV→Prop}{zs:List AV}{ag:Bool}{sz:Nat}:xP x k (some zs) (some (ag,sz))=(zs.length=sz∧x.width=sz∧x.cells.all AV.storable=true∧x.cH=false∧k (.pptr x)):=rfl
theorem aCF{d:Nat}{t:TypeId}{x:Operand}:gV P mt ops (⟨some d,.alloc t,type,pos,after,none⟩::⟨none,.store t (.tmp d) x,wL,pos',vF,none⟩::rest) K φ st =
 zM P mt ops ⟨some d,.alloc t,type,pos,after,none⟩ ⟨none,.store t (.tmp d) x,wL,pos',vF,none⟩ rest K φ st d t (φ.eval x) (mt.contains d||qI x d):=by
 rw[gV]
 cases h:(mt.contains d||qI x d) with
 | true=>
  rw[aE (by simp)]
  show _=bK P mt ops _ (fun φ' st'=>zK P mt ops _ K φ' st') φ st
  simp only[MK,MI (K:=K) (rest:=rest) (op:=.store t (.tmp d) x) rfl]
  rfl
 | false=>
  rw[aH ⟨rfl,rfl,rfl⟩,MJ]
  try rfl
theorem aMC{o s:Oper}{d:Nat}{t:TypeId}{x:AV}:zM P mt ops o s rest K φ st d t x true=bK P mt ops [o] (zK P mt ops (s::rest) K) φ st:=rfl
theorem aMB{o s:Oper}{d:Nat}{t:TypeId}{x:AV}:zM P mt ops o s rest K φ st d t x false=xP x (zF P mt ops rest K φ d st) (zI P t) (tI P t):=rfl
def KF(P:Program)(mt:List Nat)(ops:Array Oper)(o:Oper)(os:List Oper)(rest:List Oper)(K:AF→aB→Prop)(φ φ':AF)(st:aB)(d:Nat)(t:TypeId)(x:AV):Bool→Prop
 | true=>bK P mt ops [o] (zK P mt ops (os++rest) K) φ st
 | false=>xP x (zF P mt ops rest K φ' d st) (zI P t) (tI P t)
theorem aL9{o:Oper}{os:List Oper}{φ':AF}{d:Nat}{t:TypeId}{x:AV}:KF P mt ops o os rest K φ φ' st d t x false=xP x (zF P mt ops rest K φ' d st) (zI P t) (tI P t):=rfl
theorem aMA{o:Oper}{os:List Oper}{φ':AF}{d:Nat}{t:TypeId}{x:AV}:KF P mt ops o os rest K φ φ' st d t x true=bK P mt ops [o] (zK P mt ops (os++rest) K) φ st:=rfl
theorem aZX{d e:Nat}{t:TypeId}{x y:Operand}{type2:TypeId}{yC:String}{G6:Array Edge}:gV P mt ops (⟨some d,.alloc t,type,pos,after,none⟩::⟨some e,.assign y,type2,yC,G6,none⟩::⟨none,.store t (.tmp d) x,wL,pos',vF,none⟩::rest) K φ st =
 KF P mt ops ⟨some d,.alloc t,type,pos,after,none⟩ [⟨some e,.assign y,type2,yC,G6,none⟩,⟨none,.store t (.tmp d) x,wL,pos',vF,none⟩] rest K φ (φ.aC e (φ.eval y)) st d t ((φ.aC e (φ.eval y)).eval x) (mt.contains d||qI x d||qI y d||d == e):=by
 rw[gV]
 cases h:(mt.contains d||qI x d||qI y d||d == e) with
 | true=>
  rw[aE (by simp)]
  show _=bK P mt ops _ (fun φ' st'=>zK P mt ops _ K φ' st') φ st
  simp only[MK,fQ,eS,MI (K:=K) (op:=.assign y) rfl]
  rfl
 | false=>
  rw[aH ⟨rfl,rfl,rfl⟩,MJ]
  try rfl
def kV:Op→Bool
 | .assign _=>true
 | _=>false
theorem aDA{t:TypeId}(h:j4 op'=false)(h2:kV op'=false):gV P mt ops (⟨dst,.alloc t,type,pos,after,g⟩::⟨EJ,op',wL,pos',vF,g'⟩::rest) K φ st=bK P mt ops [⟨dst,.alloc t,type,pos,after,g⟩] (zK P mt ops (⟨EJ,op',wL,pos',vF,g'⟩::rest) K) φ st:=by
 rw[gV]
 · rfl
 · intro d t ty ps af t' d' x ty' ps' af' r e1 e2
   cases e2
   cases h
 · intro d t ty ps af e y ty2 ps2 af2 t' d' x ty' ps' af' r e1 e2
   cases e2
   cases h2
theorem aDB{t:TypeId}:gV P mt ops [⟨dst,.alloc t,type,pos,after,g⟩] K φ st=bK P mt ops [⟨dst,.alloc t,type,pos,after,g⟩] (zK P mt ops [] K) φ st:=by
 rw[gV]
 · rfl
 · intro d t ty ps af t' d' x ty' ps' af' r e1 e2
   cases e2
 · intro d t ty ps af e y ty2 ps2 af2 t' d' x ty' ps' af' r e1 e2
   cases e2
theorem aDC{t:TypeId}{y:Operand}:gV P mt ops [⟨dst,.alloc t,type,pos,after,g⟩,⟨EJ,.assign y,wL,pos',vF,g'⟩] K φ st=bK P mt ops [⟨dst,.alloc t,type,pos,after,g⟩] (zK P mt ops [⟨EJ,.assign y,wL,pos',vF,g'⟩] K) φ st:=by
 rw[gV]
 · rfl
 · intro d t ty ps af t' d' x ty' ps' af' r e1 e2
   cases e2
 · intro d t ty ps af e y ty2 ps2 af2 t' d' x ty' ps' af' r e1 e2
   cases e2
theorem aDD{t:TypeId}{y:Operand}{aB6:Option Tmp}{op2:Op}{type2:TypeId}{yC:String}{G6:Array Edge}{g2:Option (Nat×Bool)}(h:j4 op2=false):gV P mt ops (⟨dst,.alloc t,type,pos,after,g⟩::⟨EJ,.assign y,wL,pos',vF,g'⟩::⟨aB6,op2,type2,yC,G6,g2⟩::rest) K φ st=bK P mt ops [⟨dst,.alloc t,type,pos,after,g⟩] (zK P mt ops (⟨EJ,.assign y,wL,pos',vF,g'⟩::⟨aB6,op2,type2,yC,G6,g2⟩::rest) K) φ st:=by
 rw[gV]
 · rfl
 · intro d t ty ps af t' d' x ty' ps' af' r e1 e2
   cases e2
 · intro d t ty ps af e y ty2 ps2 af2 t' d' x ty' ps' af' r e1 e2
   cases e2
   cases h
theorem aHQ{d e:Nat}:qI (.tmp e) d=(e == d):=rfl
theorem aHP{v:Value}{d:Nat}:qI (.const v) d=false:=rfl
theorem aDX{x:Operand}:kI (.move x)=false:=rfl
theorem aKV{x:Operand}:j4 (.move x)=false:=rfl
theorem aDF{x:Operand}:kI (.assign x)=false:=rfl
theorem aKD{x:Operand}:j4 (.assign x)=false:=rfl
theorem aDZ{c x y:Operand}:kI (.pick c x y)=false:=rfl
theorem aKX{c x y:Operand}:j4 (.pick c x y)=false:=rfl
theorem aDG{op:BinOp}{t:TypeId}{x y:Operand}{t':TypeId}:kI (.binOp op t x y t')=false:=rfl
theorem aKE{op:BinOp}{t:TypeId}{x y:Operand}{t':TypeId}:j4 (.binOp op t x y t')=false:=rfl
theorem aD2{op:UnOp}{t:TypeId}{x:Operand}:kI (.unOp op t x)=false:=rfl
theorem aKZ{op:UnOp}{t:TypeId}{x:Operand}:j4 (.unOp op t x)=false:=rfl
theorem aDY{x:Operand}:kI (.nilCheck x)=false:=rfl
theorem aKW{x:Operand}:j4 (.nilCheck x)=false:=rfl
theorem aDO{t f:Nat}{x:Operand}:kI (.fieldAddr t x f)=false:=rfl
theorem aKM{t f:Nat}{x:Operand}:j4 (.fieldAddr t x f)=false:=rfl
theorem aDR{t:TypeId}{x:Operand}:kI (.load t x)=false:=rfl
theorem aKP{t:TypeId}{x:Operand}:j4 (.load t x)=false:=rfl
theorem aD1{t:TypeId}{p x:Operand}:kI (.store t p x)=false:=rfl
theorem aDN{t f:Nat}{x:Operand}:kI (.field t x f)=false:=rfl
theorem aKL{t f:Nat}{x:Operand}:j4 (.field t x f)=false:=rfl
theorem aDQ{t:TypeId}{x i:Operand}:kI (.indexAddr t x i)=false:=rfl
theorem aKO{t:TypeId}{x i:Operand}:j4 (.indexAddr t x i)=false:=rfl
theorem aDP{t:TypeId}{x i:Operand}:kI (.index t x i)=false:=rfl
theorem aKN{t:TypeId}{x i:Operand}:j4 (.index t x i)=false:=rfl
theorem aD0{t:TypeId}{x:Operand}{lo hi mx:Option Operand}:kI (.slice t x lo hi mx)=false:=rfl
theorem aKY{t:TypeId}{x:Operand}{lo hi mx:Option Operand}:j4 (.slice t x lo hi mx)=false:=rfl
theorem aDM{x:Operand}{i:Nat}:kI (.extract x i)=false:=rfl
theorem aKK{x:Operand}{i:Nat}:j4 (.extract x i)=false:=rfl
theorem aDI{t:TypeId}{ps:Array (Nat×Operand)}:kI (.build t ps)=false:=rfl
theorem aKG{t:TypeId}{ps:Array (Nat×Operand)}:j4 (.build t ps)=false:=rfl
theorem aDJ{t:TypeId}{n:Nat}{ps:Array (Nat×Operand)}:kI (.buildSlice t n ps)=false:=rfl
theorem aKH{t:TypeId}{n:Nat}{ps:Array (Nat×Operand)}:j4 (.buildSlice t n ps)=false:=rfl
theorem aDL{t u:TypeId}{x:Operand}:kI (.convert t u x)=false:=rfl
theorem aKJ{t u:TypeId}{x:Operand}:j4 (.convert t u x)=false:=rfl
theorem aDS{t:TypeId}{x i:Operand}{ok:Bool}:kI (.lookup t x i ok)=false:=rfl
theorem aKQ{t:TypeId}{x i:Operand}{ok:Bool}:j4 (.lookup t x i ok)=false:=rfl
theorem aDK{c:_}:kI (.call c)=false:=rfl
theorem aKI{c:_}:j4 (.call c)=false:=rfl
theorem aDH{t:TypeId}{x:Operand}:kI (.box t x)=false:=rfl
theorem aKF{t:TypeId}{x:Operand}:j4 (.box t x)=false:=rfl
theorem aDU{t:_}{x:_}:kI (.makeMap t x)=false:=rfl
theorem aKS{t:_}{x:_}:j4 (.makeMap t x)=false:=rfl
theorem aDV{t:TypeId}{n c:Operand}:kI (.makeSlice t n c)=false:=rfl
theorem aKT{t:TypeId}{n c:Operand}:j4 (.makeSlice t n c)=false:=rfl
theorem aDW{t:TypeId}{m k x:Operand}:kI (.mapUpdate t m k x)=false:=rfl
theorem aKU{t:TypeId}{m k x:Operand}:j4 (.mapUpdate t m k x)=false:=rfl
theorem aDT{f:_}{a:_}{b:_}:kI (.makeFunc f a b)=false:=rfl
theorem aKR{f:_}{a:_}{b:_}:j4 (.makeFunc f a b)=false:=rfl
theorem aKC{t:TypeId}:j4 (.alloc t)=false:=rfl
theorem aER{x:Operand}:kV (.move x)=false:=rfl
theorem aET{c x y:Operand}:kV (.pick c x y)=false:=rfl
theorem aEA{op:BinOp}{t:TypeId}{x y:Operand}{t':TypeId}:kV (.binOp op t x y t')=false:=rfl
theorem aEV{op:UnOp}{t:TypeId}{x:Operand}:kV (.unOp op t x)=false:=rfl
theorem aES{x:Operand}:kV (.nilCheck x)=false:=rfl
theorem aEI{t f:Nat}{x:Operand}:kV (.fieldAddr t x f)=false:=rfl
theorem aEL{t:TypeId}{x:Operand}:kV (.load t x)=false:=rfl
theorem aEH{t f:Nat}{x:Operand}:kV (.field t x f)=false:=rfl
theorem aEK{t:TypeId}{x i:Operand}:kV (.indexAddr t x i)=false:=rfl
theorem aEJ{t:TypeId}{x i:Operand}:kV (.index t x i)=false:=rfl
theorem aEU{t:TypeId}{x:Operand}{lo hi mx:Option Operand}:kV (.slice t x lo hi mx)=false:=rfl
theorem aEG{x:Operand}{i:Nat}:kV (.extract x i)=false:=rfl
theorem aEC{t:TypeId}{ps:Array (Nat×Operand)}:kV (.build t ps)=false:=rfl
theorem aED{t:TypeId}{n:Nat}{ps:Array (Nat×Operand)}:kV (.buildSlice t n ps)=false:=rfl
theorem aEF{t u:TypeId}{x:Operand}:kV (.convert t u x)=false:=rfl
theorem aEM{t:TypeId}{x i:Operand}{ok:Bool}:kV (.lookup t x i ok)=false:=rfl
theorem aEE{c:_}:kV (.call c)=false:=rfl
theorem aEB{t:TypeId}{x:Operand}:kV (.box t x)=false:=rfl
theorem aEO{t:_}{x:_}:kV (.makeMap t x)=false:=rfl
theorem aEP{t:TypeId}{n c:Operand}:kV (.makeSlice t n c)=false:=rfl
theorem aEQ{t:TypeId}{m k x:Operand}:kV (.mapUpdate t m k x)=false:=rfl
theorem aEN{f:_}{a:_}{b:_}:kV (.makeFunc f a b)=false:=rfl
theorem aD9{t:TypeId}:kV (.alloc t)=false:=rfl
@[congr] theorem bA2 {o:Oper} {os:List Oper} {φ' φ2 φ2':AF} {st':aB} {d:Nat} {t:TypeId} {x x':AV} {b b':Bool} (h1:φ=φ') (h0:φ2=φ2') (h2:st=st') (h3:x=x') (h4:b=b'):KF P mt ops o os rest K φ φ2 st d t x b=KF P mt ops o os rest K φ' φ2' st' d t x' b':=by rw[h1,h0,h2,h3,h4]
@[congr] theorem bAQ {x x':AV} {k:AV→Prop} {a a':Option (List AV)} {b b':Option (Bool×Nat)} (h0:x=x') (h1:a=a') (h2:b=b'):xP x k a b=xP x' k a' b':=by rw[h0,h1,h2]
@[congr] theorem bA1 {o s:Oper} {φ':AF} {st':aB} {d:Nat} {t:TypeId} {x x':AV} {b b':Bool} (h1:φ=φ') (h2:st=st') (h3:x=x') (h4:b=b'):zM P mt ops o s rest K φ st d t x b=zM P mt ops o s rest K φ' st' d t x' b':=by rw[h1,h2,h3,h4]
@[congr] theorem bAY {l:List Oper} {Q:Exit→AF→aB→Prop} {φ':AF} {st':aB} {b b':Bool} (h1:φ=φ') (h2:st=st') (h3:b=b'):JG P mt l Q φ st b=JG P mt l Q φ' st' b':=by rw[h1,h2,h3]
end
end Go.AW
