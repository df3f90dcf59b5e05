/- The rules by which the code is evaluated: equations for simp. -/
import Derived.Test.YtimfffmcljmfgaaGreatDoorUyc
set_option linter.unusedSimpArgs false
set_option linter.unusedVariables false
set_option maxRecDepth 100000
namespace Go.AW
section
variable {P:Program} {N:Nat} {mt:List Nat} {Q:Exit→AF→aA→Prop} {φ:AF} {st:aA} {x y:Code} {ops:Array Oper} {id:Nat}
theorem aEY:fT P N mt .skip Q φ st=Q .normal φ st:=rfl
theorem aEV:fT P N mt (.seq x y) Q φ st=fT P N mt x (DO (fT P N mt y Q) Q) φ st:=rfl
def GN(P:Program)(mt:List Nat)(l:List Oper)(Q:Exit→AF→aA→Prop)(φ:AF)(st:aA):Bool→Prop
 | true=>fU P mt l.toArray l (Q .normal) φ st
 | false=>bE P mt l.toArray l (Q .normal) φ st
theorem aD0{l:List Oper}:fT P N mt (.region id l.toArray false) Q φ st=GN P mt l Q φ st (mt.contains 1000000):=by
 simp only[fT,jF,cS]
 cases mt.contains 1000000<;>rfl
theorem aDZ{l:List Oper}:GN P mt l Q φ st true=fU P mt l.toArray l (Q .normal) φ st:=rfl
theorem aDY{l:List Oper}:GN P mt l Q φ st false=bE P mt l.toArray l (Q .normal) φ st:=rfl
theorem aAW:fT P N mt (.region id ops true) Q φ st=fC P N (.region id ops true) Q φ st:=by simp [fT]
theorem aAT{c:Operand}:fT P N mt (.cond c x y) Q φ st=uQ (φ.eval c) (fT P N mt x Q) (fT P N mt y Q) φ st:=rfl
theorem ZQ:fT P N mt (.block id x) Q φ st=fT P N mt x (BS id Q) φ st:=rfl
theorem aCR:fT P N mt (.loop x) Q φ st=fC P N (.loop x) Q φ st:=rfl
theorem aAZ:fT P N mt (.exit id) Q φ st=Q (.exit id) φ st:=rfl
theorem aD2:fT P N mt .ret Q φ st=Q .ret φ st:=rfl
theorem aGD{k₁ k₂:AF→aA→Prop}:uQ (.bool true) k₁ k₂ φ st=k₁ φ st:=by simp [uQ]
theorem aA1{k₁ k₂:AF→aA→Prop}:uQ (.bool false) k₁ k₂ φ st=k₂ φ st:=by simp [uQ]
theorem aFX{k:AF→aA→Prop}:DO k Q .normal φ st=k φ st:=rfl
theorem aFW{k:AF→aA→Prop}:DO k Q (.exit id) φ st=Q (.exit id) φ st:=rfl
theorem aFY{k:AF→aA→Prop}:DO k Q .ret φ st=Q .ret φ st:=rfl
theorem ZS:BS id Q .normal φ st=Q .normal φ st:=rfl
theorem ZR{i:Nat}:BS id Q (.exit i) φ st=if i=id then Q .normal φ st else Q (.exit i) φ st:=rfl
theorem ZT:BS id Q .ret φ st=Q .ret φ st:=rfl
theorem aCT{k:AF→aA→Prop}:oT k Q .normal φ st=k φ st:=rfl
theorem aCS{k:AF→aA→Prop}:oT k Q (.exit id) φ st=Q (.exit id) φ st:=rfl
theorem aCU{k:AF→aA→Prop}:oT k Q .ret φ st=Q .ret φ st:=rfl
def nE(P:Program)(rs:List ResultVar)(K:AV→aA→Prop)(φ:AF)(st:aA):Prop:=
 match oD P φ st rs with
 | some xs=>DR K st xs
 | none=>False
theorem aEE{rs:Array ResultVar}{K:AV→aA→Prop}:DA P rs K .ret φ st=nE P rs.toList K φ st:=rfl
theorem aED{rs:Array ResultVar}{K:AV→aA→Prop}:DA P rs K .normal φ st=nE P rs.toList K φ st:=rfl
theorem aD4{t:Tmp}{K:AV→aA→Prop}:nE P [.tmp t] K φ st=K (φ t) st:=rfl
theorem aD3{K:AV→aA→Prop}:nE P [] K φ st=K (.tup []) st:=by simp [nE,oD,DR,kQ]
theorem aD5{t u:Tmp}{K:AV→aA→Prop}:nE P [.tmp t,.tmp u] K φ st=(kQ [φ t,φ u]=true∧K (.tup [φ t,φ u]) st):=rfl
theorem aD6{t u v:Tmp}{K:AV→aA→Prop}:nE P [.tmp t,.tmp u,.tmp v] K φ st=(kQ [φ t,φ u,φ v]=true∧K (.tup [φ t,φ u,φ v]) st):=rfl
theorem aD7{t u v w:Tmp}{K:AV→aA→Prop}:nE P [.tmp t,.tmp u,.tmp v,.tmp w] K φ st=(kQ [φ t,φ u,φ v,φ w]=true∧K (.tup [φ t,φ u,φ v,φ w]) st):=rfl
def KM(k:AV→Prop):Option AV→Prop
 | some r=>k r
 | none=>False
theorem aD8{p:Tmp}{t:TypeId}{K:AV→aA→Prop}:nE P [.cell p t] K φ st=KM (fun r=>K r st) (gN P st t (φ p)):=by
 simp only[nE,oD,BL]
 cases gN P st t (φ p)<;>rfl
theorem aD9{p u:Tmp}{t:TypeId}{K:AV→aA→Prop}:nE P [.cell p t,.tmp u] K φ st=KM (fun r=>kQ [r,φ u]=true∧K (.tup [r,φ u]) st) (gN P st t (φ p)):=by
 simp only[nE,oD,BL]
 cases gN P st t (φ p)<;>rfl
theorem aEC{u p:Tmp}{t:TypeId}{K:AV→aA→Prop}:nE P [.tmp u,.cell p t] K φ st=KM (fun r=>kQ [φ u,r]=true∧K (.tup [φ u,r]) st) (gN P st t (φ p)):=by
 simp only[nE,oD,BL]
 cases gN P st t (φ p)<;>rfl
theorem aDB{k:AV→Prop}{r:AV}:KM k (some r)=k r:=rfl
def jU(P:Program)(mt:List Nat)(ops:Array Oper)(rest:List Oper)(K:AF→aA→Prop)(φ:AF)(dst:Option Tmp)(st:aA):Option AV→Prop
 | some r=>bE P mt ops rest K (φ.put dst r) st
 | none=>False
def nU(P:Program)(mt:List Nat)(ops:Array Oper)(rest:List Oper)(K:AF→aA→Prop)(φ:AF)(dst:Option Tmp)(r:AV)(st:aA):Prop:=bE P mt ops rest K (φ.put dst r) st
def vQ(P:Program)(mt:List Nat)(ops:Array Oper)(o:Oper)(rest:List Oper)(K:AF→aA→Prop)(φ:AF)(st:aA):Option Bool→Prop
 | some true=>bE P mt ops ({ o with guard:=none }::rest) K φ st
 | some false=>bE P mt ops rest K (φ.put o.dst .undef) st
 | none=>False
def gd(ops:Array Oper)(φ:AF)(j:Nat)(want:Bool):Option Bool:=
 match (ops[j]?).bind (·.dst) with
 | none=>some false
 | some d=>match φ d with
  | .bool b=>some (b == want)
  | .undef=>some false
  | _=>none
section
variable {rest:List Oper} {K:AF→aA→Prop} {dst:Option Tmp} {type:TypeId} {pos:String} {after:Array Edge}
theorem aC8:bE P mt ops [] K φ st=K φ st:=rfl
theorem aBB{op:Op}{j:Nat}{want:Bool}:bE P mt ops (⟨dst,op,type,pos,after,some (j,want)⟩::rest) K φ st=vQ P mt ops ⟨dst,op,type,pos,after,some (j,want)⟩ rest K φ st (gd ops φ j want):=by
 simp only[bE]
 have h1:iS ops φ ⟨dst,op,type,pos,after,some (j,want)⟩=gd ops φ j want:=rfl
 rw[h1]
 cases gd ops φ j want with
 | none=>rfl
 | some b=>cases b<;>simp [vQ,bE,iS,eV,kT]
theorem W7{r:AV}:nU P mt ops rest K φ dst r st=bE P mt ops rest K (φ.put dst r) st:=rfl
theorem XX{r:AV}:jU P mt ops rest K φ dst st (some r)=bE P mt ops rest K (φ.put dst r) st:=rfl
theorem W9{op:Op}{g:Option (Nat×Bool)}:vQ P mt ops ⟨dst,op,type,pos,after,g⟩ rest K φ st (some true)=bE P mt ops (⟨dst,op,type,pos,after,none⟩::rest) K φ st:=rfl
theorem W8{op:Op}{g:Option (Nat×Bool)}:vQ P mt ops ⟨dst,op,type,pos,after,g⟩ rest K φ st (some false)=bE P mt ops rest K (φ.put dst .undef) st:=rfl
theorem lQ{o:Oper}(hg:o.guard=none)(e:∀K',eV P mt φ st o K'=match kT P φ st o with | some r=>K' r st | none=>False):bE P mt ops (o::rest) K φ st=jU P mt ops rest K φ o.dst st (kT P φ st o):=by
 simp only[bE,iS,hg,e]
 cases kT P φ st o<;>rfl
def HH:AV→AV→AV→Option AV
 | .bool b,x,y=>some (if b then x else y)
 | _,_,_=>none
def x7:AV→Option AV
 | .ptr b q=>some (.ptr b q)
 | .pptr e=>some (.pptr e)
 | _=>none
def HI(P:Program)(t f:Nat)(x:AV):Option AV:=match fI P t f,x with | some (off,ag,sz),.agg cs=>sub ag cs off sz | _,_=>none
def AP(x:AV)(i:Nat):Option AV:=match x with | .tup vs=>vs[i]? | _=>none
def HX(g:FuncId)(cs:List AV):Option AV:=if kQ cs=true then some (.func g cs) else none
def sI(P:Program)(f:AV)(args:List AV)(st:aA)(K:AV→aA→Prop):Prop:=match f with | .func g cY=>aD P g (args++cY) st K | _=>False
def wS(P:Program)(m:Bool)(t:TypeId)(x:AV)(st:aA)(K:AV→aA→Prop)(k:Option AV→Prop):Prop:=
 if m=true then x.cD=false∧∀b,st b=none→K (.ptr b 0) (st.aC b (.cells x.cells)) else k (wB P t x)
def H4(zs:Option (List AV))(st:aA)(K:AV→aA→Prop):Prop:=match zs with | some zs=>∀b,st b=none→K (.ptr b 0) (st.aC b (.cells zs)) | none=>False
def K6(P:Program)(t:TypeId)(p x:AV)(st:aA)(K:AV→aA→Prop):Prop:=
 match p with
 | .ptr b q=>match st b,tI P t with
  | some (.cells cs),some (_,sz)=>x.cells.length=sz∧q+sz≤cs.length∧x.cells.all AV.storable=true∧K .undef (st.aC b (.cells (aP cs q x.cells)))
  | _,_=>False
 | _=>False
theorem aC4{x:Operand}:bE P mt ops (⟨dst,.move x,type,pos,after,none⟩::rest) K φ st=bE P mt ops rest K (φ.put dst (φ.eval x)) st:=rfl
theorem ZN{x:Operand}:bE P mt ops (⟨dst,.assign x,type,pos,after,none⟩::rest) K φ st=bE P mt ops rest K (φ.put dst (φ.eval x)) st:=rfl
theorem aDD{c x y:Operand}:bE P mt ops (⟨dst,.pick c x y,type,pos,after,none⟩::rest) K φ st=jU P mt ops rest K φ dst st (HH (φ.eval c) (φ.eval x) (φ.eval y)):=by
 rw[lQ rfl fun _=>rfl]
 simp only[kT]
 cases φ.eval c<;>rfl
theorem ZP{op:BinOp}{t t':TypeId}{x y:Operand}:bE P mt ops (⟨dst,.binOp op t x y t',type,pos,after,none⟩::rest) K φ st=jU P mt ops rest K φ dst st (dU P op t (φ.eval x) (φ.eval y)):=lQ rfl fun _=>rfl
theorem aGE{op:UnOp}{t:TypeId}{x:Operand}:bE P mt ops (⟨dst,.unOp op t x,type,pos,after,none⟩::rest) K φ st=jU P mt ops rest K φ dst st (EH op (φ.eval x)):=lQ rfl fun _=>rfl
theorem aC9{x:Operand}:bE P mt ops (⟨dst,.nilCheck x,type,pos,after,none⟩::rest) K φ st=jU P mt ops rest K φ dst st (x7 (φ.eval x)):=by
 rw[lQ rfl fun _=>rfl]
 try rfl
theorem aA3{t f:Nat}{x:Operand}:bE P mt ops (⟨dst,.fieldAddr t x f,type,pos,after,none⟩::rest) K φ st=jU P mt ops rest K φ dst st (rY P t f (φ.eval x)):=lQ rfl fun _=>rfl
theorem aCP{t:TypeId}{x:Operand}:bE P mt ops (⟨dst,.load t x,type,pos,after,none⟩::rest) K φ st=jU P mt ops rest K φ dst st (gN P st t (φ.eval x)):=lQ rfl fun _=>rfl
theorem aA2{t f:Nat}{x:Operand}:bE P mt ops (⟨dst,.field t x f,type,pos,after,none⟩::rest) K φ st=jU P mt ops rest K φ dst st (HI P t f (φ.eval x)):=by
 rw[lQ rfl fun _=>rfl]
 try rfl
theorem aCE{t:TypeId}{x i:Operand}:bE P mt ops (⟨dst,.indexAddr t x i,type,pos,after,none⟩::rest) K φ st=jU P mt ops rest K φ dst st (dM P t (φ.eval x) (φ.eval i)):=lQ rfl fun _=>rfl
theorem aCD{t:TypeId}{x i:Operand}:bE P mt ops (⟨dst,.index t x i,type,pos,after,none⟩::rest) K φ st=jU P mt ops rest K φ dst st (BH P t (φ.eval x) (φ.eval i)):=lQ rfl fun _=>rfl
theorem aEZ{t:TypeId}{x:Operand}{lo hi mx:Option Operand}:bE P mt ops (⟨dst,.slice t x lo hi mx,type,pos,after,none⟩::rest) K φ st=jU P mt ops rest K φ dst st (fD P φ t (φ.eval x) lo hi mx):=lQ rfl fun _=>rfl
theorem aA0{x:Operand}{i:Nat}:bE P mt ops (⟨dst,.extract x i,type,pos,after,none⟩::rest) K φ st=jU P mt ops rest K φ dst st (AP (φ.eval x) i):=by
 rw[lQ rfl fun _=>rfl]
 try rfl
theorem aCW{g:FuncId}{cY:Array Operand}:bE P mt ops (⟨dst,.makeFunc (.func g) #[] cY,type,pos,after,none⟩::rest) K φ st=jU P mt ops rest K φ dst st (HX g (cY.toList.map φ.eval)):=by
 rw[lQ rfl fun _=>rfl]
 congr 1
 simp [kT,HX]
theorem ZY{t:TypeId}{ps:Array (Nat×Operand)}:bE P mt ops (⟨dst,.build t ps,type,pos,after,none⟩::rest) K φ st=jU P mt ops rest K φ dst st (x6 P φ t ps):=lQ rfl fun _=>rfl
theorem ZZ{t:TypeId}{n:Nat}{ps:Array (Nat×Operand)}:bE P mt ops (⟨dst,.buildSlice t n ps,type,pos,after,none⟩::rest) K φ st=jU P mt ops rest K φ dst st (AM P φ t n ps):=lQ rfl fun _=>rfl
theorem aAU{t u:TypeId}{x:Operand}:bE P mt ops (⟨dst,.convert t u x,type,pos,after,none⟩::rest) K φ st=jU P mt ops rest K φ dst st (EE P t u (φ.eval x)):=lQ rfl fun _=>rfl
theorem aCQ{t:TypeId}{x i:Operand}{ok:Bool}:bE P mt ops (⟨dst,.lookup t x i ok,type,pos,after,none⟩::rest) K φ st=jU P mt ops rest K φ dst st (oC P st t ok (φ.eval x) (φ.eval i)):=lQ rfl fun _=>rfl
theorem aCJ{x:Operand}{t:TypeId}:bE P mt ops (⟨dst,.call { callee:=.builtin .len,args:=#[x],argTypes:=#[t] },type,pos,after,none⟩::rest) K φ st=jU P mt ops rest K φ dst st (jZ P t (φ.eval x)):=lQ rfl fun _=>rfl
theorem Z7{f:Operand}{args:List Operand}{ats:Array TypeId}:bE P mt ops (⟨dst,.call { callee:=.value f,args:=args.toArray,argTypes:=ats },type,pos,after,none⟩::rest) K φ st=sI P (φ.eval f) (args.map φ.eval) st (nU P mt ops rest K φ dst):=rfl
theorem aC0{x y:Operand}{ts:Array TypeId}:bE P mt ops (⟨dst,.call { callee:=.builtin .max,args:=#[x,y],argTypes:=ts },type,pos,after,none⟩::rest) K φ st=jU P mt ops rest K φ dst st (wL (φ.eval x) (φ.eval y)):=lQ rfl fun _=>rfl
theorem aC2{x y:Operand}{ts:Array TypeId}:bE P mt ops (⟨dst,.call { callee:=.builtin .min,args:=#[x,y],argTypes:=ts },type,pos,after,none⟩::rest) K φ st=jU P mt ops rest K φ dst st (wM (φ.eval x) (φ.eval y)):=lQ rfl fun _=>rfl
theorem YX{s x:Operand}{t t':TypeId}:bE P mt ops (⟨dst,.call { callee:=.builtin .append,args:=#[s,x],argTypes:=#[t,t'] },type,pos,after,none⟩::rest) K φ st=(if t=t' then iZ P t st (φ.eval s) (φ.eval x) (nU P mt ops rest K φ dst) else sB P t t' st (φ.eval s) (φ.eval x) (nU P mt ops rest K φ dst)):=rfl
theorem aAS{x:Operand}{t:TypeId}:bE P mt ops (⟨dst,.call { callee:=.builtin .clear,args:=#[x],argTypes:=#[t] },type,pos,after,none⟩::rest) K φ st=uP P t st (φ.eval x) (nU P mt ops rest K φ dst):=rfl
theorem aAV{m k:Operand}{t t':TypeId}:bE P mt ops (⟨dst,.call { callee:=.builtin .delete,args:=#[m,k],argTypes:=#[t,t'] },type,pos,after,none⟩::rest) K φ st=yN P t st (φ.eval m) (φ.eval k) (nU P mt ops rest K φ dst):=rfl
theorem ZV{t:TypeId}{x:Operand}:bE P mt ops (⟨dst,.box t x,type,pos,after,none⟩::rest) K φ st=wS P (AQ mt dst) t (φ.eval x) st (nU P mt ops rest K φ dst) (jU P mt ops rest K φ dst st):=by
 simp only[bE,iS,eV,wS,nU]
 split
 · rfl
 · cases wB P t (φ.eval x)<;>rfl
theorem YU{t:TypeId}:bE P mt ops (⟨dst,.alloc t,type,pos,after,none⟩::rest) K φ st=H4 (zI P t) st (nU P mt ops rest K φ dst):=rfl
theorem aFQ{t:TypeId}{p x:Operand}:bE P mt ops (⟨dst,.store t p x,type,pos,after,none⟩::rest) K φ st=K6 P t (φ.eval p) (φ.eval x) st (nU P mt ops rest K φ dst):=rfl
theorem aCX{t:TypeId}:bE P mt ops (⟨dst,.makeMap t none,type,pos,after,none⟩::rest) K φ st=∀b,st b=none→nU P mt ops rest K φ dst (.map b) (st.aC b (.map fun _=>none)):=rfl
theorem aCY{t:TypeId}{n c:Operand}:bE P mt ops (⟨dst,.makeSlice t n c,type,pos,after,none⟩::rest) K φ st=sC P t st (φ.eval n) (φ.eval c) (nU P mt ops rest K φ dst):=rfl
theorem aCZ{t:TypeId}{m k x:Operand}:bE P mt ops (⟨dst,.mapUpdate t m k x,type,pos,after,none⟩::rest) K φ st=sD P t st (φ.eval m) (φ.eval k) (φ.eval x) (nU P mt ops rest K φ dst):=rfl
theorem aGC{t:Tmp}:φ.eval (.tmp t)=φ t:=rfl
theorem Z2{k:IntKind}{n:Int}:φ.eval (.const (.int k n))=.int k n:=rfl
theorem Z0{b:Bool}:φ.eval (.const (.bool b))=.bool b:=rfl
theorem Z4:φ.eval (.const (.slice none 0 0))=.fslice []:=rfl
theorem Z5:φ.eval (.const (.pointer none))=.nilptr:=rfl
theorem Z3:φ.eval (.const (.map none))=.nilmap:=rfl
theorem Z1{g:FuncId}:φ.eval (.func g)=.func g []:=rfl
theorem Z6{l:List UInt8}:φ.eval (.const (.string ⟨l.toArray⟩))=if l.length≤9223372036854775807 then .str ⟨l.toArray⟩ else .junk:=by
 simp [AF.eval,ofConst,ByteArray.size,maxLen]
theorem aGF{d e:Nat}{v:AV}:(φ.aC d v) e=if e=d then v else φ e:=rfl
theorem aDV{d:Nat}{v:AV}:φ.put (some d) v=φ.aC d v:=rfl
theorem aDW{v:AV}:φ.put none v=φ:=rfl
theorem YZ{i:Nat}:qW i []=AF.bot:=rfl
theorem YY{i:Nat}{a:AV}{as:List AV}:qW i (a::as)=(qW (i+1) as).aC i a:=rfl
theorem X5{P:Program}{t:TypeId}{k:IntKind}{a b:Int}:dU P .add t (.int k a) (.int k b)=some (.int k (k.wrap (a+b))):=by simp [dU,kD]
theorem aFV{P:Program}{t:TypeId}{k:IntKind}{a b:Int}:dU P .sub t (.int k a) (.int k b)=some (.int k (k.wrap (a - b))):=by simp [dU,kD]
theorem aC5{P:Program}{t:TypeId}{k:IntKind}{a b:Int}:dU P .mul t (.int k a) (.int k b)=some (.int k (k.wrap (a*b))):=by simp [dU,kD]
theorem aDX{P:Program}{t:TypeId}{k:IntKind}{a b:Int}:dU P .quo t (.int k a) (.int k b)=if b=0 then none else some (.int k (k.wrap (a.tdiv b))):=by simp [dU,kD]
theorem aD1{P:Program}{t:TypeId}{k:IntKind}{a b:Int}:dU P .rem t (.int k a) (.int k b)=if b=0 then none else some (.int k (a.tmod b)):=by simp [dU,kD]
theorem aAY{P:Program}{t:TypeId}{k:IntKind}{a b:Int}:dU P .eql t (.int k a) (.int k b)=some (.bool (decide (a=b))):=by simp [dU,kD]
theorem aC7{P:Program}{t:TypeId}{k:IntKind}{a b:Int}:dU P .neq t (.int k a) (.int k b)=some (.bool (!decide (a=b))):=by simp [dU,kD]
theorem aCV{P:Program}{t:TypeId}{k:IntKind}{a b:Int}:dU P .lss t (.int k a) (.int k b)=some (.bool (decide (a<b))):=by simp [dU,kD]
theorem aCO{P:Program}{t:TypeId}{k:IntKind}{a b:Int}:dU P .leq t (.int k a) (.int k b)=some (.bool (decide (a≤b))):=by simp [dU,kD]
theorem aBA{P:Program}{t:TypeId}{k:IntKind}{a b:Int}:dU P .gtr t (.int k a) (.int k b)=some (.bool (decide (b<a))):=by simp [dU,kD]
theorem aA9{P:Program}{t:TypeId}{k:IntKind}{a b:Int}:dU P .geq t (.int k a) (.int k b)=some (.bool (decide (b≤a))):=by simp [dU,kD]
theorem aGX{P:Program}{t:TypeId}{k:IntKind}{a b:Int}:dU P .xor t (.int k a) (.int k b)=some (.int k (NA k a b)):=by simp [dU,kD]
theorem YW{P:Program}{t:TypeId}{k:IntKind}{a b:Int}:dU P .and t (.int k a) (.int k b)=some (.int k (M1 k a b)):=by simp [dU,kD]
theorem aDC{P:Program}{t:TypeId}{k:IntKind}{a b:Int}:dU P .or t (.int k a) (.int k b)=some (.int k (M8 k a b)):=by simp [dU,kD]
theorem aC1{k:IntKind}{a b:Int}:wL (.int k a) (.int k b)=some (.int k (if a<b then b else a)):=by simp [wL]
theorem aC3{k:IntKind}{a b:Int}:wM (.int k a) (.int k b)=some (.int k (if b<a then b else a)):=by simp [wM]
theorem aEW{P:Program}{t:TypeId}{a b:ByteArray}:dU P .eql t (.str a) (.str b)=some (.bool (decide (a=b))):=by simp [dU,kD]
theorem aE1{P:Program}{t:TypeId}{a b:ByteArray}:dU P .neq t (.str a) (.str b)=some (.bool (!decide (a=b))):=by simp [dU,kD]
theorem aEF{P:Program}{t:TypeId}{a b:ByteArray}:dU P .add t (.str a) (.str b)=if a.size+b.size≤maxLen then some (.str (a++b)) else none:=by simp [dU,kD]
theorem aE0{P:Program}{t:TypeId}{a b:ByteArray}:dU P .lss t (.str a) (.str b)=some (.bool (Op.bytesLess a.toList b.toList)):=by simp [dU,kD]
theorem aEX{P:Program}{t:TypeId}{a b:ByteArray}:dU P .gtr t (.str a) (.str b)=some (.bool (!(Op.bytesLess a.toList b.toList||decide (a=b)))):=by simp [dU,kD]
theorem ZO{P:Program}{t:TypeId}{a b:Bool}(h:P.underlying t=some .bool):dU P .eql t (.bool a) (.bool b)=some (.bool (a == b)):=by simp [dU,h]
theorem ZU{P:Program}{t:TypeId}{a b:Bool}(h:P.underlying t=some .bool):dU P .neq t (.bool a) (.bool b)=some (.bool (!(a == b))):=by simp [dU,h]
theorem aDA{b:Bool}:EH .not (.bool b)=some (.bool (!b)):=rfl
theorem aC6{k:IntKind}{n:Int}:EH .neg (.int k n)=some (.int k (k.wrap (0 - n))):=rfl
end
end
@[congr] theorem a49 {P:Program} {N:Nat} {mt:List Nat} {c:Code} {Q:Exit→AF→aA→Prop} {φ φ':AF} {st st':aA} (h1:φ=φ') (h2:st=st'):fT P N mt c Q φ st=fT P N mt c Q φ' st':=by rw[h1,h2]
@[congr] theorem a5F {P:Program} {mt:List Nat} {ops:Array Oper} {l:List Oper} {K:AF→aA→Prop} {φ φ':AF} {st st':aA} (h1:φ=φ') (h2:st=st'):bE P mt ops l K φ st=bE P mt ops l K φ' st':=by rw[h1,h2]
@[congr] theorem a5T {P:Program} {mt:List Nat} {ops:Array Oper} {l:List Oper} {K:AF→aA→Prop} {φ:AF} {st:aA} {dst:Option Tmp} {x x':Option AV} (h1:x=x'):jU P mt ops l K φ dst st x=jU P mt ops l K φ dst st x':=by rw[h1]
@[congr] theorem a5S {P:Program} {mt:List Nat} {ops:Array Oper} {o:Oper} {l:List Oper} {K:AF→aA→Prop} {φ:AF} {st:aA} {x x':Option Bool} (h1:x=x'):vQ P mt ops o l K φ st x=vQ P mt ops o l K φ st x':=by rw[h1]
@[congr] theorem a5R {P:Program} {mt:List Nat} {ops:Array Oper} {l:List Oper} {K:AF→aA→Prop} {φ:AF} {dst:Option Tmp} {r r':AV} {st st':aA} (h1:r=r') (h2:st=st'):nU P mt ops l K φ dst r st=nU P mt ops l K φ dst r' st':=by rw[h1,h2]
@[congr] theorem a5A {c c':AV} {k₁ k₂:AF→aA→Prop} {φ:AF} {st:aA} (h1:c=c'):uQ c k₁ k₂ φ st=uQ c' k₁ k₂ φ st:=by rw[h1]
@[congr] theorem a44 {P:Program} {N:Nat} {c:Code} {Q:Exit→AF→aA→Prop} {φ φ':AF} {st st':aA} (h1:φ=φ') (h2:st=st'):fC P N c Q φ st=fC P N c Q φ' st':=by rw[h1,h2]
@[congr] theorem a43 {P:Program} {g:FuncId} {args args':List AV} {st st':aA} {K:AV→aA→Prop} (h1:args=args') (h2:st=st'):aD P g args st K=aD P g args' st' K:=by rw[h1,h2]
@[congr] theorem a5O {P:Program} {f f':AV} {args args':List AV} {st st':aA} {K:AV→aA→Prop} (h0:f=f') (h1:args=args') (h2:st=st'):sI P f args st K=sI P f' args' st' K:=by rw[h0,h1,h2]
@[congr] theorem a5K {P:Program} {m m':Bool} {t:TypeId} {x x':AV} {st st':aA} {K:AV→aA→Prop} {k:Option AV→Prop} (h0:m=m') (h1:x=x') (h2:st=st'):wS P m t x st K k=wS P m' t x' st' K k:=by rw[h0,h1,h2]
@[congr] theorem a5J {zs zs':Option (List AV)} {st st':aA} {K:AV→aA→Prop} (h1:zs=zs') (h2:st=st'):H4 zs st K=H4 zs' st' K:=by rw[h1,h2]
@[congr] theorem a5Y {P:Program} {t:TypeId} {p p' x x':AV} {st st':aA} {K:AV→aA→Prop} (h0:p=p') (h1:x=x') (h2:st=st'):K6 P t p x st K=K6 P t p' x' st' K:=by rw[h0,h1,h2]
@[congr] theorem a5D {x x' y y':AV} (h0:x=x') (h1:y=y'):wL x y=wL x' y':=by rw[h0,h1]
@[congr] theorem a5E {x x' y y':AV} (h0:x=x') (h1:y=y'):wM x y=wM x' y':=by rw[h0,h1]
@[congr] theorem a48 {P:Program} {t:TypeId} {x x':AV} {st st':aA} {K:AV→aA→Prop} (h1:x=x') (h2:st=st'):uP P t st x K=uP P t st' x' K:=by rw[h1,h2]
@[congr] theorem a47 {P:Program} {t t':TypeId} {s s' x x':AV} {st st':aA} {K:AV→aA→Prop} (h0:s=s') (h1:x=x') (h2:st=st'):sB P t t' st s x K=sB P t t' st' s' x' K:=by rw[h0,h1,h2]
@[congr] theorem a45 {P:Program} {t:TypeId} {s s' x x':AV} {st st':aA} {K:AV→aA→Prop} (h0:s=s') (h1:x=x') (h2:st=st'):iZ P t st s x K=iZ P t st' s' x' K:=by rw[h0,h1,h2]
@[congr] theorem a5B {P:Program} {t:TypeId} {s s' x x':AV} {st st':aA} {K:AV→aA→Prop} (h0:s=s') (h1:x=x') (h2:st=st'):sC P t st s x K=sC P t st' s' x' K:=by rw[h0,h1,h2]
@[congr] theorem a5C {P:Program} {t:TypeId} {m m' s s' x x':AV} {st st':aA} {K:AV→aA→Prop} (h:m=m') (h0:s=s') (h1:x=x') (h2:st=st'):sD P t st m s x K=sD P t st' m' s' x' K:=by rw[h,h0,h1,h2]
theorem Z8{P:Program}{g:FuncId}{cY args:List AV}{st:aA}{K:AV→aA→Prop}:sI P (.func g cY) args st K=aD P g (args++cY) st K:=rfl
theorem ZW{P:Program}{t:TypeId}{x:AV}{st:aA}{K:AV→aA→Prop}{k:Option AV→Prop}:wS P false t x st K k=k (wB P t x):=by simp [wS]
theorem ZX{P:Program}{t:TypeId}{x:AV}{st:aA}{K:AV→aA→Prop}{k:Option AV→Prop}:wS P true t x st K k=(x.cD=false∧∀b,st b=none→K (.ptr b 0) (st.aC b (.cells x.cells))):=by simp [wS]
theorem YV{zs:List AV}{st:aA}{K:AV→aA→Prop}:H4 (some zs) st K=∀b,st b=none→K (.ptr b 0) (st.aC b (.cells zs)):=rfl
theorem aFR{P:Program}{t:TypeId}{b q:Nat}{x:AV}{st:aA}{K:AV→aA→Prop}:K6 P t (.ptr b q) x st K=match st b,tI P t with
 | some (.cells cs),some (_,sz)=>x.cells.length=sz∧q+sz≤cs.length∧x.cells.all AV.storable=true∧K .undef (st.aC b (.cells (aP cs q x.cells)))
 | _,_=>False:=rfl
def jA:Op→Bool
 | .alloc _=>true
 | _=>false
def iU:Op→Bool
 | .store _ _ _=>true
 | _=>false
def zK(P:Program)(mt:List Nat)(ops:Array Oper)(rest:List Oper)(K:AF→aA→Prop)(φ:AF)(st:aA):Prop:=fU P mt ops rest K φ st
def zF(P:Program)(mt:List Nat)(ops:Array Oper)(rest:List Oper)(K:AF→aA→Prop)(φ:AF)(d:Nat)(st:aA)(r:AV):Prop:=fU P mt ops rest K (φ.aC d r) st
def vF(x:AV)(K:AV→Prop):Option (List AV)→Option (Bool×Nat)→Prop
 | some zs,some (_,sz)=>zs.length=sz∧x.width=sz∧x.cells.all AV.storable=true∧x.cD=false∧K (.pptr x)
 | _,_=>False
def zM(P:Program)(mt:List Nat)(ops:Array Oper)(o:Oper)(s:Oper)(rest:List Oper)(K:AF→aA→Prop)(φ:AF)(st:aA)(d:Nat)(t:TypeId)(x:AV):Bool→Prop
 | true=>bE P mt ops [o] (zK P mt ops (s::rest) K) φ st
 | false=>vF x (zF P mt ops rest K φ d st) (zI P t) (tI P t)
section
variable {P:Program} {mt:List Nat} {ops:Array Oper} {rest:List Oper} {K:AF→aA→Prop} {φ:AF} {st:aA} {dst BZ:Option Tmp} {type uG:TypeId} {pos pos':String} {after tH:Array Edge} {g g':Option (Nat×Bool)} {op op':Op}
theorem JC:zK P mt ops rest K φ st=fU P mt ops rest K φ st:=rfl
theorem aGY{d:Nat}{r:AV}:zF P mt ops rest K φ d st r=fU P mt ops rest K (φ.aC d r) st:=rfl
theorem X0:fU P mt ops [] K φ st=K φ st:=by rw[fU]
theorem JA(h:jA op=false):fU P mt ops (⟨dst,op,type,pos,after,g⟩::rest) K φ st=bE P mt ops [⟨dst,op,type,pos,after,g⟩] (zK P mt ops rest K) φ st:=by
 rw[fU]
 · rfl
 · intro d t ty ps af t' d' x ty' ps' af' r e1 e2
   cases e1
   cases h
 · intro d t ty ps af e y ty2 ps2 af2 t' d' x ty' ps' af' r e1 e2
   cases e1
   cases h
theorem JB{t:TypeId}{x:AV}{k:AV→Prop}:BG P t x k=vF x k (zI P t) (tI P t):=by
 unfold BG vF
 simp only[pN]
 cases zI P t<;>cases tI P t<;>rfl
theorem aA8{x:AV}{k:AV→Prop}{zs:List AV}{ag:Bool}{sz:Nat}:vF x k (some zs) (some (ag,sz))=(zs.length=sz∧x.width=sz∧x.cells.all AV.storable=true∧x.cD=false∧k (.pptr x)):=rfl
theorem I9{d:Nat}{t:TypeId}{x:Operand}:fU P mt ops (⟨some d,.alloc t,type,pos,after,none⟩::⟨none,.store t (.tmp d) x,uG,pos',tH,none⟩::rest) K φ st =
 zM P mt ops ⟨some d,.alloc t,type,pos,after,none⟩ ⟨none,.store t (.tmp d) x,uG,pos',tH,none⟩ rest K φ st d t (φ.eval x) (mt.contains d||oS x d):=by
 rw[fU]
 cases h:(mt.contains d||oS x d) with
 | true=>
  rw[aG (by simp)]
  show _=bE P mt ops _ (fun φ' st'=>zK P mt ops _ K φ' st') φ st
  simp only[JC,JA (K:=K) (rest:=rest) (op:=.store t (.tmp d) x) rfl]
  rfl
 | false=>
  rw[aH ⟨rfl,rfl,rfl⟩,JB]
  try rfl
theorem aG2{o s:Oper}{d:Nat}{t:TypeId}{x:AV}:zM P mt ops o s rest K φ st d t x true=bE P mt ops [o] (zK P mt ops (s::rest) K) φ st:=rfl
theorem aG1{o s:Oper}{d:Nat}{t:TypeId}{x:AV}:zM P mt ops o s rest K φ st d t x false=vF x (zF P mt ops rest K φ d st) (zI P t) (tI P t):=rfl
def HG(P:Program)(mt:List Nat)(ops:Array Oper)(o:Oper)(os:List Oper)(rest:List Oper)(K:AF→aA→Prop)(φ φ':AF)(st:aA)(d:Nat)(t:TypeId)(x:AV):Bool→Prop
 | true=>bE P mt ops [o] (zK P mt ops (os++rest) K) φ st
 | false=>vF x (zF P mt ops rest K φ' d st) (zI P t) (tI P t)
theorem aGZ{o:Oper}{os:List Oper}{φ':AF}{d:Nat}{t:TypeId}{x:AV}:HG P mt ops o os rest K φ φ' st d t x false=vF x (zF P mt ops rest K φ' d st) (zI P t) (tI P t):=rfl
theorem aG0{o:Oper}{os:List Oper}{φ':AF}{d:Nat}{t:TypeId}{x:AV}:HG P mt ops o os rest K φ φ' st d t x true=bE P mt ops [o] (zK P mt ops (os++rest) K) φ st:=rfl
theorem aUE{d e:Nat}{t:TypeId}{x y:Operand}{type2:TypeId}{vR:String}{EJ:Array Edge}:fU P mt ops (⟨some d,.alloc t,type,pos,after,none⟩::⟨some e,.assign y,type2,vR,EJ,none⟩::⟨none,.store t (.tmp d) x,uG,pos',tH,none⟩::rest) K φ st =
 HG P mt ops ⟨some d,.alloc t,type,pos,after,none⟩ [⟨some e,.assign y,type2,vR,EJ,none⟩,⟨none,.store t (.tmp d) x,uG,pos',tH,none⟩] rest K φ (φ.aC e (φ.eval y)) st d t ((φ.aC e (φ.eval y)).eval x) (mt.contains d||oS x d||oS y d||d == e):=by
 rw[fU]
 cases h:(mt.contains d||oS x d||oS y d||d == e) with
 | true=>
  rw[aG (by simp)]
  show _=bE P mt ops _ (fun φ' st'=>zK P mt ops _ K φ' st') φ st
  simp only[JC,gH,eU,JA (K:=K) (op:=.assign y) rfl]
  rfl
 | false=>
  rw[aH ⟨rfl,rfl,rfl⟩,JB]
  try rfl
def jT:Op→Bool
 | .assign _=>true
 | _=>false
theorem X1{t:TypeId}(h:iU op'=false)(h2:jT op'=false):fU P mt ops (⟨dst,.alloc t,type,pos,after,g⟩::⟨BZ,op',uG,pos',tH,g'⟩::rest) K φ st=bE P mt ops [⟨dst,.alloc t,type,pos,after,g⟩] (zK P mt ops (⟨BZ,op',uG,pos',tH,g'⟩::rest) K) φ st:=by
 rw[fU]
 · rfl
 · intro d t ty ps af t' d' x ty' ps' af' r e1 e2
   cases e2
   cases h
 · intro d t ty ps af e y ty2 ps2 af2 t' d' x ty' ps' af' r e1 e2
   cases e2
   cases h2
theorem X2{t:TypeId}:fU P mt ops [⟨dst,.alloc t,type,pos,after,g⟩] K φ st=bE P mt ops [⟨dst,.alloc t,type,pos,after,g⟩] (zK P mt ops [] K) φ st:=by
 rw[fU]
 · rfl
 · intro d t ty ps af t' d' x ty' ps' af' r e1 e2
   cases e2
 · intro d t ty ps af e y ty2 ps2 af2 t' d' x ty' ps' af' r e1 e2
   cases e2
theorem X3{t:TypeId}{y:Operand}:fU P mt ops [⟨dst,.alloc t,type,pos,after,g⟩,⟨BZ,.assign y,uG,pos',tH,g'⟩] K φ st=bE P mt ops [⟨dst,.alloc t,type,pos,after,g⟩] (zK P mt ops [⟨BZ,.assign y,uG,pos',tH,g'⟩] K) φ st:=by
 rw[fU]
 · rfl
 · intro d t ty ps af t' d' x ty' ps' af' r e1 e2
   cases e2
 · intro d t ty ps af e y ty2 ps2 af2 t' d' x ty' ps' af' r e1 e2
   cases e2
theorem X4{t:TypeId}{y:Operand}{WZ:Option Tmp}{op2:Op}{type2:TypeId}{vR:String}{EJ:Array Edge}{g2:Option (Nat×Bool)}(h:iU op2=false):fU P mt ops (⟨dst,.alloc t,type,pos,after,g⟩::⟨BZ,.assign y,uG,pos',tH,g'⟩::⟨WZ,op2,type2,vR,EJ,g2⟩::rest) K φ st=bE P mt ops [⟨dst,.alloc t,type,pos,after,g⟩] (zK P mt ops (⟨BZ,.assign y,uG,pos',tH,g'⟩::⟨WZ,op2,type2,vR,EJ,g2⟩::rest) K) φ st:=by
 rw[fU]
 · rfl
 · intro d t ty ps af t' d' x ty' ps' af' r e1 e2
   cases e2
 · intro d t ty ps af e y ty2 ps2 af2 t' d' x ty' ps' af' r e1 e2
   cases e2
   cases h
theorem aCG{d e:Nat}:oS (.tmp e) d=(e == d):=rfl
theorem aCF{v:Value}{d:Nat}:oS (.const v) d=false:=rfl
theorem YO{x:Operand}:jA (.move x)=false:=rfl
theorem aFL{x:Operand}:iU (.move x)=false:=rfl
theorem X6{x:Operand}:jA (.assign x)=false:=rfl
theorem aE3{x:Operand}:iU (.assign x)=false:=rfl
theorem YQ{c x y:Operand}:jA (.pick c x y)=false:=rfl
theorem aFN{c x y:Operand}:iU (.pick c x y)=false:=rfl
theorem X7{op:BinOp}{t:TypeId}{x y:Operand}{t':TypeId}:jA (.binOp op t x y t')=false:=rfl
theorem aE4{op:BinOp}{t:TypeId}{x y:Operand}{t':TypeId}:iU (.binOp op t x y t')=false:=rfl
theorem YT{op:UnOp}{t:TypeId}{x:Operand}:jA (.unOp op t x)=false:=rfl
theorem aFP{op:UnOp}{t:TypeId}{x:Operand}:iU (.unOp op t x)=false:=rfl
theorem YP{x:Operand}:jA (.nilCheck x)=false:=rfl
theorem aFM{x:Operand}:iU (.nilCheck x)=false:=rfl
theorem YF{t f:Nat}{x:Operand}:jA (.fieldAddr t x f)=false:=rfl
theorem aFC{t f:Nat}{x:Operand}:iU (.fieldAddr t x f)=false:=rfl
theorem YI{t:TypeId}{x:Operand}:jA (.load t x)=false:=rfl
theorem aFF{t:TypeId}{x:Operand}:iU (.load t x)=false:=rfl
theorem YS{t:TypeId}{p x:Operand}:jA (.store t p x)=false:=rfl
theorem YE{t f:Nat}{x:Operand}:jA (.field t x f)=false:=rfl
theorem aFB{t f:Nat}{x:Operand}:iU (.field t x f)=false:=rfl
theorem YH{t:TypeId}{x i:Operand}:jA (.indexAddr t x i)=false:=rfl
theorem aFE{t:TypeId}{x i:Operand}:iU (.indexAddr t x i)=false:=rfl
theorem YG{t:TypeId}{x i:Operand}:jA (.index t x i)=false:=rfl
theorem aFD{t:TypeId}{x i:Operand}:iU (.index t x i)=false:=rfl
theorem YR{t:TypeId}{x:Operand}{lo hi mx:Option Operand}:jA (.slice t x lo hi mx)=false:=rfl
theorem aFO{t:TypeId}{x:Operand}{lo hi mx:Option Operand}:iU (.slice t x lo hi mx)=false:=rfl
theorem YD{x:Operand}{i:Nat}:jA (.extract x i)=false:=rfl
theorem aFA{x:Operand}{i:Nat}:iU (.extract x i)=false:=rfl
theorem X9{t:TypeId}{ps:Array (Nat×Operand)}:jA (.build t ps)=false:=rfl
theorem aE6{t:TypeId}{ps:Array (Nat×Operand)}:iU (.build t ps)=false:=rfl
theorem YA{t:TypeId}{n:Nat}{ps:Array (Nat×Operand)}:jA (.buildSlice t n ps)=false:=rfl
theorem aE7{t:TypeId}{n:Nat}{ps:Array (Nat×Operand)}:iU (.buildSlice t n ps)=false:=rfl
theorem YC{t u:TypeId}{x:Operand}:jA (.convert t u x)=false:=rfl
theorem aE9{t u:TypeId}{x:Operand}:iU (.convert t u x)=false:=rfl
theorem YJ{t:TypeId}{x i:Operand}{ok:Bool}:jA (.lookup t x i ok)=false:=rfl
theorem aFG{t:TypeId}{x i:Operand}{ok:Bool}:iU (.lookup t x i ok)=false:=rfl
theorem YB{c:_}:jA (.call c)=false:=rfl
theorem aE8{c:_}:iU (.call c)=false:=rfl
theorem X8{t:TypeId}{x:Operand}:jA (.box t x)=false:=rfl
theorem aE5{t:TypeId}{x:Operand}:iU (.box t x)=false:=rfl
theorem YL{t:_}{x:_}:jA (.makeMap t x)=false:=rfl
theorem aFI{t:_}{x:_}:iU (.makeMap t x)=false:=rfl
theorem YM{t:TypeId}{n c:Operand}:jA (.makeSlice t n c)=false:=rfl
theorem aFJ{t:TypeId}{n c:Operand}:iU (.makeSlice t n c)=false:=rfl
theorem YN{t:TypeId}{m k x:Operand}:jA (.mapUpdate t m k x)=false:=rfl
theorem aFK{t:TypeId}{m k x:Operand}:iU (.mapUpdate t m k x)=false:=rfl
theorem YK{f:_}{a:_}{b:_}:jA (.makeFunc f a b)=false:=rfl
theorem aFH{f:_}{a:_}{b:_}:iU (.makeFunc f a b)=false:=rfl
theorem aE2{t:TypeId}:iU (.alloc t)=false:=rfl
theorem ZI{x:Operand}:jT (.move x)=false:=rfl
theorem ZK{c x y:Operand}:jT (.pick c x y)=false:=rfl
theorem Y1{op:BinOp}{t:TypeId}{x y:Operand}{t':TypeId}:jT (.binOp op t x y t')=false:=rfl
theorem ZM{op:UnOp}{t:TypeId}{x:Operand}:jT (.unOp op t x)=false:=rfl
theorem ZJ{x:Operand}:jT (.nilCheck x)=false:=rfl
theorem Y9{t f:Nat}{x:Operand}:jT (.fieldAddr t x f)=false:=rfl
theorem ZC{t:TypeId}{x:Operand}:jT (.load t x)=false:=rfl
theorem Y8{t f:Nat}{x:Operand}:jT (.field t x f)=false:=rfl
theorem ZB{t:TypeId}{x i:Operand}:jT (.indexAddr t x i)=false:=rfl
theorem ZA{t:TypeId}{x i:Operand}:jT (.index t x i)=false:=rfl
theorem ZL{t:TypeId}{x:Operand}{lo hi mx:Option Operand}:jT (.slice t x lo hi mx)=false:=rfl
theorem Y7{x:Operand}{i:Nat}:jT (.extract x i)=false:=rfl
theorem Y3{t:TypeId}{ps:Array (Nat×Operand)}:jT (.build t ps)=false:=rfl
theorem Y4{t:TypeId}{n:Nat}{ps:Array (Nat×Operand)}:jT (.buildSlice t n ps)=false:=rfl
theorem Y6{t u:TypeId}{x:Operand}:jT (.convert t u x)=false:=rfl
theorem ZD{t:TypeId}{x i:Operand}{ok:Bool}:jT (.lookup t x i ok)=false:=rfl
theorem Y5{c:_}:jT (.call c)=false:=rfl
theorem Y2{t:TypeId}{x:Operand}:jT (.box t x)=false:=rfl
theorem ZF{t:_}{x:_}:jT (.makeMap t x)=false:=rfl
theorem ZG{t:TypeId}{n c:Operand}:jT (.makeSlice t n c)=false:=rfl
theorem ZH{t:TypeId}{m k x:Operand}:jT (.mapUpdate t m k x)=false:=rfl
theorem ZE{f:_}{a:_}{b:_}:jT (.makeFunc f a b)=false:=rfl
theorem Y0{t:TypeId}:jT (.alloc t)=false:=rfl
@[congr] theorem a50 {o:Oper} {os:List Oper} {φ' φ2 φ2':AF} {st':aA} {d:Nat} {t:TypeId} {x x':AV} {b b':Bool} (h1:φ=φ') (h0:φ2=φ2') (h2:st=st') (h3:x=x') (h4:b=b'):HG P mt ops o os rest K φ φ2 st d t x b=HG P mt ops o os rest K φ' φ2' st' d t x' b':=by rw[h1,h0,h2,h3,h4]
@[congr] theorem a5P {x x':AV} {k:AV→Prop} {a a':Option (List AV)} {b b':Option (Bool×Nat)} (h0:x=x') (h1:a=a') (h2:b=b'):vF x k a b=vF x' k a' b':=by rw[h0,h1,h2]
@[congr] theorem a5Z {o s:Oper} {φ':AF} {st':aA} {d:Nat} {t:TypeId} {x x':AV} {b b':Bool} (h1:φ=φ') (h2:st=st') (h3:x=x') (h4:b=b'):zM P mt ops o s rest K φ st d t x b=zM P mt ops o s rest K φ' st' d t x' b':=by rw[h1,h2,h3,h4]
@[congr] theorem a5X {l:List Oper} {Q:Exit→AF→aA→Prop} {φ':AF} {st':aA} {b b':Bool} (h1:φ=φ') (h2:st=st') (h3:b=b'):GN P mt l Q φ st b=GN P mt l Q φ' st' b':=by rw[h1,h2,h3]
end
end Go.AW
