/- The rules by which the code is evaluated: equations for simp. -/
import Derived.Test.YthigelfjekcbmaaGreatDoorSlsc
set_option linter.unusedSimpArgs false
set_option linter.unusedVariables false
set_option maxRecDepth 100000
namespace Go.AW
section
variable {P:Program} {N:Nat} {mt:List Nat} {Q:Exit→AF→aA→Prop} {φ:AF} {st:aA} {x y:Code} {ops:Array Oper} {id:Nat}
theorem aA5:fA P N mt .skip Q φ st=Q .normal φ st:=rfl
theorem aA2:fA P N mt (.seq x y) Q φ st=fA P N mt x (EO (fA P N mt y Q) Q) φ st:=rfl
def D4(P:Program)(mt:List Nat)(l:List Oper)(Q:Exit→AF→aA→Prop)(φ:AF)(st:aA):Bool→Prop
 | true=>fB P mt l.toArray l (Q .normal) φ st
 | false=>aZ P mt l.toArray l (Q .normal) φ st
theorem Z7{l:List Oper}:fA P N mt (.region id l.toArray false) Q φ st=D4 P mt l Q φ st (mt.contains 1000000):=by
 simp only[fA,jI,cJ]
 cases mt.contains 1000000<;>rfl
theorem Z6{l:List Oper}:D4 P mt l Q φ st true=fB P mt l.toArray l (Q .normal) φ st:=rfl
theorem Z5{l:List Oper}:D4 P mt l Q φ st false=aZ P mt l.toArray l (Q .normal) φ st:=rfl
theorem W2:fA P N mt (.region id ops true) Q φ st=fH P N (.region id ops true) Q φ st:=by simp [fA]
theorem WY{c:Operand}:fA P N mt (.cond c x y) Q φ st=sV (φ.eval c) (fA P N mt x Q) (fA P N mt y Q) φ st:=rfl
theorem VR:fA P N mt (.block id x) Q φ st=fA P N mt x (zA id Q) φ st:=rfl
theorem YY:fA P N mt (.loop x) Q φ st=fH P N (.loop x) Q φ st:=rfl
theorem W6:fA P N mt (.exit id) Q φ st=Q (.exit id) φ st:=rfl
theorem Z9:fA P N mt .ret Q φ st=Q .ret φ st:=rfl
theorem aCK{k₁ k₂:AF→aA→Prop}:sV (.bool true) k₁ k₂ φ st=k₁ φ st:=by simp [sV]
theorem W8{k₁ k₂:AF→aA→Prop}:sV (.bool false) k₁ k₂ φ st=k₂ φ st:=by simp [sV]
theorem aB4{k:AF→aA→Prop}:EO k Q .normal φ st=k φ st:=rfl
theorem aB3{k:AF→aA→Prop}:EO k Q (.exit id) φ st=Q (.exit id) φ st:=rfl
theorem aB5{k:AF→aA→Prop}:EO k Q .ret φ st=Q .ret φ st:=rfl
theorem VT:zA id Q .normal φ st=Q .normal φ st:=rfl
theorem VS{i:Nat}:zA id Q (.exit i) φ st=if i=id then Q .normal φ st else Q (.exit i) φ st:=rfl
theorem VU:zA id Q .ret φ st=Q .ret φ st:=rfl
theorem Y0{k:AF→aA→Prop}:nH k Q .normal φ st=k φ st:=rfl
theorem YZ{k:AF→aA→Prop}:nH k Q (.exit id) φ st=Q (.exit id) φ st:=rfl
theorem Y1{k:AF→aA→Prop}:nH k Q .ret φ st=Q .ret φ st:=rfl
def l9(P:Program)(rs:List ResultVar)(K:AV→aA→Prop)(φ:AF)(st:aA):Prop:=
 match nT P φ st rs with
 | some xs=>ES K st xs
 | none=>False
theorem aAL{rs:Array ResultVar}{K:AV→aA→Prop}:D6 P rs K .ret φ st=l9 P rs.toList K φ st:=rfl
theorem aAK{rs:Array ResultVar}{K:AV→aA→Prop}:D6 P rs K .normal φ st=l9 P rs.toList K φ st:=rfl
theorem aAB{t:Tmp}{K:AV→aA→Prop}:l9 P [.tmp t] K φ st=K (φ t) st:=rfl
theorem aAA{K:AV→aA→Prop}:l9 P [] K φ st=K (.tup []) st:=by simp [l9,nT,ES,jM]
theorem aAC{t u:Tmp}{K:AV→aA→Prop}:l9 P [.tmp t,.tmp u] K φ st=(jM [φ t,φ u]=true∧K (.tup [φ t,φ u]) st):=rfl
theorem aAD{t u v:Tmp}{K:AV→aA→Prop}:l9 P [.tmp t,.tmp u,.tmp v] K φ st=(jM [φ t,φ u,φ v]=true∧K (.tup [φ t,φ u,φ v]) st):=rfl
theorem aAE{t u v w:Tmp}{K:AV→aA→Prop}:l9 P [.tmp t,.tmp u,.tmp v,.tmp w] K φ st=(jM [φ t,φ u,φ v,φ w]=true∧K (.tup [φ t,φ u,φ v,φ w]) st):=rfl
def HW(k:AV→Prop):Option AV→Prop
 | some r=>k r
 | none=>False
theorem aAF{p:Tmp}{t:TypeId}{K:AV→aA→Prop}:l9 P [.cell p t] K φ st=HW (fun r=>K r st) (gA P st t (φ p)):=by
 simp only[l9,nT,yW]
 cases gA P st t (φ p)<;>rfl
theorem aAG{p u:Tmp}{t:TypeId}{K:AV→aA→Prop}:l9 P [.cell p t,.tmp u] K φ st=HW (fun r=>jM [r,φ u]=true∧K (.tup [r,φ u]) st) (gA P st t (φ p)):=by
 simp only[l9,nT,yW]
 cases gA P st t (φ p)<;>rfl
theorem aAJ{u p:Tmp}{t:TypeId}{K:AV→aA→Prop}:l9 P [.tmp u,.cell p t] K φ st=HW (fun r=>jM [φ u,r]=true∧K (.tup [φ u,r]) st) (gA P st t (φ p)):=by
 simp only[l9,nT,yW]
 cases gA P st t (φ p)<;>rfl
theorem ZI{k:AV→Prop}{r:AV}:HW k (some r)=k r:=rfl
def iU(P:Program)(mt:List Nat)(ops:Array Oper)(rest:List Oper)(K:AF→aA→Prop)(φ:AF)(dst:Option Tmp)(st:aA):Option AV→Prop
 | some r=>aZ P mt ops rest K (φ.put dst r) st
 | none=>False
def nK(P:Program)(mt:List Nat)(ops:Array Oper)(rest:List Oper)(K:AF→aA→Prop)(φ:AF)(dst:Option Tmp)(r:AV)(st:aA):Prop:=aZ P mt ops rest K (φ.put dst r) st
def tW(P:Program)(mt:List Nat)(ops:Array Oper)(o:Oper)(rest:List Oper)(K:AF→aA→Prop)(φ:AF)(st:aA):Option Bool→Prop
 | some true=>aZ P mt ops ({ o with guard:=none }::rest) K φ st
 | some false=>aZ P mt ops rest K (φ.put o.dst .undef) st
 | none=>False
def gd(ops:Array Oper)(φ:AF)(j:Nat)(want:Bool):Option Bool:=
 match (ops[j]?).bind (·.dst) with
 | none=>some false
 | some d=>match φ d with
  | .bool b=>some (b == want)
  | .undef=>some false
  | _=>none
section
variable {rest:List Oper} {K:AF→aA→Prop} {dst:Option Tmp} {type:TypeId} {pos:String} {after:Array Edge}
theorem ZF:aZ P mt ops [] K φ st=K φ st:=rfl
theorem XI{op:Op}{j:Nat}{want:Bool}:aZ P mt ops (⟨dst,op,type,pos,after,some (j,want)⟩::rest) K φ st=tW P mt ops ⟨dst,op,type,pos,after,some (j,want)⟩ rest K φ st (gd ops φ j want):=by
 simp only[aZ]
 have h1:gZ ops φ ⟨dst,op,type,pos,after,some (j,want)⟩=gd ops φ j want:=rfl
 rw[h1]
 cases gd ops φ j want with
 | none=>rfl
 | some b=>cases b<;>simp [tW,aZ,gZ,eF,jQ]
theorem SW{r:AV}:nK P mt ops rest K φ dst r st=aZ P mt ops rest K (φ.put dst r) st:=rfl
theorem TO{r:AV}:iU P mt ops rest K φ dst st (some r)=aZ P mt ops rest K (φ.put dst r) st:=rfl
theorem SY{op:Op}{g:Option (Nat×Bool)}:tW P mt ops ⟨dst,op,type,pos,after,g⟩ rest K φ st (some true)=aZ P mt ops (⟨dst,op,type,pos,after,none⟩::rest) K φ st:=rfl
theorem SX{op:Op}{g:Option (Nat×Bool)}:tW P mt ops ⟨dst,op,type,pos,after,g⟩ rest K φ st (some false)=aZ P mt ops rest K (φ.put dst .undef) st:=rfl
theorem kF{o:Oper}(hg:o.guard=none)(e:∀K',eF P mt φ st o K'=match jQ P φ st o with | some r=>K' r st | none=>False):aZ P mt ops (o::rest) K φ st=iU P mt ops rest K φ o.dst st (jQ P φ st o):=by
 simp only[aZ,gZ,hg,e]
 cases jQ P φ st o<;>rfl
def E0:AV→AV→AV→Option AV
 | .bool b,x,y=>some (if b then x else y)
 | _,_,_=>none
def v9:AV→Option AV
 | .ptr b q=>some (.ptr b q)
 | .pptr e=>some (.pptr e)
 | _=>none
def E2(P:Program)(t f:Nat)(x:AV):Option AV:=match fI P t f,x with | some (off,ag,sz),.agg cs=>sub ag cs off sz | _,_=>none
def xZ(x:AV)(i:Nat):Option AV:=match x with | .tup vs=>vs[i]? | _=>none
def FE(g:FuncId)(cs:List AV):Option AV:=if jM cs=true then some (.func g cs) else none
def qG(P:Program)(f:AV)(args:List AV)(st:aA)(K:AV→aA→Prop):Prop:=match f with | .func g dG=>aD P g (args++dG) st K | _=>False
def uZ(P:Program)(m:Bool)(t:TypeId)(x:AV)(st:aA)(K:AV→aA→Prop)(k:Option AV→Prop):Prop:=
 if m=true then x.cA=false∧∀b,st b=none→K (.ptr b 0) (st.aC b (.cells x.cells)) else k (uG P t x)
def FL(zs:Option (List AV))(st:aA)(K:AV→aA→Prop):Prop:=match zs with | some zs=>∀b,st b=none→K (.ptr b 0) (st.aC b (.cells zs)) | none=>False
def ID(P:Program)(t:TypeId)(p x:AV)(st:aA)(K:AV→aA→Prop):Prop:=
 match p with
 | .ptr b q=>match st b,tI P t with
  | some (.cells cs),some (_,sz)=>x.cells.length=sz∧q+sz≤cs.length∧x.cells.all AV.storable=true∧K .undef (st.aC b (.cells (aS cs q x.cells)))
  | _,_=>False
 | _=>False
theorem ZB{x:Operand}:aZ P mt ops (⟨dst,.move x,type,pos,after,none⟩::rest) K φ st=aZ P mt ops rest K (φ.put dst (φ.eval x)) st:=rfl
theorem VO{x:Operand}:aZ P mt ops (⟨dst,.assign x,type,pos,after,none⟩::rest) K φ st=aZ P mt ops rest K (φ.put dst (φ.eval x)) st:=rfl
theorem ZK{c x y:Operand}:aZ P mt ops (⟨dst,.pick c x y,type,pos,after,none⟩::rest) K φ st=iU P mt ops rest K φ dst st (E0 (φ.eval c) (φ.eval x) (φ.eval y)):=by
 rw[kF rfl fun _=>rfl]
 simp only[jQ]
 cases φ.eval c<;>rfl
theorem VQ{op:BinOp}{t t':TypeId}{x y:Operand}:aZ P mt ops (⟨dst,.binOp op t x y t',type,pos,after,none⟩::rest) K φ st=iU P mt ops rest K φ dst st (dJ P op t (φ.eval x) (φ.eval y)):=kF rfl fun _=>rfl
theorem aCL{op:UnOp}{t:TypeId}{x:Operand}:aZ P mt ops (⟨dst,.unOp op t x,type,pos,after,none⟩::rest) K φ st=iU P mt ops rest K φ dst st (BX op (φ.eval x)):=kF rfl fun _=>rfl
theorem ZG{x:Operand}:aZ P mt ops (⟨dst,.nilCheck x,type,pos,after,none⟩::rest) K φ st=iU P mt ops rest K φ dst st (v9 (φ.eval x)):=by
 rw[kF rfl fun _=>rfl]
 try rfl
theorem XA{t f:Nat}{x:Operand}:aZ P mt ops (⟨dst,.fieldAddr t x f,type,pos,after,none⟩::rest) K φ st=iU P mt ops rest K φ dst st (pW P t f (φ.eval x)):=kF rfl fun _=>rfl
theorem YW{t:TypeId}{x:Operand}:aZ P mt ops (⟨dst,.load t x,type,pos,after,none⟩::rest) K φ st=iU P mt ops rest K φ dst st (gA P st t (φ.eval x)):=kF rfl fun _=>rfl
theorem W9{t f:Nat}{x:Operand}:aZ P mt ops (⟨dst,.field t x f,type,pos,after,none⟩::rest) K φ st=iU P mt ops rest K φ dst st (E2 P t f (φ.eval x)):=by
 rw[kF rfl fun _=>rfl]
 try rfl
theorem YL{t:TypeId}{x i:Operand}:aZ P mt ops (⟨dst,.indexAddr t x i,type,pos,after,none⟩::rest) K φ st=iU P mt ops rest K φ dst st (dF P t (φ.eval x) (φ.eval i)):=kF rfl fun _=>rfl
theorem YK{t:TypeId}{x i:Operand}:aZ P mt ops (⟨dst,.index t x i,type,pos,after,none⟩::rest) K φ st=iU P mt ops rest K φ dst st (yS P t (φ.eval x) (φ.eval i)):=kF rfl fun _=>rfl
theorem aA6{t:TypeId}{x:Operand}{lo hi mx:Option Operand}:aZ P mt ops (⟨dst,.slice t x lo hi mx,type,pos,after,none⟩::rest) K φ st=iU P mt ops rest K φ dst st (fE P φ t (φ.eval x) lo hi mx):=kF rfl fun _=>rfl
theorem W7{x:Operand}{i:Nat}:aZ P mt ops (⟨dst,.extract x i,type,pos,after,none⟩::rest) K φ st=iU P mt ops rest K φ dst st (xZ (φ.eval x) i):=by
 rw[kF rfl fun _=>rfl]
 try rfl
theorem Y3{g:FuncId}{dG:Array Operand}:aZ P mt ops (⟨dst,.makeFunc (.func g) #[] dG,type,pos,after,none⟩::rest) K φ st=iU P mt ops rest K φ dst st (FE g (dG.toList.map φ.eval)):=by
 rw[kF rfl fun _=>rfl]
 congr 1
 simp [jQ,FE]
theorem VZ{t:TypeId}{ps:Array (Nat×Operand)}:aZ P mt ops (⟨dst,.build t ps,type,pos,after,none⟩::rest) K φ st=iU P mt ops rest K φ dst st (v8 P φ t ps):=kF rfl fun _=>rfl
theorem V0{t:TypeId}{n:Nat}{ps:Array (Nat×Operand)}:aZ P mt ops (⟨dst,.buildSlice t n ps,type,pos,after,none⟩::rest) K φ st=iU P mt ops rest K φ dst st (xY P φ t n ps):=kF rfl fun _=>rfl
theorem WZ{t u:TypeId}{x:Operand}:aZ P mt ops (⟨dst,.convert t u x,type,pos,after,none⟩::rest) K φ st=iU P mt ops rest K φ dst st (BU P t u (φ.eval x)):=kF rfl fun _=>rfl
theorem YX{t:TypeId}{x i:Operand}{ok:Bool}:aZ P mt ops (⟨dst,.lookup t x i ok,type,pos,after,none⟩::rest) K φ st=iU P mt ops rest K φ dst st (mW P st t ok (φ.eval x) (φ.eval i)):=kF rfl fun _=>rfl
theorem YQ{x:Operand}{t:TypeId}:aZ P mt ops (⟨dst,.call { callee:=.builtin .len,args:=#[x],argTypes:=#[t] },type,pos,after,none⟩::rest) K φ st=iU P mt ops rest K φ dst st (iL P t (φ.eval x)):=kF rfl fun _=>rfl
theorem WD{f:Operand}{args:List Operand}{ats:Array TypeId}:aZ P mt ops (⟨dst,.call { callee:=.value f,args:=args.toArray,argTypes:=ats },type,pos,after,none⟩::rest) K φ st=qG P (φ.eval f) (args.map φ.eval) st (nK P mt ops rest K φ dst):=rfl
theorem Y7{x y:Operand}{ts:Array TypeId}:aZ P mt ops (⟨dst,.call { callee:=.builtin .max,args:=#[x,y],argTypes:=ts },type,pos,after,none⟩::rest) K φ st=iU P mt ops rest K φ dst st (uS (φ.eval x) (φ.eval y)):=kF rfl fun _=>rfl
theorem Y9{x y:Operand}{ts:Array TypeId}:aZ P mt ops (⟨dst,.call { callee:=.builtin .min,args:=#[x,y],argTypes:=ts },type,pos,after,none⟩::rest) K φ st=iU P mt ops rest K φ dst st (uT (φ.eval x) (φ.eval y)):=kF rfl fun _=>rfl
theorem UT{s x:Operand}{t t':TypeId}:aZ P mt ops (⟨dst,.call { callee:=.builtin .append,args:=#[s,x],argTypes:=#[t,t'] },type,pos,after,none⟩::rest) K φ st=(if t=t' then jP P t st (φ.eval s) (φ.eval x) (nK P mt ops rest K φ dst) else p9 P t t' st (φ.eval s) (φ.eval x) (nK P mt ops rest K φ dst)):=rfl
theorem W1{m k:Operand}{t t':TypeId}:aZ P mt ops (⟨dst,.call { callee:=.builtin .delete,args:=#[m,k],argTypes:=#[t,t'] },type,pos,after,none⟩::rest) K φ st=wM P t st (φ.eval m) (φ.eval k) (nK P mt ops rest K φ dst):=rfl
theorem VW{t:TypeId}{x:Operand}:aZ P mt ops (⟨dst,.box t x,type,pos,after,none⟩::rest) K φ st=uZ P (x6 mt dst) t (φ.eval x) st (nK P mt ops rest K φ dst) (iU P mt ops rest K φ dst st):=by
 simp only[aZ,gZ,eF,uZ,nK]
 split
 · rfl
 · cases uG P t (φ.eval x)<;>rfl
theorem UQ{t:TypeId}:aZ P mt ops (⟨dst,.alloc t,type,pos,after,none⟩::rest) K φ st=FL (zI P t) st (nK P mt ops rest K φ dst):=rfl
theorem aBX{t:TypeId}{p x:Operand}:aZ P mt ops (⟨dst,.store t p x,type,pos,after,none⟩::rest) K φ st=ID P t (φ.eval p) (φ.eval x) st (nK P mt ops rest K φ dst):=rfl
theorem Y4{t:TypeId}:aZ P mt ops (⟨dst,.makeMap t none,type,pos,after,none⟩::rest) K φ st=∀b,st b=none→nK P mt ops rest K φ dst (.map b) (st.aC b (.map fun _=>none)):=rfl
theorem Y5{t:TypeId}{n c:Operand}:aZ P mt ops (⟨dst,.makeSlice t n c,type,pos,after,none⟩::rest) K φ st=rH P t st (φ.eval n) (φ.eval c) (nK P mt ops rest K φ dst):=rfl
theorem Y6{t:TypeId}{m k x:Operand}:aZ P mt ops (⟨dst,.mapUpdate t m k x,type,pos,after,none⟩::rest) K φ st=qA P t st (φ.eval m) (φ.eval k) (φ.eval x) (nK P mt ops rest K φ dst):=rfl
theorem aCJ{t:Tmp}:φ.eval (.tmp t)=φ t:=rfl
theorem V8{k:IntKind}{n:Int}:φ.eval (.const (.int k n))=.int k n:=rfl
theorem V3{b:Bool}:φ.eval (.const (.bool b))=.bool b:=rfl
theorem WA:φ.eval (.const (.slice none 0 0))=.fslice []:=rfl
theorem WB:φ.eval (.const (.pointer none))=.nilptr:=rfl
theorem V9:φ.eval (.const (.map none))=.nilmap:=rfl
theorem V4{g:FuncId}:φ.eval (.func g)=.func g []:=rfl
theorem WC{l:List UInt8}:φ.eval (.const (.string ⟨l.toArray⟩))=if l.length≤9223372036854775807 then .str ⟨l.toArray⟩ else .junk:=by
 simp [AF.eval,ofConst,ByteArray.size,maxLen]
theorem aCM{d e:Nat}{v:AV}:(φ.aC d v) e=if e=d then v else φ e:=rfl
theorem Z2{d:Nat}{v:AV}:φ.put (some d) v=φ.aC d v:=rfl
theorem Z3{v:AV}:φ.put none v=φ:=rfl
theorem UV{i:Nat}:rK i []=AF.bot:=rfl
theorem UU{i:Nat}{a:AV}{as:List AV}:rK i (a::as)=(rK (i+1) as).aC i a:=rfl
theorem TW{P:Program}{t:TypeId}{k:IntKind}{a b:Int}:dJ P .add t (.int k a) (.int k b)=some (.int k (k.wrap (a+b))):=by simp [dJ,jC]
theorem aB2{P:Program}{t:TypeId}{k:IntKind}{a b:Int}:dJ P .sub t (.int k a) (.int k b)=some (.int k (k.wrap (a - b))):=by simp [dJ,jC]
theorem ZC{P:Program}{t:TypeId}{k:IntKind}{a b:Int}:dJ P .mul t (.int k a) (.int k b)=some (.int k (k.wrap (a*b))):=by simp [dJ,jC]
theorem Z4{P:Program}{t:TypeId}{k:IntKind}{a b:Int}:dJ P .quo t (.int k a) (.int k b)=if b=0 then none else some (.int k (k.wrap (a.tdiv b))):=by simp [dJ,jC]
theorem Z8{P:Program}{t:TypeId}{k:IntKind}{a b:Int}:dJ P .rem t (.int k a) (.int k b)=if b=0 then none else some (.int k (a.tmod b)):=by simp [dJ,jC]
theorem W4{P:Program}{t:TypeId}{k:IntKind}{a b:Int}:dJ P .eql t (.int k a) (.int k b)=some (.bool (decide (a=b))):=by simp [dJ,jC]
theorem ZE{P:Program}{t:TypeId}{k:IntKind}{a b:Int}:dJ P .neq t (.int k a) (.int k b)=some (.bool (!decide (a=b))):=by simp [dJ,jC]
theorem Y2{P:Program}{t:TypeId}{k:IntKind}{a b:Int}:dJ P .lss t (.int k a) (.int k b)=some (.bool (decide (a<b))):=by simp [dJ,jC]
theorem YV{P:Program}{t:TypeId}{k:IntKind}{a b:Int}:dJ P .leq t (.int k a) (.int k b)=some (.bool (decide (a≤b))):=by simp [dJ,jC]
theorem XH{P:Program}{t:TypeId}{k:IntKind}{a b:Int}:dJ P .gtr t (.int k a) (.int k b)=some (.bool (decide (b<a))):=by simp [dJ,jC]
theorem XG{P:Program}{t:TypeId}{k:IntKind}{a b:Int}:dJ P .geq t (.int k a) (.int k b)=some (.bool (decide (b≤a))):=by simp [dJ,jC]
theorem aC4{P:Program}{t:TypeId}{k:IntKind}{a b:Int}:dJ P .xor t (.int k a) (.int k b)=some (.int k (KF k a b)):=by simp [dJ,jC]
theorem US{P:Program}{t:TypeId}{k:IntKind}{a b:Int}:dJ P .and t (.int k a) (.int k b)=some (.int k (J7 k a b)):=by simp [dJ,jC]
theorem ZJ{P:Program}{t:TypeId}{k:IntKind}{a b:Int}:dJ P .or t (.int k a) (.int k b)=some (.int k (KD k a b)):=by simp [dJ,jC]
theorem Y8{k:IntKind}{a b:Int}:uS (.int k a) (.int k b)=some (.int k (if a<b then b else a)):=by simp [uS]
theorem ZA{k:IntKind}{a b:Int}:uT (.int k a) (.int k b)=some (.int k (if b<a then b else a)):=by simp [uT]
theorem aA3{P:Program}{t:TypeId}{a b:ByteArray}:dJ P .eql t (.str a) (.str b)=some (.bool (decide (a=b))):=by simp [dJ,jC]
theorem aA8{P:Program}{t:TypeId}{a b:ByteArray}:dJ P .neq t (.str a) (.str b)=some (.bool (!decide (a=b))):=by simp [dJ,jC]
theorem aAM{P:Program}{t:TypeId}{a b:ByteArray}:dJ P .add t (.str a) (.str b)=if a.size+b.size≤maxLen then some (.str (a++b)) else none:=by simp [dJ,jC]
theorem aA7{P:Program}{t:TypeId}{a b:ByteArray}:dJ P .lss t (.str a) (.str b)=some (.bool (Op.bytesLess a.toList b.toList)):=by simp [dJ,jC]
theorem aA4{P:Program}{t:TypeId}{a b:ByteArray}:dJ P .gtr t (.str a) (.str b)=some (.bool (!(Op.bytesLess a.toList b.toList||decide (a=b)))):=by simp [dJ,jC]
theorem VP{P:Program}{t:TypeId}{a b:Bool}(h:P.underlying t=some .bool):dJ P .eql t (.bool a) (.bool b)=some (.bool (a == b)):=by simp [dJ,h]
theorem VV{P:Program}{t:TypeId}{a b:Bool}(h:P.underlying t=some .bool):dJ P .neq t (.bool a) (.bool b)=some (.bool (!(a == b))):=by simp [dJ,h]
theorem ZH{b:Bool}:BX .not (.bool b)=some (.bool (!b)):=rfl
theorem ZD{k:IntKind}{n:Int}:BX .neg (.int k n)=some (.int k (k.wrap (0 - n))):=rfl
end
end
@[congr] theorem aXI {P:Program} {N:Nat} {mt:List Nat} {c:Code} {Q:Exit→AF→aA→Prop} {φ φ':AF} {st st':aA} (h1:φ=φ') (h2:st=st'):fA P N mt c Q φ st=fA P N mt c Q φ' st':=by rw[h1,h2]
@[congr] theorem aXO {P:Program} {mt:List Nat} {ops:Array Oper} {l:List Oper} {K:AF→aA→Prop} {φ φ':AF} {st st':aA} (h1:φ=φ') (h2:st=st'):aZ P mt ops l K φ st=aZ P mt ops l K φ' st':=by rw[h1,h2]
@[congr] theorem aX1 {P:Program} {mt:List Nat} {ops:Array Oper} {l:List Oper} {K:AF→aA→Prop} {φ:AF} {st:aA} {dst:Option Tmp} {x x':Option AV} (h1:x=x'):iU P mt ops l K φ dst st x=iU P mt ops l K φ dst st x':=by rw[h1]
@[congr] theorem aX0 {P:Program} {mt:List Nat} {ops:Array Oper} {o:Oper} {l:List Oper} {K:AF→aA→Prop} {φ:AF} {st:aA} {x x':Option Bool} (h1:x=x'):tW P mt ops o l K φ st x=tW P mt ops o l K φ st x':=by rw[h1]
@[congr] theorem aXZ {P:Program} {mt:List Nat} {ops:Array Oper} {l:List Oper} {K:AF→aA→Prop} {φ:AF} {dst:Option Tmp} {r r':AV} {st st':aA} (h1:r=r') (h2:st=st'):nK P mt ops l K φ dst r st=nK P mt ops l K φ dst r' st':=by rw[h1,h2]
@[congr] theorem aXJ {c c':AV} {k₁ k₂:AF→aA→Prop} {φ:AF} {st:aA} (h1:c=c'):sV c k₁ k₂ φ st=sV c' k₁ k₂ φ st:=by rw[h1]
@[congr] theorem aXF {P:Program} {N:Nat} {c:Code} {Q:Exit→AF→aA→Prop} {φ φ':AF} {st st':aA} (h1:φ=φ') (h2:st=st'):fH P N c Q φ st=fH P N c Q φ' st':=by rw[h1,h2]
@[congr] theorem aXE {P:Program} {g:FuncId} {args args':List AV} {st st':aA} {K:AV→aA→Prop} (h1:args=args') (h2:st=st'):aD P g args st K=aD P g args' st' K:=by rw[h1,h2]
@[congr] theorem aXX {P:Program} {f f':AV} {args args':List AV} {st st':aA} {K:AV→aA→Prop} (h0:f=f') (h1:args=args') (h2:st=st'):qG P f args st K=qG P f' args' st' K:=by rw[h0,h1,h2]
@[congr] theorem aXT {P:Program} {m m':Bool} {t:TypeId} {x x':AV} {st st':aA} {K:AV→aA→Prop} {k:Option AV→Prop} (h0:m=m') (h1:x=x') (h2:st=st'):uZ P m t x st K k=uZ P m' t x' st' K k:=by rw[h0,h1,h2]
@[congr] theorem aXS {zs zs':Option (List AV)} {st st':aA} {K:AV→aA→Prop} (h1:zs=zs') (h2:st=st'):FL zs st K=FL zs' st' K:=by rw[h1,h2]
@[congr] theorem aX6 {P:Program} {t:TypeId} {p p' x x':AV} {st st':aA} {K:AV→aA→Prop} (h0:p=p') (h1:x=x') (h2:st=st'):ID P t p x st K=ID P t p' x' st' K:=by rw[h0,h1,h2]
@[congr] theorem aXM {x x' y y':AV} (h0:x=x') (h1:y=y'):uS x y=uS x' y':=by rw[h0,h1]
@[congr] theorem aXN {x x' y y':AV} (h0:x=x') (h1:y=y'):uT x y=uT x' y':=by rw[h0,h1]
@[congr] theorem aXH {P:Program} {t t':TypeId} {s s' x x':AV} {st st':aA} {K:AV→aA→Prop} (h0:s=s') (h1:x=x') (h2:st=st'):p9 P t t' st s x K=p9 P t t' st' s' x' K:=by rw[h0,h1,h2]
@[congr] theorem aXG {P:Program} {t:TypeId} {s s' x x':AV} {st st':aA} {K:AV→aA→Prop} (h0:s=s') (h1:x=x') (h2:st=st'):jP P t st s x K=jP P t st' s' x' K:=by rw[h0,h1,h2]
@[congr] theorem aXK {P:Program} {t:TypeId} {s s' x x':AV} {st st':aA} {K:AV→aA→Prop} (h0:s=s') (h1:x=x') (h2:st=st'):rH P t st s x K=rH P t st' s' x' K:=by rw[h0,h1,h2]
@[congr] theorem aXL {P:Program} {t:TypeId} {m m' s s' x x':AV} {st st':aA} {K:AV→aA→Prop} (h:m=m') (h0:s=s') (h1:x=x') (h2:st=st'):qA P t st m s x K=qA P t st' m' s' x' K:=by rw[h,h0,h1,h2]
theorem WE{P:Program}{g:FuncId}{dG args:List AV}{st:aA}{K:AV→aA→Prop}:qG P (.func g dG) args st K=aD P g (args++dG) st K:=rfl
theorem VX{P:Program}{t:TypeId}{x:AV}{st:aA}{K:AV→aA→Prop}{k:Option AV→Prop}:uZ P false t x st K k=k (uG P t x):=by simp [uZ]
theorem VY{P:Program}{t:TypeId}{x:AV}{st:aA}{K:AV→aA→Prop}{k:Option AV→Prop}:uZ P true t x st K k=(x.cA=false∧∀b,st b=none→K (.ptr b 0) (st.aC b (.cells x.cells))):=by simp [uZ]
theorem UR{zs:List AV}{st:aA}{K:AV→aA→Prop}:FL (some zs) st K=∀b,st b=none→K (.ptr b 0) (st.aC b (.cells zs)):=rfl
theorem aBY{P:Program}{t:TypeId}{b q:Nat}{x:AV}{st:aA}{K:AV→aA→Prop}:ID P t (.ptr b q) x st K=match st b,tI P t with
 | some (.cells cs),some (_,sz)=>x.cells.length=sz∧q+sz≤cs.length∧x.cells.all AV.storable=true∧K .undef (st.aC b (.cells (aS cs q x.cells)))
 | _,_=>False:=rfl
def iG:Op→Bool
 | .alloc _=>true
 | _=>false
def iA:Op→Bool
 | .store _ _ _=>true
 | _=>false
def zK(P:Program)(mt:List Nat)(ops:Array Oper)(rest:List Oper)(K:AF→aA→Prop)(φ:AF)(st:aA):Prop:=fB P mt ops rest K φ st
def zF(P:Program)(mt:List Nat)(ops:Array Oper)(rest:List Oper)(K:AF→aA→Prop)(φ:AF)(d:Nat)(st:aA)(r:AV):Prop:=fB P mt ops rest K (φ.aC d r) st
def tM(x:AV)(K:AV→Prop):Option (List AV)→Option (Bool×Nat)→Prop
 | some zs,some (_,sz)=>zs.length=sz∧x.width=sz∧x.cells.all AV.storable=true∧x.cA=false∧K (.pptr x)
 | _,_=>False
def zM(P:Program)(mt:List Nat)(ops:Array Oper)(o:Oper)(s:Oper)(rest:List Oper)(K:AF→aA→Prop)(φ:AF)(st:aA)(d:Nat)(t:TypeId)(x:AV):Bool→Prop
 | true=>aZ P mt ops [o] (zK P mt ops (s::rest) K) φ st
 | false=>tM x (zF P mt ops rest K φ d st) (zI P t) (tI P t)
section
variable {P:Program} {mt:List Nat} {ops:Array Oper} {rest:List Oper} {K:AF→aA→Prop} {φ:AF} {st:aA} {dst zD:Option Tmp} {type sM:TypeId} {pos pos':String} {after rJ:Array Edge} {g g':Option (Nat×Bool)} {op op':Op}
theorem GI:zK P mt ops rest K φ st=fB P mt ops rest K φ st:=rfl
theorem aC5{d:Nat}{r:AV}:zF P mt ops rest K φ d st r=fB P mt ops rest K (φ.aC d r) st:=rfl
theorem TR:fB P mt ops [] K φ st=K φ st:=by rw[fB]
theorem GG(h:iG op=false):fB P mt ops (⟨dst,op,type,pos,after,g⟩::rest) K φ st=aZ P mt ops [⟨dst,op,type,pos,after,g⟩] (zK P mt ops rest K) φ st:=by
 rw[fB]
 · rfl
 · intro d t ty ps af t' d' x ty' ps' af' r e1 e2
   cases e1
   cases h
 · intro d t ty ps af e y ty2 ps2 af2 t' d' x ty' ps' af' r e1 e2
   cases e1
   cases h
theorem GH{t:TypeId}{x:AV}{k:AV→Prop}:yR P t x k=tM x k (zI P t) (tI P t):=by
 unfold yR tM
 simp only[rM]
 cases zI P t<;>cases tI P t<;>rfl
theorem XF{x:AV}{k:AV→Prop}{zs:List AV}{ag:Bool}{sz:Nat}:tM x k (some zs) (some (ag,sz))=(zs.length=sz∧x.width=sz∧x.cells.all AV.storable=true∧x.cA=false∧k (.pptr x)):=rfl
theorem GF{d:Nat}{t:TypeId}{x:Operand}:fB P mt ops (⟨some d,.alloc t,type,pos,after,none⟩::⟨none,.store t (.tmp d) x,sM,pos',rJ,none⟩::rest) K φ st =
 zM P mt ops ⟨some d,.alloc t,type,pos,after,none⟩ ⟨none,.store t (.tmp d) x,sM,pos',rJ,none⟩ rest K φ st d t (φ.eval x) (mt.contains d||nG x d):=by
 rw[fB]
 cases h:(mt.contains d||nG x d) with
 | true=>
  rw[aG (by simp)]
  show _=aZ P mt ops _ (fun φ' st'=>zK P mt ops _ K φ' st') φ st
  simp only[GI,GG (K:=K) (rest:=rest) (op:=.store t (.tmp d) x) rfl]
  rfl
 | false=>
  rw[aK ⟨rfl,rfl,rfl⟩,GH]
  try rfl
theorem aC9{o s:Oper}{d:Nat}{t:TypeId}{x:AV}:zM P mt ops o s rest K φ st d t x true=aZ P mt ops [o] (zK P mt ops (s::rest) K) φ st:=rfl
theorem aC8{o s:Oper}{d:Nat}{t:TypeId}{x:AV}:zM P mt ops o s rest K φ st d t x false=tM x (zF P mt ops rest K φ d st) (zI P t) (tI P t):=rfl
def EY(P:Program)(mt:List Nat)(ops:Array Oper)(o:Oper)(os:List Oper)(rest:List Oper)(K:AF→aA→Prop)(φ φ':AF)(st:aA)(d:Nat)(t:TypeId)(x:AV):Bool→Prop
 | true=>aZ P mt ops [o] (zK P mt ops (os++rest) K) φ st
 | false=>tM x (zF P mt ops rest K φ' d st) (zI P t) (tI P t)
theorem aC6{o:Oper}{os:List Oper}{φ':AF}{d:Nat}{t:TypeId}{x:AV}:EY P mt ops o os rest K φ φ' st d t x false=tM x (zF P mt ops rest K φ' d st) (zI P t) (tI P t):=rfl
theorem aC7{o:Oper}{os:List Oper}{φ':AF}{d:Nat}{t:TypeId}{x:AV}:EY P mt ops o os rest K φ φ' st d t x true=aZ P mt ops [o] (zK P mt ops (os++rest) K) φ st:=rfl
theorem aOH{d e:Nat}{t:TypeId}{x y:Operand}{type2:TypeId}{tX:String}{B0:Array Edge}:fB P mt ops (⟨some d,.alloc t,type,pos,after,none⟩::⟨some e,.assign y,type2,tX,B0,none⟩::⟨none,.store t (.tmp d) x,sM,pos',rJ,none⟩::rest) K φ st =
 EY P mt ops ⟨some d,.alloc t,type,pos,after,none⟩ [⟨some e,.assign y,type2,tX,B0,none⟩,⟨none,.store t (.tmp d) x,sM,pos',rJ,none⟩] rest K φ (φ.aC e (φ.eval y)) st d t ((φ.aC e (φ.eval y)).eval x) (mt.contains d||nG x d||nG y d||d == e):=by
 rw[fB]
 cases h:(mt.contains d||nG x d||nG y d||d == e) with
 | true=>
  rw[aG (by simp)]
  show _=aZ P mt ops _ (fun φ' st'=>zK P mt ops _ K φ' st') φ st
  simp only[GI,gB,eR,GG (K:=K) (op:=.assign y) rfl]
  rfl
 | false=>
  rw[aK ⟨rfl,rfl,rfl⟩,GH]
  try rfl
def iT:Op→Bool
 | .assign _=>true
 | _=>false
theorem TS{t:TypeId}(h:iA op'=false)(h2:iT op'=false):fB P mt ops (⟨dst,.alloc t,type,pos,after,g⟩::⟨zD,op',sM,pos',rJ,g'⟩::rest) K φ st=aZ P mt ops [⟨dst,.alloc t,type,pos,after,g⟩] (zK P mt ops (⟨zD,op',sM,pos',rJ,g'⟩::rest) K) φ st:=by
 rw[fB]
 · rfl
 · intro d t ty ps af t' d' x ty' ps' af' r e1 e2
   cases e2
   cases h
 · intro d t ty ps af e y ty2 ps2 af2 t' d' x ty' ps' af' r e1 e2
   cases e2
   cases h2
theorem TT{t:TypeId}:fB P mt ops [⟨dst,.alloc t,type,pos,after,g⟩] K φ st=aZ P mt ops [⟨dst,.alloc t,type,pos,after,g⟩] (zK P mt ops [] K) φ st:=by
 rw[fB]
 · rfl
 · intro d t ty ps af t' d' x ty' ps' af' r e1 e2
   cases e2
 · intro d t ty ps af e y ty2 ps2 af2 t' d' x ty' ps' af' r e1 e2
   cases e2
theorem TU{t:TypeId}{y:Operand}:fB P mt ops [⟨dst,.alloc t,type,pos,after,g⟩,⟨zD,.assign y,sM,pos',rJ,g'⟩] K φ st=aZ P mt ops [⟨dst,.alloc t,type,pos,after,g⟩] (zK P mt ops [⟨zD,.assign y,sM,pos',rJ,g'⟩] K) φ st:=by
 rw[fB]
 · rfl
 · intro d t ty ps af t' d' x ty' ps' af' r e1 e2
   cases e2
 · intro d t ty ps af e y ty2 ps2 af2 t' d' x ty' ps' af' r e1 e2
   cases e2
theorem TV{t:TypeId}{y:Operand}{SS:Option Tmp}{op2:Op}{type2:TypeId}{tX:String}{B0:Array Edge}{g2:Option (Nat×Bool)}(h:iA op2=false):fB P mt ops (⟨dst,.alloc t,type,pos,after,g⟩::⟨zD,.assign y,sM,pos',rJ,g'⟩::⟨SS,op2,type2,tX,B0,g2⟩::rest) K φ st=aZ P mt ops [⟨dst,.alloc t,type,pos,after,g⟩] (zK P mt ops (⟨zD,.assign y,sM,pos',rJ,g'⟩::⟨SS,op2,type2,tX,B0,g2⟩::rest) K) φ st:=by
 rw[fB]
 · rfl
 · intro d t ty ps af t' d' x ty' ps' af' r e1 e2
   cases e2
 · intro d t ty ps af e y ty2 ps2 af2 t' d' x ty' ps' af' r e1 e2
   cases e2
   cases h
theorem YN{d e:Nat}:nG (.tmp e) d=(e == d):=rfl
theorem YM{v:Value}{d:Nat}:nG (.const v) d=false:=rfl
theorem UK{x:Operand}:iG (.move x)=false:=rfl
theorem aBS{x:Operand}:iA (.move x)=false:=rfl
theorem TX{x:Operand}:iG (.assign x)=false:=rfl
theorem aBA{x:Operand}:iA (.assign x)=false:=rfl
theorem UM{c x y:Operand}:iG (.pick c x y)=false:=rfl
theorem aBU{c x y:Operand}:iA (.pick c x y)=false:=rfl
theorem TY{op:BinOp}{t:TypeId}{x y:Operand}{t':TypeId}:iG (.binOp op t x y t')=false:=rfl
theorem aBB{op:BinOp}{t:TypeId}{x y:Operand}{t':TypeId}:iA (.binOp op t x y t')=false:=rfl
theorem UP{op:UnOp}{t:TypeId}{x:Operand}:iG (.unOp op t x)=false:=rfl
theorem aBW{op:UnOp}{t:TypeId}{x:Operand}:iA (.unOp op t x)=false:=rfl
theorem UL{x:Operand}:iG (.nilCheck x)=false:=rfl
theorem aBT{x:Operand}:iA (.nilCheck x)=false:=rfl
theorem UB{t f:Nat}{x:Operand}:iG (.fieldAddr t x f)=false:=rfl
theorem aBJ{t f:Nat}{x:Operand}:iA (.fieldAddr t x f)=false:=rfl
theorem UE{t:TypeId}{x:Operand}:iG (.load t x)=false:=rfl
theorem aBM{t:TypeId}{x:Operand}:iA (.load t x)=false:=rfl
theorem UO{t:TypeId}{p x:Operand}:iG (.store t p x)=false:=rfl
theorem UA{t f:Nat}{x:Operand}:iG (.field t x f)=false:=rfl
theorem aBI{t f:Nat}{x:Operand}:iA (.field t x f)=false:=rfl
theorem UD{t:TypeId}{x i:Operand}:iG (.indexAddr t x i)=false:=rfl
theorem aBL{t:TypeId}{x i:Operand}:iA (.indexAddr t x i)=false:=rfl
theorem UC{t:TypeId}{x i:Operand}:iG (.index t x i)=false:=rfl
theorem aBK{t:TypeId}{x i:Operand}:iA (.index t x i)=false:=rfl
theorem UN{t:TypeId}{x:Operand}{lo hi mx:Option Operand}:iG (.slice t x lo hi mx)=false:=rfl
theorem aBV{t:TypeId}{x:Operand}{lo hi mx:Option Operand}:iA (.slice t x lo hi mx)=false:=rfl
theorem T9{x:Operand}{i:Nat}:iG (.extract x i)=false:=rfl
theorem aBH{x:Operand}{i:Nat}:iA (.extract x i)=false:=rfl
theorem T0{t:TypeId}{ps:Array (Nat×Operand)}:iG (.build t ps)=false:=rfl
theorem aBD{t:TypeId}{ps:Array (Nat×Operand)}:iA (.build t ps)=false:=rfl
theorem T6{t:TypeId}{n:Nat}{ps:Array (Nat×Operand)}:iG (.buildSlice t n ps)=false:=rfl
theorem aBE{t:TypeId}{n:Nat}{ps:Array (Nat×Operand)}:iA (.buildSlice t n ps)=false:=rfl
theorem T8{t u:TypeId}{x:Operand}:iG (.convert t u x)=false:=rfl
theorem aBG{t u:TypeId}{x:Operand}:iA (.convert t u x)=false:=rfl
theorem UF{t:TypeId}{x i:Operand}{ok:Bool}:iG (.lookup t x i ok)=false:=rfl
theorem aBN{t:TypeId}{x i:Operand}{ok:Bool}:iA (.lookup t x i ok)=false:=rfl
theorem T7{c:_}:iG (.call c)=false:=rfl
theorem aBF{c:_}:iA (.call c)=false:=rfl
theorem TZ{t:TypeId}{x:Operand}:iG (.box t x)=false:=rfl
theorem aBC{t:TypeId}{x:Operand}:iA (.box t x)=false:=rfl
theorem UH{t:_}{x:_}:iG (.makeMap t x)=false:=rfl
theorem aBP{t:_}{x:_}:iA (.makeMap t x)=false:=rfl
theorem UI{t:TypeId}{n c:Operand}:iG (.makeSlice t n c)=false:=rfl
theorem aBQ{t:TypeId}{n c:Operand}:iA (.makeSlice t n c)=false:=rfl
theorem UJ{t:TypeId}{m k x:Operand}:iG (.mapUpdate t m k x)=false:=rfl
theorem aBR{t:TypeId}{m k x:Operand}:iA (.mapUpdate t m k x)=false:=rfl
theorem UG{f:_}{a:_}{b:_}:iG (.makeFunc f a b)=false:=rfl
theorem aBO{f:_}{a:_}{b:_}:iA (.makeFunc f a b)=false:=rfl
theorem aA9{t:TypeId}:iA (.alloc t)=false:=rfl
theorem VI{x:Operand}:iT (.move x)=false:=rfl
theorem VK{c x y:Operand}:iT (.pick c x y)=false:=rfl
theorem UX{op:BinOp}{t:TypeId}{x y:Operand}{t':TypeId}:iT (.binOp op t x y t')=false:=rfl
theorem VM{op:UnOp}{t:TypeId}{x:Operand}:iT (.unOp op t x)=false:=rfl
theorem VJ{x:Operand}:iT (.nilCheck x)=false:=rfl
theorem U7{t f:Nat}{x:Operand}:iT (.fieldAddr t x f)=false:=rfl
theorem VA{t:TypeId}{x:Operand}:iT (.load t x)=false:=rfl
theorem U6{t f:Nat}{x:Operand}:iT (.field t x f)=false:=rfl
theorem U9{t:TypeId}{x i:Operand}:iT (.indexAddr t x i)=false:=rfl
theorem U8{t:TypeId}{x i:Operand}:iT (.index t x i)=false:=rfl
theorem VL{t:TypeId}{x:Operand}{lo hi mx:Option Operand}:iT (.slice t x lo hi mx)=false:=rfl
theorem U5{x:Operand}{i:Nat}:iT (.extract x i)=false:=rfl
theorem UZ{t:TypeId}{ps:Array (Nat×Operand)}:iT (.build t ps)=false:=rfl
theorem U0{t:TypeId}{n:Nat}{ps:Array (Nat×Operand)}:iT (.buildSlice t n ps)=false:=rfl
theorem U4{t u:TypeId}{x:Operand}:iT (.convert t u x)=false:=rfl
theorem VB{t:TypeId}{x i:Operand}{ok:Bool}:iT (.lookup t x i ok)=false:=rfl
theorem U3{c:_}:iT (.call c)=false:=rfl
theorem UY{t:TypeId}{x:Operand}:iT (.box t x)=false:=rfl
theorem VF{t:_}{x:_}:iT (.makeMap t x)=false:=rfl
theorem VG{t:TypeId}{n c:Operand}:iT (.makeSlice t n c)=false:=rfl
theorem VH{t:TypeId}{m k x:Operand}:iT (.mapUpdate t m k x)=false:=rfl
theorem VD{f:_}{a:_}{b:_}:iT (.makeFunc f a b)=false:=rfl
theorem UW{t:TypeId}:iT (.alloc t)=false:=rfl
@[congr] theorem aX8 {o:Oper} {os:List Oper} {φ' φ2 φ2':AF} {st':aA} {d:Nat} {t:TypeId} {x x':AV} {b b':Bool} (h1:φ=φ') (h0:φ2=φ2') (h2:st=st') (h3:x=x') (h4:b=b'):EY P mt ops o os rest K φ φ2 st d t x b=EY P mt ops o os rest K φ' φ2' st' d t x' b':=by rw[h1,h0,h2,h3,h4]
@[congr] theorem aXY {x x':AV} {k:AV→Prop} {a a':Option (List AV)} {b b':Option (Bool×Nat)} (h0:x=x') (h1:a=a') (h2:b=b'):tM x k a b=tM x' k a' b':=by rw[h0,h1,h2]
@[congr] theorem aX7 {o s:Oper} {φ':AF} {st':aA} {d:Nat} {t:TypeId} {x x':AV} {b b':Bool} (h1:φ=φ') (h2:st=st') (h3:x=x') (h4:b=b'):zM P mt ops o s rest K φ st d t x b=zM P mt ops o s rest K φ' st' d t x' b':=by rw[h1,h2,h3,h4]
@[congr] theorem aX5 {l:List Oper} {Q:Exit→AF→aA→Prop} {φ':AF} {st':aA} {b b':Bool} (h1:φ=φ') (h2:st=st') (h3:b=b'):D4 P mt l Q φ st b=D4 P mt l Q φ' st' b':=by rw[h1,h2,h3]
end
end Go.AW
