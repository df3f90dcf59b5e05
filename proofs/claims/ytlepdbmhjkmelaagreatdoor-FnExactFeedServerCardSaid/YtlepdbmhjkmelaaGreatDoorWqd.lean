/- The rules by which the code is evaluated: equations for simp. -/
import Derived.Test.YtlepdbmhjkmelaaGreatDoorWqc
set_option linter.unusedSimpArgs false
set_option linter.unusedVariables false
set_option maxRecDepth 100000
namespace Go.AW
section
variable {P:Program} {N:Nat} {mt:List Nat} {Q:Exit→AF→aA→Prop} {φ:AF} {st:aA} {x y:Code} {ops:Array Oper} {id:Nat}
theorem aH1:gH P N mt .skip Q φ st=Q .normal φ st:=rfl
theorem aHX:gH P N mt (.seq x y) Q φ st=gH P N mt x (FB (gH P N mt y Q) Q) φ st:=rfl
def H5(P:Program)(mt:List Nat)(l:List Oper)(Q:Exit→AF→aA→Prop)(φ:AF)(st:aA):Bool→Prop
 | true=>gI P mt l.toArray l (Q .normal) φ st
 | false=>bA P mt l.toArray l (Q .normal) φ st
theorem aG2{l:List Oper}:gH P N mt (.region id l.toArray false) Q φ st=H5 P mt l Q φ st (mt.contains 1000000):=by
 simp only[gH,iE,cM]
 cases mt.contains 1000000<;>rfl
theorem aG1{l:List Oper}:H5 P mt l Q φ st true=gI P mt l.toArray l (Q .normal) φ st:=rfl
theorem aG0{l:List Oper}:H5 P mt l Q φ st false=bA P mt l.toArray l (Q .normal) φ st:=rfl
theorem aDY:gH P N mt (.region id ops true) Q φ st=fR P N (.region id ops true) Q φ st:=by simp [gH]
theorem aDV{c:Operand}:gH P N mt (.cond c x y) Q φ st=wD (φ.eval c) (gH P N mt x Q) (gH P N mt y Q) φ st:=rfl
theorem aCQ:gH P N mt (.block id x) Q φ st=gH P N mt x (CX id Q) φ st:=rfl
theorem aFT:gH P N mt (.loop x) Q φ st=fR P N (.loop x) Q φ st:=rfl
theorem aD1:gH P N mt (.exit id) Q φ st=Q (.exit id) φ st:=rfl
theorem aG4:gH P N mt .ret Q φ st=Q .ret φ st:=rfl
theorem aJG{k₁ k₂:AF→aA→Prop}:wD (.bool true) k₁ k₂ φ st=k₁ φ st:=by simp [wD]
theorem aD3{k₁ k₂:AF→aA→Prop}:wD (.bool false) k₁ k₂ φ st=k₂ φ st:=by simp [wD]
theorem aI0{k:AF→aA→Prop}:FB k Q .normal φ st=k φ st:=rfl
theorem aIZ{k:AF→aA→Prop}:FB k Q (.exit id) φ st=Q (.exit id) φ st:=rfl
theorem aI1{k:AF→aA→Prop}:FB k Q .ret φ st=Q .ret φ st:=rfl
theorem aCS:CX id Q .normal φ st=Q .normal φ st:=rfl
theorem aCR{i:Nat}:CX id Q (.exit i) φ st=if i=id then Q .normal φ st else Q (.exit i) φ st:=rfl
theorem aCT:CX id Q .ret φ st=Q .ret φ st:=rfl
theorem aFV{k:AF→aA→Prop}:qA k Q .normal φ st=k φ st:=rfl
theorem aFU{k:AF→aA→Prop}:qA k Q (.exit id) φ st=Q (.exit id) φ st:=rfl
theorem aFW{k:AF→aA→Prop}:qA k Q .ret φ st=Q .ret φ st:=rfl
def oC(P:Program)(rs:List ResultVar)(K:AV→aA→Prop)(φ:AF)(st:aA):Prop:=
 match pO P φ st rs with
 | some xs=>FH K st xs
 | none=>False
theorem aHG{rs:Array ResultVar}{K:AV→aA→Prop}:ER P rs K .ret φ st=oC P rs.toList K φ st:=rfl
theorem aHF{rs:Array ResultVar}{K:AV→aA→Prop}:ER P rs K .normal φ st=oC P rs.toList K φ st:=rfl
theorem aG6{t:Tmp}{K:AV→aA→Prop}:oC P [.tmp t] K φ st=K (φ t) st:=rfl
theorem aG5{K:AV→aA→Prop}:oC P [] K φ st=K (.tup []) st:=by simp [oC,pO,FH,lO]
theorem aG7{t u:Tmp}{K:AV→aA→Prop}:oC P [.tmp t,.tmp u] K φ st=(lO [φ t,φ u]=true∧K (.tup [φ t,φ u]) st):=rfl
theorem aG8{t u v:Tmp}{K:AV→aA→Prop}:oC P [.tmp t,.tmp u,.tmp v] K φ st=(lO [φ t,φ u,φ v]=true∧K (.tup [φ t,φ u,φ v]) st):=rfl
theorem aG9{t u v w:Tmp}{K:AV→aA→Prop}:oC P [.tmp t,.tmp u,.tmp v,.tmp w] K φ st=(lO [φ t,φ u,φ v,φ w]=true∧K (.tup [φ t,φ u,φ v,φ w]) st):=rfl
def MD(k:AV→Prop):Option AV→Prop
 | some r=>k r
 | none=>False
theorem aHA{p:Tmp}{t:TypeId}{K:AV→aA→Prop}:oC P [.cell p t] K φ st=MD (fun r=>K r st) (gY P st t (φ p)):=by
 simp only[oC,pO,CR]
 cases gY P st t (φ p)<;>rfl
theorem aHB{p u:Tmp}{t:TypeId}{K:AV→aA→Prop}:oC P [.cell p t,.tmp u] K φ st=MD (fun r=>lO [r,φ u]=true∧K (.tup [r,φ u]) st) (gY P st t (φ p)):=by
 simp only[oC,pO,CR]
 cases gY P st t (φ p)<;>rfl
theorem aHE{u p:Tmp}{t:TypeId}{K:AV→aA→Prop}:oC P [.tmp u,.cell p t] K φ st=MD (fun r=>lO [φ u,r]=true∧K (.tup [φ u,r]) st) (gY P st t (φ p)):=by
 simp only[oC,pO,CR]
 cases gY P st t (φ p)<;>rfl
theorem aGD{k:AV→Prop}{r:AV}:MD k (some r)=k r:=rfl
def jQ(P:Program)(mt:List Nat)(ops:Array Oper)(rest:List Oper)(K:AF→aA→Prop)(φ:AF)(dst:Option Tmp)(st:aA):Option AV→Prop
 | some r=>bA P mt ops rest K (φ.put dst r) st
 | none=>False
def o9(P:Program)(mt:List Nat)(ops:Array Oper)(rest:List Oper)(K:AF→aA→Prop)(φ:AF)(dst:Option Tmp)(r:AV)(st:aA):Prop:=bA P mt ops rest K (φ.put dst r) st
def xF(P:Program)(mt:List Nat)(ops:Array Oper)(o:Oper)(rest:List Oper)(K:AF→aA→Prop)(φ:AF)(st:aA):Option Bool→Prop
 | some true=>bA P mt ops ({ o with guard:=none }::rest) K φ st
 | some false=>bA P mt ops rest K (φ.put o.dst .undef) st
 | none=>False
def gd(ops:Array Oper)(φ:AF)(j:Nat)(want:Bool):Option Bool:=
 match (ops[j]?).bind (·.dst) with
 | none=>some false
 | some d=>match φ d with
  | .bool b=>some (b == want)
  | .undef=>some false
  | _=>none
section
variable {rest:List Oper} {K:AF→aA→Prop} {dst:Option Tmp} {type:TypeId} {pos:String} {after:Array Edge}
theorem aGA:bA P mt ops [] K φ st=K φ st:=rfl
theorem aED{op:Op}{j:Nat}{want:Bool}:bA P mt ops (⟨dst,op,type,pos,after,some (j,want)⟩::rest) K φ st=xF P mt ops ⟨dst,op,type,pos,after,some (j,want)⟩ rest K φ st (gd ops φ j want):=by
 simp only[bA]
 have h1:iZ ops φ ⟨dst,op,type,pos,after,some (j,want)⟩=gd ops φ j want:=rfl
 rw[h1]
 cases gd ops φ j want with
 | none=>rfl
 | some b=>cases b<;>simp [xF,bA,iZ,fL,lR]
theorem Z6{r:AV}:o9 P mt ops rest K φ dst r st=bA P mt ops rest K (φ.put dst r) st:=rfl
theorem aAX{r:AV}:jQ P mt ops rest K φ dst st (some r)=bA P mt ops rest K (φ.put dst r) st:=rfl
theorem Z8{op:Op}{g:Option (Nat×Bool)}:xF P mt ops ⟨dst,op,type,pos,after,g⟩ rest K φ st (some true)=bA P mt ops (⟨dst,op,type,pos,after,none⟩::rest) K φ st:=rfl
theorem Z7{op:Op}{g:Option (Nat×Bool)}:xF P mt ops ⟨dst,op,type,pos,after,g⟩ rest K φ st (some false)=bA P mt ops rest K (φ.put dst .undef) st:=rfl
theorem lX{o:Oper}(hg:o.guard=none)(e:∀K',fL P mt φ st o K'=match lR P φ st o with | some r=>K' r st | none=>False):bA P mt ops (o::rest) K φ st=jQ P mt ops rest K φ o.dst st (lR P φ st o):=by
 simp only[bA,iZ,hg,e]
 cases lR P φ st o<;>rfl
def I6:AV→AV→AV→Option AV
 | .bool b,x,y=>some (if b then x else y)
 | _,_,_=>none
def zP:AV→Option AV
 | .ptr b q=>some (.ptr b q)
 | .pptr e=>some (.pptr e)
 | _=>none
def I7(P:Program)(t f:Nat)(x:AV):Option AV:=match fI P t f,x with | some (off,ag,sz),.agg cs=>sub ag cs off sz | _,_=>none
def B4(x:AV)(i:Nat):Option AV:=match x with | .tup vs=>vs[i]? | _=>none
def JR(g:FuncId)(cs:List AV):Option AV:=if lO cs=true then some (.func g cs) else none
def tR(P:Program)(f:AV)(args:List AV)(st:aA)(K:AV→aA→Prop):Prop:=match f with | .func g cU=>aD P g (args++cU) st K | _=>False
def yE(P:Program)(m:Bool)(t:TypeId)(x:AV)(st:aA)(K:AV→aA→Prop)(k:Option AV→Prop):Prop:=
 if m=true then x.bV=false∧∀b,st b=none→K (.ptr b 0) (st.aC b (.cells x.cells)) else k (xU P t x)
def JX(zs:Option (List AV))(st:aA)(K:AV→aA→Prop):Prop:=match zs with | some zs=>∀b,st b=none→K (.ptr b 0) (st.aC b (.cells zs)) | none=>False
def MR(P:Program)(t:TypeId)(p x:AV)(st:aA)(K:AV→aA→Prop):Prop:=
 match p with
 | .ptr b q=>match st b,tI P t with
  | some (.cells cs),some (_,sz)=>x.cells.length=sz∧q+sz≤cs.length∧x.cells.all AV.storable=true∧K .undef (st.aC b (.cells (aM cs q x.cells)))
  | _,_=>False
 | _=>False
theorem aF6{x:Operand}:bA P mt ops (⟨dst,.move x,type,pos,after,none⟩::rest) K φ st=bA P mt ops rest K (φ.put dst (φ.eval x)) st:=rfl
theorem aCN{x:Operand}:bA P mt ops (⟨dst,.assign x,type,pos,after,none⟩::rest) K φ st=bA P mt ops rest K (φ.put dst (φ.eval x)) st:=rfl
theorem aGF{c x y:Operand}:bA P mt ops (⟨dst,.pick c x y,type,pos,after,none⟩::rest) K φ st=jQ P mt ops rest K φ dst st (I6 (φ.eval c) (φ.eval x) (φ.eval y)):=by
 rw[lX rfl fun _=>rfl]
 simp only[lR]
 cases φ.eval c<;>rfl
theorem aCP{op:BinOp}{t t':TypeId}{x y:Operand}:bA P mt ops (⟨dst,.binOp op t x y t',type,pos,after,none⟩::rest) K φ st=jQ P mt ops rest K φ dst st (eG P op t (φ.eval x) (φ.eval y)):=lX rfl fun _=>rfl
theorem aJH{op:UnOp}{t:TypeId}{x:Operand}:bA P mt ops (⟨dst,.unOp op t x,type,pos,after,none⟩::rest) K φ st=jQ P mt ops rest K φ dst st (GH op (φ.eval x)):=lX rfl fun _=>rfl
theorem aGB{x:Operand}:bA P mt ops (⟨dst,.nilCheck x,type,pos,after,none⟩::rest) K φ st=jQ P mt ops rest K φ dst st (zP (φ.eval x)):=by
 rw[lX rfl fun _=>rfl]
 try rfl
theorem aD5{t f:Nat}{x:Operand}:bA P mt ops (⟨dst,.fieldAddr t x f,type,pos,after,none⟩::rest) K φ st=jQ P mt ops rest K φ dst st (tE P t f (φ.eval x)):=lX rfl fun _=>rfl
theorem aFR{t:TypeId}{x:Operand}:bA P mt ops (⟨dst,.load t x,type,pos,after,none⟩::rest) K φ st=jQ P mt ops rest K φ dst st (gY P st t (φ.eval x)):=lX rfl fun _=>rfl
theorem aD4{t f:Nat}{x:Operand}:bA P mt ops (⟨dst,.field t x f,type,pos,after,none⟩::rest) K φ st=jQ P mt ops rest K φ dst st (I7 P t f (φ.eval x)):=by
 rw[lX rfl fun _=>rfl]
 try rfl
theorem aFG{t:TypeId}{x i:Operand}:bA P mt ops (⟨dst,.indexAddr t x i,type,pos,after,none⟩::rest) K φ st=jQ P mt ops rest K φ dst st (dP P t (φ.eval x) (φ.eval i)):=lX rfl fun _=>rfl
theorem aFF{t:TypeId}{x i:Operand}:bA P mt ops (⟨dst,.index t x i,type,pos,after,none⟩::rest) K φ st=jQ P mt ops rest K φ dst st (CN P t (φ.eval x) (φ.eval i)):=lX rfl fun _=>rfl
theorem aH2{t:TypeId}{x:Operand}{lo hi mx:Option Operand}:bA P mt ops (⟨dst,.slice t x lo hi mx,type,pos,after,none⟩::rest) K φ st=jQ P mt ops rest K φ dst st (iB P φ t (φ.eval x) lo hi mx):=lX rfl fun _=>rfl
theorem aD2{x:Operand}{i:Nat}:bA P mt ops (⟨dst,.extract x i,type,pos,after,none⟩::rest) K φ st=jQ P mt ops rest K φ dst st (B4 (φ.eval x) i):=by
 rw[lX rfl fun _=>rfl]
 try rfl
theorem aFY{g:FuncId}{cU:Array Operand}:bA P mt ops (⟨dst,.makeFunc (.func g) #[] cU,type,pos,after,none⟩::rest) K φ st=jQ P mt ops rest K φ dst st (JR g (cU.toList.map φ.eval)):=by
 rw[lX rfl fun _=>rfl]
 congr 1
 simp [lR,JR]
theorem aCY{t:TypeId}{ps:Array (Nat×Operand)}:bA P mt ops (⟨dst,.build t ps,type,pos,after,none⟩::rest) K φ st=jQ P mt ops rest K φ dst st (zO P φ t ps):=lX rfl fun _=>rfl
theorem aCZ{t:TypeId}{n:Nat}{ps:Array (Nat×Operand)}:bA P mt ops (⟨dst,.buildSlice t n ps,type,pos,after,none⟩::rest) K φ st=jQ P mt ops rest K φ dst st (B3 P φ t n ps):=lX rfl fun _=>rfl
theorem aDW{t u:TypeId}{x:Operand}:bA P mt ops (⟨dst,.convert t u x,type,pos,after,none⟩::rest) K φ st=jQ P mt ops rest K φ dst st (pM P t u (φ.eval x)):=lX rfl fun _=>rfl
theorem aFS{t:TypeId}{x i:Operand}{ok:Bool}:bA P mt ops (⟨dst,.lookup t x i ok,type,pos,after,none⟩::rest) K φ st=jQ P mt ops rest K φ dst st (pN P st t ok (φ.eval x) (φ.eval i)):=lX rfl fun _=>rfl
theorem aFL{x:Operand}{t:TypeId}:bA P mt ops (⟨dst,.call { callee:=.builtin .len,args:=#[x],argTypes:=#[t] },type,pos,after,none⟩::rest) K φ st=jQ P mt ops rest K φ dst st (mP P t (φ.eval x)):=lX rfl fun _=>rfl
theorem aC9{x:Operand}{t:TypeId}:bA P mt ops (⟨dst,.call { callee:=.builtin .cap,args:=#[x],argTypes:=#[t] },type,pos,after,none⟩::rest) K φ st=jQ P mt ops rest K φ dst st (GB P t (φ.eval x)):=lX rfl fun _=>rfl
theorem aC7{f:Operand}{args:List Operand}{ats:Array TypeId}:bA P mt ops (⟨dst,.call { callee:=.value f,args:=args.toArray,argTypes:=ats },type,pos,after,none⟩::rest) K φ st=tR P (φ.eval f) (args.map φ.eval) st (o9 P mt ops rest K φ dst):=rfl
theorem aF2{x y:Operand}{ts:Array TypeId}:bA P mt ops (⟨dst,.call { callee:=.builtin .max,args:=#[x,y],argTypes:=ts },type,pos,after,none⟩::rest) K φ st=jQ P mt ops rest K φ dst st (yC (φ.eval x) (φ.eval y)):=lX rfl fun _=>rfl
theorem aF4{x y:Operand}{ts:Array TypeId}:bA P mt ops (⟨dst,.call { callee:=.builtin .min,args:=#[x,y],argTypes:=ts },type,pos,after,none⟩::rest) K φ st=jQ P mt ops rest K φ dst st (CO (φ.eval x) (φ.eval y)):=lX rfl fun _=>rfl
theorem aBX{s x:Operand}{t t':TypeId}:bA P mt ops (⟨dst,.call { callee:=.builtin .append,args:=#[s,x],argTypes:=#[t,t'] },type,pos,after,none⟩::rest) K φ st=(if t=t' then kF P t st (φ.eval s) (φ.eval x) (o9 P mt ops rest K φ dst) else qO P t t' st (φ.eval s) (φ.eval x) (o9 P mt ops rest K φ dst)):=rfl
theorem aDU{x:Operand}{t:TypeId}:bA P mt ops (⟨dst,.call { callee:=.builtin .clear,args:=#[x],argTypes:=#[t] },type,pos,after,none⟩::rest) K φ st=wC P t st (φ.eval x) (o9 P mt ops rest K φ dst):=rfl
theorem aDX{m k:Operand}{t t':TypeId}:bA P mt ops (⟨dst,.call { callee:=.builtin .delete,args:=#[m,k],argTypes:=#[t,t'] },type,pos,after,none⟩::rest) K φ st=z6 P t st (φ.eval m) (φ.eval k) (o9 P mt ops rest K φ dst):=rfl
theorem aCV{t:TypeId}{x:Operand}:bA P mt ops (⟨dst,.box t x,type,pos,after,none⟩::rest) K φ st=yE P (B5 mt dst) t (φ.eval x) st (o9 P mt ops rest K φ dst) (jQ P mt ops rest K φ dst st):=by
 simp only[bA,iZ,fL,yE,o9]
 split
 · rfl
 · cases xU P t (φ.eval x)<;>rfl
theorem aBU{t:TypeId}:bA P mt ops (⟨dst,.alloc t,type,pos,after,none⟩::rest) K φ st=JX (zI P t) st (o9 P mt ops rest K φ dst):=rfl
theorem aIT{t:TypeId}{p x:Operand}:bA P mt ops (⟨dst,.store t p x,type,pos,after,none⟩::rest) K φ st=MR P t (φ.eval p) (φ.eval x) st (o9 P mt ops rest K φ dst):=rfl
theorem aFZ{t:TypeId}:bA P mt ops (⟨dst,.makeMap t none,type,pos,after,none⟩::rest) K φ st=∀b,st b=none→o9 P mt ops rest K φ dst (.map b) (st.aC b (.map fun _=>none)):=rfl
theorem aF0{t:TypeId}{n c:Operand}:bA P mt ops (⟨dst,.makeSlice t n c,type,pos,after,none⟩::rest) K φ st=qQ P t st (φ.eval n) (φ.eval c) (o9 P mt ops rest K φ dst):=rfl
theorem aF1{t:TypeId}{m k x:Operand}:bA P mt ops (⟨dst,.mapUpdate t m k x,type,pos,after,none⟩::rest) K φ st=tK P t st (φ.eval m) (φ.eval k) (φ.eval x) (o9 P mt ops rest K φ dst):=rfl
theorem aJF{t:Tmp}:φ.eval (.tmp t)=φ t:=rfl
theorem aC2{k:IntKind}{n:Int}:φ.eval (.const (.int k n))=.int k n:=rfl
theorem aC0{b:Bool}:φ.eval (.const (.bool b))=.bool b:=rfl
theorem aC4:φ.eval (.const (.slice none 0 0))=.fslice []:=rfl
theorem aC5:φ.eval (.const (.pointer none))=.nilptr:=rfl
theorem aC3:φ.eval (.const (.map none))=.nilmap:=rfl
theorem aC1{g:FuncId}:φ.eval (.func g)=.func g []:=rfl
theorem aC6{l:List UInt8}:φ.eval (.const (.string ⟨l.toArray⟩))=if l.length≤9223372036854775807 then .str ⟨l.toArray⟩ else .junk:=by
 simp [AF.eval,ofConst,ByteArray.size,maxLen]
theorem aJI{d e:Nat}{v:AV}:(φ.aC d v) e=if e=d then v else φ e:=rfl
theorem aGX{d:Nat}{v:AV}:φ.put (some d) v=φ.aC d v:=rfl
theorem aGY{v:AV}:φ.put none v=φ:=rfl
theorem aBZ{i:Nat}:sA i []=AF.bot:=rfl
theorem aBY{i:Nat}{a:AV}{as:List AV}:sA i (a::as)=(sA (i+1) as).aC i a:=rfl
theorem aA5{P:Program}{t:TypeId}{k:IntKind}{a b:Int}:eG P .add t (.int k a) (.int k b)=some (.int k (k.wrap (a+b))):=by simp [eG,kG]
theorem aIY{P:Program}{t:TypeId}{k:IntKind}{a b:Int}:eG P .sub t (.int k a) (.int k b)=some (.int k (k.wrap (a - b))):=by simp [eG,kG]
theorem aF7{P:Program}{t:TypeId}{k:IntKind}{a b:Int}:eG P .mul t (.int k a) (.int k b)=some (.int k (k.wrap (a*b))):=by simp [eG,kG]
theorem aGZ{P:Program}{t:TypeId}{k:IntKind}{a b:Int}:eG P .quo t (.int k a) (.int k b)=if b=0 then none else some (.int k (k.wrap (a.tdiv b))):=by simp [eG,kG]
theorem aG3{P:Program}{t:TypeId}{k:IntKind}{a b:Int}:eG P .rem t (.int k a) (.int k b)=if b=0 then none else some (.int k (a.tmod b)):=by simp [eG,kG]
theorem aD0{P:Program}{t:TypeId}{k:IntKind}{a b:Int}:eG P .eql t (.int k a) (.int k b)=some (.bool (decide (a=b))):=by simp [eG,kG]
theorem aF9{P:Program}{t:TypeId}{k:IntKind}{a b:Int}:eG P .neq t (.int k a) (.int k b)=some (.bool (!decide (a=b))):=by simp [eG,kG]
theorem aFX{P:Program}{t:TypeId}{k:IntKind}{a b:Int}:eG P .lss t (.int k a) (.int k b)=some (.bool (decide (a<b))):=by simp [eG,kG]
theorem aFQ{P:Program}{t:TypeId}{k:IntKind}{a b:Int}:eG P .leq t (.int k a) (.int k b)=some (.bool (decide (a≤b))):=by simp [eG,kG]
theorem aEC{P:Program}{t:TypeId}{k:IntKind}{a b:Int}:eG P .gtr t (.int k a) (.int k b)=some (.bool (decide (b<a))):=by simp [eG,kG]
theorem aEB{P:Program}{t:TypeId}{k:IntKind}{a b:Int}:eG P .geq t (.int k a) (.int k b)=some (.bool (decide (b≤a))):=by simp [eG,kG]
theorem aJ0{P:Program}{t:TypeId}{k:IntKind}{a b:Int}:eG P .xor t (.int k a) (.int k b)=some (.int k (PF k a b)):=by simp [eG,kG]
theorem aBW{P:Program}{t:TypeId}{k:IntKind}{a b:Int}:eG P .and t (.int k a) (.int k b)=some (.int k (O7 k a b)):=by simp [eG,kG]
theorem aGE{P:Program}{t:TypeId}{k:IntKind}{a b:Int}:eG P .or t (.int k a) (.int k b)=some (.int k (GD k a b)):=by simp [eG,kG]
theorem aH0{P:Program}{t:TypeId}{a b:Int}:eG P .shl t (.int .i64 a) (.int .u64 b)=GG .shl .i64 a b:=by simp [eG,kG]
theorem aF3{k:IntKind}{a b:Int}:yC (.int k a) (.int k b)=some (.int k (if a<b then b else a)):=by simp [yC]
theorem aF5{k:IntKind}{a b:Int}:CO (.int k a) (.int k b)=some (.int k (if b<a then b else a)):=by simp [CO]
theorem aHY{P:Program}{t:TypeId}{a b:ByteArray}:eG P .eql t (.str a) (.str b)=some (.bool (decide (a=b))):=by simp [eG,kG]
theorem aH4{P:Program}{t:TypeId}{a b:ByteArray}:eG P .neq t (.str a) (.str b)=some (.bool (!decide (a=b))):=by simp [eG,kG]
theorem aHH{P:Program}{t:TypeId}{a b:ByteArray}:eG P .add t (.str a) (.str b)=if a.size+b.size≤maxLen then some (.str (a++b)) else none:=by simp [eG,kG]
theorem aH3{P:Program}{t:TypeId}{a b:ByteArray}:eG P .lss t (.str a) (.str b)=some (.bool (Op.bytesLess a.toList b.toList)):=by simp [eG,kG]
theorem aHZ{P:Program}{t:TypeId}{a b:ByteArray}:eG P .gtr t (.str a) (.str b)=some (.bool (!(Op.bytesLess a.toList b.toList||decide (a=b)))):=by simp [eG,kG]
theorem aCO{P:Program}{t:TypeId}{a b:Bool}(h:P.underlying t=some .bool):eG P .eql t (.bool a) (.bool b)=some (.bool (a == b)):=by simp [eG,h]
theorem aCU{P:Program}{t:TypeId}{a b:Bool}(h:P.underlying t=some .bool):eG P .neq t (.bool a) (.bool b)=some (.bool (!(a == b))):=by simp [eG,h]
theorem aGC{b:Bool}:GH .not (.bool b)=some (.bool (!b)):=rfl
theorem aF8{k:IntKind}{n:Int}:GH .neg (.int k n)=some (.int k (k.wrap (0 - n))):=rfl
end
end
@[congr] theorem bBW {P:Program} {N:Nat} {mt:List Nat} {c:Code} {Q:Exit→AF→aA→Prop} {φ φ':AF} {st st':aA} (h1:φ=φ') (h2:st=st'):gH P N mt c Q φ st=gH P N mt c Q φ' st':=by rw[h1,h2]
@[congr] theorem bB1 {P:Program} {mt:List Nat} {ops:Array Oper} {l:List Oper} {K:AF→aA→Prop} {φ φ':AF} {st st':aA} (h1:φ=φ') (h2:st=st'):bA P mt ops l K φ st=bA P mt ops l K φ' st':=by rw[h1,h2]
@[congr] theorem bCF {P:Program} {mt:List Nat} {ops:Array Oper} {l:List Oper} {K:AF→aA→Prop} {φ:AF} {st:aA} {dst:Option Tmp} {x x':Option AV} (h1:x=x'):jQ P mt ops l K φ dst st x=jQ P mt ops l K φ dst st x':=by rw[h1]
@[congr] theorem bCE {P:Program} {mt:List Nat} {ops:Array Oper} {o:Oper} {l:List Oper} {K:AF→aA→Prop} {φ:AF} {st:aA} {x x':Option Bool} (h1:x=x'):xF P mt ops o l K φ st x=xF P mt ops o l K φ st x':=by rw[h1]
@[congr] theorem bCD {P:Program} {mt:List Nat} {ops:Array Oper} {l:List Oper} {K:AF→aA→Prop} {φ:AF} {dst:Option Tmp} {r r':AV} {st st':aA} (h1:r=r') (h2:st=st'):o9 P mt ops l K φ dst r st=o9 P mt ops l K φ dst r' st':=by rw[h1,h2]
@[congr] theorem bBX {c c':AV} {k₁ k₂:AF→aA→Prop} {φ:AF} {st:aA} (h1:c=c'):wD c k₁ k₂ φ st=wD c' k₁ k₂ φ st:=by rw[h1]
@[congr] theorem bBS {P:Program} {N:Nat} {c:Code} {Q:Exit→AF→aA→Prop} {φ φ':AF} {st st':aA} (h1:φ=φ') (h2:st=st'):fR P N c Q φ st=fR P N c Q φ' st':=by rw[h1,h2]
@[congr] theorem bBR {P:Program} {g:FuncId} {args args':List AV} {st st':aA} {K:AV→aA→Prop} (h1:args=args') (h2:st=st'):aD P g args st K=aD P g args' st' K:=by rw[h1,h2]
@[congr] theorem bCA {P:Program} {f f':AV} {args args':List AV} {st st':aA} {K:AV→aA→Prop} (h0:f=f') (h1:args=args') (h2:st=st'):tR P f args st K=tR P f' args' st' K:=by rw[h0,h1,h2]
@[congr] theorem bB6 {P:Program} {m m':Bool} {t:TypeId} {x x':AV} {st st':aA} {K:AV→aA→Prop} {k:Option AV→Prop} (h0:m=m') (h1:x=x') (h2:st=st'):yE P m t x st K k=yE P m' t x' st' K k:=by rw[h0,h1,h2]
@[congr] theorem bB5 {zs zs':Option (List AV)} {st st':aA} {K:AV→aA→Prop} (h1:zs=zs') (h2:st=st'):JX zs st K=JX zs' st' K:=by rw[h1,h2]
@[congr] theorem bCL {P:Program} {t:TypeId} {p p' x x':AV} {st st':aA} {K:AV→aA→Prop} (h0:p=p') (h1:x=x') (h2:st=st'):MR P t p x st K=MR P t p' x' st' K:=by rw[h0,h1,h2]
@[congr] theorem bB0 {x x' y y':AV} (h0:x=x') (h1:y=y'):yC x y=yC x' y':=by rw[h0,h1]
@[congr] theorem bBV {P:Program} {t:TypeId} {x x':AV} {st st':aA} {K:AV→aA→Prop} (h1:x=x') (h2:st=st'):wC P t st x K=wC P t st' x' K:=by rw[h1,h2]
@[congr] theorem bBU {P:Program} {t t':TypeId} {s s' x x':AV} {st st':aA} {K:AV→aA→Prop} (h0:s=s') (h1:x=x') (h2:st=st'):qO P t t' st s x K=qO P t t' st' s' x' K:=by rw[h0,h1,h2]
@[congr] theorem bBT {P:Program} {t:TypeId} {s s' x x':AV} {st st':aA} {K:AV→aA→Prop} (h0:s=s') (h1:x=x') (h2:st=st'):kF P t st s x K=kF P t st' s' x' K:=by rw[h0,h1,h2]
@[congr] theorem bBY {P:Program} {t:TypeId} {s s' x x':AV} {st st':aA} {K:AV→aA→Prop} (h0:s=s') (h1:x=x') (h2:st=st'):qQ P t st s x K=qQ P t st' s' x' K:=by rw[h0,h1,h2]
@[congr] theorem bBZ {P:Program} {t:TypeId} {m m' s s' x x':AV} {st st':aA} {K:AV→aA→Prop} (h:m=m') (h0:s=s') (h1:x=x') (h2:st=st'):tK P t st m s x K=tK P t st' m' s' x' K:=by rw[h,h0,h1,h2]
theorem aC8{P:Program}{g:FuncId}{cU args:List AV}{st:aA}{K:AV→aA→Prop}:tR P (.func g cU) args st K=aD P g (args++cU) st K:=rfl
theorem aCW{P:Program}{t:TypeId}{x:AV}{st:aA}{K:AV→aA→Prop}{k:Option AV→Prop}:yE P false t x st K k=k (xU P t x):=by simp [yE]
theorem aCX{P:Program}{t:TypeId}{x:AV}{st:aA}{K:AV→aA→Prop}{k:Option AV→Prop}:yE P true t x st K k=(x.bV=false∧∀b,st b=none→K (.ptr b 0) (st.aC b (.cells x.cells))):=by simp [yE]
theorem aBV{zs:List AV}{st:aA}{K:AV→aA→Prop}:JX (some zs) st K=∀b,st b=none→K (.ptr b 0) (st.aC b (.cells zs)):=rfl
theorem aIU{P:Program}{t:TypeId}{b q:Nat}{x:AV}{st:aA}{K:AV→aA→Prop}:MR P t (.ptr b q) x st K=match st b,tI P t with
 | some (.cells cs),some (_,sz)=>x.cells.length=sz∧q+sz≤cs.length∧x.cells.all AV.storable=true∧K .undef (st.aC b (.cells (aM cs q x.cells)))
 | _,_=>False:=rfl
def jN:Op→Bool
 | .alloc _=>true
 | _=>false
def jG:Op→Bool
 | .store _ _ _=>true
 | _=>false
def zK(P:Program)(mt:List Nat)(ops:Array Oper)(rest:List Oper)(K:AF→aA→Prop)(φ:AF)(st:aA):Prop:=gI P mt ops rest K φ st
def zF(P:Program)(mt:List Nat)(ops:Array Oper)(rest:List Oper)(K:AF→aA→Prop)(φ:AF)(d:Nat)(st:aA)(r:AV):Prop:=gI P mt ops rest K (φ.aC d r) st
def wY(x:AV)(K:AV→Prop):Option (List AV)→Option (Bool×Nat)→Prop
 | some zs,some (_,sz)=>zs.length=sz∧x.width=sz∧x.cells.all AV.storable=true∧x.bV=false∧K (.pptr x)
 | _,_=>False
def zM(P:Program)(mt:List Nat)(ops:Array Oper)(o:Oper)(s:Oper)(rest:List Oper)(K:AF→aA→Prop)(φ:AF)(st:aA)(d:Nat)(t:TypeId)(x:AV):Bool→Prop
 | true=>bA P mt ops [o] (zK P mt ops (s::rest) K) φ st
 | false=>wY x (zF P mt ops rest K φ d st) (zI P t) (tI P t)
section
variable {P:Program} {mt:List Nat} {ops:Array Oper} {rest:List Oper} {K:AF→aA→Prop} {φ:AF} {st:aA} {dst DC:Option Tmp} {type vX:TypeId} {pos pos':String} {after u9:Array Edge} {g g':Option (Nat×Bool)} {op op':Op}
theorem KX:zK P mt ops rest K φ st=gI P mt ops rest K φ st:=rfl
theorem aJ1{d:Nat}{r:AV}:zF P mt ops rest K φ d st r=gI P mt ops rest K (φ.aC d r) st:=rfl
theorem aA0:gI P mt ops [] K φ st=K φ st:=by rw[gI]
theorem KV(h:jN op=false):gI P mt ops (⟨dst,op,type,pos,after,g⟩::rest) K φ st=bA P mt ops [⟨dst,op,type,pos,after,g⟩] (zK P mt ops rest K) φ st:=by
 rw[gI]
 · rfl
 · intro d t ty ps af t' d' x ty' ps' af' r e1 e2
   cases e1
   cases h
 · intro d t ty ps af e y ty2 ps2 af2 t' d' x ty' ps' af' r e1 e2
   cases e1
   cases h
theorem KW{t:TypeId}{x:AV}{k:AV→Prop}:CM P t x k=wY x k (zI P t) (tI P t):=by
 unfold CM wY
 simp only[wK]
 cases zI P t<;>cases tI P t<;>rfl
theorem aEA{x:AV}{k:AV→Prop}{zs:List AV}{ag:Bool}{sz:Nat}:wY x k (some zs) (some (ag,sz))=(zs.length=sz∧x.width=sz∧x.cells.all AV.storable=true∧x.bV=false∧k (.pptr x)):=rfl
theorem KU{d:Nat}{t:TypeId}{x:Operand}:gI P mt ops (⟨some d,.alloc t,type,pos,after,none⟩::⟨none,.store t (.tmp d) x,vX,pos',u9,none⟩::rest) K φ st =
 zM P mt ops ⟨some d,.alloc t,type,pos,after,none⟩ ⟨none,.store t (.tmp d) x,vX,pos',u9,none⟩ rest K φ st d t (φ.eval x) (mt.contains d||p9 x d):=by
 rw[gI]
 cases h:(mt.contains d||p9 x d) with
 | true=>
  rw[aK (by simp)]
  show _=bA P mt ops _ (fun φ' st'=>zK P mt ops _ K φ' st') φ st
  simp only[KX,KV (K:=K) (rest:=rest) (op:=.store t (.tmp d) x) rfl]
  rfl
 | false=>
  rw[aN ⟨rfl,rfl,rfl⟩,KW]
  try rfl
theorem aJ5{o s:Oper}{d:Nat}{t:TypeId}{x:AV}:zM P mt ops o s rest K φ st d t x true=bA P mt ops [o] (zK P mt ops (s::rest) K) φ st:=rfl
theorem aJ4{o s:Oper}{d:Nat}{t:TypeId}{x:AV}:zM P mt ops o s rest K φ st d t x false=wY x (zF P mt ops rest K φ d st) (zI P t) (tI P t):=rfl
def I5(P:Program)(mt:List Nat)(ops:Array Oper)(o:Oper)(os:List Oper)(rest:List Oper)(K:AF→aA→Prop)(φ φ':AF)(st:aA)(d:Nat)(t:TypeId)(x:AV):Bool→Prop
 | true=>bA P mt ops [o] (zK P mt ops (os++rest) K) φ st
 | false=>wY x (zF P mt ops rest K φ' d st) (zI P t) (tI P t)
theorem aJ2{o:Oper}{os:List Oper}{φ':AF}{d:Nat}{t:TypeId}{x:AV}:I5 P mt ops o os rest K φ φ' st d t x false=wY x (zF P mt ops rest K φ' d st) (zI P t) (tI P t):=rfl
theorem aJ3{o:Oper}{os:List Oper}{φ':AF}{d:Nat}{t:TypeId}{x:AV}:I5 P mt ops o os rest K φ φ' st d t x true=bA P mt ops [o] (zK P mt ops (os++rest) K) φ st:=rfl
theorem aYD{d e:Nat}{t:TypeId}{x y:Operand}{type2:TypeId}{xH:String}{GJ:Array Edge}:gI P mt ops (⟨some d,.alloc t,type,pos,after,none⟩::⟨some e,.assign y,type2,xH,GJ,none⟩::⟨none,.store t (.tmp d) x,vX,pos',u9,none⟩::rest) K φ st =
 I5 P mt ops ⟨some d,.alloc t,type,pos,after,none⟩ [⟨some e,.assign y,type2,xH,GJ,none⟩,⟨none,.store t (.tmp d) x,vX,pos',u9,none⟩] rest K φ (φ.aC e (φ.eval y)) st d t ((φ.aC e (φ.eval y)).eval x) (mt.contains d||p9 x d||p9 y d||d == e):=by
 rw[gI]
 cases h:(mt.contains d||p9 x d||p9 y d||d == e) with
 | true=>
  rw[aK (by simp)]
  show _=bA P mt ops _ (fun φ' st'=>zK P mt ops _ K φ' st') φ st
  simp only[KX,gR,eE,KV (K:=K) (op:=.assign y) rfl]
  rfl
 | false=>
  rw[aN ⟨rfl,rfl,rfl⟩,KW]
  try rfl
def j8:Op→Bool
 | .assign _=>true
 | _=>false
theorem aA1{t:TypeId}(h:jG op'=false)(h2:j8 op'=false):gI P mt ops (⟨dst,.alloc t,type,pos,after,g⟩::⟨DC,op',vX,pos',u9,g'⟩::rest) K φ st=bA P mt ops [⟨dst,.alloc t,type,pos,after,g⟩] (zK P mt ops (⟨DC,op',vX,pos',u9,g'⟩::rest) K) φ st:=by
 rw[gI]
 · rfl
 · intro d t ty ps af t' d' x ty' ps' af' r e1 e2
   cases e2
   cases h
 · intro d t ty ps af e y ty2 ps2 af2 t' d' x ty' ps' af' r e1 e2
   cases e2
   cases h2
theorem aA2{t:TypeId}:gI P mt ops [⟨dst,.alloc t,type,pos,after,g⟩] K φ st=bA P mt ops [⟨dst,.alloc t,type,pos,after,g⟩] (zK P mt ops [] K) φ st:=by
 rw[gI]
 · rfl
 · intro d t ty ps af t' d' x ty' ps' af' r e1 e2
   cases e2
 · intro d t ty ps af e y ty2 ps2 af2 t' d' x ty' ps' af' r e1 e2
   cases e2
theorem aA3{t:TypeId}{y:Operand}:gI P mt ops [⟨dst,.alloc t,type,pos,after,g⟩,⟨DC,.assign y,vX,pos',u9,g'⟩] K φ st=bA P mt ops [⟨dst,.alloc t,type,pos,after,g⟩] (zK P mt ops [⟨DC,.assign y,vX,pos',u9,g'⟩] K) φ st:=by
 rw[gI]
 · rfl
 · intro d t ty ps af t' d' x ty' ps' af' r e1 e2
   cases e2
 · intro d t ty ps af e y ty2 ps2 af2 t' d' x ty' ps' af' r e1 e2
   cases e2
theorem aA4{t:TypeId}{y:Operand}{ZZ:Option Tmp}{op2:Op}{type2:TypeId}{xH:String}{GJ:Array Edge}{g2:Option (Nat×Bool)}(h:jG op2=false):gI P mt ops (⟨dst,.alloc t,type,pos,after,g⟩::⟨DC,.assign y,vX,pos',u9,g'⟩::⟨ZZ,op2,type2,xH,GJ,g2⟩::rest) K φ st=bA P mt ops [⟨dst,.alloc t,type,pos,after,g⟩] (zK P mt ops (⟨DC,.assign y,vX,pos',u9,g'⟩::⟨ZZ,op2,type2,xH,GJ,g2⟩::rest) K) φ st:=by
 rw[gI]
 · rfl
 · intro d t ty ps af t' d' x ty' ps' af' r e1 e2
   cases e2
 · intro d t ty ps af e y ty2 ps2 af2 t' d' x ty' ps' af' r e1 e2
   cases e2
   cases h
theorem aFI{d e:Nat}:p9 (.tmp e) d=(e == d):=rfl
theorem aFH{v:Value}{d:Nat}:p9 (.const v) d=false:=rfl
theorem aBO{x:Operand}:jN (.move x)=false:=rfl
theorem aIO{x:Operand}:jG (.move x)=false:=rfl
theorem aA6{x:Operand}:jN (.assign x)=false:=rfl
theorem aH6{x:Operand}:jG (.assign x)=false:=rfl
theorem aBQ{c x y:Operand}:jN (.pick c x y)=false:=rfl
theorem aIQ{c x y:Operand}:jG (.pick c x y)=false:=rfl
theorem aA7{op:BinOp}{t:TypeId}{x y:Operand}{t':TypeId}:jN (.binOp op t x y t')=false:=rfl
theorem aH7{op:BinOp}{t:TypeId}{x y:Operand}{t':TypeId}:jG (.binOp op t x y t')=false:=rfl
theorem aBT{op:UnOp}{t:TypeId}{x:Operand}:jN (.unOp op t x)=false:=rfl
theorem aIS{op:UnOp}{t:TypeId}{x:Operand}:jG (.unOp op t x)=false:=rfl
theorem aBP{x:Operand}:jN (.nilCheck x)=false:=rfl
theorem aIP{x:Operand}:jG (.nilCheck x)=false:=rfl
theorem aBF{t f:Nat}{x:Operand}:jN (.fieldAddr t x f)=false:=rfl
theorem aIF{t f:Nat}{x:Operand}:jG (.fieldAddr t x f)=false:=rfl
theorem aBI{t:TypeId}{x:Operand}:jN (.load t x)=false:=rfl
theorem aII{t:TypeId}{x:Operand}:jG (.load t x)=false:=rfl
theorem aBS{t:TypeId}{p x:Operand}:jN (.store t p x)=false:=rfl
theorem aBE{t f:Nat}{x:Operand}:jN (.field t x f)=false:=rfl
theorem aIE{t f:Nat}{x:Operand}:jG (.field t x f)=false:=rfl
theorem aBH{t:TypeId}{x i:Operand}:jN (.indexAddr t x i)=false:=rfl
theorem aIH{t:TypeId}{x i:Operand}:jG (.indexAddr t x i)=false:=rfl
theorem aBG{t:TypeId}{x i:Operand}:jN (.index t x i)=false:=rfl
theorem aIG{t:TypeId}{x i:Operand}:jG (.index t x i)=false:=rfl
theorem aBR{t:TypeId}{x:Operand}{lo hi mx:Option Operand}:jN (.slice t x lo hi mx)=false:=rfl
theorem aIR{t:TypeId}{x:Operand}{lo hi mx:Option Operand}:jG (.slice t x lo hi mx)=false:=rfl
theorem aBD{x:Operand}{i:Nat}:jN (.extract x i)=false:=rfl
theorem aID{x:Operand}{i:Nat}:jG (.extract x i)=false:=rfl
theorem aA9{t:TypeId}{ps:Array (Nat×Operand)}:jN (.build t ps)=false:=rfl
theorem aH9{t:TypeId}{ps:Array (Nat×Operand)}:jG (.build t ps)=false:=rfl
theorem aBA{t:TypeId}{n:Nat}{ps:Array (Nat×Operand)}:jN (.buildSlice t n ps)=false:=rfl
theorem aIA{t:TypeId}{n:Nat}{ps:Array (Nat×Operand)}:jG (.buildSlice t n ps)=false:=rfl
theorem aBC{t u:TypeId}{x:Operand}:jN (.convert t u x)=false:=rfl
theorem aIC{t u:TypeId}{x:Operand}:jG (.convert t u x)=false:=rfl
theorem aBJ{t:TypeId}{x i:Operand}{ok:Bool}:jN (.lookup t x i ok)=false:=rfl
theorem aIJ{t:TypeId}{x i:Operand}{ok:Bool}:jG (.lookup t x i ok)=false:=rfl
theorem aBB{c:_}:jN (.call c)=false:=rfl
theorem aIB{c:_}:jG (.call c)=false:=rfl
theorem aA8{t:TypeId}{x:Operand}:jN (.box t x)=false:=rfl
theorem aH8{t:TypeId}{x:Operand}:jG (.box t x)=false:=rfl
theorem aBL{t:_}{x:_}:jN (.makeMap t x)=false:=rfl
theorem aIL{t:_}{x:_}:jG (.makeMap t x)=false:=rfl
theorem aBM{t:TypeId}{n c:Operand}:jN (.makeSlice t n c)=false:=rfl
theorem aIM{t:TypeId}{n c:Operand}:jG (.makeSlice t n c)=false:=rfl
theorem aBN{t:TypeId}{m k x:Operand}:jN (.mapUpdate t m k x)=false:=rfl
theorem aIN{t:TypeId}{m k x:Operand}:jG (.mapUpdate t m k x)=false:=rfl
theorem aBK{f:_}{a:_}{b:_}:jN (.makeFunc f a b)=false:=rfl
theorem aIK{f:_}{a:_}{b:_}:jG (.makeFunc f a b)=false:=rfl
theorem aH5{t:TypeId}:jG (.alloc t)=false:=rfl
theorem aCI{x:Operand}:j8 (.move x)=false:=rfl
theorem aCK{c x y:Operand}:j8 (.pick c x y)=false:=rfl
theorem aB1{op:BinOp}{t:TypeId}{x y:Operand}{t':TypeId}:j8 (.binOp op t x y t')=false:=rfl
theorem aCM{op:UnOp}{t:TypeId}{x:Operand}:j8 (.unOp op t x)=false:=rfl
theorem aCJ{x:Operand}:j8 (.nilCheck x)=false:=rfl
theorem aB9{t f:Nat}{x:Operand}:j8 (.fieldAddr t x f)=false:=rfl
theorem aCC{t:TypeId}{x:Operand}:j8 (.load t x)=false:=rfl
theorem aB8{t f:Nat}{x:Operand}:j8 (.field t x f)=false:=rfl
theorem aCB{t:TypeId}{x i:Operand}:j8 (.indexAddr t x i)=false:=rfl
theorem aCA{t:TypeId}{x i:Operand}:j8 (.index t x i)=false:=rfl
theorem aCL{t:TypeId}{x:Operand}{lo hi mx:Option Operand}:j8 (.slice t x lo hi mx)=false:=rfl
theorem aB7{x:Operand}{i:Nat}:j8 (.extract x i)=false:=rfl
theorem aB3{t:TypeId}{ps:Array (Nat×Operand)}:j8 (.build t ps)=false:=rfl
theorem aB4{t:TypeId}{n:Nat}{ps:Array (Nat×Operand)}:j8 (.buildSlice t n ps)=false:=rfl
theorem aB6{t u:TypeId}{x:Operand}:j8 (.convert t u x)=false:=rfl
theorem aCD{t:TypeId}{x i:Operand}{ok:Bool}:j8 (.lookup t x i ok)=false:=rfl
theorem aB5{c:_}:j8 (.call c)=false:=rfl
theorem aB2{t:TypeId}{x:Operand}:j8 (.box t x)=false:=rfl
theorem aCF{t:_}{x:_}:j8 (.makeMap t x)=false:=rfl
theorem aCG{t:TypeId}{n c:Operand}:j8 (.makeSlice t n c)=false:=rfl
theorem aCH{t:TypeId}{m k x:Operand}:j8 (.mapUpdate t m k x)=false:=rfl
theorem aCE{f:_}{a:_}{b:_}:j8 (.makeFunc f a b)=false:=rfl
theorem aB0{t:TypeId}:j8 (.alloc t)=false:=rfl
@[congr] theorem bCN {o:Oper} {os:List Oper} {φ' φ2 φ2':AF} {st':aA} {d:Nat} {t:TypeId} {x x':AV} {b b':Bool} (h1:φ=φ') (h0:φ2=φ2') (h2:st=st') (h3:x=x') (h4:b=b'):I5 P mt ops o os rest K φ φ2 st d t x b=I5 P mt ops o os rest K φ' φ2' st' d t x' b':=by rw[h1,h0,h2,h3,h4]
@[congr] theorem bCB {x x':AV} {k:AV→Prop} {a a':Option (List AV)} {b b':Option (Bool×Nat)} (h0:x=x') (h1:a=a') (h2:b=b'):wY x k a b=wY x' k a' b':=by rw[h0,h1,h2]
@[congr] theorem bCM {o s:Oper} {φ':AF} {st':aA} {d:Nat} {t:TypeId} {x x':AV} {b b':Bool} (h1:φ=φ') (h2:st=st') (h3:x=x') (h4:b=b'):zM P mt ops o s rest K φ st d t x b=zM P mt ops o s rest K φ' st' d t x' b':=by rw[h1,h2,h3,h4]
@[congr] theorem bCJ {l:List Oper} {Q:Exit→AF→aA→Prop} {φ':AF} {st':aA} {b b':Bool} (h1:φ=φ') (h2:st=st') (h3:b=b'):H5 P mt l Q φ st b=H5 P mt l Q φ' st' b':=by rw[h1,h2,h3]
end
end Go.AW
