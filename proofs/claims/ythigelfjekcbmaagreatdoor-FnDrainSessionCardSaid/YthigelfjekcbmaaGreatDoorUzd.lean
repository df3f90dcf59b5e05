/- The rules by which the code is evaluated: equations for simp. -/
import Derived.Test.YthigelfjekcbmaaGreatDoorUzc
set_option linter.unusedSimpArgs false
set_option linter.unusedVariables false
set_option maxRecDepth 100000
namespace Go.AW
section
variable {P:Program} {N:Nat} {mt:List Nat} {Q:Exit→AF→aB→Prop} {φ:AF} {st:aB} {x y:Code} {ops:Array Oper} {id:Nat}
theorem aJ7:gY P N mt .skip Q φ st=Q .normal φ st:=rfl
theorem aJ4:gY P N mt (.seq x y) Q φ st=gY P N mt x (K2 (gY P N mt y Q) Q) φ st:=rfl
def KA(P:Program)(mt:List Nat)(l:List Oper)(Q:Exit→AF→aB→Prop)(φ:AF)(st:aB):Bool→Prop
 | true=>gZ P mt l.toArray l (Q .normal) φ st
 | false=>bJ P mt l.toArray l (Q .normal) φ st
theorem aI9{l:List Oper}:gY P N mt (.region id l.toArray false) Q φ st=KA P mt l Q φ st (mt.contains 1000000):=by
 simp only[gY,jR,d4]
 cases mt.contains 1000000<;>rfl
theorem aI8{l:List Oper}:KA P mt l Q φ st true=gZ P mt l.toArray l (Q .normal) φ st:=rfl
theorem aI7{l:List Oper}:KA P mt l Q φ st false=bJ P mt l.toArray l (Q .normal) φ st:=rfl
theorem aF5:gY P N mt (.region id ops true) Q φ st=g8 P N (.region id ops true) Q φ st:=by simp [gY]
theorem aF2{c:Operand}:gY P N mt (.cond c x y) Q φ st=wW (φ.eval c) (gY P N mt x Q) (gY P N mt y Q) φ st:=rfl
theorem aE0:gY P N mt (.block id x) Q φ st=gY P N mt x (EX id Q) φ st:=rfl
theorem aH0:gY P N mt (.loop x) Q φ st=g8 P N (.loop x) Q φ st:=rfl
theorem aF8:gY P N mt (.exit id) Q φ st=Q (.exit id) φ st:=rfl
theorem aJB:gY P N mt .ret Q φ st=Q .ret φ st:=rfl
theorem aLM{k₁ k₂:AF→aB→Prop}:wW (.bool true) k₁ k₂ φ st=k₁ φ st:=by simp [wW]
theorem aGA{k₁ k₂:AF→aB→Prop}:wW (.bool false) k₁ k₂ φ st=k₂ φ st:=by simp [wW]
theorem aK6{k:AF→aB→Prop}:K2 k Q .normal φ st=k φ st:=rfl
theorem aK5{k:AF→aB→Prop}:K2 k Q (.exit id) φ st=Q (.exit id) φ st:=rfl
theorem aK7{k:AF→aB→Prop}:K2 k Q .ret φ st=Q .ret φ st:=rfl
theorem aE2:EX id Q .normal φ st=Q .normal φ st:=rfl
theorem aE1{i:Nat}:EX id Q (.exit i) φ st=if i=id then Q .normal φ st else Q (.exit i) φ st:=rfl
theorem aE3:EX id Q .ret φ st=Q .ret φ st:=rfl
theorem aH2{k:AF→aB→Prop}:qX k Q .normal φ st=k φ st:=rfl
theorem aH1{k:AF→aB→Prop}:qX k Q (.exit id) φ st=Q (.exit id) φ st:=rfl
theorem aH3{k:AF→aB→Prop}:qX k Q .ret φ st=Q .ret φ st:=rfl
def oL(P:Program)(rs:List ResultVar)(K:AV→aB→Prop)(φ:AF)(st:aB):Prop:=
 match rK P φ st rs with
 | some xs=>K8 K st xs
 | none=>False
theorem aJN{rs:Array ResultVar}{K:AV→aB→Prop}:KC P rs K .ret φ st=oL P rs.toList K φ st:=rfl
theorem aJM{rs:Array ResultVar}{K:AV→aB→Prop}:KC P rs K .normal φ st=oL P rs.toList K φ st:=rfl
theorem aJD{t:Tmp}{K:AV→aB→Prop}:oL P [.tmp t] K φ st=K (φ t) st:=rfl
theorem aJC{K:AV→aB→Prop}:oL P [] K φ st=K (.tup []) st:=by simp [oL,rK,K8,lS]
theorem aJE{t u:Tmp}{K:AV→aB→Prop}:oL P [.tmp t,.tmp u] K φ st=(lS [φ t,φ u]=true∧K (.tup [φ t,φ u]) st):=rfl
theorem aJF{t u v:Tmp}{K:AV→aB→Prop}:oL P [.tmp t,.tmp u,.tmp v] K φ st=(lS [φ t,φ u,φ v]=true∧K (.tup [φ t,φ u,φ v]) st):=rfl
theorem aJG{t u v w:Tmp}{K:AV→aB→Prop}:oL P [.tmp t,.tmp u,.tmp v,.tmp w] K φ st=(lS [φ t,φ u,φ v,φ w]=true∧K (.tup [φ t,φ u,φ v,φ w]) st):=rfl
def OG(k:AV→Prop):Option AV→Prop
 | some r=>k r
 | none=>False
theorem aJH{p:Tmp}{t:TypeId}{K:AV→aB→Prop}:oL P [.cell p t] K φ st=OG (fun r=>K r st) (jK P st t (φ p)):=by
 simp only[oL,rK,EQ]
 cases jK P st t (φ p)<;>rfl
theorem aJI{p u:Tmp}{t:TypeId}{K:AV→aB→Prop}:oL P [.cell p t,.tmp u] K φ st=OG (fun r=>lS [r,φ u]=true∧K (.tup [r,φ u]) st) (jK P st t (φ p)):=by
 simp only[oL,rK,EQ]
 cases jK P st t (φ p)<;>rfl
theorem aJL{u p:Tmp}{t:TypeId}{K:AV→aB→Prop}:oL P [.tmp u,.cell p t] K φ st=OG (fun r=>lS [φ u,r]=true∧K (.tup [φ u,r]) st) (jK P st t (φ p)):=by
 simp only[oL,rK,EQ]
 cases jK P st t (φ p)<;>rfl
theorem aIK{k:AV→Prop}{r:AV}:OG k (some r)=k r:=rfl
def lF(P:Program)(mt:List Nat)(ops:Array Oper)(rest:List Oper)(K:AF→aB→Prop)(φ:AF)(dst:Option Tmp)(st:aB):Option AV→Prop
 | some r=>bJ P mt ops rest K (φ.put dst r) st
 | none=>False
def q7(P:Program)(mt:List Nat)(ops:Array Oper)(rest:List Oper)(K:AF→aB→Prop)(φ:AF)(dst:Option Tmp)(r:AV)(st:aB):Prop:=bJ P mt ops rest K (φ.put dst r) st
def x6(P:Program)(mt:List Nat)(ops:Array Oper)(o:Oper)(rest:List Oper)(K:AF→aB→Prop)(φ:AF)(st:aB):Option Bool→Prop
 | some true=>bJ P mt ops ({ o with guard:=none }::rest) K φ st
 | some false=>bJ P mt ops rest K (φ.put o.dst .undef) st
 | none=>False
def gd(ops:Array Oper)(φ:AF)(j:Nat)(want:Bool):Option Bool:=
 match (ops[j]?).bind (·.dst) with
 | none=>some false
 | some d=>match φ d with
  | .bool b=>some (b == want)
  | .undef=>some false
  | _=>none
section
variable {rest:List Oper} {K:AF→aB→Prop} {dst:Option Tmp} {type:TypeId} {pos:String} {after:Array Edge}
theorem aIH:bJ P mt ops [] K φ st=K φ st:=rfl
theorem aGK{op:Op}{j:Nat}{want:Bool}:bJ P mt ops (⟨dst,op,type,pos,after,some (j,want)⟩::rest) K φ st=x6 P mt ops ⟨dst,op,type,pos,after,some (j,want)⟩ rest K φ st (gd ops φ j want):=by
 simp only[bJ]
 have h1:kG ops φ ⟨dst,op,type,pos,after,some (j,want)⟩=gd ops φ j want:=rfl
 rw[h1]
 cases gd ops φ j want with
 | none=>rfl
 | some b=>cases b<;>simp [x6,bJ,kG,fZ,mA]
theorem aCG{r:AV}:q7 P mt ops rest K φ dst r st=bJ P mt ops rest K (φ.put dst r) st:=rfl
theorem aC6{r:AV}:lF P mt ops rest K φ dst st (some r)=bJ P mt ops rest K (φ.put dst r) st:=rfl
theorem aCI{op:Op}{g:Option (Nat×Bool)}:x6 P mt ops ⟨dst,op,type,pos,after,g⟩ rest K φ st (some true)=bJ P mt ops (⟨dst,op,type,pos,after,none⟩::rest) K φ st:=rfl
theorem aCH{op:Op}{g:Option (Nat×Bool)}:x6 P mt ops ⟨dst,op,type,pos,after,g⟩ rest K φ st (some false)=bJ P mt ops rest K (φ.put dst .undef) st:=rfl
theorem m8{o:Oper}(hg:o.guard=none)(e:∀K',fZ P mt φ st o K'=match mA P φ st o with | some r=>K' r st | none=>False):bJ P mt ops (o::rest) K φ st=lF P mt ops rest K φ o.dst st (mA P φ st o):=by
 simp only[bJ,kG,hg,e]
 cases mA P φ st o<;>rfl
def LH:AV→AV→AV→Option AV
 | .bool b,x,y=>some (if b then x else y)
 | _,_,_=>none
def A9:AV→Option AV
 | .ptr b q=>some (.ptr b q)
 | .pptr e=>some (.pptr e)
 | _=>none
def LI(P:Program)(t f:Nat)(x:AV):Option AV:=match fI P t f,x with | some (off,ag,sz),.agg cs=>sub ag cs off sz | _,_=>none
def D6(x:AV)(i:Nat):Option AV:=match x with | .tup vs=>vs[i]? | _=>none
def LW(g:FuncId)(cs:List AV):Option AV:=if lS cs=true then some (.func g cs) else none
def uB(P:Program)(f:AV)(args:List AV)(st:aB)(K:AV→aB→Prop):Prop:=match f with | .func g eF=>aD P g (args++eF) st K | _=>False
def zN(P:Program)(m:Bool)(t:TypeId)(x:AV)(st:aB)(K:AV→aB→Prop)(k:Option AV→Prop):Prop:=
 if m=true then x.cJ=false∧∀b,st b=none→K (.ptr b 0) (st.aC b (.cells x.cells)) else k (yO P t x)
def L3(zs:Option (List AV))(st:aB)(K:AV→aB→Prop):Prop:=match zs with | some zs=>∀b,st b=none→K (.ptr b 0) (st.aC b (.cells zs)) | none=>False
def O1(P:Program)(t:TypeId)(p x:AV)(st:aB)(K:AV→aB→Prop):Prop:=
 match p with
 | .ptr b q=>match st b,tI P t with
  | some (.cells cs),some (_,sz)=>x.cells.length=sz∧q+sz≤cs.length∧x.cells.all AV.storable=true∧K .undef (st.aC b (.cells (aK cs q x.cells)))
  | _,_=>False
 | _=>False
theorem aID{x:Operand}:bJ P mt ops (⟨dst,.move x,type,pos,after,none⟩::rest) K φ st=bJ P mt ops rest K (φ.put dst (φ.eval x)) st:=rfl
theorem aEW{x:Operand}:bJ P mt ops (⟨dst,.assign x,type,pos,after,none⟩::rest) K φ st=bJ P mt ops rest K (φ.put dst (φ.eval x)) st:=rfl
theorem aIM{c x y:Operand}:bJ P mt ops (⟨dst,.pick c x y,type,pos,after,none⟩::rest) K φ st=lF P mt ops rest K φ dst st (LH (φ.eval c) (φ.eval x) (φ.eval y)):=by
 rw[m8 rfl fun _=>rfl]
 simp only[mA]
 cases φ.eval c<;>rfl
theorem aEZ{op:BinOp}{t t':TypeId}{x y:Operand}:bJ P mt ops (⟨dst,.binOp op t x y t',type,pos,after,none⟩::rest) K φ st=lF P mt ops rest K φ dst st (eN P op t (φ.eval x) (φ.eval y)):=m8 rfl fun _=>rfl
theorem aLN{op:UnOp}{t:TypeId}{x:Operand}:bJ P mt ops (⟨dst,.unOp op t x,type,pos,after,none⟩::rest) K φ st=lF P mt ops rest K φ dst st (HS op (φ.eval x)):=m8 rfl fun _=>rfl
theorem aII{x:Operand}:bJ P mt ops (⟨dst,.nilCheck x,type,pos,after,none⟩::rest) K φ st=lF P mt ops rest K φ dst st (A9 (φ.eval x)):=by
 rw[m8 rfl fun _=>rfl]
 try rfl
theorem aGC{t f:Nat}{x:Operand}:bJ P mt ops (⟨dst,.fieldAddr t x f,type,pos,after,none⟩::rest) K φ st=lF P mt ops rest K φ dst st (tP P t f (φ.eval x)):=m8 rfl fun _=>rfl
theorem aHY{t:TypeId}{x:Operand}:bJ P mt ops (⟨dst,.load t x,type,pos,after,none⟩::rest) K φ st=lF P mt ops rest K φ dst st (jK P st t (φ.eval x)):=m8 rfl fun _=>rfl
theorem aGB{t f:Nat}{x:Operand}:bJ P mt ops (⟨dst,.field t x f,type,pos,after,none⟩::rest) K φ st=lF P mt ops rest K φ dst st (LI P t f (φ.eval x)):=by
 rw[m8 rfl fun _=>rfl]
 try rfl
theorem aHN{t:TypeId}{x i:Operand}:bJ P mt ops (⟨dst,.indexAddr t x i,type,pos,after,none⟩::rest) K φ st=lF P mt ops rest K φ dst st (dN P t (φ.eval x) (φ.eval i)):=m8 rfl fun _=>rfl
theorem aHM{t:TypeId}{x i:Operand}:bJ P mt ops (⟨dst,.index t x i,type,pos,after,none⟩::rest) K φ st=lF P mt ops rest K φ dst st (EN P t (φ.eval x) (φ.eval i)):=m8 rfl fun _=>rfl
theorem aJ8{t:TypeId}{x:Operand}{lo hi mx:Option Operand}:bJ P mt ops (⟨dst,.slice t x lo hi mx,type,pos,after,none⟩::rest) K φ st=lF P mt ops rest K φ dst st (fY P φ t (φ.eval x) lo hi mx):=m8 rfl fun _=>rfl
theorem aF9{x:Operand}{i:Nat}:bJ P mt ops (⟨dst,.extract x i,type,pos,after,none⟩::rest) K φ st=lF P mt ops rest K φ dst st (D6 (φ.eval x) i):=by
 rw[m8 rfl fun _=>rfl]
 try rfl
theorem aH5{g:FuncId}{eF:Array Operand}:bJ P mt ops (⟨dst,.makeFunc (.func g) #[] eF,type,pos,after,none⟩::rest) K φ st=lF P mt ops rest K φ dst st (LW g (eF.toList.map φ.eval)):=by
 rw[m8 rfl fun _=>rfl]
 congr 1
 simp [mA,LW]
theorem aE8{t:TypeId}{ps:Array (Nat×Operand)}:bJ P mt ops (⟨dst,.build t ps,type,pos,after,none⟩::rest) K φ st=lF P mt ops rest K φ dst st (A8 P φ t ps):=m8 rfl fun _=>rfl
theorem aE9{t:TypeId}{n:Nat}{ps:Array (Nat×Operand)}:bJ P mt ops (⟨dst,.buildSlice t n ps,type,pos,after,none⟩::rest) K φ st=lF P mt ops rest K φ dst st (D5 P φ t n ps):=m8 rfl fun _=>rfl
theorem aF3{t u:TypeId}{x:Operand}:bJ P mt ops (⟨dst,.convert t u x,type,pos,after,none⟩::rest) K φ st=lF P mt ops rest K φ dst st (vM P t u (φ.eval x)):=m8 rfl fun _=>rfl
theorem aHZ{t:TypeId}{x i:Operand}{ok:Bool}:bJ P mt ops (⟨dst,.lookup t x i ok,type,pos,after,none⟩::rest) K φ st=lF P mt ops rest K φ dst st (qH P st t ok (φ.eval x) (φ.eval i)):=m8 rfl fun _=>rfl
theorem aHS{x:Operand}{t:TypeId}:bJ P mt ops (⟨dst,.call { callee:=.builtin .len,args:=#[x],argTypes:=#[t] },type,pos,after,none⟩::rest) K φ st=lF P mt ops rest K φ dst st (mO P t (φ.eval x)):=m8 rfl fun _=>rfl
theorem aFH{f:Operand}{args:List Operand}{ats:Array TypeId}:bJ P mt ops (⟨dst,.call { callee:=.value f,args:=args.toArray,argTypes:=ats },type,pos,after,none⟩::rest) K φ st=uB P (φ.eval f) (args.map φ.eval) st (q7 P mt ops rest K φ dst):=rfl
theorem aH9{x y:Operand}{ts:Array TypeId}:bJ P mt ops (⟨dst,.call { callee:=.builtin .max,args:=#[x,y],argTypes:=ts },type,pos,after,none⟩::rest) K φ st=lF P mt ops rest K φ dst st (zE (φ.eval x) (φ.eval y)):=m8 rfl fun _=>rfl
theorem aIB{x y:Operand}{ts:Array TypeId}:bJ P mt ops (⟨dst,.call { callee:=.builtin .min,args:=#[x,y],argTypes:=ts },type,pos,after,none⟩::rest) K φ st=lF P mt ops rest K φ dst st (zH (φ.eval x) (φ.eval y)):=m8 rfl fun _=>rfl
theorem aD6{s x:Operand}{t t':TypeId}:bJ P mt ops (⟨dst,.call { callee:=.builtin .append,args:=#[s,x],argTypes:=#[t,t'] },type,pos,after,none⟩::rest) K φ st=(if t=t' then kP P t st (φ.eval s) (φ.eval x) (q7 P mt ops rest K φ dst) else tW P t t' st (φ.eval s) (φ.eval x) (q7 P mt ops rest K φ dst)):=rfl
theorem aF4{m k:Operand}{t t':TypeId}:bJ P mt ops (⟨dst,.call { callee:=.builtin .delete,args:=#[m,k],argTypes:=#[t,t'] },type,pos,after,none⟩::rest) K φ st=BU P t st (φ.eval m) (φ.eval k) (q7 P mt ops rest K φ dst):=rfl
theorem aE5{t:TypeId}{x:Operand}:bJ P mt ops (⟨dst,.box t x,type,pos,after,none⟩::rest) K φ st=zN P (D7 mt dst) t (φ.eval x) st (q7 P mt ops rest K φ dst) (lF P mt ops rest K φ dst st):=by
 simp only[bJ,kG,fZ,zN,q7]
 split
 · rfl
 · cases yO P t (φ.eval x)<;>rfl
theorem aD3{t:TypeId}:bJ P mt ops (⟨dst,.alloc t,type,pos,after,none⟩::rest) K φ st=L3 (zI P t) st (q7 P mt ops rest K φ dst):=rfl
theorem aKZ{t:TypeId}{p x:Operand}:bJ P mt ops (⟨dst,.store t p x,type,pos,after,none⟩::rest) K φ st=O1 P t (φ.eval p) (φ.eval x) st (q7 P mt ops rest K φ dst):=rfl
theorem aH6{t:TypeId}:bJ P mt ops (⟨dst,.makeMap t none,type,pos,after,none⟩::rest) K φ st=∀b,st b=none→q7 P mt ops rest K φ dst (.map b) (st.aC b (.map fun _=>none)):=rfl
theorem aH7{t:TypeId}{n c:Operand}:bJ P mt ops (⟨dst,.makeSlice t n c,type,pos,after,none⟩::rest) K φ st=zD P t st (φ.eval n) (φ.eval c) (q7 P mt ops rest K φ dst):=rfl
theorem aH8{t:TypeId}{m k x:Operand}:bJ P mt ops (⟨dst,.mapUpdate t m k x,type,pos,after,none⟩::rest) K φ st=tX P t st (φ.eval m) (φ.eval k) (φ.eval x) (q7 P mt ops rest K φ dst):=rfl
theorem aLL{t:Tmp}:φ.eval (.tmp t)=φ t:=rfl
theorem aFC{k:IntKind}{n:Int}:φ.eval (.const (.int k n))=.int k n:=rfl
theorem aFA{b:Bool}:φ.eval (.const (.bool b))=.bool b:=rfl
theorem aFE:φ.eval (.const (.slice none 0 0))=.fslice []:=rfl
theorem aFF:φ.eval (.const (.pointer none))=.nilptr:=rfl
theorem aFD:φ.eval (.const (.map none))=.nilmap:=rfl
theorem aFB{g:FuncId}:φ.eval (.func g)=.func g []:=rfl
theorem aFG{l:List UInt8}:φ.eval (.const (.string ⟨l.toArray⟩))=if l.length≤9223372036854775807 then .str ⟨l.toArray⟩ else .junk:=by
 simp [AF.eval,ofConst,ByteArray.size,maxLen]
theorem aLO{d e:Nat}{v:AV}:(φ.aC d v) e=if e=d then v else φ e:=rfl
theorem aI4{d:Nat}{v:AV}:φ.put (some d) v=φ.aC d v:=rfl
theorem aI5{v:AV}:φ.put none v=φ:=rfl
theorem aD8{i:Nat}:vR i []=AF.bot:=rfl
theorem aD7{i:Nat}{a:AV}{as:List AV}:vR i (a::as)=(vR (i+1) as).aC i a:=rfl
theorem aDE{P:Program}{t:TypeId}{k:IntKind}{a b:Int}:eN P .add t (.int k a) (.int k b)=some (.int k (k.wrap (a+b))):=by simp [eN,lP]
theorem aK4{P:Program}{t:TypeId}{k:IntKind}{a b:Int}:eN P .sub t (.int k a) (.int k b)=some (.int k (k.wrap (a - b))):=by simp [eN,lP]
theorem aIE{P:Program}{t:TypeId}{k:IntKind}{a b:Int}:eN P .mul t (.int k a) (.int k b)=some (.int k (k.wrap (a*b))):=by simp [eN,lP]
theorem aI6{P:Program}{t:TypeId}{k:IntKind}{a b:Int}:eN P .quo t (.int k a) (.int k b)=if b=0 then none else some (.int k (k.wrap (a.tdiv b))):=by simp [eN,lP]
theorem aJA{P:Program}{t:TypeId}{k:IntKind}{a b:Int}:eN P .rem t (.int k a) (.int k b)=if b=0 then none else some (.int k (a.tmod b)):=by simp [eN,lP]
theorem aF7{P:Program}{t:TypeId}{k:IntKind}{a b:Int}:eN P .eql t (.int k a) (.int k b)=some (.bool (decide (a=b))):=by simp [eN,lP]
theorem aIG{P:Program}{t:TypeId}{k:IntKind}{a b:Int}:eN P .neq t (.int k a) (.int k b)=some (.bool (!decide (a=b))):=by simp [eN,lP]
theorem aH4{P:Program}{t:TypeId}{k:IntKind}{a b:Int}:eN P .lss t (.int k a) (.int k b)=some (.bool (decide (a<b))):=by simp [eN,lP]
theorem aHX{P:Program}{t:TypeId}{k:IntKind}{a b:Int}:eN P .leq t (.int k a) (.int k b)=some (.bool (decide (a≤b))):=by simp [eN,lP]
theorem aGJ{P:Program}{t:TypeId}{k:IntKind}{a b:Int}:eN P .gtr t (.int k a) (.int k b)=some (.bool (decide (b<a))):=by simp [eN,lP]
theorem aGI{P:Program}{t:TypeId}{k:IntKind}{a b:Int}:eN P .geq t (.int k a) (.int k b)=some (.bool (decide (b≤a))):=by simp [eN,lP]
theorem aL6{P:Program}{t:TypeId}{k:IntKind}{a b:Int}:eN P .xor t (.int k a) (.int k b)=some (.int k (HT k a b)):=by simp [eN,lP]
theorem aD5{P:Program}{t:TypeId}{k:IntKind}{a b:Int}:eN P .and t (.int k a) (.int k b)=some (.int k (Q3 k a b)):=by simp [eN,lP]
theorem aIL{P:Program}{t:TypeId}{k:IntKind}{a b:Int}:eN P .or t (.int k a) (.int k b)=some (.int k (Q7 k a b)):=by simp [eN,lP]
theorem aIA{k:IntKind}{a b:Int}:zE (.int k a) (.int k b)=some (.int k (if a<b then b else a)):=by simp [zE]
theorem aIC{k:IntKind}{a b:Int}:zH (.int k a) (.int k b)=some (.int k (if b<a then b else a)):=by simp [zH]
theorem aJ5{P:Program}{t:TypeId}{a b:ByteArray}:eN P .eql t (.str a) (.str b)=some (.bool (decide (a=b))):=by simp [eN,lP]
theorem aKA{P:Program}{t:TypeId}{a b:ByteArray}:eN P .neq t (.str a) (.str b)=some (.bool (!decide (a=b))):=by simp [eN,lP]
theorem aJO{P:Program}{t:TypeId}{a b:ByteArray}:eN P .add t (.str a) (.str b)=if a.size+b.size≤maxLen then some (.str (a++b)) else none:=by simp [eN,lP]
theorem aJ9{P:Program}{t:TypeId}{a b:ByteArray}:eN P .lss t (.str a) (.str b)=some (.bool (Op.bytesLess a.toList b.toList)):=by simp [eN,lP]
theorem aJ6{P:Program}{t:TypeId}{a b:ByteArray}:eN P .gtr t (.str a) (.str b)=some (.bool (!(Op.bytesLess a.toList b.toList||decide (a=b)))):=by simp [eN,lP]
theorem aEY{P:Program}{t:TypeId}{a b:Bool}(h:P.underlying t=some .bool):eN P .eql t (.bool a) (.bool b)=some (.bool (a == b)):=by simp [eN,h]
theorem aE4{P:Program}{t:TypeId}{a b:Bool}(h:P.underlying t=some .bool):eN P .neq t (.bool a) (.bool b)=some (.bool (!(a == b))):=by simp [eN,h]
theorem aIJ{b:Bool}:HS .not (.bool b)=some (.bool (!b)):=rfl
theorem aIF{k:IntKind}{n:Int}:HS .neg (.int k n)=some (.int k (k.wrap (0 - n))):=rfl
end
end
@[congr] theorem a9L {P:Program} {N:Nat} {mt:List Nat} {c:Code} {Q:Exit→AF→aB→Prop} {φ φ':AF} {st st':aB} (h1:φ=φ') (h2:st=st'):gY P N mt c Q φ st=gY P N mt c Q φ' st':=by rw[h1,h2]
@[congr] theorem a9R {P:Program} {mt:List Nat} {ops:Array Oper} {l:List Oper} {K:AF→aB→Prop} {φ φ':AF} {st st':aB} (h1:φ=φ') (h2:st=st'):bJ P mt ops l K φ st=bJ P mt ops l K φ' st':=by rw[h1,h2]
@[congr] theorem a94 {P:Program} {mt:List Nat} {ops:Array Oper} {l:List Oper} {K:AF→aB→Prop} {φ:AF} {st:aB} {dst:Option Tmp} {x x':Option AV} (h1:x=x'):lF P mt ops l K φ dst st x=lF P mt ops l K φ dst st x':=by rw[h1]
@[congr] theorem a93 {P:Program} {mt:List Nat} {ops:Array Oper} {o:Oper} {l:List Oper} {K:AF→aB→Prop} {φ:AF} {st:aB} {x x':Option Bool} (h1:x=x'):x6 P mt ops o l K φ st x=x6 P mt ops o l K φ st x':=by rw[h1]
@[congr] theorem a92 {P:Program} {mt:List Nat} {ops:Array Oper} {l:List Oper} {K:AF→aB→Prop} {φ:AF} {dst:Option Tmp} {r r':AV} {st st':aB} (h1:r=r') (h2:st=st'):q7 P mt ops l K φ dst r st=q7 P mt ops l K φ dst r' st':=by rw[h1,h2]
@[congr] theorem a9M {c c':AV} {k₁ k₂:AF→aB→Prop} {φ:AF} {st:aB} (h1:c=c'):wW c k₁ k₂ φ st=wW c' k₁ k₂ φ st:=by rw[h1]
@[congr] theorem a9I {P:Program} {N:Nat} {c:Code} {Q:Exit→AF→aB→Prop} {φ φ':AF} {st st':aB} (h1:φ=φ') (h2:st=st'):g8 P N c Q φ st=g8 P N c Q φ' st':=by rw[h1,h2]
@[congr] theorem a9H {P:Program} {g:FuncId} {args args':List AV} {st st':aB} {K:AV→aB→Prop} (h1:args=args') (h2:st=st'):aD P g args st K=aD P g args' st' K:=by rw[h1,h2]
@[congr] theorem a90 {P:Program} {f f':AV} {args args':List AV} {st st':aB} {K:AV→aB→Prop} (h0:f=f') (h1:args=args') (h2:st=st'):uB P f args st K=uB P f' args' st' K:=by rw[h0,h1,h2]
@[congr] theorem a9W {P:Program} {m m':Bool} {t:TypeId} {x x':AV} {st st':aB} {K:AV→aB→Prop} {k:Option AV→Prop} (h0:m=m') (h1:x=x') (h2:st=st'):zN P m t x st K k=zN P m' t x' st' K k:=by rw[h0,h1,h2]
@[congr] theorem a9V {zs zs':Option (List AV)} {st st':aB} {K:AV→aB→Prop} (h1:zs=zs') (h2:st=st'):L3 zs st K=L3 zs' st' K:=by rw[h1,h2]
@[congr] theorem bAB {P:Program} {t:TypeId} {p p' x x':AV} {st st':aB} {K:AV→aB→Prop} (h0:p=p') (h1:x=x') (h2:st=st'):O1 P t p x st K=O1 P t p' x' st' K:=by rw[h0,h1,h2]
@[congr] theorem a9P {x x' y y':AV} (h0:x=x') (h1:y=y'):zE x y=zE x' y':=by rw[h0,h1]
@[congr] theorem a9Q {x x' y y':AV} (h0:x=x') (h1:y=y'):zH x y=zH x' y':=by rw[h0,h1]
@[congr] theorem a9K {P:Program} {t t':TypeId} {s s' x x':AV} {st st':aB} {K:AV→aB→Prop} (h0:s=s') (h1:x=x') (h2:st=st'):tW P t t' st s x K=tW P t t' st' s' x' K:=by rw[h0,h1,h2]
@[congr] theorem a9J {P:Program} {t:TypeId} {s s' x x':AV} {st st':aB} {K:AV→aB→Prop} (h0:s=s') (h1:x=x') (h2:st=st'):kP P t st s x K=kP P t st' s' x' K:=by rw[h0,h1,h2]
@[congr] theorem a9N {P:Program} {t:TypeId} {s s' x x':AV} {st st':aB} {K:AV→aB→Prop} (h0:s=s') (h1:x=x') (h2:st=st'):zD P t st s x K=zD P t st' s' x' K:=by rw[h0,h1,h2]
@[congr] theorem a9O {P:Program} {t:TypeId} {m m' s s' x x':AV} {st st':aB} {K:AV→aB→Prop} (h:m=m') (h0:s=s') (h1:x=x') (h2:st=st'):tX P t st m s x K=tX P t st' m' s' x' K:=by rw[h,h0,h1,h2]
theorem aFI{P:Program}{g:FuncId}{eF args:List AV}{st:aB}{K:AV→aB→Prop}:uB P (.func g eF) args st K=aD P g (args++eF) st K:=rfl
theorem aE6{P:Program}{t:TypeId}{x:AV}{st:aB}{K:AV→aB→Prop}{k:Option AV→Prop}:zN P false t x st K k=k (yO P t x):=by simp [zN]
theorem aE7{P:Program}{t:TypeId}{x:AV}{st:aB}{K:AV→aB→Prop}{k:Option AV→Prop}:zN P true t x st K k=(x.cJ=false∧∀b,st b=none→K (.ptr b 0) (st.aC b (.cells x.cells))):=by simp [zN]
theorem aD4{zs:List AV}{st:aB}{K:AV→aB→Prop}:L3 (some zs) st K=∀b,st b=none→K (.ptr b 0) (st.aC b (.cells zs)):=rfl
theorem aK0{P:Program}{t:TypeId}{b q:Nat}{x:AV}{st:aB}{K:AV→aB→Prop}:O1 P t (.ptr b q) x st K=match st b,tI P t with
 | some (.cells cs),some (_,sz)=>x.cells.length=sz∧q+sz≤cs.length∧x.cells.all AV.storable=true∧K .undef (st.aC b (.cells (aK cs q x.cells)))
 | _,_=>False:=rfl
def kW:Op→Bool
 | .alloc _=>true
 | _=>false
def kN:Op→Bool
 | .store _ _ _=>true
 | _=>false
def zK(P:Program)(mt:List Nat)(ops:Array Oper)(rest:List Oper)(K:AF→aB→Prop)(φ:AF)(st:aB):Prop:=gZ P mt ops rest K φ st
def zF(P:Program)(mt:List Nat)(ops:Array Oper)(rest:List Oper)(K:AF→aB→Prop)(φ:AF)(d:Nat)(st:aB)(r:AV):Prop:=gZ P mt ops rest K (φ.aC d r) st
def xN(x:AV)(K:AV→Prop):Option (List AV)→Option (Bool×Nat)→Prop
 | some zs,some (_,sz)=>zs.length=sz∧x.width=sz∧x.cells.all AV.storable=true∧x.cJ=false∧K (.pptr x)
 | _,_=>False
def zM(P:Program)(mt:List Nat)(ops:Array Oper)(o:Oper)(s:Oper)(rest:List Oper)(K:AF→aB→Prop)(φ:AF)(st:aB)(d:Nat)(t:TypeId)(x:AV):Bool→Prop
 | true=>bJ P mt ops [o] (zK P mt ops (s::rest) K) φ st
 | false=>xN x (zF P mt ops rest K φ d st) (zI P t) (tI P t)
section
variable {P:Program} {mt:List Nat} {ops:Array Oper} {rest:List Oper} {K:AF→aB→Prop} {φ:AF} {st:aB} {dst E6:Option Tmp} {type wM:TypeId} {pos pos':String} {after vP:Array Edge} {g g':Option (Nat×Bool)} {op op':Op}
theorem M8:zK P mt ops rest K φ st=gZ P mt ops rest K φ st:=rfl
theorem aL7{d:Nat}{r:AV}:zF P mt ops rest K φ d st r=gZ P mt ops rest K (φ.aC d r) st:=rfl
theorem aC9:gZ P mt ops [] K φ st=K φ st:=by rw[gZ]
theorem M6(h:kW op=false):gZ P mt ops (⟨dst,op,type,pos,after,g⟩::rest) K φ st=bJ P mt ops [⟨dst,op,type,pos,after,g⟩] (zK P mt ops rest K) φ st:=by
 rw[gZ]
 · rfl
 · intro d t ty ps af t' d' x ty' ps' af' r e1 e2
   cases e1
   cases h
 · intro d t ty ps af e y ty2 ps2 af2 t' d' x ty' ps' af' r e1 e2
   cases e1
   cases h
theorem M7{t:TypeId}{x:AV}{k:AV→Prop}:EM P t x k=xN x k (zI P t) (tI P t):=by
 unfold EM xN
 simp only[w9]
 cases zI P t<;>cases tI P t<;>rfl
theorem aGH{x:AV}{k:AV→Prop}{zs:List AV}{ag:Bool}{sz:Nat}:xN x k (some zs) (some (ag,sz))=(zs.length=sz∧x.width=sz∧x.cells.all AV.storable=true∧x.cJ=false∧k (.pptr x)):=rfl
theorem M5{d:Nat}{t:TypeId}{x:Operand}:gZ P mt ops (⟨some d,.alloc t,type,pos,after,none⟩::⟨none,.store t (.tmp d) x,wM,pos',vP,none⟩::rest) K φ st =
 zM P mt ops ⟨some d,.alloc t,type,pos,after,none⟩ ⟨none,.store t (.tmp d) x,wM,pos',vP,none⟩ rest K φ st d t (φ.eval x) (mt.contains d||qW x d):=by
 rw[gZ]
 cases h:(mt.contains d||qW x d) with
 | true=>
  rw[aE (by simp)]
  show _=bJ P mt ops _ (fun φ' st'=>zK P mt ops _ K φ' st') φ st
  simp only[M8,M6 (K:=K) (rest:=rest) (op:=.store t (.tmp d) x) rfl]
  rfl
 | false=>
  rw[aH ⟨rfl,rfl,rfl⟩,M7]
  try rfl
theorem aMB{o s:Oper}{d:Nat}{t:TypeId}{x:AV}:zM P mt ops o s rest K φ st d t x true=bJ P mt ops [o] (zK P mt ops (s::rest) K) φ st:=rfl
theorem aMA{o s:Oper}{d:Nat}{t:TypeId}{x:AV}:zM P mt ops o s rest K φ st d t x false=xN x (zF P mt ops rest K φ d st) (zI P t) (tI P t):=rfl
def LG(P:Program)(mt:List Nat)(ops:Array Oper)(o:Oper)(os:List Oper)(rest:List Oper)(K:AF→aB→Prop)(φ φ':AF)(st:aB)(d:Nat)(t:TypeId)(x:AV):Bool→Prop
 | true=>bJ P mt ops [o] (zK P mt ops (os++rest) K) φ st
 | false=>xN x (zF P mt ops rest K φ' d st) (zI P t) (tI P t)
theorem aL8{o:Oper}{os:List Oper}{φ':AF}{d:Nat}{t:TypeId}{x:AV}:LG P mt ops o os rest K φ φ' st d t x false=xN x (zF P mt ops rest K φ' d st) (zI P t) (tI P t):=rfl
theorem aL9{o:Oper}{os:List Oper}{φ':AF}{d:Nat}{t:TypeId}{x:AV}:LG P mt ops o os rest K φ φ' st d t x true=bJ P mt ops [o] (zK P mt ops (os++rest) K) φ st:=rfl
theorem aZP{d e:Nat}{t:TypeId}{x y:Operand}{type2:TypeId}{yA:String}{HU:Array Edge}:gZ P mt ops (⟨some d,.alloc t,type,pos,after,none⟩::⟨some e,.assign y,type2,yA,HU,none⟩::⟨none,.store t (.tmp d) x,wM,pos',vP,none⟩::rest) K φ st =
 LG P mt ops ⟨some d,.alloc t,type,pos,after,none⟩ [⟨some e,.assign y,type2,yA,HU,none⟩,⟨none,.store t (.tmp d) x,wM,pos',vP,none⟩] rest K φ (φ.aC e (φ.eval y)) st d t ((φ.aC e (φ.eval y)).eval x) (mt.contains d||qW x d||qW y d||d == e):=by
 rw[gZ]
 cases h:(mt.contains d||qW x d||qW y d||d == e) with
 | true=>
  rw[aE (by simp)]
  show _=bJ P mt ops _ (fun φ' st'=>zK P mt ops _ K φ' st') φ st
  simp only[M8,fE,eD,M6 (K:=K) (op:=.assign y) rfl]
  rfl
 | false=>
  rw[aH ⟨rfl,rfl,rfl⟩,M7]
  try rfl
def lE:Op→Bool
 | .assign _=>true
 | _=>false
theorem aDA{t:TypeId}(h:kN op'=false)(h2:lE op'=false):gZ P mt ops (⟨dst,.alloc t,type,pos,after,g⟩::⟨E6,op',wM,pos',vP,g'⟩::rest) K φ st=bJ P mt ops [⟨dst,.alloc t,type,pos,after,g⟩] (zK P mt ops (⟨E6,op',wM,pos',vP,g'⟩::rest) K) φ st:=by
 rw[gZ]
 · rfl
 · intro d t ty ps af t' d' x ty' ps' af' r e1 e2
   cases e2
   cases h
 · intro d t ty ps af e y ty2 ps2 af2 t' d' x ty' ps' af' r e1 e2
   cases e2
   cases h2
theorem aDB{t:TypeId}:gZ P mt ops [⟨dst,.alloc t,type,pos,after,g⟩] K φ st=bJ P mt ops [⟨dst,.alloc t,type,pos,after,g⟩] (zK P mt ops [] K) φ st:=by
 rw[gZ]
 · rfl
 · intro d t ty ps af t' d' x ty' ps' af' r e1 e2
   cases e2
 · intro d t ty ps af e y ty2 ps2 af2 t' d' x ty' ps' af' r e1 e2
   cases e2
theorem aDC{t:TypeId}{y:Operand}:gZ P mt ops [⟨dst,.alloc t,type,pos,after,g⟩,⟨E6,.assign y,wM,pos',vP,g'⟩] K φ st=bJ P mt ops [⟨dst,.alloc t,type,pos,after,g⟩] (zK P mt ops [⟨E6,.assign y,wM,pos',vP,g'⟩] K) φ st:=by
 rw[gZ]
 · rfl
 · intro d t ty ps af t' d' x ty' ps' af' r e1 e2
   cases e2
 · intro d t ty ps af e y ty2 ps2 af2 t' d' x ty' ps' af' r e1 e2
   cases e2
theorem aDD{t:TypeId}{y:Operand}{aB7:Option Tmp}{op2:Op}{type2:TypeId}{yA:String}{HU:Array Edge}{g2:Option (Nat×Bool)}(h:kN op2=false):gZ P mt ops (⟨dst,.alloc t,type,pos,after,g⟩::⟨E6,.assign y,wM,pos',vP,g'⟩::⟨aB7,op2,type2,yA,HU,g2⟩::rest) K φ st=bJ P mt ops [⟨dst,.alloc t,type,pos,after,g⟩] (zK P mt ops (⟨E6,.assign y,wM,pos',vP,g'⟩::⟨aB7,op2,type2,yA,HU,g2⟩::rest) K) φ st:=by
 rw[gZ]
 · rfl
 · intro d t ty ps af t' d' x ty' ps' af' r e1 e2
   cases e2
 · intro d t ty ps af e y ty2 ps2 af2 t' d' x ty' ps' af' r e1 e2
   cases e2
   cases h
theorem aHP{d e:Nat}:qW (.tmp e) d=(e == d):=rfl
theorem aHO{v:Value}{d:Nat}:qW (.const v) d=false:=rfl
theorem aDX{x:Operand}:kW (.move x)=false:=rfl
theorem aKU{x:Operand}:kN (.move x)=false:=rfl
theorem aDF{x:Operand}:kW (.assign x)=false:=rfl
theorem aKC{x:Operand}:kN (.assign x)=false:=rfl
theorem aDZ{c x y:Operand}:kW (.pick c x y)=false:=rfl
theorem aKW{c x y:Operand}:kN (.pick c x y)=false:=rfl
theorem aDG{op:BinOp}{t:TypeId}{x y:Operand}{t':TypeId}:kW (.binOp op t x y t')=false:=rfl
theorem aKD{op:BinOp}{t:TypeId}{x y:Operand}{t':TypeId}:kN (.binOp op t x y t')=false:=rfl
theorem aD2{op:UnOp}{t:TypeId}{x:Operand}:kW (.unOp op t x)=false:=rfl
theorem aKY{op:UnOp}{t:TypeId}{x:Operand}:kN (.unOp op t x)=false:=rfl
theorem aDY{x:Operand}:kW (.nilCheck x)=false:=rfl
theorem aKV{x:Operand}:kN (.nilCheck x)=false:=rfl
theorem aDO{t f:Nat}{x:Operand}:kW (.fieldAddr t x f)=false:=rfl
theorem aKL{t f:Nat}{x:Operand}:kN (.fieldAddr t x f)=false:=rfl
theorem aDR{t:TypeId}{x:Operand}:kW (.load t x)=false:=rfl
theorem aKO{t:TypeId}{x:Operand}:kN (.load t x)=false:=rfl
theorem aD1{t:TypeId}{p x:Operand}:kW (.store t p x)=false:=rfl
theorem aDN{t f:Nat}{x:Operand}:kW (.field t x f)=false:=rfl
theorem aKK{t f:Nat}{x:Operand}:kN (.field t x f)=false:=rfl
theorem aDQ{t:TypeId}{x i:Operand}:kW (.indexAddr t x i)=false:=rfl
theorem aKN{t:TypeId}{x i:Operand}:kN (.indexAddr t x i)=false:=rfl
theorem aDP{t:TypeId}{x i:Operand}:kW (.index t x i)=false:=rfl
theorem aKM{t:TypeId}{x i:Operand}:kN (.index t x i)=false:=rfl
theorem aD0{t:TypeId}{x:Operand}{lo hi mx:Option Operand}:kW (.slice t x lo hi mx)=false:=rfl
theorem aKX{t:TypeId}{x:Operand}{lo hi mx:Option Operand}:kN (.slice t x lo hi mx)=false:=rfl
theorem aDM{x:Operand}{i:Nat}:kW (.extract x i)=false:=rfl
theorem aKJ{x:Operand}{i:Nat}:kN (.extract x i)=false:=rfl
theorem aDI{t:TypeId}{ps:Array (Nat×Operand)}:kW (.build t ps)=false:=rfl
theorem aKF{t:TypeId}{ps:Array (Nat×Operand)}:kN (.build t ps)=false:=rfl
theorem aDJ{t:TypeId}{n:Nat}{ps:Array (Nat×Operand)}:kW (.buildSlice t n ps)=false:=rfl
theorem aKG{t:TypeId}{n:Nat}{ps:Array (Nat×Operand)}:kN (.buildSlice t n ps)=false:=rfl
theorem aDL{t u:TypeId}{x:Operand}:kW (.convert t u x)=false:=rfl
theorem aKI{t u:TypeId}{x:Operand}:kN (.convert t u x)=false:=rfl
theorem aDS{t:TypeId}{x i:Operand}{ok:Bool}:kW (.lookup t x i ok)=false:=rfl
theorem aKP{t:TypeId}{x i:Operand}{ok:Bool}:kN (.lookup t x i ok)=false:=rfl
theorem aDK{c:_}:kW (.call c)=false:=rfl
theorem aKH{c:_}:kN (.call c)=false:=rfl
theorem aDH{t:TypeId}{x:Operand}:kW (.box t x)=false:=rfl
theorem aKE{t:TypeId}{x:Operand}:kN (.box t x)=false:=rfl
theorem aDU{t:_}{x:_}:kW (.makeMap t x)=false:=rfl
theorem aKR{t:_}{x:_}:kN (.makeMap t x)=false:=rfl
theorem aDV{t:TypeId}{n c:Operand}:kW (.makeSlice t n c)=false:=rfl
theorem aKS{t:TypeId}{n c:Operand}:kN (.makeSlice t n c)=false:=rfl
theorem aDW{t:TypeId}{m k x:Operand}:kW (.mapUpdate t m k x)=false:=rfl
theorem aKT{t:TypeId}{m k x:Operand}:kN (.mapUpdate t m k x)=false:=rfl
theorem aDT{f:_}{a:_}{b:_}:kW (.makeFunc f a b)=false:=rfl
theorem aKQ{f:_}{a:_}{b:_}:kN (.makeFunc f a b)=false:=rfl
theorem aKB{t:TypeId}:kN (.alloc t)=false:=rfl
theorem aER{x:Operand}:lE (.move x)=false:=rfl
theorem aET{c x y:Operand}:lE (.pick c x y)=false:=rfl
theorem aEA{op:BinOp}{t:TypeId}{x y:Operand}{t':TypeId}:lE (.binOp op t x y t')=false:=rfl
theorem aEV{op:UnOp}{t:TypeId}{x:Operand}:lE (.unOp op t x)=false:=rfl
theorem aES{x:Operand}:lE (.nilCheck x)=false:=rfl
theorem aEI{t f:Nat}{x:Operand}:lE (.fieldAddr t x f)=false:=rfl
theorem aEL{t:TypeId}{x:Operand}:lE (.load t x)=false:=rfl
theorem aEH{t f:Nat}{x:Operand}:lE (.field t x f)=false:=rfl
theorem aEK{t:TypeId}{x i:Operand}:lE (.indexAddr t x i)=false:=rfl
theorem aEJ{t:TypeId}{x i:Operand}:lE (.index t x i)=false:=rfl
theorem aEU{t:TypeId}{x:Operand}{lo hi mx:Option Operand}:lE (.slice t x lo hi mx)=false:=rfl
theorem aEG{x:Operand}{i:Nat}:lE (.extract x i)=false:=rfl
theorem aEC{t:TypeId}{ps:Array (Nat×Operand)}:lE (.build t ps)=false:=rfl
theorem aED{t:TypeId}{n:Nat}{ps:Array (Nat×Operand)}:lE (.buildSlice t n ps)=false:=rfl
theorem aEF{t u:TypeId}{x:Operand}:lE (.convert t u x)=false:=rfl
theorem aEM{t:TypeId}{x i:Operand}{ok:Bool}:lE (.lookup t x i ok)=false:=rfl
theorem aEE{c:_}:lE (.call c)=false:=rfl
theorem aEB{t:TypeId}{x:Operand}:lE (.box t x)=false:=rfl
theorem aEO{t:_}{x:_}:lE (.makeMap t x)=false:=rfl
theorem aEP{t:TypeId}{n c:Operand}:lE (.makeSlice t n c)=false:=rfl
theorem aEQ{t:TypeId}{m k x:Operand}:lE (.mapUpdate t m k x)=false:=rfl
theorem aEN{f:_}{a:_}{b:_}:lE (.makeFunc f a b)=false:=rfl
theorem aD9{t:TypeId}:lE (.alloc t)=false:=rfl
@[congr] theorem bAD {o:Oper} {os:List Oper} {φ' φ2 φ2':AF} {st':aB} {d:Nat} {t:TypeId} {x x':AV} {b b':Bool} (h1:φ=φ') (h0:φ2=φ2') (h2:st=st') (h3:x=x') (h4:b=b'):LG P mt ops o os rest K φ φ2 st d t x b=LG P mt ops o os rest K φ' φ2' st' d t x' b':=by rw[h1,h0,h2,h3,h4]
@[congr] theorem a91 {x x':AV} {k:AV→Prop} {a a':Option (List AV)} {b b':Option (Bool×Nat)} (h0:x=x') (h1:a=a') (h2:b=b'):xN x k a b=xN x' k a' b':=by rw[h0,h1,h2]
@[congr] theorem bAC {o s:Oper} {φ':AF} {st':aB} {d:Nat} {t:TypeId} {x x':AV} {b b':Bool} (h1:φ=φ') (h2:st=st') (h3:x=x') (h4:b=b'):zM P mt ops o s rest K φ st d t x b=zM P mt ops o s rest K φ' st' d t x' b':=by rw[h1,h2,h3,h4]
@[congr] theorem a98 {l:List Oper} {Q:Exit→AF→aB→Prop} {φ':AF} {st':aB} {b b':Bool} (h1:φ=φ') (h2:st=st') (h3:b=b'):KA P mt l Q φ st b=KA P mt l Q φ' st' b':=by rw[h1,h2,h3]
end
end Go.AW
