/- The rules by which the code is evaluated: equations for simp. -/
import Derived.Test.YtieofkhcboolkaaGreatDoorKqc
set_option linter.unusedSimpArgs false
set_option linter.unusedVariables false
set_option maxRecDepth 100000
namespace Go.AW
section
variable {P:Program} {N:Nat} {mt:List Nat} {Q:Exit→AF→aA→Prop} {φ:AF} {st:aA} {x y:Code} {ops:Array Oper} {id:Nat}
theorem OA:dD P N mt .skip Q φ st=Q .normal φ st:=rfl
theorem N7:dD P N mt (.seq x y) Q φ st=dD P N mt x (vS (dD P N mt y Q) Q) φ st:=rfl
def vH(P:Program)(mt:List Nat)(l:List Oper)(Q:Exit→AF→aA→Prop)(φ:AF)(st:aA):Bool→Prop
 | true=>dE P mt l.toArray l (Q .normal) φ st
 | false=>aM P mt l.toArray l (Q .normal) φ st
theorem NC{l:List Oper}:dD P N mt (.region id l.toArray false) Q φ st=vH P mt l Q φ st (mt.contains 1000000):=by
 simp only[dD,fJ,cP]
 cases mt.contains 1000000<;>rfl
theorem NB{l:List Oper}:vH P mt l Q φ st true=dE P mt l.toArray l (Q .normal) φ st:=rfl
theorem NA{l:List Oper}:vH P mt l Q φ st false=aM P mt l.toArray l (Q .normal) φ st:=rfl
theorem J6:dD P N mt (.region id ops true) Q φ st=dT P N (.region id ops true) Q φ st:=by simp [dD]
theorem J3{c:Operand}:dD P N mt (.cond c x y) Q φ st=nB (φ.eval c) (dD P N mt x Q) (dD P N mt y Q) φ st:=rfl
theorem I0:dD P N mt (.block id x) Q φ st=dD P N mt x (rS id Q) φ st:=rfl
theorem L3:dD P N mt (.loop x) Q φ st=dT P N (.loop x) Q φ st:=rfl
theorem J9:dD P N mt (.exit id) Q φ st=Q (.exit id) φ st:=rfl
theorem NE:dD P N mt .ret Q φ st=Q .ret φ st:=rfl
theorem PQ{k₁ k₂:AF→aA→Prop}:nB (.bool true) k₁ k₂ φ st=k₁ φ st:=by simp [nB]
theorem KB{k₁ k₂:AF→aA→Prop}:nB (.bool false) k₁ k₂ φ st=k₂ φ st:=by simp [nB]
theorem O9{k:AF→aA→Prop}:vS k Q .normal φ st=k φ st:=rfl
theorem O8{k:AF→aA→Prop}:vS k Q (.exit id) φ st=Q (.exit id) φ st:=rfl
theorem PB{k:AF→aA→Prop}:vS k Q .ret φ st=Q .ret φ st:=rfl
theorem I2:rS id Q .normal φ st=Q .normal φ st:=rfl
theorem I1{i:Nat}:rS id Q (.exit i) φ st=if i=id then Q .normal φ st else Q (.exit i) φ st:=rfl
theorem I3:rS id Q .ret φ st=Q .ret φ st:=rfl
theorem L5{k:AF→aA→Prop}:jT k Q .normal φ st=k φ st:=rfl
theorem L4{k:AF→aA→Prop}:jT k Q (.exit id) φ st=Q (.exit id) φ st:=rfl
theorem L6{k:AF→aA→Prop}:jT k Q .ret φ st=Q .ret φ st:=rfl
def iS(P:Program)(rs:List ResultVar)(K:AV→aA→Prop)(φ:AF)(st:aA):Prop:=
 match j2 P φ st rs with
 | some xs=>vW K st xs
 | none=>False
theorem NQ{rs:Array ResultVar}{K:AV→aA→Prop}:vI P rs K .ret φ st=iS P rs.toList K φ st:=rfl
theorem NP{rs:Array ResultVar}{K:AV→aA→Prop}:vI P rs K .normal φ st=iS P rs.toList K φ st:=rfl
theorem NG{t:Tmp}{K:AV→aA→Prop}:iS P [.tmp t] K φ st=K (φ t) st:=rfl
theorem NF{K:AV→aA→Prop}:iS P [] K φ st=K (.tup []) st:=by simp [iS,j2,vW,f9]
theorem NH{t u:Tmp}{K:AV→aA→Prop}:iS P [.tmp t,.tmp u] K φ st=(f9 [φ t,φ u]=true∧K (.tup [φ t,φ u]) st):=rfl
theorem NI{t u v:Tmp}{K:AV→aA→Prop}:iS P [.tmp t,.tmp u,.tmp v] K φ st=(f9 [φ t,φ u,φ v]=true∧K (.tup [φ t,φ u,φ v]) st):=rfl
theorem NJ{t u v w:Tmp}{K:AV→aA→Prop}:iS P [.tmp t,.tmp u,.tmp v,.tmp w] K φ st=(f9 [φ t,φ u,φ v,φ w]=true∧K (.tup [φ t,φ u,φ v,φ w]) st):=rfl
def yJ(k:AV→Prop):Option AV→Prop
 | some r=>k r
 | none=>False
theorem NK{p:Tmp}{t:TypeId}{K:AV→aA→Prop}:iS P [.cell p t] K φ st=yJ (fun r=>K r st) (d6 P st t (φ p)):=by
 simp only[iS,j2,rM]
 cases d6 P st t (φ p)<;>rfl
theorem NL{p u:Tmp}{t:TypeId}{K:AV→aA→Prop}:iS P [.cell p t,.tmp u] K φ st=yJ (fun r=>f9 [r,φ u]=true∧K (.tup [r,φ u]) st) (d6 P st t (φ p)):=by
 simp only[iS,j2,rM]
 cases d6 P st t (φ p)<;>rfl
theorem NO{u p:Tmp}{t:TypeId}{K:AV→aA→Prop}:iS P [.tmp u,.cell p t] K φ st=yJ (fun r=>f9 [φ u,r]=true∧K (.tup [φ u,r]) st) (d6 P st t (φ p)):=by
 simp only[iS,j2,rM]
 cases d6 P st t (φ p)<;>rfl
theorem MN{k:AV→Prop}{r:AV}:yJ k (some r)=k r:=rfl
def fG(P:Program)(mt:List Nat)(ops:Array Oper)(rest:List Oper)(K:AF→aA→Prop)(φ:AF)(dst:Option Tmp)(st:aA):Option AV→Prop
 | some r=>aM P mt ops rest K (φ.put dst r) st
 | none=>False
def jG(P:Program)(mt:List Nat)(ops:Array Oper)(rest:List Oper)(K:AF→aA→Prop)(φ:AF)(dst:Option Tmp)(r:AV)(st:aA):Prop:=aM P mt ops rest K (φ.put dst r) st
def n3(P:Program)(mt:List Nat)(ops:Array Oper)(o:Oper)(rest:List Oper)(K:AF→aA→Prop)(φ:AF)(st:aA):Option Bool→Prop
 | some true=>aM P mt ops ({ o with guard:=none }::rest) K φ st
 | some false=>aM P mt ops rest K (φ.put o.dst .undef) st
 | none=>False
def gd(ops:Array Oper)(φ:AF)(j:Nat)(want:Bool):Option Bool:=
 match (ops[j]?).bind (·.dst) with
 | none=>some false
 | some d=>match φ d with
  | .bool b=>some (b == want)
  | .undef=>some false
  | _=>none
section
variable {rest:List Oper} {K:AF→aA→Prop} {dst:Option Tmp} {type:TypeId} {pos:String} {after:Array Edge}
theorem MK:aM P mt ops [] K φ st=K φ st:=rfl
theorem KL{op:Op}{j:Nat}{want:Bool}:aM P mt ops (⟨dst,op,type,pos,after,some (j,want)⟩::rest) K φ st=n3 P mt ops ⟨dst,op,type,pos,after,some (j,want)⟩ rest K φ st (gd ops φ j want):=by
 simp only[aM]
 have h1:eF ops φ ⟨dst,op,type,pos,after,some (j,want)⟩=gd ops φ j want:=rfl
 rw[h1]
 cases gd ops φ j want with
 | none=>rfl
 | some b=>cases b<;>simp [n3,aM,eF,cW,gD]
theorem GC{r:AV}:jG P mt ops rest K φ dst r st=aM P mt ops rest K (φ.put dst r) st:=rfl
theorem G2{r:AV}:fG P mt ops rest K φ dst st (some r)=aM P mt ops rest K (φ.put dst r) st:=rfl
theorem GE{op:Op}{g:Option (Nat×Bool)}:n3 P mt ops ⟨dst,op,type,pos,after,g⟩ rest K φ st (some true)=aM P mt ops (⟨dst,op,type,pos,after,none⟩::rest) K φ st:=rfl
theorem GD{op:Op}{g:Option (Nat×Bool)}:n3 P mt ops ⟨dst,op,type,pos,after,g⟩ rest K φ st (some false)=aM P mt ops rest K (φ.put dst .undef) st:=rfl
theorem gO{o:Oper}(hg:o.guard=none)(e:∀K',cW P mt φ st o K'=match gD P φ st o with | some r=>K' r st | none=>False):aM P mt ops (o::rest) K φ st=fG P mt ops rest K φ o.dst st (gD P φ st o):=by
 simp only[aM,eF,hg,e]
 cases gD P φ st o<;>rfl
def v8:AV→AV→AV→Option AV
 | .bool b,x,y=>some (if b then x else y)
 | _,_,_=>none
def qX:AV→Option AV
 | .ptr b q=>some (.ptr b q)
 | .pptr e=>some (.pptr e)
 | _=>none
def wB(P:Program)(t f:Nat)(x:AV):Option AV:=match fI P t f,x with | some (off,ag,sz),.agg cs=>sub ag cs off sz | _,_=>none
def wA(x:AV)(i:Nat):Option AV:=match x with | .tup vs=>vs[i]? | _=>none
def wU(g:FuncId)(cs:List AV):Option AV:=if f9 cs=true then some (.func g cs) else none
def lG(P:Program)(f:AV)(args:List AV)(st:aA)(K:AV→aA→Prop):Prop:=match f with | .func g bX=>aD P g (args++bX) st K | _=>False
def oH(P:Program)(m:Bool)(t:TypeId)(x:AV)(st:aA)(K:AV→aA→Prop)(k:Option AV→Prop):Prop:=
 if m=true then x.bP=false∧∀b,st b=none→K (.ptr b 0) (st.aC b (.cells x.cells)) else k (n8 P t x)
def w4(zs:Option (List AV))(st:aA)(K:AV→aA→Prop):Prop:=match zs with | some zs=>∀b,st b=none→K (.ptr b 0) (st.aC b (.cells zs)) | none=>False
def yT(P:Program)(t:TypeId)(p x:AV)(st:aA)(K:AV→aA→Prop):Prop:=
 match p with
 | .ptr b q=>match st b,tI P t with
  | some (.cells cs),some (_,sz)=>x.cells.length=sz∧q+sz≤cs.length∧x.cells.all AV.storable=true∧K .undef (st.aC b (.cells (aF cs q x.cells)))
  | _,_=>False
 | _=>False
theorem MG{x:Operand}:aM P mt ops (⟨dst,.move x,type,pos,after,none⟩::rest) K φ st=aM P mt ops rest K (φ.put dst (φ.eval x)) st:=rfl
theorem IX{x:Operand}:aM P mt ops (⟨dst,.assign x,type,pos,after,none⟩::rest) K φ st=aM P mt ops rest K (φ.put dst (φ.eval x)) st:=rfl
theorem MP{c x y:Operand}:aM P mt ops (⟨dst,.pick c x y,type,pos,after,none⟩::rest) K φ st=fG P mt ops rest K φ dst st (v8 (φ.eval c) (φ.eval x) (φ.eval y)):=by
 rw[gO rfl fun _=>rfl]
 simp only[gD]
 cases φ.eval c<;>rfl
theorem IZ{op:BinOp}{t t':TypeId}{x y:Operand}:aM P mt ops (⟨dst,.binOp op t x y t',type,pos,after,none⟩::rest) K φ st=fG P mt ops rest K φ dst st (cI P op t (φ.eval x) (φ.eval y)):=gO rfl fun _=>rfl
theorem PR{op:UnOp}{t:TypeId}{x:Operand}:aM P mt ops (⟨dst,.unOp op t x,type,pos,after,none⟩::rest) K φ st=fG P mt ops rest K φ dst st (tZ op (φ.eval x)):=gO rfl fun _=>rfl
theorem ML{x:Operand}:aM P mt ops (⟨dst,.nilCheck x,type,pos,after,none⟩::rest) K φ st=fG P mt ops rest K φ dst st (qX (φ.eval x)):=by
 rw[gO rfl fun _=>rfl]
 try rfl
theorem KD{t f:Nat}{x:Operand}:aM P mt ops (⟨dst,.fieldAddr t x f,type,pos,after,none⟩::rest) K φ st=fG P mt ops rest K φ dst st (mU P t f (φ.eval x)):=gO rfl fun _=>rfl
theorem L0{t:TypeId}{x:Operand}:aM P mt ops (⟨dst,.load t x,type,pos,after,none⟩::rest) K φ st=fG P mt ops rest K φ dst st (d6 P st t (φ.eval x)):=gO rfl fun _=>rfl
theorem KC{t f:Nat}{x:Operand}:aM P mt ops (⟨dst,.field t x f,type,pos,after,none⟩::rest) K φ st=fG P mt ops rest K φ dst st (wB P t f (φ.eval x)):=by
 rw[gO rfl fun _=>rfl]
 try rfl
theorem LO{t:TypeId}{x i:Operand}:aM P mt ops (⟨dst,.indexAddr t x i,type,pos,after,none⟩::rest) K φ st=fG P mt ops rest K φ dst st (gZ P t (φ.eval x) (φ.eval i)):=gO rfl fun _=>rfl
theorem LN{t:TypeId}{x i:Operand}:aM P mt ops (⟨dst,.index t x i,type,pos,after,none⟩::rest) K φ st=fG P mt ops rest K φ dst st (rG P t (φ.eval x) (φ.eval i)):=gO rfl fun _=>rfl
theorem OB{t:TypeId}{x:Operand}{lo hi mx:Option Operand}:aM P mt ops (⟨dst,.slice t x lo hi mx,type,pos,after,none⟩::rest) K φ st=fG P mt ops rest K φ dst st (i8 P φ t (φ.eval x) lo hi mx):=gO rfl fun _=>rfl
theorem KA{x:Operand}{i:Nat}:aM P mt ops (⟨dst,.extract x i,type,pos,after,none⟩::rest) K φ st=fG P mt ops rest K φ dst st (wA (φ.eval x) i):=by
 rw[gO rfl fun _=>rfl]
 try rfl
theorem L8{g:FuncId}{bX:Array Operand}:aM P mt ops (⟨dst,.makeFunc (.func g) #[] bX,type,pos,after,none⟩::rest) K φ st=fG P mt ops rest K φ dst st (wU g (bX.toList.map φ.eval)):=by
 rw[gO rfl fun _=>rfl]
 congr 1
 simp [gD,wU]
theorem I8{t:TypeId}{ps:Array (Nat×Operand)}:aM P mt ops (⟨dst,.build t ps,type,pos,after,none⟩::rest) K φ st=fG P mt ops rest K φ dst st (qW P φ t ps):=gO rfl fun _=>rfl
theorem I9{t:TypeId}{n:Nat}{ps:Array (Nat×Operand)}:aM P mt ops (⟨dst,.buildSlice t n ps,type,pos,after,none⟩::rest) K φ st=fG P mt ops rest K φ dst st (qV P φ t n ps):=gO rfl fun _=>rfl
theorem J4{t u:TypeId}{x:Operand}:aM P mt ops (⟨dst,.convert t u x,type,pos,after,none⟩::rest) K φ st=fG P mt ops rest K φ dst st (l8 P t u (φ.eval x)):=gO rfl fun _=>rfl
theorem L2{t:TypeId}{x i:Operand}{ok:Bool}:aM P mt ops (⟨dst,.lookup t x i ok,type,pos,after,none⟩::rest) K φ st=fG P mt ops rest K φ dst st (mA P st t ok (φ.eval x) (φ.eval i)):=gO rfl fun _=>rfl
theorem LT{x:Operand}{t:TypeId}:aM P mt ops (⟨dst,.call { callee:=.builtin .len,args:=#[x],argTypes:=#[t] },type,pos,after,none⟩::rest) K φ st=fG P mt ops rest K φ dst st (l9 P t (φ.eval x)):=gO rfl fun _=>rfl
theorem JH{f:Operand}{args:List Operand}{ats:Array TypeId}:aM P mt ops (⟨dst,.call { callee:=.value f,args:=args.toArray,argTypes:=ats },type,pos,after,none⟩::rest) K φ st=lG P (φ.eval f) (args.map φ.eval) st (jG P mt ops rest K φ dst):=rfl
theorem MC{x y:Operand}{ts:Array TypeId}:aM P mt ops (⟨dst,.call { callee:=.builtin .max,args:=#[x,y],argTypes:=ts },type,pos,after,none⟩::rest) K φ st=fG P mt ops rest K φ dst st (rH (φ.eval x) (φ.eval y)):=gO rfl fun _=>rfl
theorem ME{x y:Operand}{ts:Array TypeId}:aM P mt ops (⟨dst,.call { callee:=.builtin .min,args:=#[x,y],argTypes:=ts },type,pos,after,none⟩::rest) K φ st=fG P mt ops rest K φ dst st (rI (φ.eval x) (φ.eval y)):=gO rfl fun _=>rfl
theorem H2{s x:Operand}{t t':TypeId}:aM P mt ops (⟨dst,.call { callee:=.builtin .append,args:=#[s,x],argTypes:=#[t,t'] },type,pos,after,none⟩::rest) K φ st=(if t=t' then iL P t st (φ.eval s) (φ.eval x) (jG P mt ops rest K φ dst) else pN P t t' st (φ.eval s) (φ.eval x) (jG P mt ops rest K φ dst)):=rfl
theorem J2{x:Operand}{t:TypeId}:aM P mt ops (⟨dst,.call { callee:=.builtin .clear,args:=#[x],argTypes:=#[t] },type,pos,after,none⟩::rest) K φ st=nA P t st (φ.eval x) (jG P mt ops rest K φ dst):=rfl
theorem J5{m k:Operand}{t t':TypeId}:aM P mt ops (⟨dst,.call { callee:=.builtin .delete,args:=#[m,k],argTypes:=#[t,t'] },type,pos,after,none⟩::rest) K φ st=tV P t st (φ.eval m) (φ.eval k) (jG P mt ops rest K φ dst):=rfl
theorem I5{t:TypeId}{x:Operand}:aM P mt ops (⟨dst,.box t x,type,pos,after,none⟩::rest) K φ st=oH P (qY mt dst) t (φ.eval x) st (jG P mt ops rest K φ dst) (fG P mt ops rest K φ dst st):=by
 simp only[aM,eF,cW,oH,jG]
 split
 · rfl
 · cases n8 P t (φ.eval x)<;>rfl
theorem HZ{t:TypeId}:aM P mt ops (⟨dst,.alloc t,type,pos,after,none⟩::rest) K φ st=w4 (zI P t) st (jG P mt ops rest K φ dst):=rfl
theorem O2{t:TypeId}{p x:Operand}:aM P mt ops (⟨dst,.store t p x,type,pos,after,none⟩::rest) K φ st=yT P t (φ.eval p) (φ.eval x) st (jG P mt ops rest K φ dst):=rfl
theorem L9{t:TypeId}:aM P mt ops (⟨dst,.makeMap t none,type,pos,after,none⟩::rest) K φ st=∀b,st b=none→jG P mt ops rest K φ dst (.map b) (st.aC b (.map fun _=>none)):=rfl
theorem MA{t:TypeId}{n c:Operand}:aM P mt ops (⟨dst,.makeSlice t n c,type,pos,after,none⟩::rest) K φ st=tW P t st (φ.eval n) (φ.eval c) (jG P mt ops rest K φ dst):=rfl
theorem MB{t:TypeId}{m k x:Operand}:aM P mt ops (⟨dst,.mapUpdate t m k x,type,pos,after,none⟩::rest) K φ st=tX P t st (φ.eval m) (φ.eval k) (φ.eval x) (jG P mt ops rest K φ dst):=rfl
theorem PP{t:Tmp}:φ.eval (.tmp t)=φ t:=rfl
theorem JC{k:IntKind}{n:Int}:φ.eval (.const (.int k n))=.int k n:=rfl
theorem JA{b:Bool}:φ.eval (.const (.bool b))=.bool b:=rfl
theorem JE:φ.eval (.const (.slice none 0 0))=.fslice []:=rfl
theorem JF:φ.eval (.const (.pointer none))=.nilptr:=rfl
theorem JD:φ.eval (.const (.map none))=.nilmap:=rfl
theorem JB{g:FuncId}:φ.eval (.func g)=.func g []:=rfl
theorem JG{l:List UInt8}:φ.eval (.const (.string ⟨l.toArray⟩))=if l.length≤9223372036854775807 then .str ⟨l.toArray⟩ else .junk:=by
 simp [AF.eval,ofConst,ByteArray.size,maxLen]
theorem PS{d e:Nat}{v:AV}:(φ.aC d v) e=if e=d then v else φ e:=rfl
theorem M7{d:Nat}{v:AV}:φ.put (some d) v=φ.aC d v:=rfl
theorem M8{v:AV}:φ.put none v=φ:=rfl
theorem H4{i:Nat}:mC i []=AF.bot:=rfl
theorem H3{i:Nat}{a:AV}{as:List AV}:mC i (a::as)=(mC (i+1) as).aC i a:=rfl
theorem HA{P:Program}{t:TypeId}{k:IntKind}{a b:Int}:cI P .add t (.int k a) (.int k b)=some (.int k (k.wrap (a+b))):=by simp [cI,fO]
theorem O7{P:Program}{t:TypeId}{k:IntKind}{a b:Int}:cI P .sub t (.int k a) (.int k b)=some (.int k (k.wrap (a - b))):=by simp [cI,fO]
theorem MH{P:Program}{t:TypeId}{k:IntKind}{a b:Int}:cI P .mul t (.int k a) (.int k b)=some (.int k (k.wrap (a*b))):=by simp [cI,fO]
theorem M9{P:Program}{t:TypeId}{k:IntKind}{a b:Int}:cI P .quo t (.int k a) (.int k b)=if b=0 then none else some (.int k (k.wrap (a.tdiv b))):=by simp [cI,fO]
theorem ND{P:Program}{t:TypeId}{k:IntKind}{a b:Int}:cI P .rem t (.int k a) (.int k b)=if b=0 then none else some (.int k (a.tmod b)):=by simp [cI,fO]
theorem J8{P:Program}{t:TypeId}{k:IntKind}{a b:Int}:cI P .eql t (.int k a) (.int k b)=some (.bool (decide (a=b))):=by simp [cI,fO]
theorem MJ{P:Program}{t:TypeId}{k:IntKind}{a b:Int}:cI P .neq t (.int k a) (.int k b)=some (.bool (!decide (a=b))):=by simp [cI,fO]
theorem L7{P:Program}{t:TypeId}{k:IntKind}{a b:Int}:cI P .lss t (.int k a) (.int k b)=some (.bool (decide (a<b))):=by simp [cI,fO]
theorem LZ{P:Program}{t:TypeId}{k:IntKind}{a b:Int}:cI P .leq t (.int k a) (.int k b)=some (.bool (decide (a≤b))):=by simp [cI,fO]
theorem KK{P:Program}{t:TypeId}{k:IntKind}{a b:Int}:cI P .gtr t (.int k a) (.int k b)=some (.bool (decide (b<a))):=by simp [cI,fO]
theorem KJ{P:Program}{t:TypeId}{k:IntKind}{a b:Int}:cI P .geq t (.int k a) (.int k b)=some (.bool (decide (b≤a))):=by simp [cI,fO]
theorem QB{P:Program}{t:TypeId}{k:IntKind}{a b:Int}:cI P .xor t (.int k a) (.int k b)=some (.int k (t6 k a b)):=by simp [cI,fO]
theorem H1{P:Program}{t:TypeId}{k:IntKind}{a b:Int}:cI P .and t (.int k a) (.int k b)=some (.int k (AI k a b)):=by simp [cI,fO]
theorem MO{P:Program}{t:TypeId}{k:IntKind}{a b:Int}:cI P .or t (.int k a) (.int k b)=some (.int k (AQ k a b)):=by simp [cI,fO]
theorem MD{k:IntKind}{a b:Int}:rH (.int k a) (.int k b)=some (.int k (if a<b then b else a)):=by simp [rH]
theorem MF{k:IntKind}{a b:Int}:rI (.int k a) (.int k b)=some (.int k (if b<a then b else a)):=by simp [rI]
theorem N8{P:Program}{t:TypeId}{a b:ByteArray}:cI P .eql t (.str a) (.str b)=some (.bool (decide (a=b))):=by simp [cI,fO]
theorem OD{P:Program}{t:TypeId}{a b:ByteArray}:cI P .neq t (.str a) (.str b)=some (.bool (!decide (a=b))):=by simp [cI,fO]
theorem NR{P:Program}{t:TypeId}{a b:ByteArray}:cI P .add t (.str a) (.str b)=if a.size+b.size≤maxLen then some (.str (a++b)) else none:=by simp [cI,fO]
theorem OC{P:Program}{t:TypeId}{a b:ByteArray}:cI P .lss t (.str a) (.str b)=some (.bool (Op.bytesLess a.toList b.toList)):=by simp [cI,fO]
theorem N9{P:Program}{t:TypeId}{a b:ByteArray}:cI P .gtr t (.str a) (.str b)=some (.bool (!(Op.bytesLess a.toList b.toList||decide (a=b)))):=by simp [cI,fO]
theorem IY{P:Program}{t:TypeId}{a b:Bool}(h:P.underlying t=some .bool):cI P .eql t (.bool a) (.bool b)=some (.bool (a == b)):=by simp [cI,h]
theorem I4{P:Program}{t:TypeId}{a b:Bool}(h:P.underlying t=some .bool):cI P .neq t (.bool a) (.bool b)=some (.bool (!(a == b))):=by simp [cI,h]
theorem MM{b:Bool}:tZ .not (.bool b)=some (.bool (!b)):=rfl
theorem MI{k:IntKind}{n:Int}:tZ .neg (.int k n)=some (.int k (k.wrap (0 - n))):=rfl
end
end
@[congr] theorem aHF {P:Program} {N:Nat} {mt:List Nat} {c:Code} {Q:Exit→AF→aA→Prop} {φ φ':AF} {st st':aA} (h1:φ=φ') (h2:st=st'):dD P N mt c Q φ st=dD P N mt c Q φ' st':=by rw[h1,h2]
@[congr] theorem aHH {P:Program} {mt:List Nat} {ops:Array Oper} {l:List Oper} {K:AF→aA→Prop} {φ φ':AF} {st st':aA} (h1:φ=φ') (h2:st=st'):aM P mt ops l K φ st=aM P mt ops l K φ' st':=by rw[h1,h2]
@[congr] theorem aHT {P:Program} {mt:List Nat} {ops:Array Oper} {l:List Oper} {K:AF→aA→Prop} {φ:AF} {st:aA} {dst:Option Tmp} {x x':Option AV} (h1:x=x'):fG P mt ops l K φ dst st x=fG P mt ops l K φ dst st x':=by rw[h1]
@[congr] theorem aHS {P:Program} {mt:List Nat} {ops:Array Oper} {o:Oper} {l:List Oper} {K:AF→aA→Prop} {φ:AF} {st:aA} {x x':Option Bool} (h1:x=x'):n3 P mt ops o l K φ st x=n3 P mt ops o l K φ st x':=by rw[h1]
@[congr] theorem aHR {P:Program} {mt:List Nat} {ops:Array Oper} {l:List Oper} {K:AF→aA→Prop} {φ:AF} {dst:Option Tmp} {r r':AV} {st st':aA} (h1:r=r') (h2:st=st'):jG P mt ops l K φ dst r st=jG P mt ops l K φ dst r' st':=by rw[h1,h2]
@[congr] theorem aHG {c c':AV} {k₁ k₂:AF→aA→Prop} {φ:AF} {st:aA} (h1:c=c'):nB c k₁ k₂ φ st=nB c' k₁ k₂ φ st:=by rw[h1]
@[congr] theorem aHC {P:Program} {N:Nat} {c:Code} {Q:Exit→AF→aA→Prop} {φ φ':AF} {st st':aA} (h1:φ=φ') (h2:st=st'):dT P N c Q φ st=dT P N c Q φ' st':=by rw[h1,h2]
@[congr] theorem aHB {P:Program} {g:FuncId} {args lF:List AV} {st st':aA} {K:AV→aA→Prop} (h1:args=lF) (h2:st=st'):aD P g args st K=aD P g lF st' K:=by rw[h1,h2]
@[congr] theorem aHO {P:Program} {f f':AV} {args lF:List AV} {st st':aA} {K:AV→aA→Prop} (h0:f=f') (h1:args=lF) (h2:st=st'):lG P f args st K=lG P f' lF st' K:=by rw[h0,h1,h2]
@[congr] theorem aHM {P:Program} {m m':Bool} {t:TypeId} {x x':AV} {st st':aA} {K:AV→aA→Prop} {k:Option AV→Prop} (h0:m=m') (h1:x=x') (h2:st=st'):oH P m t x st K k=oH P m' t x' st' K k:=by rw[h0,h1,h2]
@[congr] theorem aHL {zs zs':Option (List AV)} {st st':aA} {K:AV→aA→Prop} (h1:zs=zs') (h2:st=st'):w4 zs st K=w4 zs' st' K:=by rw[h1,h2]
@[congr] theorem aHX {P:Program} {t:TypeId} {p p' x x':AV} {st st':aA} {K:AV→aA→Prop} (h0:p=p') (h1:x=x') (h2:st=st'):yT P t p x st K=yT P t p' x' st' K:=by rw[h0,h1,h2]
@[congr] theorem aHE {P:Program} {t:TypeId} {x x':AV} {st st':aA} {K:AV→aA→Prop} (h1:x=x') (h2:st=st'):nA P t st x K=nA P t st' x' K:=by rw[h1,h2]
@[congr] theorem aHD {P:Program} {t:TypeId} {s s' x x':AV} {st st':aA} {K:AV→aA→Prop} (h0:s=s') (h1:x=x') (h2:st=st'):iL P t st s x K=iL P t st' s' x' K:=by rw[h0,h1,h2]
theorem JI{P:Program}{g:FuncId}{bX args:List AV}{st:aA}{K:AV→aA→Prop}:lG P (.func g bX) args st K=aD P g (args++bX) st K:=rfl
theorem I6{P:Program}{t:TypeId}{x:AV}{st:aA}{K:AV→aA→Prop}{k:Option AV→Prop}:oH P false t x st K k=k (n8 P t x):=by simp [oH]
theorem I7{P:Program}{t:TypeId}{x:AV}{st:aA}{K:AV→aA→Prop}{k:Option AV→Prop}:oH P true t x st K k=(x.bP=false∧∀b,st b=none→K (.ptr b 0) (st.aC b (.cells x.cells))):=by simp [oH]
theorem H0{zs:List AV}{st:aA}{K:AV→aA→Prop}:w4 (some zs) st K=∀b,st b=none→K (.ptr b 0) (st.aC b (.cells zs)):=rfl
theorem O3{P:Program}{t:TypeId}{b q:Nat}{x:AV}{st:aA}{K:AV→aA→Prop}:yT P t (.ptr b q) x st K=match st b,tI P t with
 | some (.cells cs),some (_,sz)=>x.cells.length=sz∧q+sz≤cs.length∧x.cells.all AV.storable=true∧K .undef (st.aC b (.cells (aF cs q x.cells)))
 | _,_=>False:=rfl
def eU:Op→Bool
 | .alloc _=>true
 | _=>false
def eL:Op→Bool
 | .store _ _ _=>true
 | _=>false
def zK(P:Program)(mt:List Nat)(ops:Array Oper)(rest:List Oper)(K:AF→aA→Prop)(φ:AF)(st:aA):Prop:=dE P mt ops rest K φ st
def zF(P:Program)(mt:List Nat)(ops:Array Oper)(rest:List Oper)(K:AF→aA→Prop)(φ:AF)(d:Nat)(st:aA)(r:AV):Prop:=dE P mt ops rest K (φ.aC d r) st
def nR(x:AV)(K:AV→Prop):Option (List AV)→Option (Bool×Nat)→Prop
 | some zs,some (_,sz)=>zs.length=sz∧x.width=sz∧x.cells.all AV.storable=true∧x.bP=false∧K (.pptr x)
 | _,_=>False
def zM(P:Program)(mt:List Nat)(ops:Array Oper)(o:Oper)(s:Oper)(rest:List Oper)(K:AF→aA→Prop)(φ:AF)(st:aA)(d:Nat)(t:TypeId)(x:AV):Bool→Prop
 | true=>aM P mt ops [o] (zK P mt ops (s::rest) K) φ st
 | false=>nR x (zF P mt ops rest K φ d st) (zI P t) (tI P t)
section
variable {P:Program} {mt:List Nat} {ops:Array Oper} {rest:List Oper} {K:AF→aA→Prop} {φ:AF} {st:aA} {dst r5:Option Tmp} {type mS:TypeId} {pos pos':String} {after mB:Array Edge} {g g':Option (Nat×Bool)} {op op':Op}
theorem xS:zK P mt ops rest K φ st=dE P mt ops rest K φ st:=rfl
theorem QC{d:Nat}{r:AV}:zF P mt ops rest K φ d st r=dE P mt ops rest K (φ.aC d r) st:=rfl
theorem G5:dE P mt ops [] K φ st=K φ st:=by rw[dE]
theorem xQ(h:eU op=false):dE P mt ops (⟨dst,op,type,pos,after,g⟩::rest) K φ st=aM P mt ops [⟨dst,op,type,pos,after,g⟩] (zK P mt ops rest K) φ st:=by
 rw[dE]
 · rfl
 · intro d t ty ps af t' d' x ty' ps' af' r e1 e2
   cases e1
   cases h
 · intro d t ty ps af e y ty2 ps2 af2 t' d' x ty' ps' af' r e1 e2
   cases e1
   cases h
theorem xR{t:TypeId}{x:AV}{k:AV→Prop}:rF P t x k=nR x k (zI P t) (tI P t):=by
 unfold rF nR
 simp only[uJ]
 cases zI P t<;>cases tI P t<;>rfl
theorem KI{x:AV}{k:AV→Prop}{zs:List AV}{ag:Bool}{sz:Nat}:nR x k (some zs) (some (ag,sz))=(zs.length=sz∧x.width=sz∧x.cells.all AV.storable=true∧x.bP=false∧k (.pptr x)):=rfl
theorem ZX{d:Nat}{t:TypeId}{x:Operand}:dE P mt ops (⟨some d,.alloc t,type,pos,after,none⟩::⟨none,.store t (.tmp d) x,mS,pos',mB,none⟩::rest) K φ st =
 zM P mt ops ⟨some d,.alloc t,type,pos,after,none⟩ ⟨none,.store t (.tmp d) x,mS,pos',mB,none⟩ rest K φ st d t (φ.eval x) (mt.contains d||jS x d):=by
 rw[dE]
 cases h:(mt.contains d||jS x d) with
 | true=>
  rw[aS (by simp)]
  show _=aM P mt ops _ (fun φ' st'=>zK P mt ops _ K φ' st') φ st
  simp only[xS,xQ (K:=K) (rest:=rest) (op:=.store t (.tmp d) x) rfl]
  rfl
 | false=>
  rw[aU ⟨rfl,rfl,rfl⟩,xR]
  try rfl
theorem QG{o s:Oper}{d:Nat}{t:TypeId}{x:AV}:zM P mt ops o s rest K φ st d t x true=aM P mt ops [o] (zK P mt ops (s::rest) K) φ st:=rfl
theorem QF{o s:Oper}{d:Nat}{t:TypeId}{x:AV}:zM P mt ops o s rest K φ st d t x false=nR x (zF P mt ops rest K φ d st) (zI P t) (tI P t):=rfl
def v7(P:Program)(mt:List Nat)(ops:Array Oper)(o:Oper)(os:List Oper)(rest:List Oper)(K:AF→aA→Prop)(φ φ':AF)(st:aA)(d:Nat)(t:TypeId)(x:AV):Bool→Prop
 | true=>aM P mt ops [o] (zK P mt ops (os++rest) K) φ st
 | false=>nR x (zF P mt ops rest K φ' d st) (zI P t) (tI P t)
theorem QD{o:Oper}{os:List Oper}{φ':AF}{d:Nat}{t:TypeId}{x:AV}:v7 P mt ops o os rest K φ φ' st d t x false=nR x (zF P mt ops rest K φ' d st) (zI P t) (tI P t):=rfl
theorem QE{o:Oper}{os:List Oper}{φ':AF}{d:Nat}{t:TypeId}{x:AV}:v7 P mt ops o os rest K φ φ' st d t x true=aM P mt ops [o] (zK P mt ops (os++rest) K) φ st:=rfl
theorem ZY{d e:Nat}{t:TypeId}{x y:Operand}{type2:TypeId}{n5:String}{t8:Array Edge}:dE P mt ops (⟨some d,.alloc t,type,pos,after,none⟩::⟨some e,.assign y,type2,n5,t8,none⟩::⟨none,.store t (.tmp d) x,mS,pos',mB,none⟩::rest) K φ st =
 v7 P mt ops ⟨some d,.alloc t,type,pos,after,none⟩ [⟨some e,.assign y,type2,n5,t8,none⟩,⟨none,.store t (.tmp d) x,mS,pos',mB,none⟩] rest K φ (φ.aC e (φ.eval y)) st d t ((φ.aC e (φ.eval y)).eval x) (mt.contains d||jS x d||jS y d||d == e):=by
 rw[dE]
 cases h:(mt.contains d||jS x d||jS y d||d == e) with
 | true=>
  rw[aS (by simp)]
  show _=aM P mt ops _ (fun φ' st'=>zK P mt ops _ K φ' st') φ st
  simp only[xS,dM,dB,xQ (K:=K) (op:=.assign y) rfl]
  rfl
 | false=>
  rw[aU ⟨rfl,rfl,rfl⟩,xR]
  try rfl
def fE:Op→Bool
 | .assign _=>true
 | _=>false
theorem G6{t:TypeId}(h:eL op'=false)(h2:fE op'=false):dE P mt ops (⟨dst,.alloc t,type,pos,after,g⟩::⟨r5,op',mS,pos',mB,g'⟩::rest) K φ st=aM P mt ops [⟨dst,.alloc t,type,pos,after,g⟩] (zK P mt ops (⟨r5,op',mS,pos',mB,g'⟩::rest) K) φ st:=by
 rw[dE]
 · rfl
 · intro d t ty ps af t' d' x ty' ps' af' r e1 e2
   cases e2
   cases h
 · intro d t ty ps af e y ty2 ps2 af2 t' d' x ty' ps' af' r e1 e2
   cases e2
   cases h2
theorem G7{t:TypeId}:dE P mt ops [⟨dst,.alloc t,type,pos,after,g⟩] K φ st=aM P mt ops [⟨dst,.alloc t,type,pos,after,g⟩] (zK P mt ops [] K) φ st:=by
 rw[dE]
 · rfl
 · intro d t ty ps af t' d' x ty' ps' af' r e1 e2
   cases e2
 · intro d t ty ps af e y ty2 ps2 af2 t' d' x ty' ps' af' r e1 e2
   cases e2
theorem G8{t:TypeId}{y:Operand}:dE P mt ops [⟨dst,.alloc t,type,pos,after,g⟩,⟨r5,.assign y,mS,pos',mB,g'⟩] K φ st=aM P mt ops [⟨dst,.alloc t,type,pos,after,g⟩] (zK P mt ops [⟨r5,.assign y,mS,pos',mB,g'⟩] K) φ st:=by
 rw[dE]
 · rfl
 · intro d t ty ps af t' d' x ty' ps' af' r e1 e2
   cases e2
 · intro d t ty ps af e y ty2 ps2 af2 t' d' x ty' ps' af' r e1 e2
   cases e2
theorem G9{t:TypeId}{y:Operand}{F4:Option Tmp}{op2:Op}{type2:TypeId}{n5:String}{t8:Array Edge}{g2:Option (Nat×Bool)}(h:eL op2=false):dE P mt ops (⟨dst,.alloc t,type,pos,after,g⟩::⟨r5,.assign y,mS,pos',mB,g'⟩::⟨F4,op2,type2,n5,t8,g2⟩::rest) K φ st=aM P mt ops [⟨dst,.alloc t,type,pos,after,g⟩] (zK P mt ops (⟨r5,.assign y,mS,pos',mB,g'⟩::⟨F4,op2,type2,n5,t8,g2⟩::rest) K) φ st:=by
 rw[dE]
 · rfl
 · intro d t ty ps af t' d' x ty' ps' af' r e1 e2
   cases e2
 · intro d t ty ps af e y ty2 ps2 af2 t' d' x ty' ps' af' r e1 e2
   cases e2
   cases h
theorem LQ{d e:Nat}:jS (.tmp e) d=(e == d):=rfl
theorem LP{v:Value}{d:Nat}:jS (.const v) d=false:=rfl
theorem HT{x:Operand}:eU (.move x)=false:=rfl
theorem OX{x:Operand}:eL (.move x)=false:=rfl
theorem HB{x:Operand}:eU (.assign x)=false:=rfl
theorem OF{x:Operand}:eL (.assign x)=false:=rfl
theorem HV{c x y:Operand}:eU (.pick c x y)=false:=rfl
theorem OZ{c x y:Operand}:eL (.pick c x y)=false:=rfl
theorem HC{op:BinOp}{t:TypeId}{x y:Operand}{t':TypeId}:eU (.binOp op t x y t')=false:=rfl
theorem OG{op:BinOp}{t:TypeId}{x y:Operand}{t':TypeId}:eL (.binOp op t x y t')=false:=rfl
theorem HY{op:UnOp}{t:TypeId}{x:Operand}:eU (.unOp op t x)=false:=rfl
theorem O1{op:UnOp}{t:TypeId}{x:Operand}:eL (.unOp op t x)=false:=rfl
theorem HU{x:Operand}:eU (.nilCheck x)=false:=rfl
theorem OY{x:Operand}:eL (.nilCheck x)=false:=rfl
theorem HK{t f:Nat}{x:Operand}:eU (.fieldAddr t x f)=false:=rfl
theorem OO{t f:Nat}{x:Operand}:eL (.fieldAddr t x f)=false:=rfl
theorem HN{t:TypeId}{x:Operand}:eU (.load t x)=false:=rfl
theorem OR{t:TypeId}{x:Operand}:eL (.load t x)=false:=rfl
theorem HX{t:TypeId}{p x:Operand}:eU (.store t p x)=false:=rfl
theorem HJ{t f:Nat}{x:Operand}:eU (.field t x f)=false:=rfl
theorem ON{t f:Nat}{x:Operand}:eL (.field t x f)=false:=rfl
theorem HM{t:TypeId}{x i:Operand}:eU (.indexAddr t x i)=false:=rfl
theorem OQ{t:TypeId}{x i:Operand}:eL (.indexAddr t x i)=false:=rfl
theorem HL{t:TypeId}{x i:Operand}:eU (.index t x i)=false:=rfl
theorem OP{t:TypeId}{x i:Operand}:eL (.index t x i)=false:=rfl
theorem HW{t:TypeId}{x:Operand}{lo hi mx:Option Operand}:eU (.slice t x lo hi mx)=false:=rfl
theorem O0{t:TypeId}{x:Operand}{lo hi mx:Option Operand}:eL (.slice t x lo hi mx)=false:=rfl
theorem HI{x:Operand}{i:Nat}:eU (.extract x i)=false:=rfl
theorem OM{x:Operand}{i:Nat}:eL (.extract x i)=false:=rfl
theorem HE{t:TypeId}{ps:Array (Nat×Operand)}:eU (.build t ps)=false:=rfl
theorem OI{t:TypeId}{ps:Array (Nat×Operand)}:eL (.build t ps)=false:=rfl
theorem HF{t:TypeId}{n:Nat}{ps:Array (Nat×Operand)}:eU (.buildSlice t n ps)=false:=rfl
theorem OJ{t:TypeId}{n:Nat}{ps:Array (Nat×Operand)}:eL (.buildSlice t n ps)=false:=rfl
theorem HH{t u:TypeId}{x:Operand}:eU (.convert t u x)=false:=rfl
theorem OL{t u:TypeId}{x:Operand}:eL (.convert t u x)=false:=rfl
theorem HO{t:TypeId}{x i:Operand}{ok:Bool}:eU (.lookup t x i ok)=false:=rfl
theorem OS{t:TypeId}{x i:Operand}{ok:Bool}:eL (.lookup t x i ok)=false:=rfl
theorem HG{c:_}:eU (.call c)=false:=rfl
theorem OK{c:_}:eL (.call c)=false:=rfl
theorem HD{t:TypeId}{x:Operand}:eU (.box t x)=false:=rfl
theorem OH{t:TypeId}{x:Operand}:eL (.box t x)=false:=rfl
theorem HQ{t:_}{x:_}:eU (.makeMap t x)=false:=rfl
theorem OU{t:_}{x:_}:eL (.makeMap t x)=false:=rfl
theorem HR{t:TypeId}{n c:Operand}:eU (.makeSlice t n c)=false:=rfl
theorem OV{t:TypeId}{n c:Operand}:eL (.makeSlice t n c)=false:=rfl
theorem HS{t:TypeId}{m k x:Operand}:eU (.mapUpdate t m k x)=false:=rfl
theorem OW{t:TypeId}{m k x:Operand}:eL (.mapUpdate t m k x)=false:=rfl
theorem HP{f:_}{a:_}{b:_}:eU (.makeFunc f a b)=false:=rfl
theorem OT{f:_}{a:_}{b:_}:eL (.makeFunc f a b)=false:=rfl
theorem OE{t:TypeId}:eL (.alloc t)=false:=rfl
theorem IR{x:Operand}:fE (.move x)=false:=rfl
theorem IU{c x y:Operand}:fE (.pick c x y)=false:=rfl
theorem H6{op:BinOp}{t:TypeId}{x y:Operand}{t':TypeId}:fE (.binOp op t x y t')=false:=rfl
theorem IW{op:UnOp}{t:TypeId}{x:Operand}:fE (.unOp op t x)=false:=rfl
theorem IT{x:Operand}:fE (.nilCheck x)=false:=rfl
theorem IF{t f:Nat}{x:Operand}:fE (.fieldAddr t x f)=false:=rfl
theorem IK{t:TypeId}{x:Operand}:fE (.load t x)=false:=rfl
theorem IE{t f:Nat}{x:Operand}:fE (.field t x f)=false:=rfl
theorem IJ{t:TypeId}{x i:Operand}:fE (.indexAddr t x i)=false:=rfl
theorem II{t:TypeId}{x i:Operand}:fE (.index t x i)=false:=rfl
theorem IV{t:TypeId}{x:Operand}{lo hi mx:Option Operand}:fE (.slice t x lo hi mx)=false:=rfl
theorem ID{x:Operand}{i:Nat}:fE (.extract x i)=false:=rfl
theorem H8{t:TypeId}{ps:Array (Nat×Operand)}:fE (.build t ps)=false:=rfl
theorem H9{t:TypeId}{n:Nat}{ps:Array (Nat×Operand)}:fE (.buildSlice t n ps)=false:=rfl
theorem IB{t u:TypeId}{x:Operand}:fE (.convert t u x)=false:=rfl
theorem IL{t:TypeId}{x i:Operand}{ok:Bool}:fE (.lookup t x i ok)=false:=rfl
theorem IA{c:_}:fE (.call c)=false:=rfl
theorem H7{t:TypeId}{x:Operand}:fE (.box t x)=false:=rfl
theorem IN{t:_}{x:_}:fE (.makeMap t x)=false:=rfl
theorem IP{t:TypeId}{n c:Operand}:fE (.makeSlice t n c)=false:=rfl
theorem IQ{t:TypeId}{m k x:Operand}:fE (.mapUpdate t m k x)=false:=rfl
theorem IM{f:_}{a:_}{b:_}:fE (.makeFunc f a b)=false:=rfl
theorem H5{t:TypeId}:fE (.alloc t)=false:=rfl
@[congr] theorem aHZ {o:Oper} {os:List Oper} {φ' φ2 φ2':AF} {st':aA} {d:Nat} {t:TypeId} {x x':AV} {b b':Bool} (h1:φ=φ') (h0:φ2=φ2') (h2:st=st') (h3:x=x') (h4:b=b'):v7 P mt ops o os rest K φ φ2 st d t x b=v7 P mt ops o os rest K φ' φ2' st' d t x' b':=by rw[h1,h0,h2,h3,h4]
@[congr] theorem aHP {x x':AV} {k:AV→Prop} {a a':Option (List AV)} {b b':Option (Bool×Nat)} (h0:x=x') (h1:a=a') (h2:b=b'):nR x k a b=nR x' k a' b':=by rw[h0,h1,h2]
@[congr] theorem aHY {o s:Oper} {φ':AF} {st':aA} {d:Nat} {t:TypeId} {x x':AV} {b b':Bool} (h1:φ=φ') (h2:st=st') (h3:x=x') (h4:b=b'):zM P mt ops o s rest K φ st d t x b=zM P mt ops o s rest K φ' st' d t x' b':=by rw[h1,h2,h3,h4]
@[congr] theorem aHW {l:List Oper} {Q:Exit→AF→aA→Prop} {φ':AF} {st':aA} {b b':Bool} (h1:φ=φ') (h2:st=st') (h3:b=b'):vH P mt l Q φ st b=vH P mt l Q φ' st' b':=by rw[h1,h2,h3]
end
end Go.AW
