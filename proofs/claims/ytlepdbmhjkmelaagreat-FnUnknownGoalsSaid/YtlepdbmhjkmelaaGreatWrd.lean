/- The rules by which the code is evaluated: equations for simp. -/
import Derived.Test.YtlepdbmhjkmelaaGreatWrc
set_option linter.unusedSimpArgs false
set_option linter.unusedVariables false
set_option maxRecDepth 100000
namespace Go.AW
section
variable {P:Program} {N:Nat} {mt:List Nat} {Q:Exit→AF→aA→Prop} {φ:AF} {st:aA} {x y:Code} {ops:Array Oper} {id:Nat}
theorem KZ:cX P N mt .skip Q φ st=Q .normal φ st:=rfl
theorem KV:cX P N mt (.seq x y) Q φ st=cX P N mt x (tC (cX P N mt y Q) Q) φ st:=rfl
def sW(P:Program)(mt:List Nat)(l:List Oper)(Q:Exit→AF→aA→Prop)(φ:AF)(st:aA):Bool→Prop
 | true=>cY P mt l.toArray l (Q .normal) φ st
 | false=>aJ P mt l.toArray l (Q .normal) φ st
theorem J0{l:List Oper}:cX P N mt (.region id l.toArray false) Q φ st=sW P mt l Q φ st (mt.contains 1000000):=by
 simp only[cX,fR,cU]
 cases mt.contains 1000000<;>rfl
theorem JZ{l:List Oper}:sW P mt l Q φ st true=cY P mt l.toArray l (Q .normal) φ st:=rfl
theorem JY{l:List Oper}:sW P mt l Q φ st false=aJ P mt l.toArray l (Q .normal) φ st:=rfl
theorem GU:cX P N mt (.region id ops true) Q φ st=dL P N (.region id ops true) Q φ st:=by simp [cX]
theorem GR{c:Operand}:cX P N mt (.cond c x y) Q φ st=lW (φ.eval c) (cX P N mt x Q) (cX P N mt y Q) φ st:=rfl
theorem FL:cX P N mt (.block id x) Q φ st=cX P N mt x (pY id Q) φ st:=rfl
theorem IR:cX P N mt (.loop x) Q φ st=dL P N (.loop x) Q φ st:=rfl
theorem GX:cX P N mt (.exit id) Q φ st=Q (.exit id) φ st:=rfl
theorem J2:cX P N mt .ret Q φ st=Q .ret φ st:=rfl
theorem MF{k₁ k₂:AF→aA→Prop}:lW (.bool true) k₁ k₂ φ st=k₁ φ st:=by simp [lW]
theorem GZ{k₁ k₂:AF→aA→Prop}:lW (.bool false) k₁ k₂ φ st=k₂ φ st:=by simp [lW]
theorem LY{k:AF→aA→Prop}:tC k Q .normal φ st=k φ st:=rfl
theorem LX{k:AF→aA→Prop}:tC k Q (.exit id) φ st=Q (.exit id) φ st:=rfl
theorem LZ{k:AF→aA→Prop}:tC k Q .ret φ st=Q .ret φ st:=rfl
theorem FN:pY id Q .normal φ st=Q .normal φ st:=rfl
theorem FM{i:Nat}:pY id Q (.exit i) φ st=if i=id then Q .normal φ st else Q (.exit i) φ st:=rfl
theorem FO:pY id Q .ret φ st=Q .ret φ st:=rfl
theorem IT{k:AF→aA→Prop}:iP k Q .normal φ st=k φ st:=rfl
theorem IS{k:AF→aA→Prop}:iP k Q (.exit id) φ st=Q (.exit id) φ st:=rfl
theorem IU{k:AF→aA→Prop}:iP k Q .ret φ st=Q .ret φ st:=rfl
def hC(P:Program)(rs:List ResultVar)(K:AV→aA→Prop)(φ:AF)(st:aA):Prop:=
 match i6 P φ st rs with
 | some xs=>tF K st xs
 | none=>False
theorem KE{rs:Array ResultVar}{K:AV→aA→Prop}:sX P rs K .ret φ st=hC P rs.toList K φ st:=rfl
theorem KD{rs:Array ResultVar}{K:AV→aA→Prop}:sX P rs K .normal φ st=hC P rs.toList K φ st:=rfl
theorem J4{t:Tmp}{K:AV→aA→Prop}:hC P [.tmp t] K φ st=K (φ t) st:=rfl
theorem J3{K:AV→aA→Prop}:hC P [] K φ st=K (.tup []) st:=by simp [hC,i6,tF,fQ]
theorem J5{t u:Tmp}{K:AV→aA→Prop}:hC P [.tmp t,.tmp u] K φ st=(fQ [φ t,φ u]=true∧K (.tup [φ t,φ u]) st):=rfl
theorem J6{t u v:Tmp}{K:AV→aA→Prop}:hC P [.tmp t,.tmp u,.tmp v] K φ st=(fQ [φ t,φ u,φ v]=true∧K (.tup [φ t,φ u,φ v]) st):=rfl
theorem J7{t u v w:Tmp}{K:AV→aA→Prop}:hC P [.tmp t,.tmp u,.tmp v,.tmp w] K φ st=(fQ [φ t,φ u,φ v,φ w]=true∧K (.tup [φ t,φ u,φ v,φ w]) st):=rfl
def vB(k:AV→Prop):Option AV→Prop
 | some r=>k r
 | none=>False
theorem J8{p:Tmp}{t:TypeId}{K:AV→aA→Prop}:hC P [.cell p t] K φ st=vB (fun r=>K r st) (dU P st t (φ p)):=by
 simp only[hC,i6,pR]
 cases dU P st t (φ p)<;>rfl
theorem J9{p u:Tmp}{t:TypeId}{K:AV→aA→Prop}:hC P [.cell p t,.tmp u] K φ st=vB (fun r=>fQ [r,φ u]=true∧K (.tup [r,φ u]) st) (dU P st t (φ p)):=by
 simp only[hC,i6,pR]
 cases dU P st t (φ p)<;>rfl
theorem KC{u p:Tmp}{t:TypeId}{K:AV→aA→Prop}:hC P [.tmp u,.cell p t] K φ st=vB (fun r=>fQ [φ u,r]=true∧K (.tup [φ u,r]) st) (dU P st t (φ p)):=by
 simp only[hC,i6,pR]
 cases dU P st t (φ p)<;>rfl
theorem JB{k:AV→Prop}{r:AV}:vB k (some r)=k r:=rfl
def eC(P:Program)(mt:List Nat)(ops:Array Oper)(rest:List Oper)(K:AF→aA→Prop)(φ:AF)(dst:Option Tmp)(st:aA):Option AV→Prop
 | some r=>aJ P mt ops rest K (φ.put dst r) st
 | none=>False
def iB(P:Program)(mt:List Nat)(ops:Array Oper)(rest:List Oper)(K:AF→aA→Prop)(φ:AF)(dst:Option Tmp)(r:AV)(st:aA):Prop:=aJ P mt ops rest K (φ.put dst r) st
def mK(P:Program)(mt:List Nat)(ops:Array Oper)(o:Oper)(rest:List Oper)(K:AF→aA→Prop)(φ:AF)(st:aA):Option Bool→Prop
 | some true=>aJ P mt ops ({ o with guard:=none }::rest) K φ st
 | some false=>aJ P mt ops rest K (φ.put o.dst .undef) st
 | none=>False
def gd(ops:Array Oper)(φ:AF)(j:Nat)(want:Bool):Option Bool:=
 match (ops[j]?).bind (·.dst) with
 | none=>some false
 | some d=>match φ d with
  | .bool b=>some (b == want)
  | .undef=>some false
  | _=>none
section
variable {rest:List Oper} {K:AF→aA→Prop} {dst:Option Tmp} {type:TypeId} {pos:String} {after:Array Edge}
theorem I8:aJ P mt ops [] K φ st=K φ st:=rfl
theorem G9{op:Op}{j:Nat}{want:Bool}:aJ P mt ops (⟨dst,op,type,pos,after,some (j,want)⟩::rest) K φ st=mK P mt ops ⟨dst,op,type,pos,after,some (j,want)⟩ rest K φ st (gd ops φ j want):=by
 simp only[aJ]
 have h1:eF ops φ ⟨dst,op,type,pos,after,some (j,want)⟩=gd ops φ j want:=rfl
 rw[h1]
 cases gd ops φ j want with
 | none=>rfl
 | some b=>cases b<;>simp [mK,aJ,eF,cK,fH]
theorem C1{r:AV}:iB P mt ops rest K φ dst r st=aJ P mt ops rest K (φ.put dst r) st:=rfl
theorem DS{r:AV}:eC P mt ops rest K φ dst st (some r)=aJ P mt ops rest K (φ.put dst r) st:=rfl
theorem C3{op:Op}{g:Option (Nat×Bool)}:mK P mt ops ⟨dst,op,type,pos,after,g⟩ rest K φ st (some true)=aJ P mt ops (⟨dst,op,type,pos,after,none⟩::rest) K φ st:=rfl
theorem C2{op:Op}{g:Option (Nat×Bool)}:mK P mt ops ⟨dst,op,type,pos,after,g⟩ rest K φ st (some false)=aJ P mt ops rest K (φ.put dst .undef) st:=rfl
theorem fO{o:Oper}(hg:o.guard=none)(e:∀K',cK P mt φ st o K'=match fH P φ st o with | some r=>K' r st | none=>False):aJ P mt ops (o::rest) K φ st=eC P mt ops rest K φ o.dst st (fH P φ st o):=by
 simp only[aJ,eF,hg,e]
 cases fH P φ st o<;>rfl
def tK:AV→AV→AV→Option AV
 | .bool b,x,y=>some (if b then x else y)
 | _,_,_=>none
def o8:AV→Option AV
 | .ptr b q=>some (.ptr b q)
 | .pptr e=>some (.pptr e)
 | _=>none
def tM(P:Program)(t f:Nat)(x:AV):Option AV:=match fI P t f,x with | some (off,ag,sz),.agg cs=>sub ag cs off sz | _,_=>none
def tL(x:AV)(i:Nat):Option AV:=match x with | .tup vs=>vs[i]? | _=>none
def tX(g:FuncId)(cs:List AV):Option AV:=if fQ cs=true then some (.func g cs) else none
def kA(P:Program)(f:AV)(args:List AV)(st:aA)(K:AV→aA→Prop):Prop:=match f with | .func g cJ=>aD P g (args++cJ) st K | _=>False
def m7(P:Program)(m:Bool)(t:TypeId)(x:AV)(st:aA)(K:AV→aA→Prop)(k:Option AV→Prop):Prop:=
 if m=true then x.bA=false∧∀b,st b=none→K (.ptr b 0) (st.aC b (.cells x.cells)) else k (mR P t x)
def t4(zs:Option (List AV))(st:aA)(K:AV→aA→Prop):Prop:=match zs with | some zs=>∀b,st b=none→K (.ptr b 0) (st.aC b (.cells zs)) | none=>False
def vM(P:Program)(t:TypeId)(p x:AV)(st:aA)(K:AV→aA→Prop):Prop:=
 match p with
 | .ptr b q=>match st b,tI P t with
  | some (.cells cs),some (_,sz)=>x.cells.length=sz∧q+sz≤cs.length∧x.cells.all AV.storable=true∧K .undef (st.aC b (.cells (aH cs q x.cells)))
  | _,_=>False
 | _=>False
theorem I4{x:Operand}:aJ P mt ops (⟨dst,.move x,type,pos,after,none⟩::rest) K φ st=aJ P mt ops rest K (φ.put dst (φ.eval x)) st:=rfl
theorem FI{x:Operand}:aJ P mt ops (⟨dst,.assign x,type,pos,after,none⟩::rest) K φ st=aJ P mt ops rest K (φ.put dst (φ.eval x)) st:=rfl
theorem JD{c x y:Operand}:aJ P mt ops (⟨dst,.pick c x y,type,pos,after,none⟩::rest) K φ st=eC P mt ops rest K φ dst st (tK (φ.eval c) (φ.eval x) (φ.eval y)):=by
 rw[fO rfl fun _=>rfl]
 simp only[fH]
 cases φ.eval c<;>rfl
theorem FK{op:BinOp}{t t':TypeId}{x y:Operand}:aJ P mt ops (⟨dst,.binOp op t x y t',type,pos,after,none⟩::rest) K φ st=eC P mt ops rest K φ dst st (cA P op t (φ.eval x) (φ.eval y)):=fO rfl fun _=>rfl
theorem MG{op:UnOp}{t:TypeId}{x:Operand}:aJ P mt ops (⟨dst,.unOp op t x,type,pos,after,none⟩::rest) K φ st=eC P mt ops rest K φ dst st (rM op (φ.eval x)):=fO rfl fun _=>rfl
theorem I9{x:Operand}:aJ P mt ops (⟨dst,.nilCheck x,type,pos,after,none⟩::rest) K φ st=eC P mt ops rest K φ dst st (o8 (φ.eval x)):=by
 rw[fO rfl fun _=>rfl]
 try rfl
theorem G1{t f:Nat}{x:Operand}:aJ P mt ops (⟨dst,.fieldAddr t x f,type,pos,after,none⟩::rest) K φ st=eC P mt ops rest K φ dst st (lO P t f (φ.eval x)):=fO rfl fun _=>rfl
theorem IP{t:TypeId}{x:Operand}:aJ P mt ops (⟨dst,.load t x,type,pos,after,none⟩::rest) K φ st=eC P mt ops rest K φ dst st (dU P st t (φ.eval x)):=fO rfl fun _=>rfl
theorem G0{t f:Nat}{x:Operand}:aJ P mt ops (⟨dst,.field t x f,type,pos,after,none⟩::rest) K φ st=eC P mt ops rest K φ dst st (tM P t f (φ.eval x)):=by
 rw[fO rfl fun _=>rfl]
 try rfl
theorem IC{t:TypeId}{x i:Operand}:aJ P mt ops (⟨dst,.indexAddr t x i,type,pos,after,none⟩::rest) K φ st=eC P mt ops rest K φ dst st (iZ P t (φ.eval x) (φ.eval i)):=fO rfl fun _=>rfl
theorem IB{t:TypeId}{x i:Operand}:aJ P mt ops (⟨dst,.index t x i,type,pos,after,none⟩::rest) K φ st=eC P mt ops rest K φ dst st (pL P t (φ.eval x) (φ.eval i)):=fO rfl fun _=>rfl
theorem K0{t:TypeId}{x:Operand}{lo hi mx:Option Operand}:aJ P mt ops (⟨dst,.slice t x lo hi mx,type,pos,after,none⟩::rest) K φ st=eC P mt ops rest K φ dst st (j7 P φ t (φ.eval x) lo hi mx):=fO rfl fun _=>rfl
theorem GY{x:Operand}{i:Nat}:aJ P mt ops (⟨dst,.extract x i,type,pos,after,none⟩::rest) K φ st=eC P mt ops rest K φ dst st (tL (φ.eval x) i):=by
 rw[fO rfl fun _=>rfl]
 try rfl
theorem IW{g:FuncId}{cJ:Array Operand}:aJ P mt ops (⟨dst,.makeFunc (.func g) #[] cJ,type,pos,after,none⟩::rest) K φ st=eC P mt ops rest K φ dst st (tX g (cJ.toList.map φ.eval)):=by
 rw[fO rfl fun _=>rfl]
 congr 1
 simp [fH,tX]
theorem FT{t:TypeId}{ps:Array (Nat×Operand)}:aJ P mt ops (⟨dst,.build t ps,type,pos,after,none⟩::rest) K φ st=eC P mt ops rest K φ dst st (o7 P φ t ps):=fO rfl fun _=>rfl
theorem FU{t:TypeId}{n:Nat}{ps:Array (Nat×Operand)}:aJ P mt ops (⟨dst,.buildSlice t n ps,type,pos,after,none⟩::rest) K φ st=eC P mt ops rest K φ dst st (o6 P φ t n ps):=fO rfl fun _=>rfl
theorem GS{t u:TypeId}{x:Operand}:aJ P mt ops (⟨dst,.convert t u x,type,pos,after,none⟩::rest) K φ st=eC P mt ops rest K φ dst st (kW P t u (φ.eval x)):=fO rfl fun _=>rfl
theorem IQ{t:TypeId}{x i:Operand}{ok:Bool}:aJ P mt ops (⟨dst,.lookup t x i ok,type,pos,after,none⟩::rest) K φ st=eC P mt ops rest K φ dst st (kY P st t ok (φ.eval x) (φ.eval i)):=fO rfl fun _=>rfl
theorem II{x:Operand}{t:TypeId}:aJ P mt ops (⟨dst,.call { callee:=.builtin .len,args:=#[x],argTypes:=#[t] },type,pos,after,none⟩::rest) K φ st=eC P mt ops rest K φ dst st (kX P t (φ.eval x)):=fO rfl fun _=>rfl
theorem F5{x:Operand}{t:TypeId}:aJ P mt ops (⟨dst,.call { callee:=.builtin .cap,args:=#[x],argTypes:=#[t] },type,pos,after,none⟩::rest) K φ st=eC P mt ops rest K φ dst st (rG P t (φ.eval x)):=fO rfl fun _=>rfl
theorem F3{f:Operand}{args:List Operand}{ats:Array TypeId}:aJ P mt ops (⟨dst,.call { callee:=.value f,args:=args.toArray,argTypes:=ats },type,pos,after,none⟩::rest) K φ st=kA P (φ.eval f) (args.map φ.eval) st (iB P mt ops rest K φ dst):=rfl
theorem I0{x y:Operand}{ts:Array TypeId}:aJ P mt ops (⟨dst,.call { callee:=.builtin .max,args:=#[x,y],argTypes:=ts },type,pos,after,none⟩::rest) K φ st=eC P mt ops rest K φ dst st (pM (φ.eval x) (φ.eval y)):=fO rfl fun _=>rfl
theorem I2{x y:Operand}{ts:Array TypeId}:aJ P mt ops (⟨dst,.call { callee:=.builtin .min,args:=#[x,y],argTypes:=ts },type,pos,after,none⟩::rest) K φ st=eC P mt ops rest K φ dst st (pN (φ.eval x) (φ.eval y)):=fO rfl fun _=>rfl
theorem ES{s x:Operand}{t t':TypeId}:aJ P mt ops (⟨dst,.call { callee:=.builtin .append,args:=#[s,x],argTypes:=#[t,t'] },type,pos,after,none⟩::rest) K φ st=(if t=t' then gT P t st (φ.eval s) (φ.eval x) (iB P mt ops rest K φ dst) else n4 P t t' st (φ.eval s) (φ.eval x) (iB P mt ops rest K φ dst)):=rfl
theorem GQ{x:Operand}{t:TypeId}:aJ P mt ops (⟨dst,.call { callee:=.builtin .clear,args:=#[x],argTypes:=#[t] },type,pos,after,none⟩::rest) K φ st=rH P t st (φ.eval x) (iB P mt ops rest K φ dst):=rfl
theorem GT{m k:Operand}{t t':TypeId}:aJ P mt ops (⟨dst,.call { callee:=.builtin .delete,args:=#[m,k],argTypes:=#[t,t'] },type,pos,after,none⟩::rest) K φ st=rI P t st (φ.eval m) (φ.eval k) (iB P mt ops rest K φ dst):=rfl
theorem FQ{t:TypeId}{x:Operand}:aJ P mt ops (⟨dst,.box t x,type,pos,after,none⟩::rest) K φ st=m7 P (o9 mt dst) t (φ.eval x) st (iB P mt ops rest K φ dst) (eC P mt ops rest K φ dst st):=by
 simp only[aJ,eF,cK,m7,iB]
 split
 · rfl
 · cases mR P t (φ.eval x)<;>rfl
theorem EP{t:TypeId}:aJ P mt ops (⟨dst,.alloc t,type,pos,after,none⟩::rest) K φ st=t4 (zI P t) st (iB P mt ops rest K φ dst):=rfl
theorem LR{t:TypeId}{p x:Operand}:aJ P mt ops (⟨dst,.store t p x,type,pos,after,none⟩::rest) K φ st=vM P t (φ.eval p) (φ.eval x) st (iB P mt ops rest K φ dst):=rfl
theorem IX{t:TypeId}:aJ P mt ops (⟨dst,.makeMap t none,type,pos,after,none⟩::rest) K φ st=∀b,st b=none→iB P mt ops rest K φ dst (.map b) (st.aC b (.map fun _=>none)):=rfl
theorem IY{t:TypeId}{n c:Operand}:aJ P mt ops (⟨dst,.makeSlice t n c,type,pos,after,none⟩::rest) K φ st=rJ P t st (φ.eval n) (φ.eval c) (iB P mt ops rest K φ dst):=rfl
theorem IZ{t:TypeId}{m k x:Operand}:aJ P mt ops (⟨dst,.mapUpdate t m k x,type,pos,after,none⟩::rest) K φ st=rK P t st (φ.eval m) (φ.eval k) (φ.eval x) (iB P mt ops rest K φ dst):=rfl
theorem ME{t:Tmp}:φ.eval (.tmp t)=φ t:=rfl
theorem FX{k:IntKind}{n:Int}:φ.eval (.const (.int k n))=.int k n:=rfl
theorem FV{b:Bool}:φ.eval (.const (.bool b))=.bool b:=rfl
theorem FZ:φ.eval (.const (.slice none 0 0))=.fslice []:=rfl
theorem F0:φ.eval (.const (.pointer none))=.nilptr:=rfl
theorem FY:φ.eval (.const (.map none))=.nilmap:=rfl
theorem FW{g:FuncId}:φ.eval (.func g)=.func g []:=rfl
theorem F1{l:List UInt8}:φ.eval (.const (.string ⟨l.toArray⟩))=if l.length≤9223372036854775807 then .str ⟨l.toArray⟩ else .junk:=by
 simp [AF.eval,ofConst,ByteArray.size,maxLen]
theorem MH{d e:Nat}{v:AV}:(φ.aC d v) e=if e=d then v else φ e:=rfl
theorem JV{d:Nat}{v:AV}:φ.put (some d) v=φ.aC d v:=rfl
theorem JW{v:AV}:φ.put none v=φ:=rfl
theorem EU{i:Nat}:k0 i []=AF.bot:=rfl
theorem ET{i:Nat}{a:AV}{as:List AV}:k0 i (a::as)=(k0 (i+1) as).aC i a:=rfl
theorem D0{P:Program}{t:TypeId}{k:IntKind}{a b:Int}:cA P .add t (.int k a) (.int k b)=some (.int k (k.wrap (a+b))):=by simp [cA,eM]
theorem LW{P:Program}{t:TypeId}{k:IntKind}{a b:Int}:cA P .sub t (.int k a) (.int k b)=some (.int k (k.wrap (a - b))):=by simp [cA,eM]
theorem I5{P:Program}{t:TypeId}{k:IntKind}{a b:Int}:cA P .mul t (.int k a) (.int k b)=some (.int k (k.wrap (a*b))):=by simp [cA,eM]
theorem JX{P:Program}{t:TypeId}{k:IntKind}{a b:Int}:cA P .quo t (.int k a) (.int k b)=if b=0 then none else some (.int k (k.wrap (a.tdiv b))):=by simp [cA,eM]
theorem J1{P:Program}{t:TypeId}{k:IntKind}{a b:Int}:cA P .rem t (.int k a) (.int k b)=if b=0 then none else some (.int k (a.tmod b)):=by simp [cA,eM]
theorem GW{P:Program}{t:TypeId}{k:IntKind}{a b:Int}:cA P .eql t (.int k a) (.int k b)=some (.bool (decide (a=b))):=by simp [cA,eM]
theorem I7{P:Program}{t:TypeId}{k:IntKind}{a b:Int}:cA P .neq t (.int k a) (.int k b)=some (.bool (!decide (a=b))):=by simp [cA,eM]
theorem IV{P:Program}{t:TypeId}{k:IntKind}{a b:Int}:cA P .lss t (.int k a) (.int k b)=some (.bool (decide (a<b))):=by simp [cA,eM]
theorem IN{P:Program}{t:TypeId}{k:IntKind}{a b:Int}:cA P .leq t (.int k a) (.int k b)=some (.bool (decide (a≤b))):=by simp [cA,eM]
theorem G8{P:Program}{t:TypeId}{k:IntKind}{a b:Int}:cA P .gtr t (.int k a) (.int k b)=some (.bool (decide (b<a))):=by simp [cA,eM]
theorem G7{P:Program}{t:TypeId}{k:IntKind}{a b:Int}:cA P .geq t (.int k a) (.int k b)=some (.bool (decide (b≤a))):=by simp [cA,eM]
theorem MZ{P:Program}{t:TypeId}{k:IntKind}{a b:Int}:cA P .xor t (.int k a) (.int k b)=some (.int k (rN k a b)):=by simp [cA,eM]
theorem ER{P:Program}{t:TypeId}{k:IntKind}{a b:Int}:cA P .and t (.int k a) (.int k b)=some (.int k (wV k a b)):=by simp [cA,eM]
theorem JC{P:Program}{t:TypeId}{k:IntKind}{a b:Int}:cA P .or t (.int k a) (.int k b)=some (.int k (w7 k a b)):=by simp [cA,eM]
theorem KY{P:Program}{t:TypeId}{a b:Int}:cA P .shl t (.int .i64 a) (.int .u64 b)=w8 .shl .i64 a b:=by simp [cA,eM]
theorem I1{k:IntKind}{a b:Int}:pM (.int k a) (.int k b)=some (.int k (if a<b then b else a)):=by simp [pM]
theorem I3{k:IntKind}{a b:Int}:pN (.int k a) (.int k b)=some (.int k (if b<a then b else a)):=by simp [pN]
theorem KW{P:Program}{t:TypeId}{a b:ByteArray}:cA P .eql t (.str a) (.str b)=some (.bool (decide (a=b))):=by simp [cA,eM]
theorem K2{P:Program}{t:TypeId}{a b:ByteArray}:cA P .neq t (.str a) (.str b)=some (.bool (!decide (a=b))):=by simp [cA,eM]
theorem KF{P:Program}{t:TypeId}{a b:ByteArray}:cA P .add t (.str a) (.str b)=if a.size+b.size≤maxLen then some (.str (a++b)) else none:=by simp [cA,eM]
theorem K1{P:Program}{t:TypeId}{a b:ByteArray}:cA P .lss t (.str a) (.str b)=some (.bool (Op.bytesLess a.toList b.toList)):=by simp [cA,eM]
theorem KX{P:Program}{t:TypeId}{a b:ByteArray}:cA P .gtr t (.str a) (.str b)=some (.bool (!(Op.bytesLess a.toList b.toList||decide (a=b)))):=by simp [cA,eM]
theorem FJ{P:Program}{t:TypeId}{a b:Bool}(h:P.underlying t=some .bool):cA P .eql t (.bool a) (.bool b)=some (.bool (a == b)):=by simp [cA,h]
theorem FP{P:Program}{t:TypeId}{a b:Bool}(h:P.underlying t=some .bool):cA P .neq t (.bool a) (.bool b)=some (.bool (!(a == b))):=by simp [cA,h]
theorem JA{b:Bool}:rM .not (.bool b)=some (.bool (!b)):=rfl
theorem I6{k:IntKind}{n:Int}:rM .neg (.int k n)=some (.int k (k.wrap (0 - n))):=rfl
end
end
@[congr] theorem aBH {P:Program} {N:Nat} {mt:List Nat} {c:Code} {Q:Exit→AF→aA→Prop} {φ φ':AF} {st st':aA} (h1:φ=φ') (h2:st=st'):cX P N mt c Q φ st=cX P N mt c Q φ' st':=by rw[h1,h2]
@[congr] theorem aBJ {P:Program} {mt:List Nat} {ops:Array Oper} {l:List Oper} {K:AF→aA→Prop} {φ φ':AF} {st st':aA} (h1:φ=φ') (h2:st=st'):aJ P mt ops l K φ st=aJ P mt ops l K φ' st':=by rw[h1,h2]
@[congr] theorem aBT {P:Program} {mt:List Nat} {ops:Array Oper} {l:List Oper} {K:AF→aA→Prop} {φ:AF} {st:aA} {dst:Option Tmp} {x x':Option AV} (h1:x=x'):eC P mt ops l K φ dst st x=eC P mt ops l K φ dst st x':=by rw[h1]
@[congr] theorem aBS {P:Program} {mt:List Nat} {ops:Array Oper} {o:Oper} {l:List Oper} {K:AF→aA→Prop} {φ:AF} {st:aA} {x x':Option Bool} (h1:x=x'):mK P mt ops o l K φ st x=mK P mt ops o l K φ st x':=by rw[h1]
@[congr] theorem aBR {P:Program} {mt:List Nat} {ops:Array Oper} {l:List Oper} {K:AF→aA→Prop} {φ:AF} {dst:Option Tmp} {r r':AV} {st st':aA} (h1:r=r') (h2:st=st'):iB P mt ops l K φ dst r st=iB P mt ops l K φ dst r' st':=by rw[h1,h2]
@[congr] theorem aBI {c c':AV} {k₁ k₂:AF→aA→Prop} {φ:AF} {st:aA} (h1:c=c'):lW c k₁ k₂ φ st=lW c' k₁ k₂ φ st:=by rw[h1]
@[congr] theorem aBF {P:Program} {N:Nat} {c:Code} {Q:Exit→AF→aA→Prop} {φ φ':AF} {st st':aA} (h1:φ=φ') (h2:st=st'):dL P N c Q φ st=dL P N c Q φ' st':=by rw[h1,h2]
@[congr] theorem aBE {P:Program} {g:FuncId} {args j9:List AV} {st st':aA} {K:AV→aA→Prop} (h1:args=j9) (h2:st=st'):aD P g args st K=aD P g j9 st' K:=by rw[h1,h2]
@[congr] theorem aBP {P:Program} {f f':AV} {args j9:List AV} {st st':aA} {K:AV→aA→Prop} (h0:f=f') (h1:args=j9) (h2:st=st'):kA P f args st K=kA P f' j9 st' K:=by rw[h0,h1,h2]
@[congr] theorem aBN {P:Program} {m m':Bool} {t:TypeId} {x x':AV} {st st':aA} {K:AV→aA→Prop} {k:Option AV→Prop} (h0:m=m') (h1:x=x') (h2:st=st'):m7 P m t x st K k=m7 P m' t x' st' K k:=by rw[h0,h1,h2]
@[congr] theorem aBM {zs zs':Option (List AV)} {st st':aA} {K:AV→aA→Prop} (h1:zs=zs') (h2:st=st'):t4 zs st K=t4 zs' st' K:=by rw[h1,h2]
@[congr] theorem aBX {P:Program} {t:TypeId} {p p' x x':AV} {st st':aA} {K:AV→aA→Prop} (h0:p=p') (h1:x=x') (h2:st=st'):vM P t p x st K=vM P t p' x' st' K:=by rw[h0,h1,h2]
@[congr] theorem aBG {P:Program} {t:TypeId} {s s' x x':AV} {st st':aA} {K:AV→aA→Prop} (h0:s=s') (h1:x=x') (h2:st=st'):gT P t st s x K=gT P t st' s' x' K:=by rw[h0,h1,h2]
theorem F4{P:Program}{g:FuncId}{cJ args:List AV}{st:aA}{K:AV→aA→Prop}:kA P (.func g cJ) args st K=aD P g (args++cJ) st K:=rfl
theorem FR{P:Program}{t:TypeId}{x:AV}{st:aA}{K:AV→aA→Prop}{k:Option AV→Prop}:m7 P false t x st K k=k (mR P t x):=by simp [m7]
theorem FS{P:Program}{t:TypeId}{x:AV}{st:aA}{K:AV→aA→Prop}{k:Option AV→Prop}:m7 P true t x st K k=(x.bA=false∧∀b,st b=none→K (.ptr b 0) (st.aC b (.cells x.cells))):=by simp [m7]
theorem EQ{zs:List AV}{st:aA}{K:AV→aA→Prop}:t4 (some zs) st K=∀b,st b=none→K (.ptr b 0) (st.aC b (.cells zs)):=rfl
theorem LS{P:Program}{t:TypeId}{b q:Nat}{x:AV}{st:aA}{K:AV→aA→Prop}:vM P t (.ptr b q) x st K=match st b,tI P t with
 | some (.cells cs),some (_,sz)=>x.cells.length=sz∧q+sz≤cs.length∧x.cells.all AV.storable=true∧K .undef (st.aC b (.cells (aH cs q x.cells)))
 | _,_=>False:=rfl
def eA:Op→Bool
 | .alloc _=>true
 | _=>false
def d4:Op→Bool
 | .store _ _ _=>true
 | _=>false
def zK(P:Program)(mt:List Nat)(ops:Array Oper)(rest:List Oper)(K:AF→aA→Prop)(φ:AF)(st:aA):Prop:=cY P mt ops rest K φ st
def zF(P:Program)(mt:List Nat)(ops:Array Oper)(rest:List Oper)(K:AF→aA→Prop)(φ:AF)(d:Nat)(st:aA)(r:AV):Prop:=cY P mt ops rest K (φ.aC d r) st
def mA(x:AV)(K:AV→Prop):Option (List AV)→Option (Bool×Nat)→Prop
 | some zs,some (_,sz)=>zs.length=sz∧x.width=sz∧x.cells.all AV.storable=true∧x.bA=false∧K (.pptr x)
 | _,_=>False
def zM(P:Program)(mt:List Nat)(ops:Array Oper)(o:Oper)(s:Oper)(rest:List Oper)(K:AF→aA→Prop)(φ:AF)(st:aA)(d:Nat)(t:TypeId)(x:AV):Bool→Prop
 | true=>aJ P mt ops [o] (zK P mt ops (s::rest) K) φ st
 | false=>mA x (zF P mt ops rest K φ d st) (zI P t) (tI P t)
section
variable {P:Program} {mt:List Nat} {ops:Array Oper} {rest:List Oper} {K:AF→aA→Prop} {φ:AF} {st:aA} {dst qB:Option Tmp} {type lL:TypeId} {pos pos':String} {after kZ:Array Edge} {g g':Option (Nat×Bool)} {op op':Op}
theorem uN:zK P mt ops rest K φ st=cY P mt ops rest K φ st:=rfl
theorem M0{d:Nat}{r:AV}:zF P mt ops rest K φ d st r=cY P mt ops rest K (φ.aC d r) st:=rfl
theorem DV:cY P mt ops [] K φ st=K φ st:=by rw[cY]
theorem uL(h:eA op=false):cY P mt ops (⟨dst,op,type,pos,after,g⟩::rest) K φ st=aJ P mt ops [⟨dst,op,type,pos,after,g⟩] (zK P mt ops rest K) φ st:=by
 rw[cY]
 · rfl
 · intro d t ty ps af t' d' x ty' ps' af' r e1 e2
   cases e1
   cases h
 · intro d t ty ps af e y ty2 ps2 af2 t' d' x ty' ps' af' r e1 e2
   cases e1
   cases h
theorem uM{t:TypeId}{x:AV}{k:AV→Prop}:pJ P t x k=mA x k (zI P t) (tI P t):=by
 unfold pJ mA
 simp only[rX]
 cases zI P t<;>cases tI P t<;>rfl
theorem G6{x:AV}{k:AV→Prop}{zs:List AV}{ag:Bool}{sz:Nat}:mA x k (some zs) (some (ag,sz))=(zs.length=sz∧x.width=sz∧x.cells.all AV.storable=true∧x.bA=false∧k (.pptr x)):=rfl
theorem VA{d:Nat}{t:TypeId}{x:Operand}:cY P mt ops (⟨some d,.alloc t,type,pos,after,none⟩::⟨none,.store t (.tmp d) x,lL,pos',kZ,none⟩::rest) K φ st =
 zM P mt ops ⟨some d,.alloc t,type,pos,after,none⟩ ⟨none,.store t (.tmp d) x,lL,pos',kZ,none⟩ rest K φ st d t (φ.eval x) (mt.contains d||iO x d):=by
 rw[cY]
 cases h:(mt.contains d||iO x d) with
 | true=>
  rw[aQ (by simp)]
  show _=aJ P mt ops _ (fun φ' st'=>zK P mt ops _ K φ' st') φ st
  simp only[uN,uL (K:=K) (rest:=rest) (op:=.store t (.tmp d) x) rfl]
  rfl
 | false=>
  rw[a4 ⟨rfl,rfl,rfl⟩,uM]
  try rfl
theorem M4{o s:Oper}{d:Nat}{t:TypeId}{x:AV}:zM P mt ops o s rest K φ st d t x true=aJ P mt ops [o] (zK P mt ops (s::rest) K) φ st:=rfl
theorem M3{o s:Oper}{d:Nat}{t:TypeId}{x:AV}:zM P mt ops o s rest K φ st d t x false=mA x (zF P mt ops rest K φ d st) (zI P t) (tI P t):=rfl
def tJ(P:Program)(mt:List Nat)(ops:Array Oper)(o:Oper)(os:List Oper)(rest:List Oper)(K:AF→aA→Prop)(φ φ':AF)(st:aA)(d:Nat)(t:TypeId)(x:AV):Bool→Prop
 | true=>aJ P mt ops [o] (zK P mt ops (os++rest) K) φ st
 | false=>mA x (zF P mt ops rest K φ' d st) (zI P t) (tI P t)
theorem M1{o:Oper}{os:List Oper}{φ':AF}{d:Nat}{t:TypeId}{x:AV}:tJ P mt ops o os rest K φ φ' st d t x false=mA x (zF P mt ops rest K φ' d st) (zI P t) (tI P t):=rfl
theorem M2{o:Oper}{os:List Oper}{φ':AF}{d:Nat}{t:TypeId}{x:AV}:tJ P mt ops o os rest K φ φ' st d t x true=aJ P mt ops [o] (zK P mt ops (os++rest) K) φ st:=rfl
theorem VB{d e:Nat}{t:TypeId}{x y:Operand}{type2:TypeId}{mO:String}{rQ:Array Edge}:cY P mt ops (⟨some d,.alloc t,type,pos,after,none⟩::⟨some e,.assign y,type2,mO,rQ,none⟩::⟨none,.store t (.tmp d) x,lL,pos',kZ,none⟩::rest) K φ st =
 tJ P mt ops ⟨some d,.alloc t,type,pos,after,none⟩ [⟨some e,.assign y,type2,mO,rQ,none⟩,⟨none,.store t (.tmp d) x,lL,pos',kZ,none⟩] rest K φ (φ.aC e (φ.eval y)) st d t ((φ.aC e (φ.eval y)).eval x) (mt.contains d||iO x d||iO y d||d == e):=by
 rw[cY]
 cases h:(mt.contains d||iO x d||iO y d||d == e) with
 | true=>
  rw[aQ (by simp)]
  show _=aJ P mt ops _ (fun φ' st'=>zK P mt ops _ K φ' st') φ st
  simp only[uN,dZ,dR,uL (K:=K) (op:=.assign y) rfl]
  rfl
 | false=>
  rw[a4 ⟨rfl,rfl,rfl⟩,uM]
  try rfl
def eK:Op→Bool
 | .assign _=>true
 | _=>false
theorem DW{t:TypeId}(h:d4 op'=false)(h2:eK op'=false):cY P mt ops (⟨dst,.alloc t,type,pos,after,g⟩::⟨qB,op',lL,pos',kZ,g'⟩::rest) K φ st=aJ P mt ops [⟨dst,.alloc t,type,pos,after,g⟩] (zK P mt ops (⟨qB,op',lL,pos',kZ,g'⟩::rest) K) φ st:=by
 rw[cY]
 · rfl
 · intro d t ty ps af t' d' x ty' ps' af' r e1 e2
   cases e2
   cases h
 · intro d t ty ps af e y ty2 ps2 af2 t' d' x ty' ps' af' r e1 e2
   cases e2
   cases h2
theorem DX{t:TypeId}:cY P mt ops [⟨dst,.alloc t,type,pos,after,g⟩] K φ st=aJ P mt ops [⟨dst,.alloc t,type,pos,after,g⟩] (zK P mt ops [] K) φ st:=by
 rw[cY]
 · rfl
 · intro d t ty ps af t' d' x ty' ps' af' r e1 e2
   cases e2
 · intro d t ty ps af e y ty2 ps2 af2 t' d' x ty' ps' af' r e1 e2
   cases e2
theorem DY{t:TypeId}{y:Operand}:cY P mt ops [⟨dst,.alloc t,type,pos,after,g⟩,⟨qB,.assign y,lL,pos',kZ,g'⟩] K φ st=aJ P mt ops [⟨dst,.alloc t,type,pos,after,g⟩] (zK P mt ops [⟨qB,.assign y,lL,pos',kZ,g'⟩] K) φ st:=by
 rw[cY]
 · rfl
 · intro d t ty ps af t' d' x ty' ps' af' r e1 e2
   cases e2
 · intro d t ty ps af e y ty2 ps2 af2 t' d' x ty' ps' af' r e1 e2
   cases e2
theorem DZ{t:TypeId}{y:Operand}{CT:Option Tmp}{op2:Op}{type2:TypeId}{mO:String}{rQ:Array Edge}{g2:Option (Nat×Bool)}(h:d4 op2=false):cY P mt ops (⟨dst,.alloc t,type,pos,after,g⟩::⟨qB,.assign y,lL,pos',kZ,g'⟩::⟨CT,op2,type2,mO,rQ,g2⟩::rest) K φ st=aJ P mt ops [⟨dst,.alloc t,type,pos,after,g⟩] (zK P mt ops (⟨qB,.assign y,lL,pos',kZ,g'⟩::⟨CT,op2,type2,mO,rQ,g2⟩::rest) K) φ st:=by
 rw[cY]
 · rfl
 · intro d t ty ps af t' d' x ty' ps' af' r e1 e2
   cases e2
 · intro d t ty ps af e y ty2 ps2 af2 t' d' x ty' ps' af' r e1 e2
   cases e2
   cases h
theorem IE{d e:Nat}:iO (.tmp e) d=(e == d):=rfl
theorem ID{v:Value}{d:Nat}:iO (.const v) d=false:=rfl
theorem EJ{x:Operand}:eA (.move x)=false:=rfl
theorem LM{x:Operand}:d4 (.move x)=false:=rfl
theorem D1{x:Operand}:eA (.assign x)=false:=rfl
theorem K4{x:Operand}:d4 (.assign x)=false:=rfl
theorem EL{c x y:Operand}:eA (.pick c x y)=false:=rfl
theorem LO{c x y:Operand}:d4 (.pick c x y)=false:=rfl
theorem D2{op:BinOp}{t:TypeId}{x y:Operand}{t':TypeId}:eA (.binOp op t x y t')=false:=rfl
theorem K5{op:BinOp}{t:TypeId}{x y:Operand}{t':TypeId}:d4 (.binOp op t x y t')=false:=rfl
theorem EO{op:UnOp}{t:TypeId}{x:Operand}:eA (.unOp op t x)=false:=rfl
theorem LQ{op:UnOp}{t:TypeId}{x:Operand}:d4 (.unOp op t x)=false:=rfl
theorem EK{x:Operand}:eA (.nilCheck x)=false:=rfl
theorem LN{x:Operand}:d4 (.nilCheck x)=false:=rfl
theorem EA{t f:Nat}{x:Operand}:eA (.fieldAddr t x f)=false:=rfl
theorem LD{t f:Nat}{x:Operand}:d4 (.fieldAddr t x f)=false:=rfl
theorem ED{t:TypeId}{x:Operand}:eA (.load t x)=false:=rfl
theorem LG{t:TypeId}{x:Operand}:d4 (.load t x)=false:=rfl
theorem EN{t:TypeId}{p x:Operand}:eA (.store t p x)=false:=rfl
theorem D9{t f:Nat}{x:Operand}:eA (.field t x f)=false:=rfl
theorem LC{t f:Nat}{x:Operand}:d4 (.field t x f)=false:=rfl
theorem EC{t:TypeId}{x i:Operand}:eA (.indexAddr t x i)=false:=rfl
theorem LF{t:TypeId}{x i:Operand}:d4 (.indexAddr t x i)=false:=rfl
theorem EB{t:TypeId}{x i:Operand}:eA (.index t x i)=false:=rfl
theorem LE{t:TypeId}{x i:Operand}:d4 (.index t x i)=false:=rfl
theorem EM{t:TypeId}{x:Operand}{lo hi mx:Option Operand}:eA (.slice t x lo hi mx)=false:=rfl
theorem LP{t:TypeId}{x:Operand}{lo hi mx:Option Operand}:d4 (.slice t x lo hi mx)=false:=rfl
theorem D8{x:Operand}{i:Nat}:eA (.extract x i)=false:=rfl
theorem LB{x:Operand}{i:Nat}:d4 (.extract x i)=false:=rfl
theorem D4{t:TypeId}{ps:Array (Nat×Operand)}:eA (.build t ps)=false:=rfl
theorem K7{t:TypeId}{ps:Array (Nat×Operand)}:d4 (.build t ps)=false:=rfl
theorem D5{t:TypeId}{n:Nat}{ps:Array (Nat×Operand)}:eA (.buildSlice t n ps)=false:=rfl
theorem K8{t:TypeId}{n:Nat}{ps:Array (Nat×Operand)}:d4 (.buildSlice t n ps)=false:=rfl
theorem D7{t u:TypeId}{x:Operand}:eA (.convert t u x)=false:=rfl
theorem LA{t u:TypeId}{x:Operand}:d4 (.convert t u x)=false:=rfl
theorem EE{t:TypeId}{x i:Operand}{ok:Bool}:eA (.lookup t x i ok)=false:=rfl
theorem LH{t:TypeId}{x i:Operand}{ok:Bool}:d4 (.lookup t x i ok)=false:=rfl
theorem D6{c:_}:eA (.call c)=false:=rfl
theorem K9{c:_}:d4 (.call c)=false:=rfl
theorem D3{t:TypeId}{x:Operand}:eA (.box t x)=false:=rfl
theorem K6{t:TypeId}{x:Operand}:d4 (.box t x)=false:=rfl
theorem EG{t:_}{x:_}:eA (.makeMap t x)=false:=rfl
theorem LJ{t:_}{x:_}:d4 (.makeMap t x)=false:=rfl
theorem EH{t:TypeId}{n c:Operand}:eA (.makeSlice t n c)=false:=rfl
theorem LK{t:TypeId}{n c:Operand}:d4 (.makeSlice t n c)=false:=rfl
theorem EI{t:TypeId}{m k x:Operand}:eA (.mapUpdate t m k x)=false:=rfl
theorem LL{t:TypeId}{m k x:Operand}:d4 (.mapUpdate t m k x)=false:=rfl
theorem EF{f:_}{a:_}{b:_}:eA (.makeFunc f a b)=false:=rfl
theorem LI{f:_}{a:_}{b:_}:d4 (.makeFunc f a b)=false:=rfl
theorem K3{t:TypeId}:d4 (.alloc t)=false:=rfl
theorem FD{x:Operand}:eK (.move x)=false:=rfl
theorem FF{c x y:Operand}:eK (.pick c x y)=false:=rfl
theorem EW{op:BinOp}{t:TypeId}{x y:Operand}{t':TypeId}:eK (.binOp op t x y t')=false:=rfl
theorem FH{op:UnOp}{t:TypeId}{x:Operand}:eK (.unOp op t x)=false:=rfl
theorem FE{x:Operand}:eK (.nilCheck x)=false:=rfl
theorem E4{t f:Nat}{x:Operand}:eK (.fieldAddr t x f)=false:=rfl
theorem E7{t:TypeId}{x:Operand}:eK (.load t x)=false:=rfl
theorem E3{t f:Nat}{x:Operand}:eK (.field t x f)=false:=rfl
theorem E6{t:TypeId}{x i:Operand}:eK (.indexAddr t x i)=false:=rfl
theorem E5{t:TypeId}{x i:Operand}:eK (.index t x i)=false:=rfl
theorem FG{t:TypeId}{x:Operand}{lo hi mx:Option Operand}:eK (.slice t x lo hi mx)=false:=rfl
theorem E2{x:Operand}{i:Nat}:eK (.extract x i)=false:=rfl
theorem EY{t:TypeId}{ps:Array (Nat×Operand)}:eK (.build t ps)=false:=rfl
theorem EZ{t:TypeId}{n:Nat}{ps:Array (Nat×Operand)}:eK (.buildSlice t n ps)=false:=rfl
theorem E1{t u:TypeId}{x:Operand}:eK (.convert t u x)=false:=rfl
theorem E8{t:TypeId}{x i:Operand}{ok:Bool}:eK (.lookup t x i ok)=false:=rfl
theorem E0{c:_}:eK (.call c)=false:=rfl
theorem EX{t:TypeId}{x:Operand}:eK (.box t x)=false:=rfl
theorem FA{t:_}{x:_}:eK (.makeMap t x)=false:=rfl
theorem FB{t:TypeId}{n c:Operand}:eK (.makeSlice t n c)=false:=rfl
theorem FC{t:TypeId}{m k x:Operand}:eK (.mapUpdate t m k x)=false:=rfl
theorem E9{f:_}{a:_}{b:_}:eK (.makeFunc f a b)=false:=rfl
theorem EV{t:TypeId}:eK (.alloc t)=false:=rfl
@[congr] theorem aBZ {o:Oper} {os:List Oper} {φ' φ2 φ2':AF} {st':aA} {d:Nat} {t:TypeId} {x x':AV} {b b':Bool} (h1:φ=φ') (h0:φ2=φ2') (h2:st=st') (h3:x=x') (h4:b=b'):tJ P mt ops o os rest K φ φ2 st d t x b=tJ P mt ops o os rest K φ' φ2' st' d t x' b':=by rw[h1,h0,h2,h3,h4]
@[congr] theorem aBQ {x x':AV} {k:AV→Prop} {a a':Option (List AV)} {b b':Option (Bool×Nat)} (h0:x=x') (h1:a=a') (h2:b=b'):mA x k a b=mA x' k a' b':=by rw[h0,h1,h2]
@[congr] theorem aBY {o s:Oper} {φ':AF} {st':aA} {d:Nat} {t:TypeId} {x x':AV} {b b':Bool} (h1:φ=φ') (h2:st=st') (h3:x=x') (h4:b=b'):zM P mt ops o s rest K φ st d t x b=zM P mt ops o s rest K φ' st' d t x' b':=by rw[h1,h2,h3,h4]
@[congr] theorem aBW {l:List Oper} {Q:Exit→AF→aA→Prop} {φ':AF} {st':aA} {b b':Bool} (h1:φ=φ') (h2:st=st') (h3:b=b'):sW P mt l Q φ st b=sW P mt l Q φ' st' b':=by rw[h1,h2,h3]
end
end Go.AW
