/- The rules by which the code is evaluated: equations for simp. -/
import Derived.Test.YtieofkhcboolkaaGreatDoorWac
set_option linter.unusedSimpArgs false
set_option linter.unusedVariables false
set_option maxRecDepth 100000
namespace Go.AW
section
variable {P:Program} {N:Nat} {mt:List Nat} {Q:Exit→AF→aB→Prop} {φ:AF} {st:aB} {x y:Code} {ops:Array Oper} {id:Nat}
theorem aHF:gH P N mt .skip Q φ st=Q .normal φ st:=rfl
theorem aHC:gH P N mt (.seq x y) Q φ st=gH P N mt x (IA (gH P N mt y Q) Q) φ st:=rfl
def HJ(P:Program)(mt:List Nat)(l:List Oper)(Q:Exit→AF→aB→Prop)(φ:AF)(st:aB):Bool→Prop
 | true=>gI P mt l.toArray l (Q .normal) φ st
 | false=>bJ P mt l.toArray l (Q .normal) φ st
theorem aGH{l:List Oper}:gH P N mt (.region id l.toArray false) Q φ st=HJ P mt l Q φ st (mt.contains 1000000):=by
 simp only[gH,gE,d5]
 cases mt.contains 1000000<;>rfl
theorem aGG{l:List Oper}:HJ P mt l Q φ st true=gI P mt l.toArray l (Q .normal) φ st:=rfl
theorem aGF{l:List Oper}:HJ P mt l Q φ st false=bJ P mt l.toArray l (Q .normal) φ st:=rfl
theorem aDD:gH P N mt (.region id ops true) Q φ st=gP P N (.region id ops true) Q φ st:=by simp [gH]
theorem aDA{c:Operand}:gH P N mt (.cond c x y) Q φ st=vK (φ.eval c) (gH P N mt x Q) (gH P N mt y Q) φ st:=rfl
theorem aB7:gH P N mt (.block id x) Q φ st=gH P N mt x (CU id Q) φ st:=rfl
theorem aE8:gH P N mt (.loop x) Q φ st=gP P N (.loop x) Q φ st:=rfl
theorem aDG:gH P N mt (.exit id) Q φ st=Q (.exit id) φ st:=rfl
theorem aGJ:gH P N mt .ret Q φ st=Q .ret φ st:=rfl
theorem aIU{k₁ k₂:AF→aB→Prop}:vK (.bool true) k₁ k₂ φ st=k₁ φ st:=by simp [vK]
theorem aDI{k₁ k₂:AF→aB→Prop}:vK (.bool false) k₁ k₂ φ st=k₂ φ st:=by simp [vK]
theorem aIE{k:AF→aB→Prop}:IA k Q .normal φ st=k φ st:=rfl
theorem aID{k:AF→aB→Prop}:IA k Q (.exit id) φ st=Q (.exit id) φ st:=rfl
theorem aIF{k:AF→aB→Prop}:IA k Q .ret φ st=Q .ret φ st:=rfl
theorem aB9:CU id Q .normal φ st=Q .normal φ st:=rfl
theorem aB8{i:Nat}:CU id Q (.exit i) φ st=if i=id then Q .normal φ st else Q (.exit i) φ st:=rfl
theorem aCA:CU id Q .ret φ st=Q .ret φ st:=rfl
theorem aFA{k:AF→aB→Prop}:pN k Q .normal φ st=k φ st:=rfl
theorem aE9{k:AF→aB→Prop}:pN k Q (.exit id) φ st=Q (.exit id) φ st:=rfl
theorem aFB{k:AF→aB→Prop}:pN k Q .ret φ st=Q .ret φ st:=rfl
def nE(P:Program)(rs:List ResultVar)(K:AV→aB→Prop)(φ:AF)(st:aB):Prop:=
 match p6 P φ st rs with
 | some xs=>IN K st xs
 | none=>False
theorem aGV{rs:Array ResultVar}{K:AV→aB→Prop}:HM P rs K .ret φ st=nE P rs.toList K φ st:=rfl
theorem aGU{rs:Array ResultVar}{K:AV→aB→Prop}:HM P rs K .normal φ st=nE P rs.toList K φ st:=rfl
theorem aGL{t:Tmp}{K:AV→aB→Prop}:nE P [.tmp t] K φ st=K (φ t) st:=rfl
theorem aGK{K:AV→aB→Prop}:nE P [] K φ st=K (.tup []) st:=by simp [nE,p6,IN,kW]
theorem aGM{t u:Tmp}{K:AV→aB→Prop}:nE P [.tmp t,.tmp u] K φ st=(kW [φ t,φ u]=true∧K (.tup [φ t,φ u]) st):=rfl
theorem aGN{t u v:Tmp}{K:AV→aB→Prop}:nE P [.tmp t,.tmp u,.tmp v] K φ st=(kW [φ t,φ u,φ v]=true∧K (.tup [φ t,φ u,φ v]) st):=rfl
theorem aGO{t u v w:Tmp}{K:AV→aB→Prop}:nE P [.tmp t,.tmp u,.tmp v,.tmp w] K φ st=(kW [φ t,φ u,φ v,φ w]=true∧K (.tup [φ t,φ u,φ v,φ w]) st):=rfl
def LU(k:AV→Prop):Option AV→Prop
 | some r=>k r
 | none=>False
theorem aGP{p:Tmp}{t:TypeId}{K:AV→aB→Prop}:nE P [.cell p t] K φ st=LU (fun r=>K r st) (iA P st t (φ p)):=by
 simp only[nE,p6,CK]
 cases iA P st t (φ p)<;>rfl
theorem aGQ{p u:Tmp}{t:TypeId}{K:AV→aB→Prop}:nE P [.cell p t,.tmp u] K φ st=LU (fun r=>kW [r,φ u]=true∧K (.tup [r,φ u]) st) (iA P st t (φ p)):=by
 simp only[nE,p6,CK]
 cases iA P st t (φ p)<;>rfl
theorem aGT{u p:Tmp}{t:TypeId}{K:AV→aB→Prop}:nE P [.tmp u,.cell p t] K φ st=LU (fun r=>kW [φ u,r]=true∧K (.tup [φ u,r]) st) (iA P st t (φ p)):=by
 simp only[nE,p6,CK]
 cases iA P st t (φ p)<;>rfl
theorem aFS{k:AV→Prop}{r:AV}:LU k (some r)=k r:=rfl
def kC(P:Program)(mt:List Nat)(ops:Array Oper)(rest:List Oper)(K:AF→aB→Prop)(φ:AF)(dst:Option Tmp)(st:aB):Option AV→Prop
 | some r=>bJ P mt ops rest K (φ.put dst r) st
 | none=>False
def oP(P:Program)(mt:List Nat)(ops:Array Oper)(rest:List Oper)(K:AF→aB→Prop)(φ:AF)(dst:Option Tmp)(r:AV)(st:aB):Prop:=bJ P mt ops rest K (φ.put dst r) st
def wM(P:Program)(mt:List Nat)(ops:Array Oper)(o:Oper)(rest:List Oper)(K:AF→aB→Prop)(φ:AF)(st:aB):Option Bool→Prop
 | some true=>bJ P mt ops ({ o with guard:=none }::rest) K φ st
 | some false=>bJ P mt ops rest K (φ.put o.dst .undef) st
 | none=>False
def gd(ops:Array Oper)(φ:AF)(j:Nat)(want:Bool):Option Bool:=
 match (ops[j]?).bind (·.dst) with
 | none=>some false
 | some d=>match φ d with
  | .bool b=>some (b == want)
  | .undef=>some false
  | _=>none
section
variable {rest:List Oper} {K:AF→aB→Prop} {dst:Option Tmp} {type:TypeId} {pos:String} {after:Array Edge}
theorem aFP:bJ P mt ops [] K φ st=K φ st:=rfl
theorem aDS{op:Op}{j:Nat}{want:Bool}:bJ P mt ops (⟨dst,op,type,pos,after,some (j,want)⟩::rest) K φ st=wM P mt ops ⟨dst,op,type,pos,after,some (j,want)⟩ rest K φ st (gd ops φ j want):=by
 simp only[bJ]
 have h1:jJ ops φ ⟨dst,op,type,pos,after,some (j,want)⟩=gd ops φ j want:=rfl
 rw[h1]
 cases gd ops φ j want with
 | none=>rfl
 | some b=>cases b<;>simp [wM,bJ,jJ,fH,lG]
theorem ZN{r:AV}:oP P mt ops rest K φ dst r st=bJ P mt ops rest K (φ.put dst r) st:=rfl
theorem aAD{r:AV}:kC P mt ops rest K φ dst st (some r)=bJ P mt ops rest K (φ.put dst r) st:=rfl
theorem ZP{op:Op}{g:Option (Nat×Bool)}:wM P mt ops ⟨dst,op,type,pos,after,g⟩ rest K φ st (some true)=bJ P mt ops (⟨dst,op,type,pos,after,none⟩::rest) K φ st:=rfl
theorem ZO{op:Op}{g:Option (Nat×Bool)}:wM P mt ops ⟨dst,op,type,pos,after,g⟩ rest K φ st (some false)=bJ P mt ops rest K (φ.put dst .undef) st:=rfl
theorem lZ{o:Oper}(hg:o.guard=none)(e:∀K',fH P mt φ st o K'=match lG P φ st o with | some r=>K' r st | none=>False):bJ P mt ops (o::rest) K φ st=kC P mt ops rest K φ o.dst st (lG P φ st o):=by
 simp only[bJ,jJ,hg,e]
 cases lG P φ st o<;>rfl
def IZ:AV→AV→AV→Option AV
 | .bool b,x,y=>some (if b then x else y)
 | _,_,_=>none
def zC:AV→Option AV
 | .ptr b q=>some (.ptr b q)
 | .pptr e=>some (.pptr e)
 | _=>none
def I0(P:Program)(t f:Nat)(x:AV):Option AV:=match fI P t f,x with | some (off,ag,sz),.agg cs=>sub ag cs off sz | _,_=>none
def BV(x:AV)(i:Nat):Option AV:=match x with | .tup vs=>vs[i]? | _=>none
def JG(g:FuncId)(cs:List AV):Option AV:=if kW cs=true then some (.func g cs) else none
def sU(P:Program)(f:AV)(args:List AV)(st:aB)(K:AV→aB→Prop):Prop:=match f with | .func g dN=>aD P g (args++dN) st K | _=>False
def xS(P:Program)(m:Bool)(t:TypeId)(x:AV)(st:aB)(K:AV→aB→Prop)(k:Option AV→Prop):Prop:=
 if m=true then x.cE=false∧∀b,st b=none→K (.ptr b 0) (st.aC b (.cells x.cells)) else k (w7 P t x)
def JM(zs:Option (List AV))(st:aB)(K:AV→aB→Prop):Prop:=match zs with | some zs=>∀b,st b=none→K (.ptr b 0) (st.aC b (.cells zs)) | none=>False
def L9(P:Program)(t:TypeId)(p x:AV)(st:aB)(K:AV→aB→Prop):Prop:=
 match p with
 | .ptr b q=>match st b,tI P t with
  | some (.cells cs),some (_,sz)=>x.cells.length=sz∧q+sz≤cs.length∧x.cells.all AV.storable=true∧K .undef (st.aC b (.cells (aK cs q x.cells)))
  | _,_=>False
 | _=>False
theorem aFL{x:Operand}:bJ P mt ops (⟨dst,.move x,type,pos,after,none⟩::rest) K φ st=bJ P mt ops rest K (φ.put dst (φ.eval x)) st:=rfl
theorem aB3{x:Operand}:bJ P mt ops (⟨dst,.assign x,type,pos,after,none⟩::rest) K φ st=bJ P mt ops rest K (φ.put dst (φ.eval x)) st:=rfl
theorem aFU{c x y:Operand}:bJ P mt ops (⟨dst,.pick c x y,type,pos,after,none⟩::rest) K φ st=kC P mt ops rest K φ dst st (IZ (φ.eval c) (φ.eval x) (φ.eval y)):=by
 rw[lZ rfl fun _=>rfl]
 simp only[lG]
 cases φ.eval c<;>rfl
theorem aB6{op:BinOp}{t t':TypeId}{x y:Operand}:bJ P mt ops (⟨dst,.binOp op t x y t',type,pos,after,none⟩::rest) K φ st=kC P mt ops rest K φ dst st (eC P op t (φ.eval x) (φ.eval y)):=lZ rfl fun _=>rfl
theorem aIV{op:UnOp}{t:TypeId}{x:Operand}:bJ P mt ops (⟨dst,.unOp op t x,type,pos,after,none⟩::rest) K φ st=kC P mt ops rest K φ dst st (FN op (φ.eval x)):=lZ rfl fun _=>rfl
theorem aFQ{x:Operand}:bJ P mt ops (⟨dst,.nilCheck x,type,pos,after,none⟩::rest) K φ st=kC P mt ops rest K φ dst st (zC (φ.eval x)):=by
 rw[lZ rfl fun _=>rfl]
 try rfl
theorem aDK{t f:Nat}{x:Operand}:bJ P mt ops (⟨dst,.fieldAddr t x f,type,pos,after,none⟩::rest) K φ st=kC P mt ops rest K φ dst st (sH P t f (φ.eval x)):=lZ rfl fun _=>rfl
theorem aE6{t:TypeId}{x:Operand}:bJ P mt ops (⟨dst,.load t x,type,pos,after,none⟩::rest) K φ st=kC P mt ops rest K φ dst st (iA P st t (φ.eval x)):=lZ rfl fun _=>rfl
theorem aDJ{t f:Nat}{x:Operand}:bJ P mt ops (⟨dst,.field t x f,type,pos,after,none⟩::rest) K φ st=kC P mt ops rest K φ dst st (I0 P t f (φ.eval x)):=by
 rw[lZ rfl fun _=>rfl]
 try rfl
theorem aEV{t:TypeId}{x i:Operand}:bJ P mt ops (⟨dst,.indexAddr t x i,type,pos,after,none⟩::rest) K φ st=kC P mt ops rest K φ dst st (c9 P t (φ.eval x) (φ.eval i)):=lZ rfl fun _=>rfl
theorem aEU{t:TypeId}{x i:Operand}:bJ P mt ops (⟨dst,.index t x i,type,pos,after,none⟩::rest) K φ st=kC P mt ops rest K φ dst st (CF P t (φ.eval x) (φ.eval i)):=lZ rfl fun _=>rfl
theorem aHG{t:TypeId}{x:Operand}{lo hi mx:Option Operand}:bJ P mt ops (⟨dst,.slice t x lo hi mx,type,pos,after,none⟩::rest) K φ st=kC P mt ops rest K φ dst st (gZ P φ t (φ.eval x) lo hi mx):=lZ rfl fun _=>rfl
theorem aDH{x:Operand}{i:Nat}:bJ P mt ops (⟨dst,.extract x i,type,pos,after,none⟩::rest) K φ st=kC P mt ops rest K φ dst st (BV (φ.eval x) i):=by
 rw[lZ rfl fun _=>rfl]
 try rfl
theorem aFD{g:FuncId}{dN:Array Operand}:bJ P mt ops (⟨dst,.makeFunc (.func g) #[] dN,type,pos,after,none⟩::rest) K φ st=kC P mt ops rest K φ dst st (JG g (dN.toList.map φ.eval)):=by
 rw[lZ rfl fun _=>rfl]
 congr 1
 simp [lG,JG]
theorem aCF{t:TypeId}{ps:Array (Nat×Operand)}:bJ P mt ops (⟨dst,.build t ps,type,pos,after,none⟩::rest) K φ st=kC P mt ops rest K φ dst st (zB P φ t ps):=lZ rfl fun _=>rfl
theorem aCG{t:TypeId}{n:Nat}{ps:Array (Nat×Operand)}:bJ P mt ops (⟨dst,.buildSlice t n ps,type,pos,after,none⟩::rest) K φ st=kC P mt ops rest K φ dst st (BU P φ t n ps):=lZ rfl fun _=>rfl
theorem aDB{t u:TypeId}{x:Operand}:bJ P mt ops (⟨dst,.convert t u x,type,pos,after,none⟩::rest) K φ st=kC P mt ops rest K φ dst st (sO P t u (φ.eval x)):=lZ rfl fun _=>rfl
theorem aE7{t:TypeId}{x i:Operand}{ok:Bool}:bJ P mt ops (⟨dst,.lookup t x i ok,type,pos,after,none⟩::rest) K φ st=kC P mt ops rest K φ dst st (o0 P st t ok (φ.eval x) (φ.eval i)):=lZ rfl fun _=>rfl
theorem aE0{x:Operand}{t:TypeId}:bJ P mt ops (⟨dst,.call { callee:=.builtin .len,args:=#[x],argTypes:=#[t] },type,pos,after,none⟩::rest) K φ st=kC P mt ops rest K φ dst st (oE P t (φ.eval x)):=lZ rfl fun _=>rfl
theorem aCO{f:Operand}{args:List Operand}{ats:Array TypeId}:bJ P mt ops (⟨dst,.call { callee:=.value f,args:=args.toArray,argTypes:=ats },type,pos,after,none⟩::rest) K φ st=sU P (φ.eval f) (args.map φ.eval) st (oP P mt ops rest K φ dst):=rfl
theorem aFH{x y:Operand}{ts:Array TypeId}:bJ P mt ops (⟨dst,.call { callee:=.builtin .max,args:=#[x,y],argTypes:=ts },type,pos,after,none⟩::rest) K φ st=kC P mt ops rest K φ dst st (xO (φ.eval x) (φ.eval y)):=lZ rfl fun _=>rfl
theorem aFJ{x y:Operand}{ts:Array TypeId}:bJ P mt ops (⟨dst,.call { callee:=.builtin .min,args:=#[x,y],argTypes:=ts },type,pos,after,none⟩::rest) K φ st=kC P mt ops rest K φ dst st (CG (φ.eval x) (φ.eval y)):=lZ rfl fun _=>rfl
theorem aBD{s x:Operand}{t t':TypeId}:bJ P mt ops (⟨dst,.call { callee:=.builtin .append,args:=#[s,x],argTypes:=#[t,t'] },type,pos,after,none⟩::rest) K φ st=(if t=t' then kD P t st (φ.eval s) (φ.eval x) (oP P mt ops rest K φ dst) else sN P t t' st (φ.eval s) (φ.eval x) (oP P mt ops rest K φ dst)):=rfl
theorem aC9{x:Operand}{t:TypeId}:bJ P mt ops (⟨dst,.call { callee:=.builtin .clear,args:=#[x],argTypes:=#[t] },type,pos,after,none⟩::rest) K φ st=vJ P t st (φ.eval x) (oP P mt ops rest K φ dst):=rfl
theorem aDC{m k:Operand}{t t':TypeId}:bJ P mt ops (⟨dst,.call { callee:=.builtin .delete,args:=#[m,k],argTypes:=#[t,t'] },type,pos,after,none⟩::rest) K φ st=zS P t st (φ.eval m) (φ.eval k) (oP P mt ops rest K φ dst):=rfl
theorem aCC{t:TypeId}{x:Operand}:bJ P mt ops (⟨dst,.box t x,type,pos,after,none⟩::rest) K φ st=xS P (BW mt dst) t (φ.eval x) st (oP P mt ops rest K φ dst) (kC P mt ops rest K φ dst st):=by
 simp only[bJ,jJ,fH,xS,oP]
 split
 · rfl
 · cases w7 P t (φ.eval x)<;>rfl
theorem aBA{t:TypeId}:bJ P mt ops (⟨dst,.alloc t,type,pos,after,none⟩::rest) K φ st=JM (zI P t) st (oP P mt ops rest K φ dst):=rfl
theorem aH7{t:TypeId}{p x:Operand}:bJ P mt ops (⟨dst,.store t p x,type,pos,after,none⟩::rest) K φ st=L9 P t (φ.eval p) (φ.eval x) st (oP P mt ops rest K φ dst):=rfl
theorem aFE{t:TypeId}:bJ P mt ops (⟨dst,.makeMap t none,type,pos,after,none⟩::rest) K φ st=∀b,st b=none→oP P mt ops rest K φ dst (.map b) (st.aC b (.map fun _=>none)):=rfl
theorem aFF{t:TypeId}{n c:Operand}:bJ P mt ops (⟨dst,.makeSlice t n c,type,pos,after,none⟩::rest) K φ st=xN P t st (φ.eval n) (φ.eval c) (oP P mt ops rest K φ dst):=rfl
theorem aFG{t:TypeId}{m k x:Operand}:bJ P mt ops (⟨dst,.mapUpdate t m k x,type,pos,after,none⟩::rest) K φ st=sP P t st (φ.eval m) (φ.eval k) (φ.eval x) (oP P mt ops rest K φ dst):=rfl
theorem aIT{t:Tmp}:φ.eval (.tmp t)=φ t:=rfl
theorem aCJ{k:IntKind}{n:Int}:φ.eval (.const (.int k n))=.int k n:=rfl
theorem aCH{b:Bool}:φ.eval (.const (.bool b))=.bool b:=rfl
theorem aCL:φ.eval (.const (.slice none 0 0))=.fslice []:=rfl
theorem aCM:φ.eval (.const (.pointer none))=.nilptr:=rfl
theorem aCK:φ.eval (.const (.map none))=.nilmap:=rfl
theorem aCI{g:FuncId}:φ.eval (.func g)=.func g []:=rfl
theorem aCN{l:List UInt8}:φ.eval (.const (.string ⟨l.toArray⟩))=if l.length≤9223372036854775807 then .str ⟨l.toArray⟩ else .junk:=by
 simp [AF.eval,ofConst,ByteArray.size,maxLen]
theorem aIW{d e:Nat}{v:AV}:(φ.aC d v) e=if e=d then v else φ e:=rfl
theorem aGC{d:Nat}{v:AV}:φ.put (some d) v=φ.aC d v:=rfl
theorem aGD{v:AV}:φ.put none v=φ:=rfl
theorem aBF{i:Nat}:uA i []=AF.bot:=rfl
theorem aBE{i:Nat}{a:AV}{as:List AV}:uA i (a::as)=(uA (i+1) as).aC i a:=rfl
theorem aAL{P:Program}{t:TypeId}{k:IntKind}{a b:Int}:eC P .add t (.int k a) (.int k b)=some (.int k (k.wrap (a+b))):=by simp [eC,kM]
theorem aIC{P:Program}{t:TypeId}{k:IntKind}{a b:Int}:eC P .sub t (.int k a) (.int k b)=some (.int k (k.wrap (a - b))):=by simp [eC,kM]
theorem aFM{P:Program}{t:TypeId}{k:IntKind}{a b:Int}:eC P .mul t (.int k a) (.int k b)=some (.int k (k.wrap (a*b))):=by simp [eC,kM]
theorem aGE{P:Program}{t:TypeId}{k:IntKind}{a b:Int}:eC P .quo t (.int k a) (.int k b)=if b=0 then none else some (.int k (k.wrap (a.tdiv b))):=by simp [eC,kM]
theorem aGI{P:Program}{t:TypeId}{k:IntKind}{a b:Int}:eC P .rem t (.int k a) (.int k b)=if b=0 then none else some (.int k (a.tmod b)):=by simp [eC,kM]
theorem aDF{P:Program}{t:TypeId}{k:IntKind}{a b:Int}:eC P .eql t (.int k a) (.int k b)=some (.bool (decide (a=b))):=by simp [eC,kM]
theorem aFO{P:Program}{t:TypeId}{k:IntKind}{a b:Int}:eC P .neq t (.int k a) (.int k b)=some (.bool (!decide (a=b))):=by simp [eC,kM]
theorem aFC{P:Program}{t:TypeId}{k:IntKind}{a b:Int}:eC P .lss t (.int k a) (.int k b)=some (.bool (decide (a<b))):=by simp [eC,kM]
theorem aE5{P:Program}{t:TypeId}{k:IntKind}{a b:Int}:eC P .leq t (.int k a) (.int k b)=some (.bool (decide (a≤b))):=by simp [eC,kM]
theorem aDR{P:Program}{t:TypeId}{k:IntKind}{a b:Int}:eC P .gtr t (.int k a) (.int k b)=some (.bool (decide (b<a))):=by simp [eC,kM]
theorem aDQ{P:Program}{t:TypeId}{k:IntKind}{a b:Int}:eC P .geq t (.int k a) (.int k b)=some (.bool (decide (b≤a))):=by simp [eC,kM]
theorem aJE{P:Program}{t:TypeId}{k:IntKind}{a b:Int}:eC P .xor t (.int k a) (.int k b)=some (.int k (FO k a b)):=by simp [eC,kM]
theorem aBC{P:Program}{t:TypeId}{k:IntKind}{a b:Int}:eC P .and t (.int k a) (.int k b)=some (.int k (N5 k a b)):=by simp [eC,kM]
theorem aFT{P:Program}{t:TypeId}{k:IntKind}{a b:Int}:eC P .or t (.int k a) (.int k b)=some (.int k (OB k a b)):=by simp [eC,kM]
theorem aFI{k:IntKind}{a b:Int}:xO (.int k a) (.int k b)=some (.int k (if a<b then b else a)):=by simp [xO]
theorem aFK{k:IntKind}{a b:Int}:CG (.int k a) (.int k b)=some (.int k (if b<a then b else a)):=by simp [CG]
theorem aHD{P:Program}{t:TypeId}{a b:ByteArray}:eC P .eql t (.str a) (.str b)=some (.bool (decide (a=b))):=by simp [eC,kM]
theorem aHI{P:Program}{t:TypeId}{a b:ByteArray}:eC P .neq t (.str a) (.str b)=some (.bool (!decide (a=b))):=by simp [eC,kM]
theorem aGW{P:Program}{t:TypeId}{a b:ByteArray}:eC P .add t (.str a) (.str b)=if a.size+b.size≤maxLen then some (.str (a++b)) else none:=by simp [eC,kM]
theorem aHH{P:Program}{t:TypeId}{a b:ByteArray}:eC P .lss t (.str a) (.str b)=some (.bool (Op.bytesLess a.toList b.toList)):=by simp [eC,kM]
theorem aHE{P:Program}{t:TypeId}{a b:ByteArray}:eC P .gtr t (.str a) (.str b)=some (.bool (!(Op.bytesLess a.toList b.toList||decide (a=b)))):=by simp [eC,kM]
theorem aB5{P:Program}{t:TypeId}{a b:Bool}(h:P.underlying t=some .bool):eC P .eql t (.bool a) (.bool b)=some (.bool (a == b)):=by simp [eC,h]
theorem aCB{P:Program}{t:TypeId}{a b:Bool}(h:P.underlying t=some .bool):eC P .neq t (.bool a) (.bool b)=some (.bool (!(a == b))):=by simp [eC,h]
theorem aFR{b:Bool}:FN .not (.bool b)=some (.bool (!b)):=rfl
theorem aFN{k:IntKind}{n:Int}:FN .neg (.int k n)=some (.int k (k.wrap (0 - n))):=rfl
end
end
@[congr] theorem a8W {P:Program} {N:Nat} {mt:List Nat} {c:Code} {Q:Exit→AF→aB→Prop} {φ φ':AF} {st st':aB} (h1:φ=φ') (h2:st=st'):gH P N mt c Q φ st=gH P N mt c Q φ' st':=by rw[h1,h2]
@[congr] theorem a81 {P:Program} {mt:List Nat} {ops:Array Oper} {l:List Oper} {K:AF→aB→Prop} {φ φ':AF} {st st':aB} (h1:φ=φ') (h2:st=st'):bJ P mt ops l K φ st=bJ P mt ops l K φ' st':=by rw[h1,h2]
@[congr] theorem a9F {P:Program} {mt:List Nat} {ops:Array Oper} {l:List Oper} {K:AF→aB→Prop} {φ:AF} {st:aB} {dst:Option Tmp} {x x':Option AV} (h1:x=x'):kC P mt ops l K φ dst st x=kC P mt ops l K φ dst st x':=by rw[h1]
@[congr] theorem a9E {P:Program} {mt:List Nat} {ops:Array Oper} {o:Oper} {l:List Oper} {K:AF→aB→Prop} {φ:AF} {st:aB} {x x':Option Bool} (h1:x=x'):wM P mt ops o l K φ st x=wM P mt ops o l K φ st x':=by rw[h1]
@[congr] theorem a9D {P:Program} {mt:List Nat} {ops:Array Oper} {l:List Oper} {K:AF→aB→Prop} {φ:AF} {dst:Option Tmp} {r r':AV} {st st':aB} (h1:r=r') (h2:st=st'):oP P mt ops l K φ dst r st=oP P mt ops l K φ dst r' st':=by rw[h1,h2]
@[congr] theorem a8X {c c':AV} {k₁ k₂:AF→aB→Prop} {φ:AF} {st:aB} (h1:c=c'):vK c k₁ k₂ φ st=vK c' k₁ k₂ φ st:=by rw[h1]
@[congr] theorem a8S {P:Program} {N:Nat} {c:Code} {Q:Exit→AF→aB→Prop} {φ φ':AF} {st st':aB} (h1:φ=φ') (h2:st=st'):gP P N c Q φ st=gP P N c Q φ' st':=by rw[h1,h2]
@[congr] theorem a8R {P:Program} {g:FuncId} {args args':List AV} {st st':aB} {K:AV→aB→Prop} (h1:args=args') (h2:st=st'):aD P g args st K=aD P g args' st' K:=by rw[h1,h2]
@[congr] theorem a9A {P:Program} {f f':AV} {args args':List AV} {st st':aB} {K:AV→aB→Prop} (h0:f=f') (h1:args=args') (h2:st=st'):sU P f args st K=sU P f' args' st' K:=by rw[h0,h1,h2]
@[congr] theorem a86 {P:Program} {m m':Bool} {t:TypeId} {x x':AV} {st st':aB} {K:AV→aB→Prop} {k:Option AV→Prop} (h0:m=m') (h1:x=x') (h2:st=st'):xS P m t x st K k=xS P m' t x' st' K k:=by rw[h0,h1,h2]
@[congr] theorem a85 {zs zs':Option (List AV)} {st st':aB} {K:AV→aB→Prop} (h1:zs=zs') (h2:st=st'):JM zs st K=JM zs' st' K:=by rw[h1,h2]
@[congr] theorem a9K {P:Program} {t:TypeId} {p p' x x':AV} {st st':aB} {K:AV→aB→Prop} (h0:p=p') (h1:x=x') (h2:st=st'):L9 P t p x st K=L9 P t p' x' st' K:=by rw[h0,h1,h2]
@[congr] theorem a80 {x x' y y':AV} (h0:x=x') (h1:y=y'):xO x y=xO x' y':=by rw[h0,h1]
@[congr] theorem a8V {P:Program} {t:TypeId} {x x':AV} {st st':aB} {K:AV→aB→Prop} (h1:x=x') (h2:st=st'):vJ P t st x K=vJ P t st' x' K:=by rw[h1,h2]
@[congr] theorem a8U {P:Program} {t t':TypeId} {s s' x x':AV} {st st':aB} {K:AV→aB→Prop} (h0:s=s') (h1:x=x') (h2:st=st'):sN P t t' st s x K=sN P t t' st' s' x' K:=by rw[h0,h1,h2]
@[congr] theorem a8T {P:Program} {t:TypeId} {s s' x x':AV} {st st':aB} {K:AV→aB→Prop} (h0:s=s') (h1:x=x') (h2:st=st'):kD P t st s x K=kD P t st' s' x' K:=by rw[h0,h1,h2]
@[congr] theorem a8Y {P:Program} {t:TypeId} {s s' x x':AV} {st st':aB} {K:AV→aB→Prop} (h0:s=s') (h1:x=x') (h2:st=st'):xN P t st s x K=xN P t st' s' x' K:=by rw[h0,h1,h2]
@[congr] theorem a8Z {P:Program} {t:TypeId} {m m' s s' x x':AV} {st st':aB} {K:AV→aB→Prop} (h:m=m') (h0:s=s') (h1:x=x') (h2:st=st'):sP P t st m s x K=sP P t st' m' s' x' K:=by rw[h,h0,h1,h2]
theorem aCP{P:Program}{g:FuncId}{dN args:List AV}{st:aB}{K:AV→aB→Prop}:sU P (.func g dN) args st K=aD P g (args++dN) st K:=rfl
theorem aCD{P:Program}{t:TypeId}{x:AV}{st:aB}{K:AV→aB→Prop}{k:Option AV→Prop}:xS P false t x st K k=k (w7 P t x):=by simp [xS]
theorem aCE{P:Program}{t:TypeId}{x:AV}{st:aB}{K:AV→aB→Prop}{k:Option AV→Prop}:xS P true t x st K k=(x.cE=false∧∀b,st b=none→K (.ptr b 0) (st.aC b (.cells x.cells))):=by simp [xS]
theorem aBB{zs:List AV}{st:aB}{K:AV→aB→Prop}:JM (some zs) st K=∀b,st b=none→K (.ptr b 0) (st.aC b (.cells zs)):=rfl
theorem aH8{P:Program}{t:TypeId}{b q:Nat}{x:AV}{st:aB}{K:AV→aB→Prop}:L9 P t (.ptr b q) x st K=match st b,tI P t with
 | some (.cells cs),some (_,sz)=>x.cells.length=sz∧q+sz≤cs.length∧x.cells.all AV.storable=true∧K .undef (st.aC b (.cells (aK cs q x.cells)))
 | _,_=>False:=rfl
def jU:Op→Bool
 | .alloc _=>true
 | _=>false
def jM:Op→Bool
 | .store _ _ _=>true
 | _=>false
def zK(P:Program)(mt:List Nat)(ops:Array Oper)(rest:List Oper)(K:AF→aB→Prop)(φ:AF)(st:aB):Prop:=gI P mt ops rest K φ st
def zF(P:Program)(mt:List Nat)(ops:Array Oper)(rest:List Oper)(K:AF→aB→Prop)(φ:AF)(d:Nat)(st:aB)(r:AV):Prop:=gI P mt ops rest K (φ.aC d r) st
def wA(x:AV)(K:AV→Prop):Option (List AV)→Option (Bool×Nat)→Prop
 | some zs,some (_,sz)=>zs.length=sz∧x.width=sz∧x.cells.all AV.storable=true∧x.cE=false∧K (.pptr x)
 | _,_=>False
def zM(P:Program)(mt:List Nat)(ops:Array Oper)(o:Oper)(s:Oper)(rest:List Oper)(K:AF→aB→Prop)(φ:AF)(st:aB)(d:Nat)(t:TypeId)(x:AV):Bool→Prop
 | true=>bJ P mt ops [o] (zK P mt ops (s::rest) K) φ st
 | false=>wA x (zF P mt ops rest K φ d st) (zI P t) (tI P t)
section
variable {P:Program} {mt:List Nat} {ops:Array Oper} {rest:List Oper} {K:AF→aB→Prop} {φ:AF} {st:aB} {dst C5:Option Tmp} {type u0:TypeId} {pos pos':String} {after t8:Array Edge} {g g':Option (Nat×Bool)} {op op':Op}
theorem KR:zK P mt ops rest K φ st=gI P mt ops rest K φ st:=rfl
theorem aJF{d:Nat}{r:AV}:zF P mt ops rest K φ d st r=gI P mt ops rest K (φ.aC d r) st:=rfl
theorem aAG:gI P mt ops [] K φ st=K φ st:=by rw[gI]
theorem KP(h:jU op=false):gI P mt ops (⟨dst,op,type,pos,after,g⟩::rest) K φ st=bJ P mt ops [⟨dst,op,type,pos,after,g⟩] (zK P mt ops rest K) φ st:=by
 rw[gI]
 · rfl
 · intro d t ty ps af t' d' x ty' ps' af' r e1 e2
   cases e1
   cases h
 · intro d t ty ps af e y ty2 ps2 af2 t' d' x ty' ps' af' r e1 e2
   cases e1
   cases h
theorem KQ{t:TypeId}{x:AV}{k:AV→Prop}:CE P t x k=wA x k (zI P t) (tI P t):=by
 unfold CE wA
 simp only[vT]
 cases zI P t<;>cases tI P t<;>rfl
theorem aDP{x:AV}{k:AV→Prop}{zs:List AV}{ag:Bool}{sz:Nat}:wA x k (some zs) (some (ag,sz))=(zs.length=sz∧x.width=sz∧x.cells.all AV.storable=true∧x.cE=false∧k (.pptr x)):=rfl
theorem KO{d:Nat}{t:TypeId}{x:Operand}:gI P mt ops (⟨some d,.alloc t,type,pos,after,none⟩::⟨none,.store t (.tmp d) x,u0,pos',t8,none⟩::rest) K φ st =
 zM P mt ops ⟨some d,.alloc t,type,pos,after,none⟩ ⟨none,.store t (.tmp d) x,u0,pos',t8,none⟩ rest K φ st d t (φ.eval x) (mt.contains d||pL x d):=by
 rw[gI]
 cases h:(mt.contains d||pL x d) with
 | true=>
  rw[aF (by simp)]
  show _=bJ P mt ops _ (fun φ' st'=>zK P mt ops _ K φ' st') φ st
  simp only[KR,KP (K:=K) (rest:=rest) (op:=.store t (.tmp d) x) rfl]
  rfl
 | false=>
  rw[aJ ⟨rfl,rfl,rfl⟩,KQ]
  try rfl
theorem aJJ{o s:Oper}{d:Nat}{t:TypeId}{x:AV}:zM P mt ops o s rest K φ st d t x true=bJ P mt ops [o] (zK P mt ops (s::rest) K) φ st:=rfl
theorem aJI{o s:Oper}{d:Nat}{t:TypeId}{x:AV}:zM P mt ops o s rest K φ st d t x false=wA x (zF P mt ops rest K φ d st) (zI P t) (tI P t):=rfl
def IY(P:Program)(mt:List Nat)(ops:Array Oper)(o:Oper)(os:List Oper)(rest:List Oper)(K:AF→aB→Prop)(φ φ':AF)(st:aB)(d:Nat)(t:TypeId)(x:AV):Bool→Prop
 | true=>bJ P mt ops [o] (zK P mt ops (os++rest) K) φ st
 | false=>wA x (zF P mt ops rest K φ' d st) (zI P t) (tI P t)
theorem aJG{o:Oper}{os:List Oper}{φ':AF}{d:Nat}{t:TypeId}{x:AV}:IY P mt ops o os rest K φ φ' st d t x false=wA x (zF P mt ops rest K φ' d st) (zI P t) (tI P t):=rfl
theorem aJH{o:Oper}{os:List Oper}{φ':AF}{d:Nat}{t:TypeId}{x:AV}:IY P mt ops o os rest K φ φ' st d t x true=bJ P mt ops [o] (zK P mt ops (os++rest) K) φ st:=rfl
theorem aWY{d e:Nat}{t:TypeId}{x y:Operand}{type2:TypeId}{wQ:String}{FQ:Array Edge}:gI P mt ops (⟨some d,.alloc t,type,pos,after,none⟩::⟨some e,.assign y,type2,wQ,FQ,none⟩::⟨none,.store t (.tmp d) x,u0,pos',t8,none⟩::rest) K φ st =
 IY P mt ops ⟨some d,.alloc t,type,pos,after,none⟩ [⟨some e,.assign y,type2,wQ,FQ,none⟩,⟨none,.store t (.tmp d) x,u0,pos',t8,none⟩] rest K φ (φ.aC e (φ.eval y)) st d t ((φ.aC e (φ.eval y)).eval x) (mt.contains d||pL x d||pL y d||d == e):=by
 rw[gI]
 cases h:(mt.contains d||pL x d||pL y d||d == e) with
 | true=>
  rw[aF (by simp)]
  show _=bJ P mt ops _ (fun φ' st'=>zK P mt ops _ K φ' st') φ st
  simp only[KR,fC,eL,KP (K:=K) (op:=.assign y) rfl]
  rfl
 | false=>
  rw[aJ ⟨rfl,rfl,rfl⟩,KQ]
  try rfl
def kB:Op→Bool
 | .assign _=>true
 | _=>false
theorem aAH{t:TypeId}(h:jM op'=false)(h2:kB op'=false):gI P mt ops (⟨dst,.alloc t,type,pos,after,g⟩::⟨C5,op',u0,pos',t8,g'⟩::rest) K φ st=bJ P mt ops [⟨dst,.alloc t,type,pos,after,g⟩] (zK P mt ops (⟨C5,op',u0,pos',t8,g'⟩::rest) K) φ st:=by
 rw[gI]
 · rfl
 · intro d t ty ps af t' d' x ty' ps' af' r e1 e2
   cases e2
   cases h
 · intro d t ty ps af e y ty2 ps2 af2 t' d' x ty' ps' af' r e1 e2
   cases e2
   cases h2
theorem aAI{t:TypeId}:gI P mt ops [⟨dst,.alloc t,type,pos,after,g⟩] K φ st=bJ P mt ops [⟨dst,.alloc t,type,pos,after,g⟩] (zK P mt ops [] K) φ st:=by
 rw[gI]
 · rfl
 · intro d t ty ps af t' d' x ty' ps' af' r e1 e2
   cases e2
 · intro d t ty ps af e y ty2 ps2 af2 t' d' x ty' ps' af' r e1 e2
   cases e2
theorem aAJ{t:TypeId}{y:Operand}:gI P mt ops [⟨dst,.alloc t,type,pos,after,g⟩,⟨C5,.assign y,u0,pos',t8,g'⟩] K φ st=bJ P mt ops [⟨dst,.alloc t,type,pos,after,g⟩] (zK P mt ops [⟨C5,.assign y,u0,pos',t8,g'⟩] K) φ st:=by
 rw[gI]
 · rfl
 · intro d t ty ps af t' d' x ty' ps' af' r e1 e2
   cases e2
 · intro d t ty ps af e y ty2 ps2 af2 t' d' x ty' ps' af' r e1 e2
   cases e2
theorem aAK{t:TypeId}{y:Operand}{ZD:Option Tmp}{op2:Op}{type2:TypeId}{wQ:String}{FQ:Array Edge}{g2:Option (Nat×Bool)}(h:jM op2=false):gI P mt ops (⟨dst,.alloc t,type,pos,after,g⟩::⟨C5,.assign y,u0,pos',t8,g'⟩::⟨ZD,op2,type2,wQ,FQ,g2⟩::rest) K φ st=bJ P mt ops [⟨dst,.alloc t,type,pos,after,g⟩] (zK P mt ops (⟨C5,.assign y,u0,pos',t8,g'⟩::⟨ZD,op2,type2,wQ,FQ,g2⟩::rest) K) φ st:=by
 rw[gI]
 · rfl
 · intro d t ty ps af t' d' x ty' ps' af' r e1 e2
   cases e2
 · intro d t ty ps af e y ty2 ps2 af2 t' d' x ty' ps' af' r e1 e2
   cases e2
   cases h
theorem aEX{d e:Nat}:pL (.tmp e) d=(e == d):=rfl
theorem aEW{v:Value}{d:Nat}:pL (.const v) d=false:=rfl
theorem aA4{x:Operand}:jU (.move x)=false:=rfl
theorem aH2{x:Operand}:jM (.move x)=false:=rfl
theorem aAM{x:Operand}:jU (.assign x)=false:=rfl
theorem aHK{x:Operand}:jM (.assign x)=false:=rfl
theorem aA6{c x y:Operand}:jU (.pick c x y)=false:=rfl
theorem aH4{c x y:Operand}:jM (.pick c x y)=false:=rfl
theorem aAN{op:BinOp}{t:TypeId}{x y:Operand}{t':TypeId}:jU (.binOp op t x y t')=false:=rfl
theorem aHL{op:BinOp}{t:TypeId}{x y:Operand}{t':TypeId}:jM (.binOp op t x y t')=false:=rfl
theorem aA9{op:UnOp}{t:TypeId}{x:Operand}:jU (.unOp op t x)=false:=rfl
theorem aH6{op:UnOp}{t:TypeId}{x:Operand}:jM (.unOp op t x)=false:=rfl
theorem aA5{x:Operand}:jU (.nilCheck x)=false:=rfl
theorem aH3{x:Operand}:jM (.nilCheck x)=false:=rfl
theorem aAV{t f:Nat}{x:Operand}:jU (.fieldAddr t x f)=false:=rfl
theorem aHT{t f:Nat}{x:Operand}:jM (.fieldAddr t x f)=false:=rfl
theorem aAY{t:TypeId}{x:Operand}:jU (.load t x)=false:=rfl
theorem aHW{t:TypeId}{x:Operand}:jM (.load t x)=false:=rfl
theorem aA8{t:TypeId}{p x:Operand}:jU (.store t p x)=false:=rfl
theorem aAU{t f:Nat}{x:Operand}:jU (.field t x f)=false:=rfl
theorem aHS{t f:Nat}{x:Operand}:jM (.field t x f)=false:=rfl
theorem aAX{t:TypeId}{x i:Operand}:jU (.indexAddr t x i)=false:=rfl
theorem aHV{t:TypeId}{x i:Operand}:jM (.indexAddr t x i)=false:=rfl
theorem aAW{t:TypeId}{x i:Operand}:jU (.index t x i)=false:=rfl
theorem aHU{t:TypeId}{x i:Operand}:jM (.index t x i)=false:=rfl
theorem aA7{t:TypeId}{x:Operand}{lo hi mx:Option Operand}:jU (.slice t x lo hi mx)=false:=rfl
theorem aH5{t:TypeId}{x:Operand}{lo hi mx:Option Operand}:jM (.slice t x lo hi mx)=false:=rfl
theorem aAT{x:Operand}{i:Nat}:jU (.extract x i)=false:=rfl
theorem aHR{x:Operand}{i:Nat}:jM (.extract x i)=false:=rfl
theorem aAP{t:TypeId}{ps:Array (Nat×Operand)}:jU (.build t ps)=false:=rfl
theorem aHN{t:TypeId}{ps:Array (Nat×Operand)}:jM (.build t ps)=false:=rfl
theorem aAQ{t:TypeId}{n:Nat}{ps:Array (Nat×Operand)}:jU (.buildSlice t n ps)=false:=rfl
theorem aHO{t:TypeId}{n:Nat}{ps:Array (Nat×Operand)}:jM (.buildSlice t n ps)=false:=rfl
theorem aAS{t u:TypeId}{x:Operand}:jU (.convert t u x)=false:=rfl
theorem aHQ{t u:TypeId}{x:Operand}:jM (.convert t u x)=false:=rfl
theorem aAZ{t:TypeId}{x i:Operand}{ok:Bool}:jU (.lookup t x i ok)=false:=rfl
theorem aHX{t:TypeId}{x i:Operand}{ok:Bool}:jM (.lookup t x i ok)=false:=rfl
theorem aAR{c:_}:jU (.call c)=false:=rfl
theorem aHP{c:_}:jM (.call c)=false:=rfl
theorem aAO{t:TypeId}{x:Operand}:jU (.box t x)=false:=rfl
theorem aHM{t:TypeId}{x:Operand}:jM (.box t x)=false:=rfl
theorem aA1{t:_}{x:_}:jU (.makeMap t x)=false:=rfl
theorem aHZ{t:_}{x:_}:jM (.makeMap t x)=false:=rfl
theorem aA2{t:TypeId}{n c:Operand}:jU (.makeSlice t n c)=false:=rfl
theorem aH0{t:TypeId}{n c:Operand}:jM (.makeSlice t n c)=false:=rfl
theorem aA3{t:TypeId}{m k x:Operand}:jU (.mapUpdate t m k x)=false:=rfl
theorem aH1{t:TypeId}{m k x:Operand}:jM (.mapUpdate t m k x)=false:=rfl
theorem aA0{f:_}{a:_}{b:_}:jU (.makeFunc f a b)=false:=rfl
theorem aHY{f:_}{a:_}{b:_}:jM (.makeFunc f a b)=false:=rfl
theorem aHJ{t:TypeId}:jM (.alloc t)=false:=rfl
theorem aBY{x:Operand}:kB (.move x)=false:=rfl
theorem aB0{c x y:Operand}:kB (.pick c x y)=false:=rfl
theorem aBH{op:BinOp}{t:TypeId}{x y:Operand}{t':TypeId}:kB (.binOp op t x y t')=false:=rfl
theorem aB2{op:UnOp}{t:TypeId}{x:Operand}:kB (.unOp op t x)=false:=rfl
theorem aBZ{x:Operand}:kB (.nilCheck x)=false:=rfl
theorem aBP{t f:Nat}{x:Operand}:kB (.fieldAddr t x f)=false:=rfl
theorem aBS{t:TypeId}{x:Operand}:kB (.load t x)=false:=rfl
theorem aBO{t f:Nat}{x:Operand}:kB (.field t x f)=false:=rfl
theorem aBR{t:TypeId}{x i:Operand}:kB (.indexAddr t x i)=false:=rfl
theorem aBQ{t:TypeId}{x i:Operand}:kB (.index t x i)=false:=rfl
theorem aB1{t:TypeId}{x:Operand}{lo hi mx:Option Operand}:kB (.slice t x lo hi mx)=false:=rfl
theorem aBN{x:Operand}{i:Nat}:kB (.extract x i)=false:=rfl
theorem aBJ{t:TypeId}{ps:Array (Nat×Operand)}:kB (.build t ps)=false:=rfl
theorem aBK{t:TypeId}{n:Nat}{ps:Array (Nat×Operand)}:kB (.buildSlice t n ps)=false:=rfl
theorem aBM{t u:TypeId}{x:Operand}:kB (.convert t u x)=false:=rfl
theorem aBT{t:TypeId}{x i:Operand}{ok:Bool}:kB (.lookup t x i ok)=false:=rfl
theorem aBL{c:_}:kB (.call c)=false:=rfl
theorem aBI{t:TypeId}{x:Operand}:kB (.box t x)=false:=rfl
theorem aBV{t:_}{x:_}:kB (.makeMap t x)=false:=rfl
theorem aBW{t:TypeId}{n c:Operand}:kB (.makeSlice t n c)=false:=rfl
theorem aBX{t:TypeId}{m k x:Operand}:kB (.mapUpdate t m k x)=false:=rfl
theorem aBU{f:_}{a:_}{b:_}:kB (.makeFunc f a b)=false:=rfl
theorem aBG{t:TypeId}:kB (.alloc t)=false:=rfl
@[congr] theorem a9M {o:Oper} {os:List Oper} {φ' φ2 φ2':AF} {st':aB} {d:Nat} {t:TypeId} {x x':AV} {b b':Bool} (h1:φ=φ') (h0:φ2=φ2') (h2:st=st') (h3:x=x') (h4:b=b'):IY P mt ops o os rest K φ φ2 st d t x b=IY P mt ops o os rest K φ' φ2' st' d t x' b':=by rw[h1,h0,h2,h3,h4]
@[congr] theorem a9B {x x':AV} {k:AV→Prop} {a a':Option (List AV)} {b b':Option (Bool×Nat)} (h0:x=x') (h1:a=a') (h2:b=b'):wA x k a b=wA x' k a' b':=by rw[h0,h1,h2]
@[congr] theorem a9L {o s:Oper} {φ':AF} {st':aB} {d:Nat} {t:TypeId} {x x':AV} {b b':Bool} (h1:φ=φ') (h2:st=st') (h3:x=x') (h4:b=b'):zM P mt ops o s rest K φ st d t x b=zM P mt ops o s rest K φ' st' d t x' b':=by rw[h1,h2,h3,h4]
@[congr] theorem a9J {l:List Oper} {Q:Exit→AF→aB→Prop} {φ':AF} {st':aB} {b b':Bool} (h1:φ=φ') (h2:st=st') (h3:b=b'):HJ P mt l Q φ st b=HJ P mt l Q φ' st' b':=by rw[h1,h2,h3]
end
end Go.AW
