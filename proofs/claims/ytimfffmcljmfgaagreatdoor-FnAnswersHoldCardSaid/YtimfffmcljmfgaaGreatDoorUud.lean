/- The rules by which the code is evaluated: equations for simp. -/
import Derived.Test.YtimfffmcljmfgaaGreatDoorUuc
set_option linter.unusedSimpArgs false
set_option linter.unusedVariables false
set_option maxRecDepth 100000
namespace Go.AW
section
variable {P:Program} {N:Nat} {mt:List Nat} {Q:Exit→AF→aB→Prop} {φ:AF} {st:aB} {x y:Code} {ops:Array Oper} {id:Nat}
theorem aF7:gG P N mt .skip Q φ st=Q .normal φ st:=rfl
theorem aF4:gG P N mt (.seq x y) Q φ st=gG P N mt x (IB (gG P N mt y Q) Q) φ st:=rfl
def HN(P:Program)(mt:List Nat)(l:List Oper)(Q:Exit→AF→aB→Prop)(φ:AF)(st:aB):Bool→Prop
 | true=>gH P mt l.toArray l (Q .normal) φ st
 | false=>bE P mt l.toArray l (Q .normal) φ st
theorem aE9{l:List Oper}:gG P N mt (.region id l.toArray false) Q φ st=HN P mt l Q φ st (mt.contains 1000000):=by
 simp only[gG,iL,dY]
 cases mt.contains 1000000<;>rfl
theorem aE8{l:List Oper}:HN P mt l Q φ st true=gH P mt l.toArray l (Q .normal) φ st:=rfl
theorem aE7{l:List Oper}:HN P mt l Q φ st false=bE P mt l.toArray l (Q .normal) φ st:=rfl
theorem aB5:gG P N mt (.region id ops true) Q φ st=gO P N (.region id ops true) Q φ st:=by simp [gG]
theorem aB2{c:Operand}:gG P N mt (.cond c x y) Q φ st=u0 (φ.eval c) (gG P N mt x Q) (gG P N mt y Q) φ st:=rfl
theorem aAZ:gG P N mt (.block id x) Q φ st=gG P N mt x (CI id Q) φ st:=rfl
theorem aD0:gG P N mt (.loop x) Q φ st=gO P N (.loop x) Q φ st:=rfl
theorem aB8:gG P N mt (.exit id) Q φ st=Q (.exit id) φ st:=rfl
theorem aFB:gG P N mt .ret Q φ st=Q .ret φ st:=rfl
theorem aHM{k₁ k₂:AF→aB→Prop}:u0 (.bool true) k₁ k₂ φ st=k₁ φ st:=by simp [u0]
theorem aCA{k₁ k₂:AF→aB→Prop}:u0 (.bool false) k₁ k₂ φ st=k₂ φ st:=by simp [u0]
theorem aG6{k:AF→aB→Prop}:IB k Q .normal φ st=k φ st:=rfl
theorem aG5{k:AF→aB→Prop}:IB k Q (.exit id) φ st=Q (.exit id) φ st:=rfl
theorem aG7{k:AF→aB→Prop}:IB k Q .ret φ st=Q .ret φ st:=rfl
theorem aA1:CI id Q .normal φ st=Q .normal φ st:=rfl
theorem aA0{i:Nat}:CI id Q (.exit i) φ st=if i=id then Q .normal φ st else Q (.exit i) φ st:=rfl
theorem aA2:CI id Q .ret φ st=Q .ret φ st:=rfl
theorem aD2{k:AF→aB→Prop}:pK k Q .normal φ st=k φ st:=rfl
theorem aD1{k:AF→aB→Prop}:pK k Q (.exit id) φ st=Q (.exit id) φ st:=rfl
theorem aD3{k:AF→aB→Prop}:pK k Q .ret φ st=Q .ret φ st:=rfl
def nC(P:Program)(rs:List ResultVar)(K:AV→aB→Prop)(φ:AF)(st:aB):Prop:=
 match pW P φ st rs with
 | some xs=>II K st xs
 | none=>False
theorem aFN{rs:Array ResultVar}{K:AV→aB→Prop}:HP P rs K .ret φ st=nC P rs.toList K φ st:=rfl
theorem aFM{rs:Array ResultVar}{K:AV→aB→Prop}:HP P rs K .normal φ st=nC P rs.toList K φ st:=rfl
theorem aFD{t:Tmp}{K:AV→aB→Prop}:nC P [.tmp t] K φ st=K (φ t) st:=rfl
theorem aFC{K:AV→aB→Prop}:nC P [] K φ st=K (.tup []) st:=by simp [nC,pW,II,kP]
theorem aFE{t u:Tmp}{K:AV→aB→Prop}:nC P [.tmp t,.tmp u] K φ st=(kP [φ t,φ u]=true∧K (.tup [φ t,φ u]) st):=rfl
theorem aFF{t u v:Tmp}{K:AV→aB→Prop}:nC P [.tmp t,.tmp u,.tmp v] K φ st=(kP [φ t,φ u,φ v]=true∧K (.tup [φ t,φ u,φ v]) st):=rfl
theorem aFG{t u v w:Tmp}{K:AV→aB→Prop}:nC P [.tmp t,.tmp u,.tmp v,.tmp w] K φ st=(kP [φ t,φ u,φ v,φ w]=true∧K (.tup [φ t,φ u,φ v,φ w]) st):=rfl
def LN(k:AV→Prop):Option AV→Prop
 | some r=>k r
 | none=>False
theorem aFH{p:Tmp}{t:TypeId}{K:AV→aB→Prop}:nC P [.cell p t] K φ st=LN (fun r=>K r st) (g8 P st t (φ p)):=by
 simp only[nC,pW,B8]
 cases g8 P st t (φ p)<;>rfl
theorem aFI{p u:Tmp}{t:TypeId}{K:AV→aB→Prop}:nC P [.cell p t,.tmp u] K φ st=LN (fun r=>kP [r,φ u]=true∧K (.tup [r,φ u]) st) (g8 P st t (φ p)):=by
 simp only[nC,pW,B8]
 cases g8 P st t (φ p)<;>rfl
theorem aFL{u p:Tmp}{t:TypeId}{K:AV→aB→Prop}:nC P [.tmp u,.cell p t] K φ st=LN (fun r=>kP [φ u,r]=true∧K (.tup [φ u,r]) st) (g8 P st t (φ p)):=by
 simp only[nC,pW,B8]
 cases g8 P st t (φ p)<;>rfl
theorem aEK{k:AV→Prop}{r:AV}:LN k (some r)=k r:=rfl
def j5(P:Program)(mt:List Nat)(ops:Array Oper)(rest:List Oper)(K:AF→aB→Prop)(φ:AF)(dst:Option Tmp)(st:aB):Option AV→Prop
 | some r=>bE P mt ops rest K (φ.put dst r) st
 | none=>False
def oN(P:Program)(mt:List Nat)(ops:Array Oper)(rest:List Oper)(K:AF→aB→Prop)(φ:AF)(dst:Option Tmp)(r:AV)(st:aB):Prop:=bE P mt ops rest K (φ.put dst r) st
def wC(P:Program)(mt:List Nat)(ops:Array Oper)(o:Oper)(rest:List Oper)(K:AF→aB→Prop)(φ:AF)(st:aB):Option Bool→Prop
 | some true=>bE P mt ops ({ o with guard:=none }::rest) K φ st
 | some false=>bE P mt ops rest K (φ.put o.dst .undef) st
 | none=>False
def gd(ops:Array Oper)(φ:AF)(j:Nat)(want:Bool):Option Bool:=
 match (ops[j]?).bind (·.dst) with
 | none=>some false
 | some d=>match φ d with
  | .bool b=>some (b == want)
  | .undef=>some false
  | _=>none
section
variable {rest:List Oper} {K:AF→aB→Prop} {dst:Option Tmp} {type:TypeId} {pos:String} {after:Array Edge}
theorem aEH:bE P mt ops [] K φ st=K φ st:=rfl
theorem aCK{op:Op}{j:Nat}{want:Bool}:bE P mt ops (⟨dst,op,type,pos,after,some (j,want)⟩::rest) K φ st=wC P mt ops ⟨dst,op,type,pos,after,some (j,want)⟩ rest K φ st (gd ops φ j want):=by
 simp only[bE]
 have h1:jF ops φ ⟨dst,op,type,pos,after,some (j,want)⟩=gd ops φ j want:=rfl
 rw[h1]
 cases gd ops φ j want with
 | none=>rfl
 | some b=>cases b<;>simp [wC,bE,jF,fH,lD]
theorem YF{r:AV}:oN P mt ops rest K φ dst r st=bE P mt ops rest K (φ.put dst r) st:=rfl
theorem Y5{r:AV}:j5 P mt ops rest K φ dst st (some r)=bE P mt ops rest K (φ.put dst r) st:=rfl
theorem YH{op:Op}{g:Option (Nat×Bool)}:wC P mt ops ⟨dst,op,type,pos,after,g⟩ rest K φ st (some true)=bE P mt ops (⟨dst,op,type,pos,after,none⟩::rest) K φ st:=rfl
theorem YG{op:Op}{g:Option (Nat×Bool)}:wC P mt ops ⟨dst,op,type,pos,after,g⟩ rest K φ st (some false)=bE P mt ops rest K (φ.put dst .undef) st:=rfl
theorem lY{o:Oper}(hg:o.guard=none)(e:∀K',fH P mt φ st o K'=match lD P φ st o with | some r=>K' r st | none=>False):bE P mt ops (o::rest) K φ st=j5 P mt ops rest K φ o.dst st (lD P φ st o):=by
 simp only[bE,jF,hg,e]
 cases lD P φ st o<;>rfl
def IR:AV→AV→AV→Option AV
 | .bool b,x,y=>some (if b then x else y)
 | _,_,_=>none
def yQ:AV→Option AV
 | .ptr b q=>some (.ptr b q)
 | .pptr e=>some (.pptr e)
 | _=>none
def IT(P:Program)(t f:Nat)(x:AV):Option AV:=match fI P t f,x with | some (off,ag,sz),.agg cs=>sub ag cs off sz | _,_=>none
def BL(x:AV)(i:Nat):Option AV:=match x with | .tup vs=>vs[i]? | _=>none
def JD(g:FuncId)(cs:List AV):Option AV:=if kP cs=true then some (.func g cs) else none
def sD(P:Program)(f:AV)(args:List AV)(st:aB)(K:AV→aB→Prop):Prop:=match f with | .func g dP=>aD P g (args++dP) st K | _=>False
def xH(P:Program)(m:Bool)(t:TypeId)(x:AV)(st:aB)(K:AV→aB→Prop)(k:Option AV→Prop):Prop:=
 if m=true then x.cF=false∧∀b,st b=none→K (.ptr b 0) (st.aC b (.cells x.cells)) else k (wS P t x)
def JJ(zs:Option (List AV))(st:aB)(K:AV→aB→Prop):Prop:=match zs with | some zs=>∀b,st b=none→K (.ptr b 0) (st.aC b (.cells zs)) | none=>False
def L0(P:Program)(t:TypeId)(p x:AV)(st:aB)(K:AV→aB→Prop):Prop:=
 match p with
 | .ptr b q=>match st b,tI P t with
  | some (.cells cs),some (_,sz)=>x.cells.length=sz∧q+sz≤cs.length∧x.cells.all AV.storable=true∧K .undef (st.aC b (.cells (aK cs q x.cells)))
  | _,_=>False
 | _=>False
theorem aED{x:Operand}:bE P mt ops (⟨dst,.move x,type,pos,after,none⟩::rest) K φ st=bE P mt ops rest K (φ.put dst (φ.eval x)) st:=rfl
theorem aAV{x:Operand}:bE P mt ops (⟨dst,.assign x,type,pos,after,none⟩::rest) K φ st=bE P mt ops rest K (φ.put dst (φ.eval x)) st:=rfl
theorem aEM{c x y:Operand}:bE P mt ops (⟨dst,.pick c x y,type,pos,after,none⟩::rest) K φ st=j5 P mt ops rest K φ dst st (IR (φ.eval c) (φ.eval x) (φ.eval y)):=by
 rw[lY rfl fun _=>rfl]
 simp only[lD]
 cases φ.eval c<;>rfl
theorem aAY{op:BinOp}{t t':TypeId}{x y:Operand}:bE P mt ops (⟨dst,.binOp op t x y t',type,pos,after,none⟩::rest) K φ st=j5 P mt ops rest K φ dst st (d9 P op t (φ.eval x) (φ.eval y)):=lY rfl fun _=>rfl
theorem aHN{op:UnOp}{t:TypeId}{x:Operand}:bE P mt ops (⟨dst,.unOp op t x,type,pos,after,none⟩::rest) K φ st=j5 P mt ops rest K φ dst st (FH op (φ.eval x)):=lY rfl fun _=>rfl
theorem aEI{x:Operand}:bE P mt ops (⟨dst,.nilCheck x,type,pos,after,none⟩::rest) K φ st=j5 P mt ops rest K φ dst st (yQ (φ.eval x)):=by
 rw[lY rfl fun _=>rfl]
 try rfl
theorem aCC{t f:Nat}{x:Operand}:bE P mt ops (⟨dst,.fieldAddr t x f,type,pos,after,none⟩::rest) K φ st=j5 P mt ops rest K φ dst st (rU P t f (φ.eval x)):=lY rfl fun _=>rfl
theorem aDY{t:TypeId}{x:Operand}:bE P mt ops (⟨dst,.load t x,type,pos,after,none⟩::rest) K φ st=j5 P mt ops rest K φ dst st (g8 P st t (φ.eval x)):=lY rfl fun _=>rfl
theorem aCB{t f:Nat}{x:Operand}:bE P mt ops (⟨dst,.field t x f,type,pos,after,none⟩::rest) K φ st=j5 P mt ops rest K φ dst st (IT P t f (φ.eval x)):=by
 rw[lY rfl fun _=>rfl]
 try rfl
theorem aDN{t:TypeId}{x i:Operand}:bE P mt ops (⟨dst,.indexAddr t x i,type,pos,after,none⟩::rest) K φ st=j5 P mt ops rest K φ dst st (dF P t (φ.eval x) (φ.eval i)):=lY rfl fun _=>rfl
theorem aDM{t:TypeId}{x i:Operand}:bE P mt ops (⟨dst,.index t x i,type,pos,after,none⟩::rest) K φ st=j5 P mt ops rest K φ dst st (B3 P t (φ.eval x) (φ.eval i)):=lY rfl fun _=>rfl
theorem aF8{t:TypeId}{x:Operand}{lo hi mx:Option Operand}:bE P mt ops (⟨dst,.slice t x lo hi mx,type,pos,after,none⟩::rest) K φ st=j5 P mt ops rest K φ dst st (g7 P φ t (φ.eval x) lo hi mx):=lY rfl fun _=>rfl
theorem aB9{x:Operand}{i:Nat}:bE P mt ops (⟨dst,.extract x i,type,pos,after,none⟩::rest) K φ st=j5 P mt ops rest K φ dst st (BL (φ.eval x) i):=by
 rw[lY rfl fun _=>rfl]
 try rfl
theorem aD5{g:FuncId}{dP:Array Operand}:bE P mt ops (⟨dst,.makeFunc (.func g) #[] dP,type,pos,after,none⟩::rest) K φ st=j5 P mt ops rest K φ dst st (JD g (dP.toList.map φ.eval)):=by
 rw[lY rfl fun _=>rfl]
 congr 1
 simp [lD,JD]
theorem aA7{t:TypeId}{ps:Array (Nat×Operand)}:bE P mt ops (⟨dst,.build t ps,type,pos,after,none⟩::rest) K φ st=j5 P mt ops rest K φ dst st (yP P φ t ps):=lY rfl fun _=>rfl
theorem aA8{t:TypeId}{n:Nat}{ps:Array (Nat×Operand)}:bE P mt ops (⟨dst,.buildSlice t n ps,type,pos,after,none⟩::rest) K φ st=j5 P mt ops rest K φ dst st (BK P φ t n ps):=lY rfl fun _=>rfl
theorem aB3{t u:TypeId}{x:Operand}:bE P mt ops (⟨dst,.convert t u x,type,pos,after,none⟩::rest) K φ st=j5 P mt ops rest K φ dst st (tR P t u (φ.eval x)):=lY rfl fun _=>rfl
theorem aDZ{t:TypeId}{x i:Operand}{ok:Bool}:bE P mt ops (⟨dst,.lookup t x i ok,type,pos,after,none⟩::rest) K φ st=j5 P mt ops rest K φ dst st (oX P st t ok (φ.eval x) (φ.eval i)):=lY rfl fun _=>rfl
theorem aDS{x:Operand}{t:TypeId}:bE P mt ops (⟨dst,.call { callee:=.builtin .len,args:=#[x],argTypes:=#[t] },type,pos,after,none⟩::rest) K φ st=j5 P mt ops rest K φ dst st (n9 P t (φ.eval x)):=lY rfl fun _=>rfl
theorem aBG{f:Operand}{args:List Operand}{ats:Array TypeId}:bE P mt ops (⟨dst,.call { callee:=.value f,args:=args.toArray,argTypes:=ats },type,pos,after,none⟩::rest) K φ st=sD P (φ.eval f) (args.map φ.eval) st (oN P mt ops rest K φ dst):=rfl
theorem aD9{x y:Operand}{ts:Array TypeId}:bE P mt ops (⟨dst,.call { callee:=.builtin .max,args:=#[x,y],argTypes:=ts },type,pos,after,none⟩::rest) K φ st=j5 P mt ops rest K φ dst st (xC (φ.eval x) (φ.eval y)):=lY rfl fun _=>rfl
theorem aEB{x y:Operand}{ts:Array TypeId}:bE P mt ops (⟨dst,.call { callee:=.builtin .min,args:=#[x,y],argTypes:=ts },type,pos,after,none⟩::rest) K φ st=j5 P mt ops rest K φ dst st (B4 (φ.eval x) (φ.eval y)):=lY rfl fun _=>rfl
theorem Z5{s x:Operand}{t t':TypeId}:bE P mt ops (⟨dst,.call { callee:=.builtin .append,args:=#[s,x],argTypes:=#[t,t'] },type,pos,after,none⟩::rest) K φ st=(if t=t' then j7 P t st (φ.eval s) (φ.eval x) (oN P mt ops rest K φ dst) else r7 P t t' st (φ.eval s) (φ.eval x) (oN P mt ops rest K φ dst)):=rfl
theorem aB1{x:Operand}{t:TypeId}:bE P mt ops (⟨dst,.call { callee:=.builtin .clear,args:=#[x],argTypes:=#[t] },type,pos,after,none⟩::rest) K φ st=uZ P t st (φ.eval x) (oN P mt ops rest K φ dst):=rfl
theorem aB4{m k:Operand}{t t':TypeId}:bE P mt ops (⟨dst,.call { callee:=.builtin .delete,args:=#[m,k],argTypes:=#[t,t'] },type,pos,after,none⟩::rest) K φ st=zB P t st (φ.eval m) (φ.eval k) (oN P mt ops rest K φ dst):=rfl
theorem aA4{t:TypeId}{x:Operand}:bE P mt ops (⟨dst,.box t x,type,pos,after,none⟩::rest) K φ st=xH P (BM mt dst) t (φ.eval x) st (oN P mt ops rest K φ dst) (j5 P mt ops rest K φ dst st):=by
 simp only[bE,jF,fH,xH,oN]
 split
 · rfl
 · cases wS P t (φ.eval x)<;>rfl
theorem Z2{t:TypeId}:bE P mt ops (⟨dst,.alloc t,type,pos,after,none⟩::rest) K φ st=JJ (zI P t) st (oN P mt ops rest K φ dst):=rfl
theorem aGZ{t:TypeId}{p x:Operand}:bE P mt ops (⟨dst,.store t p x,type,pos,after,none⟩::rest) K φ st=L0 P t (φ.eval p) (φ.eval x) st (oN P mt ops rest K φ dst):=rfl
theorem aD6{t:TypeId}:bE P mt ops (⟨dst,.makeMap t none,type,pos,after,none⟩::rest) K φ st=∀b,st b=none→oN P mt ops rest K φ dst (.map b) (st.aC b (.map fun _=>none)):=rfl
theorem aD7{t:TypeId}{n c:Operand}:bE P mt ops (⟨dst,.makeSlice t n c,type,pos,after,none⟩::rest) K φ st=xB P t st (φ.eval n) (φ.eval c) (oN P mt ops rest K φ dst):=rfl
theorem aD8{t:TypeId}{m k x:Operand}:bE P mt ops (⟨dst,.mapUpdate t m k x,type,pos,after,none⟩::rest) K φ st=r8 P t st (φ.eval m) (φ.eval k) (φ.eval x) (oN P mt ops rest K φ dst):=rfl
theorem aHL{t:Tmp}:φ.eval (.tmp t)=φ t:=rfl
theorem aBB{k:IntKind}{n:Int}:φ.eval (.const (.int k n))=.int k n:=rfl
theorem aA9{b:Bool}:φ.eval (.const (.bool b))=.bool b:=rfl
theorem aBD:φ.eval (.const (.slice none 0 0))=.fslice []:=rfl
theorem aBE:φ.eval (.const (.pointer none))=.nilptr:=rfl
theorem aBC:φ.eval (.const (.map none))=.nilmap:=rfl
theorem aBA{g:FuncId}:φ.eval (.func g)=.func g []:=rfl
theorem aBF{l:List UInt8}:φ.eval (.const (.string ⟨l.toArray⟩))=if l.length≤9223372036854775807 then .str ⟨l.toArray⟩ else .junk:=by
 simp [AF.eval,ofConst,ByteArray.size,maxLen]
theorem aHO{d e:Nat}{v:AV}:(φ.aC d v) e=if e=d then v else φ e:=rfl
theorem aE4{d:Nat}{v:AV}:φ.put (some d) v=φ.aC d v:=rfl
theorem aE5{v:AV}:φ.put none v=φ:=rfl
theorem Z7{i:Nat}:tU i []=AF.bot:=rfl
theorem Z6{i:Nat}{a:AV}{as:List AV}:tU i (a::as)=(tU (i+1) as).aC i a:=rfl
theorem ZD{P:Program}{t:TypeId}{k:IntKind}{a b:Int}:d9 P .add t (.int k a) (.int k b)=some (.int k (k.wrap (a+b))):=by simp [d9,kL]
theorem aG4{P:Program}{t:TypeId}{k:IntKind}{a b:Int}:d9 P .sub t (.int k a) (.int k b)=some (.int k (k.wrap (a - b))):=by simp [d9,kL]
theorem aEE{P:Program}{t:TypeId}{k:IntKind}{a b:Int}:d9 P .mul t (.int k a) (.int k b)=some (.int k (k.wrap (a*b))):=by simp [d9,kL]
theorem aE6{P:Program}{t:TypeId}{k:IntKind}{a b:Int}:d9 P .quo t (.int k a) (.int k b)=if b=0 then none else some (.int k (k.wrap (a.tdiv b))):=by simp [d9,kL]
theorem aFA{P:Program}{t:TypeId}{k:IntKind}{a b:Int}:d9 P .rem t (.int k a) (.int k b)=if b=0 then none else some (.int k (a.tmod b)):=by simp [d9,kL]
theorem aB7{P:Program}{t:TypeId}{k:IntKind}{a b:Int}:d9 P .eql t (.int k a) (.int k b)=some (.bool (decide (a=b))):=by simp [d9,kL]
theorem aEG{P:Program}{t:TypeId}{k:IntKind}{a b:Int}:d9 P .neq t (.int k a) (.int k b)=some (.bool (!decide (a=b))):=by simp [d9,kL]
theorem aD4{P:Program}{t:TypeId}{k:IntKind}{a b:Int}:d9 P .lss t (.int k a) (.int k b)=some (.bool (decide (a<b))):=by simp [d9,kL]
theorem aDX{P:Program}{t:TypeId}{k:IntKind}{a b:Int}:d9 P .leq t (.int k a) (.int k b)=some (.bool (decide (a≤b))):=by simp [d9,kL]
theorem aCJ{P:Program}{t:TypeId}{k:IntKind}{a b:Int}:d9 P .gtr t (.int k a) (.int k b)=some (.bool (decide (b<a))):=by simp [d9,kL]
theorem aCI{P:Program}{t:TypeId}{k:IntKind}{a b:Int}:d9 P .geq t (.int k a) (.int k b)=some (.bool (decide (b≤a))):=by simp [d9,kL]
theorem aH6{P:Program}{t:TypeId}{k:IntKind}{a b:Int}:d9 P .xor t (.int k a) (.int k b)=some (.int k (FI k a b)):=by simp [d9,kL]
theorem Z4{P:Program}{t:TypeId}{k:IntKind}{a b:Int}:d9 P .and t (.int k a) (.int k b)=some (.int k (NU k a b)):=by simp [d9,kL]
theorem aEL{P:Program}{t:TypeId}{k:IntKind}{a b:Int}:d9 P .or t (.int k a) (.int k b)=some (.int k (N1 k a b)):=by simp [d9,kL]
theorem aEA{k:IntKind}{a b:Int}:xC (.int k a) (.int k b)=some (.int k (if a<b then b else a)):=by simp [xC]
theorem aEC{k:IntKind}{a b:Int}:B4 (.int k a) (.int k b)=some (.int k (if b<a then b else a)):=by simp [B4]
theorem aF5{P:Program}{t:TypeId}{a b:ByteArray}:d9 P .eql t (.str a) (.str b)=some (.bool (decide (a=b))):=by simp [d9,kL]
theorem aGA{P:Program}{t:TypeId}{a b:ByteArray}:d9 P .neq t (.str a) (.str b)=some (.bool (!decide (a=b))):=by simp [d9,kL]
theorem aFO{P:Program}{t:TypeId}{a b:ByteArray}:d9 P .add t (.str a) (.str b)=if a.size+b.size≤maxLen then some (.str (a++b)) else none:=by simp [d9,kL]
theorem aF9{P:Program}{t:TypeId}{a b:ByteArray}:d9 P .lss t (.str a) (.str b)=some (.bool (Op.bytesLess a.toList b.toList)):=by simp [d9,kL]
theorem aF6{P:Program}{t:TypeId}{a b:ByteArray}:d9 P .gtr t (.str a) (.str b)=some (.bool (!(Op.bytesLess a.toList b.toList||decide (a=b)))):=by simp [d9,kL]
theorem aAX{P:Program}{t:TypeId}{a b:Bool}(h:P.underlying t=some .bool):d9 P .eql t (.bool a) (.bool b)=some (.bool (a == b)):=by simp [d9,h]
theorem aA3{P:Program}{t:TypeId}{a b:Bool}(h:P.underlying t=some .bool):d9 P .neq t (.bool a) (.bool b)=some (.bool (!(a == b))):=by simp [d9,h]
theorem aEJ{b:Bool}:FH .not (.bool b)=some (.bool (!b)):=rfl
theorem aEF{k:IntKind}{n:Int}:FH .neg (.int k n)=some (.int k (k.wrap (0 - n))):=rfl
end
end
@[congr] theorem a50 {P:Program} {N:Nat} {mt:List Nat} {c:Code} {Q:Exit→AF→aB→Prop} {φ φ':AF} {st st':aB} (h1:φ=φ') (h2:st=st'):gG P N mt c Q φ st=gG P N mt c Q φ' st':=by rw[h1,h2]
@[congr] theorem a57 {P:Program} {mt:List Nat} {ops:Array Oper} {l:List Oper} {K:AF→aB→Prop} {φ φ':AF} {st st':aB} (h1:φ=φ') (h2:st=st'):bE P mt ops l K φ st=bE P mt ops l K φ' st':=by rw[h1,h2]
@[congr] theorem a6L {P:Program} {mt:List Nat} {ops:Array Oper} {l:List Oper} {K:AF→aB→Prop} {φ:AF} {st:aB} {dst:Option Tmp} {x x':Option AV} (h1:x=x'):j5 P mt ops l K φ dst st x=j5 P mt ops l K φ dst st x':=by rw[h1]
@[congr] theorem a6K {P:Program} {mt:List Nat} {ops:Array Oper} {o:Oper} {l:List Oper} {K:AF→aB→Prop} {φ:AF} {st:aB} {x x':Option Bool} (h1:x=x'):wC P mt ops o l K φ st x=wC P mt ops o l K φ st x':=by rw[h1]
@[congr] theorem a6J {P:Program} {mt:List Nat} {ops:Array Oper} {l:List Oper} {K:AF→aB→Prop} {φ:AF} {dst:Option Tmp} {r r':AV} {st st':aB} (h1:r=r') (h2:st=st'):oN P mt ops l K φ dst r st=oN P mt ops l K φ dst r' st':=by rw[h1,h2]
@[congr] theorem a52 {c c':AV} {k₁ k₂:AF→aB→Prop} {φ:AF} {st:aB} (h1:c=c'):u0 c k₁ k₂ φ st=u0 c' k₁ k₂ φ st:=by rw[h1]
@[congr] theorem a5W {P:Program} {N:Nat} {c:Code} {Q:Exit→AF→aB→Prop} {φ φ':AF} {st st':aB} (h1:φ=φ') (h2:st=st'):gO P N c Q φ st=gO P N c Q φ' st':=by rw[h1,h2]
@[congr] theorem a5V {P:Program} {g:FuncId} {args args':List AV} {st st':aB} {K:AV→aB→Prop} (h1:args=args') (h2:st=st'):aD P g args st K=aD P g args' st' K:=by rw[h1,h2]
@[congr] theorem a6G {P:Program} {f f':AV} {args args':List AV} {st st':aB} {K:AV→aB→Prop} (h0:f=f') (h1:args=args') (h2:st=st'):sD P f args st K=sD P f' args' st' K:=by rw[h0,h1,h2]
@[congr] theorem a6C {P:Program} {m m':Bool} {t:TypeId} {x x':AV} {st st':aB} {K:AV→aB→Prop} {k:Option AV→Prop} (h0:m=m') (h1:x=x') (h2:st=st'):xH P m t x st K k=xH P m' t x' st' K k:=by rw[h0,h1,h2]
@[congr] theorem a6B {zs zs':Option (List AV)} {st st':aB} {K:AV→aB→Prop} (h1:zs=zs') (h2:st=st'):JJ zs st K=JJ zs' st' K:=by rw[h1,h2]
@[congr] theorem a6Q {P:Program} {t:TypeId} {p p' x x':AV} {st st':aB} {K:AV→aB→Prop} (h0:p=p') (h1:x=x') (h2:st=st'):L0 P t p x st K=L0 P t p' x' st' K:=by rw[h0,h1,h2]
@[congr] theorem a56 {x x' y y':AV} (h0:x=x') (h1:y=y'):xC x y=xC x' y':=by rw[h0,h1]
@[congr] theorem a5Z {P:Program} {t:TypeId} {x x':AV} {st st':aB} {K:AV→aB→Prop} (h1:x=x') (h2:st=st'):uZ P t st x K=uZ P t st' x' K:=by rw[h1,h2]
@[congr] theorem a5Y {P:Program} {t t':TypeId} {s s' x x':AV} {st st':aB} {K:AV→aB→Prop} (h0:s=s') (h1:x=x') (h2:st=st'):r7 P t t' st s x K=r7 P t t' st' s' x' K:=by rw[h0,h1,h2]
@[congr] theorem a5X {P:Program} {t:TypeId} {s s' x x':AV} {st st':aB} {K:AV→aB→Prop} (h0:s=s') (h1:x=x') (h2:st=st'):j7 P t st s x K=j7 P t st' s' x' K:=by rw[h0,h1,h2]
@[congr] theorem a54 {P:Program} {t:TypeId} {s s' x x':AV} {st st':aB} {K:AV→aB→Prop} (h0:s=s') (h1:x=x') (h2:st=st'):xB P t st s x K=xB P t st' s' x' K:=by rw[h0,h1,h2]
@[congr] theorem a55 {P:Program} {t:TypeId} {m m' s s' x x':AV} {st st':aB} {K:AV→aB→Prop} (h:m=m') (h0:s=s') (h1:x=x') (h2:st=st'):r8 P t st m s x K=r8 P t st' m' s' x' K:=by rw[h,h0,h1,h2]
theorem aBH{P:Program}{g:FuncId}{dP args:List AV}{st:aB}{K:AV→aB→Prop}:sD P (.func g dP) args st K=aD P g (args++dP) st K:=rfl
theorem aA5{P:Program}{t:TypeId}{x:AV}{st:aB}{K:AV→aB→Prop}{k:Option AV→Prop}:xH P false t x st K k=k (wS P t x):=by simp [xH]
theorem aA6{P:Program}{t:TypeId}{x:AV}{st:aB}{K:AV→aB→Prop}{k:Option AV→Prop}:xH P true t x st K k=(x.cF=false∧∀b,st b=none→K (.ptr b 0) (st.aC b (.cells x.cells))):=by simp [xH]
theorem Z3{zs:List AV}{st:aB}{K:AV→aB→Prop}:JJ (some zs) st K=∀b,st b=none→K (.ptr b 0) (st.aC b (.cells zs)):=rfl
theorem aG0{P:Program}{t:TypeId}{b q:Nat}{x:AV}{st:aB}{K:AV→aB→Prop}:L0 P t (.ptr b q) x st K=match st b,tI P t with
 | some (.cells cs),some (_,sz)=>x.cells.length=sz∧q+sz≤cs.length∧x.cells.all AV.storable=true∧K .undef (st.aC b (.cells (aK cs q x.cells)))
 | _,_=>False:=rfl
def jR:Op→Bool
 | .alloc _=>true
 | _=>false
def jK:Op→Bool
 | .store _ _ _=>true
 | _=>false
def zK(P:Program)(mt:List Nat)(ops:Array Oper)(rest:List Oper)(K:AF→aB→Prop)(φ:AF)(st:aB):Prop:=gH P mt ops rest K φ st
def zF(P:Program)(mt:List Nat)(ops:Array Oper)(rest:List Oper)(K:AF→aB→Prop)(φ:AF)(d:Nat)(st:aB)(r:AV):Prop:=gH P mt ops rest K (φ.aC d r) st
def uA(x:AV)(K:AV→Prop):Option (List AV)→Option (Bool×Nat)→Prop
 | some zs,some (_,sz)=>zs.length=sz∧x.width=sz∧x.cells.all AV.storable=true∧x.cF=false∧K (.pptr x)
 | _,_=>False
def zM(P:Program)(mt:List Nat)(ops:Array Oper)(o:Oper)(s:Oper)(rest:List Oper)(K:AF→aB→Prop)(φ:AF)(st:aB)(d:Nat)(t:TypeId)(x:AV):Bool→Prop
 | true=>bE P mt ops [o] (zK P mt ops (s::rest) K) φ st
 | false=>uA x (zF P mt ops rest K φ d st) (zI P t) (tI P t)
section
variable {P:Program} {mt:List Nat} {ops:Array Oper} {rest:List Oper} {K:AF→aB→Prop} {φ:AF} {st:aB} {dst CR:Option Tmp} {type uP:TypeId} {pos pos':String} {after tT:Array Edge} {g g':Option (Nat×Bool)} {op op':Op}
theorem KI:zK P mt ops rest K φ st=gH P mt ops rest K φ st:=rfl
theorem aH7{d:Nat}{r:AV}:zF P mt ops rest K φ d st r=gH P mt ops rest K (φ.aC d r) st:=rfl
theorem Y8:gH P mt ops [] K φ st=K φ st:=by rw[gH]
theorem KG(h:jR op=false):gH P mt ops (⟨dst,op,type,pos,after,g⟩::rest) K φ st=bE P mt ops [⟨dst,op,type,pos,after,g⟩] (zK P mt ops rest K) φ st:=by
 rw[gH]
 · rfl
 · intro d t ty ps af t' d' x ty' ps' af' r e1 e2
   cases e1
   cases h
 · intro d t ty ps af e y ty2 ps2 af2 t' d' x ty' ps' af' r e1 e2
   cases e1
   cases h
theorem KH{t:TypeId}{x:AV}{k:AV→Prop}:B2 P t x k=uA x k (zI P t) (tI P t):=by
 unfold B2 uA
 simp only[vG]
 cases zI P t<;>cases tI P t<;>rfl
theorem aCH{x:AV}{k:AV→Prop}{zs:List AV}{ag:Bool}{sz:Nat}:uA x k (some zs) (some (ag,sz))=(zs.length=sz∧x.width=sz∧x.cells.all AV.storable=true∧x.cF=false∧k (.pptr x)):=rfl
theorem KF{d:Nat}{t:TypeId}{x:Operand}:gH P mt ops (⟨some d,.alloc t,type,pos,after,none⟩::⟨none,.store t (.tmp d) x,uP,pos',tT,none⟩::rest) K φ st =
 zM P mt ops ⟨some d,.alloc t,type,pos,after,none⟩ ⟨none,.store t (.tmp d) x,uP,pos',tT,none⟩ rest K φ st d t (φ.eval x) (mt.contains d||oJ x d):=by
 rw[gH]
 cases h:(mt.contains d||oJ x d) with
 | true=>
  rw[aE (by simp)]
  show _=bE P mt ops _ (fun φ' st'=>zK P mt ops _ K φ' st') φ st
  simp only[KI,KG (K:=K) (rest:=rest) (op:=.store t (.tmp d) x) rfl]
  rfl
 | false=>
  rw[aH ⟨rfl,rfl,rfl⟩,KH]
  try rfl
theorem aIB{o s:Oper}{d:Nat}{t:TypeId}{x:AV}:zM P mt ops o s rest K φ st d t x true=bE P mt ops [o] (zK P mt ops (s::rest) K) φ st:=rfl
theorem aIA{o s:Oper}{d:Nat}{t:TypeId}{x:AV}:zM P mt ops o s rest K φ st d t x false=uA x (zF P mt ops rest K φ d st) (zI P t) (tI P t):=rfl
def IQ(P:Program)(mt:List Nat)(ops:Array Oper)(o:Oper)(os:List Oper)(rest:List Oper)(K:AF→aB→Prop)(φ φ':AF)(st:aB)(d:Nat)(t:TypeId)(x:AV):Bool→Prop
 | true=>bE P mt ops [o] (zK P mt ops (os++rest) K) φ st
 | false=>uA x (zF P mt ops rest K φ' d st) (zI P t) (tI P t)
theorem aH8{o:Oper}{os:List Oper}{φ':AF}{d:Nat}{t:TypeId}{x:AV}:IQ P mt ops o os rest K φ φ' st d t x false=uA x (zF P mt ops rest K φ' d st) (zI P t) (tI P t):=rfl
theorem aH9{o:Oper}{os:List Oper}{φ':AF}{d:Nat}{t:TypeId}{x:AV}:IQ P mt ops o os rest K φ φ' st d t x true=bE P mt ops [o] (zK P mt ops (os++rest) K) φ st:=rfl
theorem aVN{d e:Nat}{t:TypeId}{x y:Operand}{type2:TypeId}{wE:String}{FJ:Array Edge}:gH P mt ops (⟨some d,.alloc t,type,pos,after,none⟩::⟨some e,.assign y,type2,wE,FJ,none⟩::⟨none,.store t (.tmp d) x,uP,pos',tT,none⟩::rest) K φ st =
 IQ P mt ops ⟨some d,.alloc t,type,pos,after,none⟩ [⟨some e,.assign y,type2,wE,FJ,none⟩,⟨none,.store t (.tmp d) x,uP,pos',tT,none⟩] rest K φ (φ.aC e (φ.eval y)) st d t ((φ.aC e (φ.eval y)).eval x) (mt.contains d||oJ x d||oJ y d||d == e):=by
 rw[gH]
 cases h:(mt.contains d||oJ x d||oJ y d||d == e) with
 | true=>
  rw[aE (by simp)]
  show _=bE P mt ops _ (fun φ' st'=>zK P mt ops _ K φ' st') φ st
  simp only[KI,fL,eR,KG (K:=K) (op:=.assign y) rfl]
  rfl
 | false=>
  rw[aH ⟨rfl,rfl,rfl⟩,KH]
  try rfl
def j3:Op→Bool
 | .assign _=>true
 | _=>false
theorem Y9{t:TypeId}(h:jK op'=false)(h2:j3 op'=false):gH P mt ops (⟨dst,.alloc t,type,pos,after,g⟩::⟨CR,op',uP,pos',tT,g'⟩::rest) K φ st=bE P mt ops [⟨dst,.alloc t,type,pos,after,g⟩] (zK P mt ops (⟨CR,op',uP,pos',tT,g'⟩::rest) K) φ st:=by
 rw[gH]
 · rfl
 · intro d t ty ps af t' d' x ty' ps' af' r e1 e2
   cases e2
   cases h
 · intro d t ty ps af e y ty2 ps2 af2 t' d' x ty' ps' af' r e1 e2
   cases e2
   cases h2
theorem ZA{t:TypeId}:gH P mt ops [⟨dst,.alloc t,type,pos,after,g⟩] K φ st=bE P mt ops [⟨dst,.alloc t,type,pos,after,g⟩] (zK P mt ops [] K) φ st:=by
 rw[gH]
 · rfl
 · intro d t ty ps af t' d' x ty' ps' af' r e1 e2
   cases e2
 · intro d t ty ps af e y ty2 ps2 af2 t' d' x ty' ps' af' r e1 e2
   cases e2
theorem ZB{t:TypeId}{y:Operand}:gH P mt ops [⟨dst,.alloc t,type,pos,after,g⟩,⟨CR,.assign y,uP,pos',tT,g'⟩] K φ st=bE P mt ops [⟨dst,.alloc t,type,pos,after,g⟩] (zK P mt ops [⟨CR,.assign y,uP,pos',tT,g'⟩] K) φ st:=by
 rw[gH]
 · rfl
 · intro d t ty ps af t' d' x ty' ps' af' r e1 e2
   cases e2
 · intro d t ty ps af e y ty2 ps2 af2 t' d' x ty' ps' af' r e1 e2
   cases e2
theorem ZC{t:TypeId}{y:Operand}{X5:Option Tmp}{op2:Op}{type2:TypeId}{wE:String}{FJ:Array Edge}{g2:Option (Nat×Bool)}(h:jK op2=false):gH P mt ops (⟨dst,.alloc t,type,pos,after,g⟩::⟨CR,.assign y,uP,pos',tT,g'⟩::⟨X5,op2,type2,wE,FJ,g2⟩::rest) K φ st=bE P mt ops [⟨dst,.alloc t,type,pos,after,g⟩] (zK P mt ops (⟨CR,.assign y,uP,pos',tT,g'⟩::⟨X5,op2,type2,wE,FJ,g2⟩::rest) K) φ st:=by
 rw[gH]
 · rfl
 · intro d t ty ps af t' d' x ty' ps' af' r e1 e2
   cases e2
 · intro d t ty ps af e y ty2 ps2 af2 t' d' x ty' ps' af' r e1 e2
   cases e2
   cases h
theorem aDP{d e:Nat}:oJ (.tmp e) d=(e == d):=rfl
theorem aDO{v:Value}{d:Nat}:oJ (.const v) d=false:=rfl
theorem ZW{x:Operand}:jR (.move x)=false:=rfl
theorem aGU{x:Operand}:jK (.move x)=false:=rfl
theorem ZE{x:Operand}:jR (.assign x)=false:=rfl
theorem aGC{x:Operand}:jK (.assign x)=false:=rfl
theorem ZY{c x y:Operand}:jR (.pick c x y)=false:=rfl
theorem aGW{c x y:Operand}:jK (.pick c x y)=false:=rfl
theorem ZF{op:BinOp}{t:TypeId}{x y:Operand}{t':TypeId}:jR (.binOp op t x y t')=false:=rfl
theorem aGD{op:BinOp}{t:TypeId}{x y:Operand}{t':TypeId}:jK (.binOp op t x y t')=false:=rfl
theorem Z1{op:UnOp}{t:TypeId}{x:Operand}:jR (.unOp op t x)=false:=rfl
theorem aGY{op:UnOp}{t:TypeId}{x:Operand}:jK (.unOp op t x)=false:=rfl
theorem ZX{x:Operand}:jR (.nilCheck x)=false:=rfl
theorem aGV{x:Operand}:jK (.nilCheck x)=false:=rfl
theorem ZN{t f:Nat}{x:Operand}:jR (.fieldAddr t x f)=false:=rfl
theorem aGL{t f:Nat}{x:Operand}:jK (.fieldAddr t x f)=false:=rfl
theorem ZQ{t:TypeId}{x:Operand}:jR (.load t x)=false:=rfl
theorem aGO{t:TypeId}{x:Operand}:jK (.load t x)=false:=rfl
theorem Z0{t:TypeId}{p x:Operand}:jR (.store t p x)=false:=rfl
theorem ZM{t f:Nat}{x:Operand}:jR (.field t x f)=false:=rfl
theorem aGK{t f:Nat}{x:Operand}:jK (.field t x f)=false:=rfl
theorem ZP{t:TypeId}{x i:Operand}:jR (.indexAddr t x i)=false:=rfl
theorem aGN{t:TypeId}{x i:Operand}:jK (.indexAddr t x i)=false:=rfl
theorem ZO{t:TypeId}{x i:Operand}:jR (.index t x i)=false:=rfl
theorem aGM{t:TypeId}{x i:Operand}:jK (.index t x i)=false:=rfl
theorem ZZ{t:TypeId}{x:Operand}{lo hi mx:Option Operand}:jR (.slice t x lo hi mx)=false:=rfl
theorem aGX{t:TypeId}{x:Operand}{lo hi mx:Option Operand}:jK (.slice t x lo hi mx)=false:=rfl
theorem ZL{x:Operand}{i:Nat}:jR (.extract x i)=false:=rfl
theorem aGJ{x:Operand}{i:Nat}:jK (.extract x i)=false:=rfl
theorem ZH{t:TypeId}{ps:Array (Nat×Operand)}:jR (.build t ps)=false:=rfl
theorem aGF{t:TypeId}{ps:Array (Nat×Operand)}:jK (.build t ps)=false:=rfl
theorem ZI{t:TypeId}{n:Nat}{ps:Array (Nat×Operand)}:jR (.buildSlice t n ps)=false:=rfl
theorem aGG{t:TypeId}{n:Nat}{ps:Array (Nat×Operand)}:jK (.buildSlice t n ps)=false:=rfl
theorem ZK{t u:TypeId}{x:Operand}:jR (.convert t u x)=false:=rfl
theorem aGI{t u:TypeId}{x:Operand}:jK (.convert t u x)=false:=rfl
theorem ZR{t:TypeId}{x i:Operand}{ok:Bool}:jR (.lookup t x i ok)=false:=rfl
theorem aGP{t:TypeId}{x i:Operand}{ok:Bool}:jK (.lookup t x i ok)=false:=rfl
theorem ZJ{c:_}:jR (.call c)=false:=rfl
theorem aGH{c:_}:jK (.call c)=false:=rfl
theorem ZG{t:TypeId}{x:Operand}:jR (.box t x)=false:=rfl
theorem aGE{t:TypeId}{x:Operand}:jK (.box t x)=false:=rfl
theorem ZT{t:_}{x:_}:jR (.makeMap t x)=false:=rfl
theorem aGR{t:_}{x:_}:jK (.makeMap t x)=false:=rfl
theorem ZU{t:TypeId}{n c:Operand}:jR (.makeSlice t n c)=false:=rfl
theorem aGS{t:TypeId}{n c:Operand}:jK (.makeSlice t n c)=false:=rfl
theorem ZV{t:TypeId}{m k x:Operand}:jR (.mapUpdate t m k x)=false:=rfl
theorem aGT{t:TypeId}{m k x:Operand}:jK (.mapUpdate t m k x)=false:=rfl
theorem ZS{f:_}{a:_}{b:_}:jR (.makeFunc f a b)=false:=rfl
theorem aGQ{f:_}{a:_}{b:_}:jK (.makeFunc f a b)=false:=rfl
theorem aGB{t:TypeId}:jK (.alloc t)=false:=rfl
theorem aAQ{x:Operand}:j3 (.move x)=false:=rfl
theorem aAS{c x y:Operand}:j3 (.pick c x y)=false:=rfl
theorem Z9{op:BinOp}{t:TypeId}{x y:Operand}{t':TypeId}:j3 (.binOp op t x y t')=false:=rfl
theorem aAU{op:UnOp}{t:TypeId}{x:Operand}:j3 (.unOp op t x)=false:=rfl
theorem aAR{x:Operand}:j3 (.nilCheck x)=false:=rfl
theorem aAH{t f:Nat}{x:Operand}:j3 (.fieldAddr t x f)=false:=rfl
theorem aAK{t:TypeId}{x:Operand}:j3 (.load t x)=false:=rfl
theorem aAG{t f:Nat}{x:Operand}:j3 (.field t x f)=false:=rfl
theorem aAJ{t:TypeId}{x i:Operand}:j3 (.indexAddr t x i)=false:=rfl
theorem aAI{t:TypeId}{x i:Operand}:j3 (.index t x i)=false:=rfl
theorem aAT{t:TypeId}{x:Operand}{lo hi mx:Option Operand}:j3 (.slice t x lo hi mx)=false:=rfl
theorem aAF{x:Operand}{i:Nat}:j3 (.extract x i)=false:=rfl
theorem aAB{t:TypeId}{ps:Array (Nat×Operand)}:j3 (.build t ps)=false:=rfl
theorem aAC{t:TypeId}{n:Nat}{ps:Array (Nat×Operand)}:j3 (.buildSlice t n ps)=false:=rfl
theorem aAE{t u:TypeId}{x:Operand}:j3 (.convert t u x)=false:=rfl
theorem aAL{t:TypeId}{x i:Operand}{ok:Bool}:j3 (.lookup t x i ok)=false:=rfl
theorem aAD{c:_}:j3 (.call c)=false:=rfl
theorem aAA{t:TypeId}{x:Operand}:j3 (.box t x)=false:=rfl
theorem aAN{t:_}{x:_}:j3 (.makeMap t x)=false:=rfl
theorem aAO{t:TypeId}{n c:Operand}:j3 (.makeSlice t n c)=false:=rfl
theorem aAP{t:TypeId}{m k x:Operand}:j3 (.mapUpdate t m k x)=false:=rfl
theorem aAM{f:_}{a:_}{b:_}:j3 (.makeFunc f a b)=false:=rfl
theorem Z8{t:TypeId}:j3 (.alloc t)=false:=rfl
@[congr] theorem a6S {o:Oper} {os:List Oper} {φ' φ2 φ2':AF} {st':aB} {d:Nat} {t:TypeId} {x x':AV} {b b':Bool} (h1:φ=φ') (h0:φ2=φ2') (h2:st=st') (h3:x=x') (h4:b=b'):IQ P mt ops o os rest K φ φ2 st d t x b=IQ P mt ops o os rest K φ' φ2' st' d t x' b':=by rw[h1,h0,h2,h3,h4]
@[congr] theorem a6H {x x':AV} {k:AV→Prop} {a a':Option (List AV)} {b b':Option (Bool×Nat)} (h0:x=x') (h1:a=a') (h2:b=b'):uA x k a b=uA x' k a' b':=by rw[h0,h1,h2]
@[congr] theorem a6R {o s:Oper} {φ':AF} {st':aB} {d:Nat} {t:TypeId} {x x':AV} {b b':Bool} (h1:φ=φ') (h2:st=st') (h3:x=x') (h4:b=b'):zM P mt ops o s rest K φ st d t x b=zM P mt ops o s rest K φ' st' d t x' b':=by rw[h1,h2,h3,h4]
@[congr] theorem a6P {l:List Oper} {Q:Exit→AF→aB→Prop} {φ':AF} {st':aB} {b b':Bool} (h1:φ=φ') (h2:st=st') (h3:b=b'):HN P mt l Q φ st b=HN P mt l Q φ' st' b':=by rw[h1,h2,h3]
end
end Go.AW
