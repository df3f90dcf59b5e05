/- The rules by which the code is evaluated: equations for simp. -/
import Derived.Test.YtlepdbmhjkmelaaGreatWsc
set_option linter.unusedSimpArgs false
set_option linter.unusedVariables false
set_option maxRecDepth 100000
namespace Go.AW
section
variable {P:Program} {N:Nat} {mt:List Nat} {Q:Exit→AF→aA→Prop} {φ:AF} {st:aA} {x y:Code} {ops:Array Oper} {id:Nat}
theorem aBP:eL P N mt .skip Q φ st=Q .normal φ st:=rfl
theorem aBK:eL P N mt (.seq x y) Q φ st=eL P N mt x (CA (eL P N mt y Q) Q) φ st:=rfl
def E3(P:Program)(mt:List Nat)(l:List Oper)(Q:Exit→AF→aA→Prop)(φ:AF)(st:aA):Bool→Prop
 | true=>eM P mt l.toArray l (Q .normal) φ st
 | false=>aT P mt l.toArray l (Q .normal) φ st
theorem aAP{l:List Oper}:eL P N mt (.region id l.toArray false) Q φ st=E3 P mt l Q φ st (mt.contains 1000000):=by
 simp only[eL,iA,eA]
 cases mt.contains 1000000<;>rfl
theorem aAO{l:List Oper}:E3 P mt l Q φ st true=eM P mt l.toArray l (Q .normal) φ st:=rfl
theorem aAN{l:List Oper}:E3 P mt l Q φ st false=aT P mt l.toArray l (Q .normal) φ st:=rfl
theorem XK:eL P N mt (.region id ops true) Q φ st=d8 P N (.region id ops true) Q φ st:=by simp [eL]
theorem XH{c:Operand}:eL P N mt (.cond c x y) Q φ st=tB (φ.eval c) (eL P N mt x Q) (eL P N mt y Q) φ st:=rfl
theorem WC:eL P N mt (.block id x) Q φ st=eL P N mt x (zY id Q) φ st:=rfl
theorem ZG:eL P N mt (.loop x) Q φ st=d8 P N (.loop x) Q φ st:=rfl
theorem XN:eL P N mt (.exit id) Q φ st=Q (.exit id) φ st:=rfl
theorem aAR:eL P N mt .ret Q φ st=Q .ret φ st:=rfl
theorem aC4{k₁ k₂:AF→aA→Prop}:tB (.bool true) k₁ k₂ φ st=k₁ φ st:=by simp [tB]
theorem XP{k₁ k₂:AF→aA→Prop}:tB (.bool false) k₁ k₂ φ st=k₂ φ st:=by simp [tB]
theorem aCO{k:AF→aA→Prop}:CA k Q .normal φ st=k φ st:=rfl
theorem aCN{k:AF→aA→Prop}:CA k Q (.exit id) φ st=Q (.exit id) φ st:=rfl
theorem aCP{k:AF→aA→Prop}:CA k Q .ret φ st=Q .ret φ st:=rfl
theorem WE:zY id Q .normal φ st=Q .normal φ st:=rfl
theorem WD{i:Nat}:zY id Q (.exit i) φ st=if i=id then Q .normal φ st else Q (.exit i) φ st:=rfl
theorem WF:zY id Q .ret φ st=Q .ret φ st:=rfl
theorem ZI{k:AF→aA→Prop}:nS k Q .normal φ st=k φ st:=rfl
theorem ZH{k:AF→aA→Prop}:nS k Q (.exit id) φ st=Q (.exit id) φ st:=rfl
theorem ZJ{k:AF→aA→Prop}:nS k Q .ret φ st=Q .ret φ st:=rfl
def lG(P:Program)(rs:List ResultVar)(K:AV→aA→Prop)(φ:AF)(st:aA):Prop:=
 match mL P φ st rs with
 | some xs=>CD K st xs
 | none=>False
theorem aA3{rs:Array ResultVar}{K:AV→aA→Prop}:BS P rs K .ret φ st=lG P rs.toList K φ st:=rfl
theorem aA2{rs:Array ResultVar}{K:AV→aA→Prop}:BS P rs K .normal φ st=lG P rs.toList K φ st:=rfl
theorem aAT{t:Tmp}{K:AV→aA→Prop}:lG P [.tmp t] K φ st=K (φ t) st:=rfl
theorem aAS{K:AV→aA→Prop}:lG P [] K φ st=K (.tup []) st:=by simp [lG,mL,CD,jY]
theorem aAU{t u:Tmp}{K:AV→aA→Prop}:lG P [.tmp t,.tmp u] K φ st=(jY [φ t,φ u]=true∧K (.tup [φ t,φ u]) st):=rfl
theorem aAV{t u v:Tmp}{K:AV→aA→Prop}:lG P [.tmp t,.tmp u,.tmp v] K φ st=(jY [φ t,φ u,φ v]=true∧K (.tup [φ t,φ u,φ v]) st):=rfl
theorem aAW{t u v w:Tmp}{K:AV→aA→Prop}:lG P [.tmp t,.tmp u,.tmp v,.tmp w] K φ st=(jY [φ t,φ u,φ v,φ w]=true∧K (.tup [φ t,φ u,φ v,φ w]) st):=rfl
def EU(k:AV→Prop):Option AV→Prop
 | some r=>k r
 | none=>False
theorem aAX{p:Tmp}{t:TypeId}{K:AV→aA→Prop}:lG P [.cell p t] K φ st=EU (fun r=>K r st) (fL P st t (φ p)):=by
 simp only[lG,mL,wU]
 cases fL P st t (φ p)<;>rfl
theorem aAY{p u:Tmp}{t:TypeId}{K:AV→aA→Prop}:lG P [.cell p t,.tmp u] K φ st=EU (fun r=>jY [r,φ u]=true∧K (.tup [r,φ u]) st) (fL P st t (φ p)):=by
 simp only[lG,mL,wU]
 cases fL P st t (φ p)<;>rfl
theorem aA1{u p:Tmp}{t:TypeId}{K:AV→aA→Prop}:lG P [.tmp u,.cell p t] K φ st=EU (fun r=>jY [φ u,r]=true∧K (.tup [φ u,r]) st) (fL P st t (φ p)):=by
 simp only[lG,mL,wU]
 cases fL P st t (φ p)<;>rfl
theorem Z0{k:AV→Prop}{r:AV}:EU k (some r)=k r:=rfl
def hJ(P:Program)(mt:List Nat)(ops:Array Oper)(rest:List Oper)(K:AF→aA→Prop)(φ:AF)(dst:Option Tmp)(st:aA):Option AV→Prop
 | some r=>aT P mt ops rest K (φ.put dst r) st
 | none=>False
def mU(P:Program)(mt:List Nat)(ops:Array Oper)(rest:List Oper)(K:AF→aA→Prop)(φ:AF)(dst:Option Tmp)(r:AV)(st:aA):Prop:=aT P mt ops rest K (φ.put dst r) st
def uJ(P:Program)(mt:List Nat)(ops:Array Oper)(o:Oper)(rest:List Oper)(K:AF→aA→Prop)(φ:AF)(st:aA):Option Bool→Prop
 | some true=>aT P mt ops ({ o with guard:=none }::rest) K φ st
 | some false=>aT P mt ops rest K (φ.put o.dst .undef) st
 | none=>False
def gd(ops:Array Oper)(φ:AF)(j:Nat)(want:Bool):Option Bool:=
 match (ops[j]?).bind (·.dst) with
 | none=>some false
 | some d=>match φ d with
  | .bool b=>some (b == want)
  | .undef=>some false
  | _=>none
section
variable {rest:List Oper} {K:AF→aA→Prop} {dst:Option Tmp} {type:TypeId} {pos:String} {after:Array Edge}
theorem ZX:aT P mt ops [] K φ st=K φ st:=rfl
theorem XZ{op:Op}{j:Nat}{want:Bool}:aT P mt ops (⟨dst,op,type,pos,after,some (j,want)⟩::rest) K φ st=uJ P mt ops ⟨dst,op,type,pos,after,some (j,want)⟩ rest K φ st (gd ops φ j want):=by
 simp only[aT]
 have h1:gP ops φ ⟨dst,op,type,pos,after,some (j,want)⟩=gd ops φ j want:=rfl
 rw[h1]
 cases gd ops φ j want with
 | none=>rfl
 | some b=>cases b<;>simp [uJ,aT,gP,dZ,j6]
theorem TD{r:AV}:mU P mt ops rest K φ dst r st=aT P mt ops rest K (φ.put dst r) st:=rfl
theorem T9{r:AV}:hJ P mt ops rest K φ dst st (some r)=aT P mt ops rest K (φ.put dst r) st:=rfl
theorem TF{op:Op}{g:Option (Nat×Bool)}:uJ P mt ops ⟨dst,op,type,pos,after,g⟩ rest K φ st (some true)=aT P mt ops (⟨dst,op,type,pos,after,none⟩::rest) K φ st:=rfl
theorem TE{op:Op}{g:Option (Nat×Bool)}:uJ P mt ops ⟨dst,op,type,pos,after,g⟩ rest K φ st (some false)=aT P mt ops rest K (φ.put dst .undef) st:=rfl
theorem kF{o:Oper}(hg:o.guard=none)(e:∀K',dZ P mt φ st o K'=match j6 P φ st o with | some r=>K' r st | none=>False):aT P mt ops (o::rest) K φ st=hJ P mt ops rest K φ o.dst st (j6 P φ st o):=by
 simp only[aT,gP,hg,e]
 cases j6 P φ st o<;>rfl
def FX:AV→AV→AV→Option AV
 | .bool b,x,y=>some (if b then x else y)
 | _,_,_=>none
def yU:AV→Option AV
 | .ptr b q=>some (.ptr b q)
 | .pptr e=>some (.pptr e)
 | _=>none
def FY(P:Program)(t f:Nat)(x:AV):Option AV:=match fI P t f,x with | some (off,ag,sz),.agg cs=>sub ag cs off sz | _,_=>none
def yT(x:AV)(i:Nat):Option AV:=match x with | .tup vs=>vs[i]? | _=>none
def GN(g:FuncId)(cs:List AV):Option AV:=if jY cs=true then some (.func g cs) else none
def qN(P:Program)(f:AV)(args:List AV)(st:aA)(K:AV→aA→Prop):Prop:=match f with | .func g fD=>aD P g (args++fD) st K | _=>False
def vE(P:Program)(m:Bool)(t:TypeId)(x:AV)(st:aA)(K:AV→aA→Prop)(k:Option AV→Prop):Prop:=
 if m=true then x.bO=false∧∀b,st b=none→K (.ptr b 0) (st.aC b (.cells x.cells)) else k (uX P t x)
def GQ(zs:Option (List AV))(st:aA)(K:AV→aA→Prop):Prop:=match zs with | some zs=>∀b,st b=none→K (.ptr b 0) (st.aC b (.cells zs)) | none=>False
def IZ(P:Program)(t:TypeId)(p x:AV)(st:aA)(K:AV→aA→Prop):Prop:=
 match p with
 | .ptr b q=>match st b,tI P t with
  | some (.cells cs),some (_,sz)=>x.cells.length=sz∧q+sz≤cs.length∧x.cells.all AV.storable=true∧K .undef (st.aC b (.cells (aG cs q x.cells)))
  | _,_=>False
 | _=>False
theorem ZT{x:Operand}:aT P mt ops (⟨dst,.move x,type,pos,after,none⟩::rest) K φ st=aT P mt ops rest K (φ.put dst (φ.eval x)) st:=rfl
theorem V8{x:Operand}:aT P mt ops (⟨dst,.assign x,type,pos,after,none⟩::rest) K φ st=aT P mt ops rest K (φ.put dst (φ.eval x)) st:=rfl
theorem Z2{c x y:Operand}:aT P mt ops (⟨dst,.pick c x y,type,pos,after,none⟩::rest) K φ st=hJ P mt ops rest K φ dst st (FX (φ.eval c) (φ.eval x) (φ.eval y)):=by
 rw[kF rfl fun _=>rfl]
 simp only[j6]
 cases φ.eval c<;>rfl
theorem WB{op:BinOp}{t t':TypeId}{x y:Operand}:aT P mt ops (⟨dst,.binOp op t x y t',type,pos,after,none⟩::rest) K φ st=hJ P mt ops rest K φ dst st (dG P op t (φ.eval x) (φ.eval y)):=kF rfl fun _=>rfl
theorem aC5{op:UnOp}{t:TypeId}{x:Operand}:aT P mt ops (⟨dst,.unOp op t x,type,pos,after,none⟩::rest) K φ st=hJ P mt ops rest K φ dst st (DK op (φ.eval x)):=kF rfl fun _=>rfl
theorem ZY{x:Operand}:aT P mt ops (⟨dst,.nilCheck x,type,pos,after,none⟩::rest) K φ st=hJ P mt ops rest K φ dst st (yU (φ.eval x)):=by
 rw[kF rfl fun _=>rfl]
 try rfl
theorem XR{t f:Nat}{x:Operand}:aT P mt ops (⟨dst,.fieldAddr t x f,type,pos,after,none⟩::rest) K φ st=hJ P mt ops rest K φ dst st (rI P t f (φ.eval x)):=kF rfl fun _=>rfl
theorem ZE{t:TypeId}{x:Operand}:aT P mt ops (⟨dst,.load t x,type,pos,after,none⟩::rest) K φ st=hJ P mt ops rest K φ dst st (fL P st t (φ.eval x)):=kF rfl fun _=>rfl
theorem XQ{t f:Nat}{x:Operand}:aT P mt ops (⟨dst,.field t x f,type,pos,after,none⟩::rest) K φ st=hJ P mt ops rest K φ dst st (FY P t f (φ.eval x)):=by
 rw[kF rfl fun _=>rfl]
 try rfl
theorem Y3{t:TypeId}{x i:Operand}:aT P mt ops (⟨dst,.indexAddr t x i,type,pos,after,none⟩::rest) K φ st=hJ P mt ops rest K φ dst st (dP P t (φ.eval x) (φ.eval i)):=kF rfl fun _=>rfl
theorem Y2{t:TypeId}{x i:Operand}:aT P mt ops (⟨dst,.index t x i,type,pos,after,none⟩::rest) K φ st=hJ P mt ops rest K φ dst st (zL P t (φ.eval x) (φ.eval i)):=kF rfl fun _=>rfl
theorem aBQ{t:TypeId}{x:Operand}{lo hi mx:Option Operand}:aT P mt ops (⟨dst,.slice t x lo hi mx,type,pos,after,none⟩::rest) K φ st=hJ P mt ops rest K φ dst st (fJ P φ t (φ.eval x) lo hi mx):=kF rfl fun _=>rfl
theorem XO{x:Operand}{i:Nat}:aT P mt ops (⟨dst,.extract x i,type,pos,after,none⟩::rest) K φ st=hJ P mt ops rest K φ dst st (yT (φ.eval x) i):=by
 rw[kF rfl fun _=>rfl]
 try rfl
theorem ZL{g:FuncId}{fD:Array Operand}:aT P mt ops (⟨dst,.makeFunc (.func g) #[] fD,type,pos,after,none⟩::rest) K φ st=hJ P mt ops rest K φ dst st (GN g (fD.toList.map φ.eval)):=by
 rw[kF rfl fun _=>rfl]
 congr 1
 simp [j6,GN]
theorem WK{t:TypeId}{ps:Array (Nat×Operand)}:aT P mt ops (⟨dst,.build t ps,type,pos,after,none⟩::rest) K φ st=hJ P mt ops rest K φ dst st (wK P φ t ps):=kF rfl fun _=>rfl
theorem WL{t:TypeId}{n:Nat}{ps:Array (Nat×Operand)}:aT P mt ops (⟨dst,.buildSlice t n ps,type,pos,after,none⟩::rest) K φ st=hJ P mt ops rest K φ dst st (yS P φ t n ps):=kF rfl fun _=>rfl
theorem XI{t u:TypeId}{x:Operand}:aT P mt ops (⟨dst,.convert t u x,type,pos,after,none⟩::rest) K φ st=hJ P mt ops rest K φ dst st (kJ P t u (φ.eval x)):=kF rfl fun _=>rfl
theorem ZF{t:TypeId}{x i:Operand}{ok:Bool}:aT P mt ops (⟨dst,.lookup t x i ok,type,pos,after,none⟩::rest) K φ st=hJ P mt ops rest K φ dst st (rR P st t ok (φ.eval x) (φ.eval i)):=kF rfl fun _=>rfl
theorem Y8{x:Operand}{t:TypeId}:aT P mt ops (⟨dst,.call { callee:=.builtin .len,args:=#[x],argTypes:=#[t] },type,pos,after,none⟩::rest) K φ st=hJ P mt ops rest K φ dst st (oH P t (φ.eval x)):=kF rfl fun _=>rfl
theorem WV{x:Operand}{t:TypeId}:aT P mt ops (⟨dst,.call { callee:=.builtin .cap,args:=#[x],argTypes:=#[t] },type,pos,after,none⟩::rest) K φ st=hJ P mt ops rest K φ dst st (DB P t (φ.eval x)):=kF rfl fun _=>rfl
theorem WT{f:Operand}{args:List Operand}{ats:Array TypeId}:aT P mt ops (⟨dst,.call { callee:=.value f,args:=args.toArray,argTypes:=ats },type,pos,after,none⟩::rest) K φ st=qN P (φ.eval f) (args.map φ.eval) st (mU P mt ops rest K φ dst):=rfl
theorem ZP{x y:Operand}{ts:Array TypeId}:aT P mt ops (⟨dst,.call { callee:=.builtin .max,args:=#[x,y],argTypes:=ts },type,pos,after,none⟩::rest) K φ st=hJ P mt ops rest K φ dst st (zN (φ.eval x) (φ.eval y)):=kF rfl fun _=>rfl
theorem ZR{x y:Operand}{ts:Array TypeId}:aT P mt ops (⟨dst,.call { callee:=.builtin .min,args:=#[x,y],argTypes:=ts },type,pos,after,none⟩::rest) K φ st=hJ P mt ops rest K φ dst st (zO (φ.eval x) (φ.eval y)):=kF rfl fun _=>rfl
theorem VD{s x:Operand}{t t':TypeId}:aT P mt ops (⟨dst,.call { callee:=.builtin .append,args:=#[s,x],argTypes:=#[t,t'] },type,pos,after,none⟩::rest) K φ st=(if t=t' then i8 P t st (φ.eval s) (φ.eval x) (mU P mt ops rest K φ dst) else qI P t t' st (φ.eval s) (φ.eval x) (mU P mt ops rest K φ dst)):=rfl
theorem XG{x:Operand}{t:TypeId}:aT P mt ops (⟨dst,.call { callee:=.builtin .clear,args:=#[x],argTypes:=#[t] },type,pos,after,none⟩::rest) K φ st=DC P t st (φ.eval x) (mU P mt ops rest K φ dst):=rfl
theorem XJ{m k:Operand}{t t':TypeId}:aT P mt ops (⟨dst,.call { callee:=.builtin .delete,args:=#[m,k],argTypes:=#[t,t'] },type,pos,after,none⟩::rest) K φ st=DD P t st (φ.eval m) (φ.eval k) (mU P mt ops rest K φ dst):=rfl
theorem WH{t:TypeId}{x:Operand}:aT P mt ops (⟨dst,.box t x,type,pos,after,none⟩::rest) K φ st=vE P (yV mt dst) t (φ.eval x) st (mU P mt ops rest K φ dst) (hJ P mt ops rest K φ dst st):=by
 simp only[aT,gP,dZ,vE,mU]
 split
 · rfl
 · cases uX P t (φ.eval x)<;>rfl
theorem U9{t:TypeId}:aT P mt ops (⟨dst,.alloc t,type,pos,after,none⟩::rest) K φ st=GQ (zI P t) st (mU P mt ops rest K φ dst):=rfl
theorem aCH{t:TypeId}{p x:Operand}:aT P mt ops (⟨dst,.store t p x,type,pos,after,none⟩::rest) K φ st=IZ P t (φ.eval p) (φ.eval x) st (mU P mt ops rest K φ dst):=rfl
theorem ZM{t:TypeId}:aT P mt ops (⟨dst,.makeMap t none,type,pos,after,none⟩::rest) K φ st=∀b,st b=none→mU P mt ops rest K φ dst (.map b) (st.aC b (.map fun _=>none)):=rfl
theorem ZN{t:TypeId}{n c:Operand}:aT P mt ops (⟨dst,.makeSlice t n c,type,pos,after,none⟩::rest) K φ st=tC P t st (φ.eval n) (φ.eval c) (mU P mt ops rest K φ dst):=rfl
theorem ZO{t:TypeId}{m k x:Operand}:aT P mt ops (⟨dst,.mapUpdate t m k x,type,pos,after,none⟩::rest) K φ st=DF P t st (φ.eval m) (φ.eval k) (φ.eval x) (mU P mt ops rest K φ dst):=rfl
theorem aC3{t:Tmp}:φ.eval (.tmp t)=φ t:=rfl
theorem WO{k:IntKind}{n:Int}:φ.eval (.const (.int k n))=.int k n:=rfl
theorem WM{b:Bool}:φ.eval (.const (.bool b))=.bool b:=rfl
theorem WQ:φ.eval (.const (.slice none 0 0))=.fslice []:=rfl
theorem WR:φ.eval (.const (.pointer none))=.nilptr:=rfl
theorem WP:φ.eval (.const (.map none))=.nilmap:=rfl
theorem WN{g:FuncId}:φ.eval (.func g)=.func g []:=rfl
theorem WS{l:List UInt8}:φ.eval (.const (.string ⟨l.toArray⟩))=if l.length≤9223372036854775807 then .str ⟨l.toArray⟩ else .junk:=by
 simp [AF.eval,ofConst,ByteArray.size,maxLen]
theorem aC6{d e:Nat}{v:AV}:(φ.aC d v) e=if e=d then v else φ e:=rfl
theorem aAK{d:Nat}{v:AV}:φ.put (some d) v=φ.aC d v:=rfl
theorem aAL{v:AV}:φ.put none v=φ:=rfl
theorem VG{i:Nat}:pI i []=AF.bot:=rfl
theorem VF{i:Nat}{a:AV}{as:List AV}:pI i (a::as)=(pI (i+1) as).aC i a:=rfl
theorem UH{P:Program}{t:TypeId}{k:IntKind}{a b:Int}:dG P .add t (.int k a) (.int k b)=some (.int k (k.wrap (a+b))):=by simp [dG,iB]
theorem aCM{P:Program}{t:TypeId}{k:IntKind}{a b:Int}:dG P .sub t (.int k a) (.int k b)=some (.int k (k.wrap (a - b))):=by simp [dG,iB]
theorem ZU{P:Program}{t:TypeId}{k:IntKind}{a b:Int}:dG P .mul t (.int k a) (.int k b)=some (.int k (k.wrap (a*b))):=by simp [dG,iB]
theorem aAM{P:Program}{t:TypeId}{k:IntKind}{a b:Int}:dG P .quo t (.int k a) (.int k b)=if b=0 then none else some (.int k (k.wrap (a.tdiv b))):=by simp [dG,iB]
theorem aAQ{P:Program}{t:TypeId}{k:IntKind}{a b:Int}:dG P .rem t (.int k a) (.int k b)=if b=0 then none else some (.int k (a.tmod b)):=by simp [dG,iB]
theorem XM{P:Program}{t:TypeId}{k:IntKind}{a b:Int}:dG P .eql t (.int k a) (.int k b)=some (.bool (decide (a=b))):=by simp [dG,iB]
theorem ZW{P:Program}{t:TypeId}{k:IntKind}{a b:Int}:dG P .neq t (.int k a) (.int k b)=some (.bool (!decide (a=b))):=by simp [dG,iB]
theorem ZK{P:Program}{t:TypeId}{k:IntKind}{a b:Int}:dG P .lss t (.int k a) (.int k b)=some (.bool (decide (a<b))):=by simp [dG,iB]
theorem ZD{P:Program}{t:TypeId}{k:IntKind}{a b:Int}:dG P .leq t (.int k a) (.int k b)=some (.bool (decide (a≤b))):=by simp [dG,iB]
theorem XY{P:Program}{t:TypeId}{k:IntKind}{a b:Int}:dG P .gtr t (.int k a) (.int k b)=some (.bool (decide (b<a))):=by simp [dG,iB]
theorem XX{P:Program}{t:TypeId}{k:IntKind}{a b:Int}:dG P .geq t (.int k a) (.int k b)=some (.bool (decide (b≤a))):=by simp [dG,iB]
theorem aDO{P:Program}{t:TypeId}{k:IntKind}{a b:Int}:dG P .xor t (.int k a) (.int k b)=some (.int k (DL k a b)):=by simp [dG,iB]
theorem VB{P:Program}{t:TypeId}{k:IntKind}{a b:Int}:dG P .and t (.int k a) (.int k b)=some (.int k (KK k a b)):=by simp [dG,iB]
theorem Z1{P:Program}{t:TypeId}{k:IntKind}{a b:Int}:dG P .or t (.int k a) (.int k b)=some (.int k (DH k a b)):=by simp [dG,iB]
theorem aBN{P:Program}{t:TypeId}{a b:Int}:dG P .shl t (.int .i64 a) (.int .u64 b)=tE .shl .i64 a b:=by simp [dG,iB]
theorem aBO{P:Program}{t:TypeId}{a b:Int}:dG P .shr t (.int .i64 a) (.int .u64 b)=tE .shr .i64 a b:=by simp [dG,iB]
theorem ZQ{k:IntKind}{a b:Int}:zN (.int k a) (.int k b)=some (.int k (if a<b then b else a)):=by simp [zN]
theorem ZS{k:IntKind}{a b:Int}:zO (.int k a) (.int k b)=some (.int k (if b<a then b else a)):=by simp [zO]
theorem aBL{P:Program}{t:TypeId}{a b:ByteArray}:dG P .eql t (.str a) (.str b)=some (.bool (decide (a=b))):=by simp [dG,iB]
theorem aBS{P:Program}{t:TypeId}{a b:ByteArray}:dG P .neq t (.str a) (.str b)=some (.bool (!decide (a=b))):=by simp [dG,iB]
theorem aA4{P:Program}{t:TypeId}{a b:ByteArray}:dG P .add t (.str a) (.str b)=if a.size+b.size≤maxLen then some (.str (a++b)) else none:=by simp [dG,iB]
theorem aBR{P:Program}{t:TypeId}{a b:ByteArray}:dG P .lss t (.str a) (.str b)=some (.bool (Op.bytesLess a.toList b.toList)):=by simp [dG,iB]
theorem aBM{P:Program}{t:TypeId}{a b:ByteArray}:dG P .gtr t (.str a) (.str b)=some (.bool (!(Op.bytesLess a.toList b.toList||decide (a=b)))):=by simp [dG,iB]
theorem WA{P:Program}{t:TypeId}{a b:Bool}(h:P.underlying t=some .bool):dG P .eql t (.bool a) (.bool b)=some (.bool (a == b)):=by simp [dG,h]
theorem WG{P:Program}{t:TypeId}{a b:Bool}(h:P.underlying t=some .bool):dG P .neq t (.bool a) (.bool b)=some (.bool (!(a == b))):=by simp [dG,h]
theorem ZZ{b:Bool}:DK .not (.bool b)=some (.bool (!b)):=rfl
theorem ZV{k:IntKind}{n:Int}:DK .neg (.int k n)=some (.int k (k.wrap (0 - n))):=rfl
end
end
@[congr] theorem aZL {P:Program} {N:Nat} {mt:List Nat} {c:Code} {Q:Exit→AF→aA→Prop} {φ φ':AF} {st st':aA} (h1:φ=φ') (h2:st=st'):eL P N mt c Q φ st=eL P N mt c Q φ' st':=by rw[h1,h2]
@[congr] theorem aZO {P:Program} {mt:List Nat} {ops:Array Oper} {l:List Oper} {K:AF→aA→Prop} {φ φ':AF} {st st':aA} (h1:φ=φ') (h2:st=st'):aT P mt ops l K φ st=aT P mt ops l K φ' st':=by rw[h1,h2]
@[congr] theorem aZ0 {P:Program} {mt:List Nat} {ops:Array Oper} {l:List Oper} {K:AF→aA→Prop} {φ:AF} {st:aA} {dst:Option Tmp} {x x':Option AV} (h1:x=x'):hJ P mt ops l K φ dst st x=hJ P mt ops l K φ dst st x':=by rw[h1]
@[congr] theorem aZZ {P:Program} {mt:List Nat} {ops:Array Oper} {o:Oper} {l:List Oper} {K:AF→aA→Prop} {φ:AF} {st:aA} {x x':Option Bool} (h1:x=x'):uJ P mt ops o l K φ st x=uJ P mt ops o l K φ st x':=by rw[h1]
@[congr] theorem aZY {P:Program} {mt:List Nat} {ops:Array Oper} {l:List Oper} {K:AF→aA→Prop} {φ:AF} {dst:Option Tmp} {r r':AV} {st st':aA} (h1:r=r') (h2:st=st'):mU P mt ops l K φ dst r st=mU P mt ops l K φ dst r' st':=by rw[h1,h2]
@[congr] theorem aZM {c c':AV} {k₁ k₂:AF→aA→Prop} {φ:AF} {st:aA} (h1:c=c'):tB c k₁ k₂ φ st=tB c' k₁ k₂ φ st:=by rw[h1]
@[congr] theorem aZI {P:Program} {N:Nat} {c:Code} {Q:Exit→AF→aA→Prop} {φ φ':AF} {st st':aA} (h1:φ=φ') (h2:st=st'):d8 P N c Q φ st=d8 P N c Q φ' st':=by rw[h1,h2]
@[congr] theorem aZH {P:Program} {g:FuncId} {args args':List AV} {st st':aA} {K:AV→aA→Prop} (h1:args=args') (h2:st=st'):aD P g args st K=aD P g args' st' K:=by rw[h1,h2]
@[congr] theorem aZW {P:Program} {f f':AV} {args args':List AV} {st st':aA} {K:AV→aA→Prop} (h0:f=f') (h1:args=args') (h2:st=st'):qN P f args st K=qN P f' args' st' K:=by rw[h0,h1,h2]
@[congr] theorem aZT {P:Program} {m m':Bool} {t:TypeId} {x x':AV} {st st':aA} {K:AV→aA→Prop} {k:Option AV→Prop} (h0:m=m') (h1:x=x') (h2:st=st'):vE P m t x st K k=vE P m' t x' st' K k:=by rw[h0,h1,h2]
@[congr] theorem aZS {zs zs':Option (List AV)} {st st':aA} {K:AV→aA→Prop} (h1:zs=zs') (h2:st=st'):GQ zs st K=GQ zs' st' K:=by rw[h1,h2]
@[congr] theorem aZ5 {P:Program} {t:TypeId} {p p' x x':AV} {st st':aA} {K:AV→aA→Prop} (h0:p=p') (h1:x=x') (h2:st=st'):IZ P t p x st K=IZ P t p' x' st' K:=by rw[h0,h1,h2]
@[congr] theorem aZK {P:Program} {t t':TypeId} {s s' x x':AV} {st st':aA} {K:AV→aA→Prop} (h0:s=s') (h1:x=x') (h2:st=st'):qI P t t' st s x K=qI P t t' st' s' x' K:=by rw[h0,h1,h2]
@[congr] theorem aZJ {P:Program} {t:TypeId} {s s' x x':AV} {st st':aA} {K:AV→aA→Prop} (h0:s=s') (h1:x=x') (h2:st=st'):i8 P t st s x K=i8 P t st' s' x' K:=by rw[h0,h1,h2]
@[congr] theorem aZN {P:Program} {t:TypeId} {s s' x x':AV} {st st':aA} {K:AV→aA→Prop} (h0:s=s') (h1:x=x') (h2:st=st'):tC P t st s x K=tC P t st' s' x' K:=by rw[h0,h1,h2]
theorem WU{P:Program}{g:FuncId}{fD args:List AV}{st:aA}{K:AV→aA→Prop}:qN P (.func g fD) args st K=aD P g (args++fD) st K:=rfl
theorem WI{P:Program}{t:TypeId}{x:AV}{st:aA}{K:AV→aA→Prop}{k:Option AV→Prop}:vE P false t x st K k=k (uX P t x):=by simp [vE]
theorem WJ{P:Program}{t:TypeId}{x:AV}{st:aA}{K:AV→aA→Prop}{k:Option AV→Prop}:vE P true t x st K k=(x.bO=false∧∀b,st b=none→K (.ptr b 0) (st.aC b (.cells x.cells))):=by simp [vE]
theorem VA{zs:List AV}{st:aA}{K:AV→aA→Prop}:GQ (some zs) st K=∀b,st b=none→K (.ptr b 0) (st.aC b (.cells zs)):=rfl
theorem aCI{P:Program}{t:TypeId}{b q:Nat}{x:AV}{st:aA}{K:AV→aA→Prop}:IZ P t (.ptr b q) x st K=match st b,tI P t with
 | some (.cells cs),some (_,sz)=>x.cells.length=sz∧q+sz≤cs.length∧x.cells.all AV.storable=true∧K .undef (st.aC b (.cells (aG cs q x.cells)))
 | _,_=>False:=rfl
def hH:Op→Bool
 | .alloc _=>true
 | _=>false
def gS:Op→Bool
 | .store _ _ _=>true
 | _=>false
def zK(P:Program)(mt:List Nat)(ops:Array Oper)(rest:List Oper)(K:AF→aA→Prop)(φ:AF)(st:aA):Prop:=eM P mt ops rest K φ st
def zF(P:Program)(mt:List Nat)(ops:Array Oper)(rest:List Oper)(K:AF→aA→Prop)(φ:AF)(d:Nat)(st:aA)(r:AV):Prop:=eM P mt ops rest K (φ.aC d r) st
def t8(x:AV)(K:AV→Prop):Option (List AV)→Option (Bool×Nat)→Prop
 | some zs,some (_,sz)=>zs.length=sz∧x.width=sz∧x.cells.all AV.storable=true∧x.bO=false∧K (.pptr x)
 | _,_=>False
def zM(P:Program)(mt:List Nat)(ops:Array Oper)(o:Oper)(s:Oper)(rest:List Oper)(K:AF→aA→Prop)(φ:AF)(st:aA)(d:Nat)(t:TypeId)(x:AV):Bool→Prop
 | true=>aT P mt ops [o] (zK P mt ops (s::rest) K) φ st
 | false=>t8 x (zF P mt ops rest K φ d st) (zI P t) (tI P t)
section
variable {P:Program} {mt:List Nat} {ops:Array Oper} {rest:List Oper} {K:AF→aA→Prop} {φ:AF} {st:aA} {dst AC:Option Tmp} {type sR:TypeId} {pos pos':String} {after rU:Array Edge} {g g':Option (Nat×Bool)} {op op':Op}
theorem HM:zK P mt ops rest K φ st=eM P mt ops rest K φ st:=rfl
theorem aDP{d:Nat}{r:AV}:zF P mt ops rest K φ d st r=eM P mt ops rest K (φ.aC d r) st:=rfl
theorem UC:eM P mt ops [] K φ st=K φ st:=by rw[eM]
theorem HK(h:hH op=false):eM P mt ops (⟨dst,op,type,pos,after,g⟩::rest) K φ st=aT P mt ops [⟨dst,op,type,pos,after,g⟩] (zK P mt ops rest K) φ st:=by
 rw[eM]
 · rfl
 · intro d t ty ps af t' d' x ty' ps' af' r e1 e2
   cases e1
   cases h
 · intro d t ty ps af e y ty2 ps2 af2 t' d' x ty' ps' af' r e1 e2
   cases e1
   cases h
theorem HL{t:TypeId}{x:AV}{k:AV→Prop}:zJ P t x k=t8 x k (zI P t) (tI P t):=by
 unfold zJ t8
 simp only[DZ]
 cases zI P t<;>cases tI P t<;>rfl
theorem XW{x:AV}{k:AV→Prop}{zs:List AV}{ag:Bool}{sz:Nat}:t8 x k (some zs) (some (ag,sz))=(zs.length=sz∧x.width=sz∧x.cells.all AV.storable=true∧x.bO=false∧k (.pptr x)):=rfl
theorem HJ{d:Nat}{t:TypeId}{x:Operand}:eM P mt ops (⟨some d,.alloc t,type,pos,after,none⟩::⟨none,.store t (.tmp d) x,sR,pos',rU,none⟩::rest) K φ st =
 zM P mt ops ⟨some d,.alloc t,type,pos,after,none⟩ ⟨none,.store t (.tmp d) x,sR,pos',rU,none⟩ rest K φ st d t (φ.eval x) (mt.contains d||nP x d):=by
 rw[eM]
 cases h:(mt.contains d||nP x d) with
 | true=>
  rw[aH (by simp)]
  show _=aT P mt ops _ (fun φ' st'=>zK P mt ops _ K φ' st') φ st
  simp only[HM,HK (K:=K) (rest:=rest) (op:=.store t (.tmp d) x) rfl]
  rfl
 | false=>
  rw[aN ⟨rfl,rfl,rfl⟩,HL]
  try rfl
theorem aDT{o s:Oper}{d:Nat}{t:TypeId}{x:AV}:zM P mt ops o s rest K φ st d t x true=aT P mt ops [o] (zK P mt ops (s::rest) K) φ st:=rfl
theorem aDS{o s:Oper}{d:Nat}{t:TypeId}{x:AV}:zM P mt ops o s rest K φ st d t x false=t8 x (zF P mt ops rest K φ d st) (zI P t) (tI P t):=rfl
def PL(P:Program)(mt:List Nat)(ops:Array Oper)(o:Oper)(os:List Oper)(rest:List Oper)(K:AF→aA→Prop)(φ φ':AF)(st:aA)(d:Nat)(t:TypeId)(x:AV):Bool→Prop
 | true=>aT P mt ops [o] (zK P mt ops (os++rest) K) φ st
 | false=>t8 x (zF P mt ops rest K φ' d st) (zI P t) (tI P t)
theorem aDQ{o:Oper}{os:List Oper}{φ':AF}{d:Nat}{t:TypeId}{x:AV}:PL P mt ops o os rest K φ φ' st d t x false=t8 x (zF P mt ops rest K φ' d st) (zI P t) (tI P t):=rfl
theorem aDR{o:Oper}{os:List Oper}{φ':AF}{d:Nat}{t:TypeId}{x:AV}:PL P mt ops o os rest K φ φ' st d t x true=aT P mt ops [o] (zK P mt ops (os++rest) K) φ st:=rfl
theorem aPU{d e:Nat}{t:TypeId}{x y:Operand}{type2:TypeId}{uN:String}{DN:Array Edge}:eM P mt ops (⟨some d,.alloc t,type,pos,after,none⟩::⟨some e,.assign y,type2,uN,DN,none⟩::⟨none,.store t (.tmp d) x,sR,pos',rU,none⟩::rest) K φ st =
 PL P mt ops ⟨some d,.alloc t,type,pos,after,none⟩ [⟨some e,.assign y,type2,uN,DN,none⟩,⟨none,.store t (.tmp d) x,sR,pos',rU,none⟩] rest K φ (φ.aC e (φ.eval y)) st d t ((φ.aC e (φ.eval y)).eval x) (mt.contains d||nP x d||nP y d||d == e):=by
 rw[eM]
 cases h:(mt.contains d||nP x d||nP y d||d == e) with
 | true=>
  rw[aH (by simp)]
  show _=aT P mt ops _ (fun φ' st'=>zK P mt ops _ K φ' st') φ st
  simp only[HM,gO,dI,HK (K:=K) (op:=.assign y) rfl]
  rfl
 | false=>
  rw[aN ⟨rfl,rfl,rfl⟩,HL]
  try rfl
def iF:Op→Bool
 | .assign _=>true
 | _=>false
theorem UD{t:TypeId}(h:gS op'=false)(h2:iF op'=false):eM P mt ops (⟨dst,.alloc t,type,pos,after,g⟩::⟨AC,op',sR,pos',rU,g'⟩::rest) K φ st=aT P mt ops [⟨dst,.alloc t,type,pos,after,g⟩] (zK P mt ops (⟨AC,op',sR,pos',rU,g'⟩::rest) K) φ st:=by
 rw[eM]
 · rfl
 · intro d t ty ps af t' d' x ty' ps' af' r e1 e2
   cases e2
   cases h
 · intro d t ty ps af e y ty2 ps2 af2 t' d' x ty' ps' af' r e1 e2
   cases e2
   cases h2
theorem UE{t:TypeId}:eM P mt ops [⟨dst,.alloc t,type,pos,after,g⟩] K φ st=aT P mt ops [⟨dst,.alloc t,type,pos,after,g⟩] (zK P mt ops [] K) φ st:=by
 rw[eM]
 · rfl
 · intro d t ty ps af t' d' x ty' ps' af' r e1 e2
   cases e2
 · intro d t ty ps af e y ty2 ps2 af2 t' d' x ty' ps' af' r e1 e2
   cases e2
theorem UF{t:TypeId}{y:Operand}:eM P mt ops [⟨dst,.alloc t,type,pos,after,g⟩,⟨AC,.assign y,sR,pos',rU,g'⟩] K φ st=aT P mt ops [⟨dst,.alloc t,type,pos,after,g⟩] (zK P mt ops [⟨AC,.assign y,sR,pos',rU,g'⟩] K) φ st:=by
 rw[eM]
 · rfl
 · intro d t ty ps af t' d' x ty' ps' af' r e1 e2
   cases e2
 · intro d t ty ps af e y ty2 ps2 af2 t' d' x ty' ps' af' r e1 e2
   cases e2
theorem UG{t:TypeId}{y:Operand}{S2:Option Tmp}{op2:Op}{type2:TypeId}{uN:String}{DN:Array Edge}{g2:Option (Nat×Bool)}(h:gS op2=false):eM P mt ops (⟨dst,.alloc t,type,pos,after,g⟩::⟨AC,.assign y,sR,pos',rU,g'⟩::⟨S2,op2,type2,uN,DN,g2⟩::rest) K φ st=aT P mt ops [⟨dst,.alloc t,type,pos,after,g⟩] (zK P mt ops (⟨AC,.assign y,sR,pos',rU,g'⟩::⟨S2,op2,type2,uN,DN,g2⟩::rest) K) φ st:=by
 rw[eM]
 · rfl
 · intro d t ty ps af t' d' x ty' ps' af' r e1 e2
   cases e2
 · intro d t ty ps af e y ty2 ps2 af2 t' d' x ty' ps' af' r e1 e2
   cases e2
   cases h
theorem Y5{d e:Nat}:nP (.tmp e) d=(e == d):=rfl
theorem Y4{v:Value}{d:Nat}:nP (.const v) d=false:=rfl
theorem U0{x:Operand}:hH (.move x)=false:=rfl
theorem aCC{x:Operand}:gS (.move x)=false:=rfl
theorem UI{x:Operand}:hH (.assign x)=false:=rfl
theorem aBU{x:Operand}:gS (.assign x)=false:=rfl
theorem U5{c x y:Operand}:hH (.pick c x y)=false:=rfl
theorem aCE{c x y:Operand}:gS (.pick c x y)=false:=rfl
theorem UJ{op:BinOp}{t:TypeId}{x y:Operand}{t':TypeId}:hH (.binOp op t x y t')=false:=rfl
theorem aBV{op:BinOp}{t:TypeId}{x y:Operand}{t':TypeId}:gS (.binOp op t x y t')=false:=rfl
theorem U8{op:UnOp}{t:TypeId}{x:Operand}:hH (.unOp op t x)=false:=rfl
theorem aCG{op:UnOp}{t:TypeId}{x:Operand}:gS (.unOp op t x)=false:=rfl
theorem U3{x:Operand}:hH (.nilCheck x)=false:=rfl
theorem aCD{x:Operand}:gS (.nilCheck x)=false:=rfl
theorem UR{t f:Nat}{x:Operand}:hH (.fieldAddr t x f)=false:=rfl
theorem aB3{t f:Nat}{x:Operand}:gS (.fieldAddr t x f)=false:=rfl
theorem UU{t:TypeId}{x:Operand}:hH (.load t x)=false:=rfl
theorem aB6{t:TypeId}{x:Operand}:gS (.load t x)=false:=rfl
theorem U7{t:TypeId}{p x:Operand}:hH (.store t p x)=false:=rfl
theorem UQ{t f:Nat}{x:Operand}:hH (.field t x f)=false:=rfl
theorem aB2{t f:Nat}{x:Operand}:gS (.field t x f)=false:=rfl
theorem UT{t:TypeId}{x i:Operand}:hH (.indexAddr t x i)=false:=rfl
theorem aB5{t:TypeId}{x i:Operand}:gS (.indexAddr t x i)=false:=rfl
theorem US{t:TypeId}{x i:Operand}:hH (.index t x i)=false:=rfl
theorem aB4{t:TypeId}{x i:Operand}:gS (.index t x i)=false:=rfl
theorem U6{t:TypeId}{x:Operand}{lo hi mx:Option Operand}:hH (.slice t x lo hi mx)=false:=rfl
theorem aCF{t:TypeId}{x:Operand}{lo hi mx:Option Operand}:gS (.slice t x lo hi mx)=false:=rfl
theorem UP{x:Operand}{i:Nat}:hH (.extract x i)=false:=rfl
theorem aB1{x:Operand}{i:Nat}:gS (.extract x i)=false:=rfl
theorem UL{t:TypeId}{ps:Array (Nat×Operand)}:hH (.build t ps)=false:=rfl
theorem aBX{t:TypeId}{ps:Array (Nat×Operand)}:gS (.build t ps)=false:=rfl
theorem UM{t:TypeId}{n:Nat}{ps:Array (Nat×Operand)}:hH (.buildSlice t n ps)=false:=rfl
theorem aBY{t:TypeId}{n:Nat}{ps:Array (Nat×Operand)}:gS (.buildSlice t n ps)=false:=rfl
theorem UO{t u:TypeId}{x:Operand}:hH (.convert t u x)=false:=rfl
theorem aB0{t u:TypeId}{x:Operand}:gS (.convert t u x)=false:=rfl
theorem UV{t:TypeId}{x i:Operand}{ok:Bool}:hH (.lookup t x i ok)=false:=rfl
theorem aB7{t:TypeId}{x i:Operand}{ok:Bool}:gS (.lookup t x i ok)=false:=rfl
theorem UN{c:_}:hH (.call c)=false:=rfl
theorem aBZ{c:_}:gS (.call c)=false:=rfl
theorem UK{t:TypeId}{x:Operand}:hH (.box t x)=false:=rfl
theorem aBW{t:TypeId}{x:Operand}:gS (.box t x)=false:=rfl
theorem UX{t:_}{x:_}:hH (.makeMap t x)=false:=rfl
theorem aB9{t:_}{x:_}:gS (.makeMap t x)=false:=rfl
theorem UY{t:TypeId}{n c:Operand}:hH (.makeSlice t n c)=false:=rfl
theorem aCA{t:TypeId}{n c:Operand}:gS (.makeSlice t n c)=false:=rfl
theorem UZ{t:TypeId}{m k x:Operand}:hH (.mapUpdate t m k x)=false:=rfl
theorem aCB{t:TypeId}{m k x:Operand}:gS (.mapUpdate t m k x)=false:=rfl
theorem UW{f:_}{a:_}{b:_}:hH (.makeFunc f a b)=false:=rfl
theorem aB8{f:_}{a:_}{b:_}:gS (.makeFunc f a b)=false:=rfl
theorem aBT{t:TypeId}:gS (.alloc t)=false:=rfl
theorem V0{x:Operand}:iF (.move x)=false:=rfl
theorem V5{c x y:Operand}:iF (.pick c x y)=false:=rfl
theorem VI{op:BinOp}{t:TypeId}{x y:Operand}{t':TypeId}:iF (.binOp op t x y t')=false:=rfl
theorem V7{op:UnOp}{t:TypeId}{x:Operand}:iF (.unOp op t x)=false:=rfl
theorem V3{x:Operand}:iF (.nilCheck x)=false:=rfl
theorem VR{t f:Nat}{x:Operand}:iF (.fieldAddr t x f)=false:=rfl
theorem VU{t:TypeId}{x:Operand}:iF (.load t x)=false:=rfl
theorem VQ{t f:Nat}{x:Operand}:iF (.field t x f)=false:=rfl
theorem VT{t:TypeId}{x i:Operand}:iF (.indexAddr t x i)=false:=rfl
theorem VS{t:TypeId}{x i:Operand}:iF (.index t x i)=false:=rfl
theorem V6{t:TypeId}{x:Operand}{lo hi mx:Option Operand}:iF (.slice t x lo hi mx)=false:=rfl
theorem VP{x:Operand}{i:Nat}:iF (.extract x i)=false:=rfl
theorem VK{t:TypeId}{ps:Array (Nat×Operand)}:iF (.build t ps)=false:=rfl
theorem VL{t:TypeId}{n:Nat}{ps:Array (Nat×Operand)}:iF (.buildSlice t n ps)=false:=rfl
theorem VO{t u:TypeId}{x:Operand}:iF (.convert t u x)=false:=rfl
theorem VV{t:TypeId}{x i:Operand}{ok:Bool}:iF (.lookup t x i ok)=false:=rfl
theorem VM{c:_}:iF (.call c)=false:=rfl
theorem VJ{t:TypeId}{x:Operand}:iF (.box t x)=false:=rfl
theorem VX{t:_}{x:_}:iF (.makeMap t x)=false:=rfl
theorem VY{t:TypeId}{n c:Operand}:iF (.makeSlice t n c)=false:=rfl
theorem VZ{t:TypeId}{m k x:Operand}:iF (.mapUpdate t m k x)=false:=rfl
theorem VW{f:_}{a:_}{b:_}:iF (.makeFunc f a b)=false:=rfl
theorem VH{t:TypeId}:iF (.alloc t)=false:=rfl
@[congr] theorem aZX {x x':AV} {k:AV→Prop} {a a':Option (List AV)} {b b':Option (Bool×Nat)} (h0:x=x') (h1:a=a') (h2:b=b'):t8 x k a b=t8 x' k a' b':=by rw[h0,h1,h2]
@[congr] theorem aZ6 {o s:Oper} {φ':AF} {st':aA} {d:Nat} {t:TypeId} {x x':AV} {b b':Bool} (h1:φ=φ') (h2:st=st') (h3:x=x') (h4:b=b'):zM P mt ops o s rest K φ st d t x b=zM P mt ops o s rest K φ' st' d t x' b':=by rw[h1,h2,h3,h4]
@[congr] theorem aZ3 {l:List Oper} {Q:Exit→AF→aA→Prop} {φ':AF} {st':aA} {b b':Bool} (h1:φ=φ') (h2:st=st') (h3:b=b'):E3 P mt l Q φ st b=E3 P mt l Q φ' st' b':=by rw[h1,h2,h3]
end
end Go.AW
