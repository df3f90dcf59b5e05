/- The rules by which the code is evaluated: equations for simp. -/
import Derived.Test.YtieofkhcboolkaaGreatDoorVac
set_option linter.unusedSimpArgs false
set_option linter.unusedVariables false
set_option maxRecDepth 100000
namespace Go.AW
section
variable {P:Program} {N:Nat} {mt:List Nat} {Q:Exit→AF→aB→Prop} {φ:AF} {st:aB} {x y:Code} {ops:Array Oper} {id:Nat}
theorem aJD:gG P N mt .skip Q φ st=Q .normal φ st:=rfl
theorem aJA:gG P N mt (.seq x y) Q φ st=gG P N mt x (GA (gG P N mt y Q) Q) φ st:=rfl
def JC(P:Program)(mt:List Nat)(l:List Oper)(Q:Exit→AF→aB→Prop)(φ:AF)(st:aB):Bool→Prop
 | true=>gH P mt l.toArray l (Q .normal) φ st
 | false=>bD P mt l.toArray l (Q .normal) φ st
theorem aIF{l:List Oper}:gG P N mt (.region id l.toArray false) Q φ st=JC P mt l Q φ st (mt.contains 1000000):=by
 simp only[gG,fX,dT]
 cases mt.contains 1000000<;>rfl
theorem aIE{l:List Oper}:JC P mt l Q φ st true=gH P mt l.toArray l (Q .normal) φ st:=rfl
theorem aID{l:List Oper}:JC P mt l Q φ st false=bD P mt l.toArray l (Q .normal) φ st:=rfl
theorem aFB:gG P N mt (.region id ops true) Q φ st=fK P N (.region id ops true) Q φ st:=by simp [gG]
theorem aE8{c:Operand}:gG P N mt (.cond c x y) Q φ st=wW (φ.eval c) (gG P N mt x Q) (gG P N mt y Q) φ st:=rfl
theorem aD5:gG P N mt (.block id x) Q φ st=gG P N mt x (D3 id Q) φ st:=rfl
theorem aG6:gG P N mt (.loop x) Q φ st=fK P N (.loop x) Q φ st:=rfl
theorem aFE:gG P N mt (.exit id) Q φ st=Q (.exit id) φ st:=rfl
theorem aIH:gG P N mt .ret Q φ st=Q .ret φ st:=rfl
theorem aKS{k₁ k₂:AF→aB→Prop}:wW (.bool true) k₁ k₂ φ st=k₁ φ st:=by simp [wW]
theorem aFG{k₁ k₂:AF→aB→Prop}:wW (.bool false) k₁ k₂ φ st=k₂ φ st:=by simp [wW]
theorem aKC{k:AF→aB→Prop}:GA k Q .normal φ st=k φ st:=rfl
theorem aKB{k:AF→aB→Prop}:GA k Q (.exit id) φ st=Q (.exit id) φ st:=rfl
theorem aKD{k:AF→aB→Prop}:GA k Q .ret φ st=Q .ret φ st:=rfl
theorem aD7:D3 id Q .normal φ st=Q .normal φ st:=rfl
theorem aD6{i:Nat}:D3 id Q (.exit i) φ st=if i=id then Q .normal φ st else Q (.exit i) φ st:=rfl
theorem aD8:D3 id Q .ret φ st=Q .ret φ st:=rfl
theorem aG8{k:AF→aB→Prop}:qH k Q .normal φ st=k φ st:=rfl
theorem aG7{k:AF→aB→Prop}:qH k Q (.exit id) φ st=Q (.exit id) φ st:=rfl
theorem aG9{k:AF→aB→Prop}:qH k Q .ret φ st=Q .ret φ st:=rfl
def oT(P:Program)(rs:List ResultVar)(K:AV→aB→Prop)(φ:AF)(st:aB):Prop:=
 match pV P φ st rs with
 | some xs=>GG K st xs
 | none=>False
theorem aIT{rs:Array ResultVar}{K:AV→aB→Prop}:FQ P rs K .ret φ st=oT P rs.toList K φ st:=rfl
theorem aIS{rs:Array ResultVar}{K:AV→aB→Prop}:FQ P rs K .normal φ st=oT P rs.toList K φ st:=rfl
theorem aIJ{t:Tmp}{K:AV→aB→Prop}:oT P [.tmp t] K φ st=K (φ t) st:=rfl
theorem aII{K:AV→aB→Prop}:oT P [] K φ st=K (.tup []) st:=by simp [oT,pV,GG,lI]
theorem aIK{t u:Tmp}{K:AV→aB→Prop}:oT P [.tmp t,.tmp u] K φ st=(lI [φ t,φ u]=true∧K (.tup [φ t,φ u]) st):=rfl
theorem aIL{t u v:Tmp}{K:AV→aB→Prop}:oT P [.tmp t,.tmp u,.tmp v] K φ st=(lI [φ t,φ u,φ v]=true∧K (.tup [φ t,φ u,φ v]) st):=rfl
theorem aIM{t u v w:Tmp}{K:AV→aB→Prop}:oT P [.tmp t,.tmp u,.tmp v,.tmp w] K φ st=(lI [φ t,φ u,φ v,φ w]=true∧K (.tup [φ t,φ u,φ v,φ w]) st):=rfl
def NJ(k:AV→Prop):Option AV→Prop
 | some r=>k r
 | none=>False
theorem aIN{p:Tmp}{t:TypeId}{K:AV→aB→Prop}:oT P [.cell p t] K φ st=NJ (fun r=>K r st) (g9 P st t (φ p)):=by
 simp only[oT,pV,DW]
 cases g9 P st t (φ p)<;>rfl
theorem aIO{p u:Tmp}{t:TypeId}{K:AV→aB→Prop}:oT P [.cell p t,.tmp u] K φ st=NJ (fun r=>lI [r,φ u]=true∧K (.tup [r,φ u]) st) (g9 P st t (φ p)):=by
 simp only[oT,pV,DW]
 cases g9 P st t (φ p)<;>rfl
theorem aIR{u p:Tmp}{t:TypeId}{K:AV→aB→Prop}:oT P [.tmp u,.cell p t] K φ st=NJ (fun r=>lI [φ u,r]=true∧K (.tup [φ u,r]) st) (g9 P st t (φ p)):=by
 simp only[oT,pV,DW]
 cases g9 P st t (φ p)<;>rfl
theorem aHQ{k:AV→Prop}{r:AV}:NJ k (some r)=k r:=rfl
def kP(P:Program)(mt:List Nat)(ops:Array Oper)(rest:List Oper)(K:AF→aB→Prop)(φ:AF)(dst:Option Tmp)(st:aB):Option AV→Prop
 | some r=>bD P mt ops rest K (φ.put dst r) st
 | none=>False
def pK(P:Program)(mt:List Nat)(ops:Array Oper)(rest:List Oper)(K:AF→aB→Prop)(φ:AF)(dst:Option Tmp)(r:AV)(st:aB):Prop:=bD P mt ops rest K (φ.put dst r) st
def xV(P:Program)(mt:List Nat)(ops:Array Oper)(o:Oper)(rest:List Oper)(K:AF→aB→Prop)(φ:AF)(st:aB):Option Bool→Prop
 | some true=>bD P mt ops ({ o with guard:=none }::rest) K φ st
 | some false=>bD P mt ops rest K (φ.put o.dst .undef) st
 | none=>False
def gd(ops:Array Oper)(φ:AF)(j:Nat)(want:Bool):Option Bool:=
 match (ops[j]?).bind (·.dst) with
 | none=>some false
 | some d=>match φ d with
  | .bool b=>some (b == want)
  | .undef=>some false
  | _=>none
section
variable {rest:List Oper} {K:AF→aB→Prop} {dst:Option Tmp} {type:TypeId} {pos:String} {after:Array Edge}
theorem aHN:bD P mt ops [] K φ st=K φ st:=rfl
theorem aFQ{op:Op}{j:Nat}{want:Bool}:bD P mt ops (⟨dst,op,type,pos,after,some (j,want)⟩::rest) K φ st=xV P mt ops ⟨dst,op,type,pos,after,some (j,want)⟩ rest K φ st (gd ops φ j want):=by
 simp only[bD]
 have h1:jQ ops φ ⟨dst,op,type,pos,after,some (j,want)⟩=gd ops φ j want:=rfl
 rw[h1]
 cases gd ops φ j want with
 | none=>rfl
 | some b=>cases b<;>simp [xV,bD,jQ,fD,lQ]
theorem aBL{r:AV}:pK P mt ops rest K φ dst r st=bD P mt ops rest K (φ.put dst r) st:=rfl
theorem aCB{r:AV}:kP P mt ops rest K φ dst st (some r)=bD P mt ops rest K (φ.put dst r) st:=rfl
theorem aBN{op:Op}{g:Option (Nat×Bool)}:xV P mt ops ⟨dst,op,type,pos,after,g⟩ rest K φ st (some true)=bD P mt ops (⟨dst,op,type,pos,after,none⟩::rest) K φ st:=rfl
theorem aBM{op:Op}{g:Option (Nat×Bool)}:xV P mt ops ⟨dst,op,type,pos,after,g⟩ rest K φ st (some false)=bD P mt ops rest K (φ.put dst .undef) st:=rfl
theorem mO{o:Oper}(hg:o.guard=none)(e:∀K',fD P mt φ st o K'=match lQ P φ st o with | some r=>K' r st | none=>False):bD P mt ops (o::rest) K φ st=kP P mt ops rest K φ o.dst st (lQ P φ st o):=by
 simp only[bD,jQ,hg,e]
 cases lQ P φ st o<;>rfl
def KJ:AV→AV→AV→Option AV
 | .bool b,x,y=>some (if b then x else y)
 | _,_,_=>none
def A1:AV→Option AV
 | .ptr b q=>some (.ptr b q)
 | .pptr e=>some (.pptr e)
 | _=>none
def KK(P:Program)(t f:Nat)(x:AV):Option AV:=match fI P t f,x with | some (off,ag,sz),.agg cs=>sub ag cs off sz | _,_=>none
def DA(x:AV)(i:Nat):Option AV:=match x with | .tup vs=>vs[i]? | _=>none
def K0(g:FuncId)(cs:List AV):Option AV:=if lI cs=true then some (.func g cs) else none
def tW(P:Program)(f:AV)(args:List AV)(st:aB)(K:AV→aB→Prop):Prop:=match f with | .func g dD=>aD P g (args++dD) st K | _=>False
def y8(P:Program)(m:Bool)(t:TypeId)(x:AV)(st:aB)(K:AV→aB→Prop)(k:Option AV→Prop):Prop:=
 if m=true then x.cD=false∧∀b,st b=none→K (.ptr b 0) (st.aC b (.cells x.cells)) else k (yH P t x)
def K5(zs:Option (List AV))(st:aB)(K:AV→aB→Prop):Prop:=match zs with | some zs=>∀b,st b=none→K (.ptr b 0) (st.aC b (.cells zs)) | none=>False
def N2(P:Program)(t:TypeId)(p x:AV)(st:aB)(K:AV→aB→Prop):Prop:=
 match p with
 | .ptr b q=>match st b,tI P t with
  | some (.cells cs),some (_,sz)=>x.cells.length=sz∧q+sz≤cs.length∧x.cells.all AV.storable=true∧K .undef (st.aC b (.cells (aK cs q x.cells)))
  | _,_=>False
 | _=>False
theorem aHJ{x:Operand}:bD P mt ops (⟨dst,.move x,type,pos,after,none⟩::rest) K φ st=bD P mt ops rest K (φ.put dst (φ.eval x)) st:=rfl
theorem aD1{x:Operand}:bD P mt ops (⟨dst,.assign x,type,pos,after,none⟩::rest) K φ st=bD P mt ops rest K (φ.put dst (φ.eval x)) st:=rfl
theorem aHS{c x y:Operand}:bD P mt ops (⟨dst,.pick c x y,type,pos,after,none⟩::rest) K φ st=kP P mt ops rest K φ dst st (KJ (φ.eval c) (φ.eval x) (φ.eval y)):=by
 rw[mO rfl fun _=>rfl]
 simp only[lQ]
 cases φ.eval c<;>rfl
theorem aD4{op:BinOp}{t t':TypeId}{x y:Operand}:bD P mt ops (⟨dst,.binOp op t x y t',type,pos,after,none⟩::rest) K φ st=kP P mt ops rest K φ dst st (d6 P op t (φ.eval x) (φ.eval y)):=mO rfl fun _=>rfl
theorem aKT{op:UnOp}{t:TypeId}{x:Operand}:bD P mt ops (⟨dst,.unOp op t x,type,pos,after,none⟩::rest) K φ st=kP P mt ops rest K φ dst st (HB op (φ.eval x)):=mO rfl fun _=>rfl
theorem aHO{x:Operand}:bD P mt ops (⟨dst,.nilCheck x,type,pos,after,none⟩::rest) K φ st=kP P mt ops rest K φ dst st (A1 (φ.eval x)):=by
 rw[mO rfl fun _=>rfl]
 try rfl
theorem aFI{t f:Nat}{x:Operand}:bD P mt ops (⟨dst,.fieldAddr t x f,type,pos,after,none⟩::rest) K φ st=kP P mt ops rest K φ dst st (tG P t f (φ.eval x)):=mO rfl fun _=>rfl
theorem aG4{t:TypeId}{x:Operand}:bD P mt ops (⟨dst,.load t x,type,pos,after,none⟩::rest) K φ st=kP P mt ops rest K φ dst st (g9 P st t (φ.eval x)):=mO rfl fun _=>rfl
theorem aFH{t f:Nat}{x:Operand}:bD P mt ops (⟨dst,.field t x f,type,pos,after,none⟩::rest) K φ st=kP P mt ops rest K φ dst st (KK P t f (φ.eval x)):=by
 rw[mO rfl fun _=>rfl]
 try rfl
theorem aGT{t:TypeId}{x i:Operand}:bD P mt ops (⟨dst,.indexAddr t x i,type,pos,after,none⟩::rest) K φ st=kP P mt ops rest K φ dst st (c8 P t (φ.eval x) (φ.eval i)):=mO rfl fun _=>rfl
theorem aGS{t:TypeId}{x i:Operand}:bD P mt ops (⟨dst,.index t x i,type,pos,after,none⟩::rest) K φ st=kP P mt ops rest K φ dst st (DT P t (φ.eval x) (φ.eval i)):=mO rfl fun _=>rfl
theorem aJE{t:TypeId}{x:Operand}{lo hi mx:Option Operand}:bD P mt ops (⟨dst,.slice t x lo hi mx,type,pos,after,none⟩::rest) K φ st=kP P mt ops rest K φ dst st (eV P φ t (φ.eval x) lo hi mx):=mO rfl fun _=>rfl
theorem aFF{x:Operand}{i:Nat}:bD P mt ops (⟨dst,.extract x i,type,pos,after,none⟩::rest) K φ st=kP P mt ops rest K φ dst st (DA (φ.eval x) i):=by
 rw[mO rfl fun _=>rfl]
 try rfl
theorem aHB{g:FuncId}{dD:Array Operand}:bD P mt ops (⟨dst,.makeFunc (.func g) #[] dD,type,pos,after,none⟩::rest) K φ st=kP P mt ops rest K φ dst st (K0 g (dD.toList.map φ.eval)):=by
 rw[mO rfl fun _=>rfl]
 congr 1
 simp [lQ,K0]
theorem aED{t:TypeId}{ps:Array (Nat×Operand)}:bD P mt ops (⟨dst,.build t ps,type,pos,after,none⟩::rest) K φ st=kP P mt ops rest K φ dst st (A0 P φ t ps):=mO rfl fun _=>rfl
theorem aEE{t:TypeId}{n:Nat}{ps:Array (Nat×Operand)}:bD P mt ops (⟨dst,.buildSlice t n ps,type,pos,after,none⟩::rest) K φ st=kP P mt ops rest K φ dst st (C9 P φ t n ps):=mO rfl fun _=>rfl
theorem aE9{t u:TypeId}{x:Operand}:bD P mt ops (⟨dst,.convert t u x,type,pos,after,none⟩::rest) K φ st=kP P mt ops rest K φ dst st (tQ P t u (φ.eval x)):=mO rfl fun _=>rfl
theorem aG5{t:TypeId}{x i:Operand}{ok:Bool}:bD P mt ops (⟨dst,.lookup t x i ok,type,pos,after,none⟩::rest) K φ st=kP P mt ops rest K φ dst st (pU P st t ok (φ.eval x) (φ.eval i)):=mO rfl fun _=>rfl
theorem aGY{x:Operand}{t:TypeId}:bD P mt ops (⟨dst,.call { callee:=.builtin .len,args:=#[x],argTypes:=#[t] },type,pos,after,none⟩::rest) K φ st=kP P mt ops rest K φ dst st (lP P t (φ.eval x)):=mO rfl fun _=>rfl
theorem aEM{f:Operand}{args:List Operand}{ats:Array TypeId}:bD P mt ops (⟨dst,.call { callee:=.value f,args:=args.toArray,argTypes:=ats },type,pos,after,none⟩::rest) K φ st=tW P (φ.eval f) (args.map φ.eval) st (pK P mt ops rest K φ dst):=rfl
theorem aHF{x y:Operand}{ts:Array TypeId}:bD P mt ops (⟨dst,.call { callee:=.builtin .max,args:=#[x,y],argTypes:=ts },type,pos,after,none⟩::rest) K φ st=kP P mt ops rest K φ dst st (yY (φ.eval x) (φ.eval y)):=mO rfl fun _=>rfl
theorem aHH{x y:Operand}{ts:Array TypeId}:bD P mt ops (⟨dst,.call { callee:=.builtin .min,args:=#[x,y],argTypes:=ts },type,pos,after,none⟩::rest) K φ st=kP P mt ops rest K φ dst st (yZ (φ.eval x) (φ.eval y)):=mO rfl fun _=>rfl
theorem aDB{s x:Operand}{t t':TypeId}:bD P mt ops (⟨dst,.call { callee:=.builtin .append,args:=#[s,x],argTypes:=#[t,t'] },type,pos,after,none⟩::rest) K φ st=(if t=t' then jC P t st (φ.eval s) (φ.eval x) (pK P mt ops rest K φ dst) else tP P t t' st (φ.eval s) (φ.eval x) (pK P mt ops rest K φ dst)):=rfl
theorem aE7{x:Operand}{t:TypeId}:bD P mt ops (⟨dst,.call { callee:=.builtin .clear,args:=#[x],argTypes:=#[t] },type,pos,after,none⟩::rest) K φ st=wV P t st (φ.eval x) (pK P mt ops rest K φ dst):=rfl
theorem aFA{m k:Operand}{t t':TypeId}:bD P mt ops (⟨dst,.call { callee:=.builtin .delete,args:=#[m,k],argTypes:=#[t,t'] },type,pos,after,none⟩::rest) K φ st=BF P t st (φ.eval m) (φ.eval k) (pK P mt ops rest K φ dst):=rfl
theorem aEA{t:TypeId}{x:Operand}:bD P mt ops (⟨dst,.box t x,type,pos,after,none⟩::rest) K φ st=y8 P (DB mt dst) t (φ.eval x) st (pK P mt ops rest K φ dst) (kP P mt ops rest K φ dst st):=by
 simp only[bD,jQ,fD,y8,pK]
 split
 · rfl
 · cases yH P t (φ.eval x)<;>rfl
theorem aC8{t:TypeId}:bD P mt ops (⟨dst,.alloc t,type,pos,after,none⟩::rest) K φ st=K5 (zI P t) st (pK P mt ops rest K φ dst):=rfl
theorem aJ5{t:TypeId}{p x:Operand}:bD P mt ops (⟨dst,.store t p x,type,pos,after,none⟩::rest) K φ st=N2 P t (φ.eval p) (φ.eval x) st (pK P mt ops rest K φ dst):=rfl
theorem aHC{t:TypeId}:bD P mt ops (⟨dst,.makeMap t none,type,pos,after,none⟩::rest) K φ st=∀b,st b=none→pK P mt ops rest K φ dst (.map b) (st.aC b (.map fun _=>none)):=rfl
theorem aHD{t:TypeId}{n c:Operand}:bD P mt ops (⟨dst,.makeSlice t n c,type,pos,after,none⟩::rest) K φ st=yX P t st (φ.eval n) (φ.eval c) (pK P mt ops rest K φ dst):=rfl
theorem aHE{t:TypeId}{m k x:Operand}:bD P mt ops (⟨dst,.mapUpdate t m k x,type,pos,after,none⟩::rest) K φ st=tR P t st (φ.eval m) (φ.eval k) (φ.eval x) (pK P mt ops rest K φ dst):=rfl
theorem aKR{t:Tmp}:φ.eval (.tmp t)=φ t:=rfl
theorem aEH{k:IntKind}{n:Int}:φ.eval (.const (.int k n))=.int k n:=rfl
theorem aEF{b:Bool}:φ.eval (.const (.bool b))=.bool b:=rfl
theorem aEJ:φ.eval (.const (.slice none 0 0))=.fslice []:=rfl
theorem aEK:φ.eval (.const (.pointer none))=.nilptr:=rfl
theorem aEI:φ.eval (.const (.map none))=.nilmap:=rfl
theorem aEG{g:FuncId}:φ.eval (.func g)=.func g []:=rfl
theorem aEL{l:List UInt8}:φ.eval (.const (.string ⟨l.toArray⟩))=if l.length≤9223372036854775807 then .str ⟨l.toArray⟩ else .junk:=by
 simp [AF.eval,ofConst,ByteArray.size,maxLen]
theorem aKU{d e:Nat}{v:AV}:(φ.aC d v) e=if e=d then v else φ e:=rfl
theorem aIA{d:Nat}{v:AV}:φ.put (some d) v=φ.aC d v:=rfl
theorem aIB{v:AV}:φ.put none v=φ:=rfl
theorem aDD{i:Nat}:sG i []=AF.bot:=rfl
theorem aDC{i:Nat}{a:AV}{as:List AV}:sG i (a::as)=(sG (i+1) as).aC i a:=rfl
theorem aCJ{P:Program}{t:TypeId}{k:IntKind}{a b:Int}:d6 P .add t (.int k a) (.int k b)=some (.int k (k.wrap (a+b))):=by simp [d6,k0]
theorem aKA{P:Program}{t:TypeId}{k:IntKind}{a b:Int}:d6 P .sub t (.int k a) (.int k b)=some (.int k (k.wrap (a - b))):=by simp [d6,k0]
theorem aHK{P:Program}{t:TypeId}{k:IntKind}{a b:Int}:d6 P .mul t (.int k a) (.int k b)=some (.int k (k.wrap (a*b))):=by simp [d6,k0]
theorem aIC{P:Program}{t:TypeId}{k:IntKind}{a b:Int}:d6 P .quo t (.int k a) (.int k b)=if b=0 then none else some (.int k (k.wrap (a.tdiv b))):=by simp [d6,k0]
theorem aIG{P:Program}{t:TypeId}{k:IntKind}{a b:Int}:d6 P .rem t (.int k a) (.int k b)=if b=0 then none else some (.int k (a.tmod b)):=by simp [d6,k0]
theorem aFD{P:Program}{t:TypeId}{k:IntKind}{a b:Int}:d6 P .eql t (.int k a) (.int k b)=some (.bool (decide (a=b))):=by simp [d6,k0]
theorem aHM{P:Program}{t:TypeId}{k:IntKind}{a b:Int}:d6 P .neq t (.int k a) (.int k b)=some (.bool (!decide (a=b))):=by simp [d6,k0]
theorem aHA{P:Program}{t:TypeId}{k:IntKind}{a b:Int}:d6 P .lss t (.int k a) (.int k b)=some (.bool (decide (a<b))):=by simp [d6,k0]
theorem aG3{P:Program}{t:TypeId}{k:IntKind}{a b:Int}:d6 P .leq t (.int k a) (.int k b)=some (.bool (decide (a≤b))):=by simp [d6,k0]
theorem aFP{P:Program}{t:TypeId}{k:IntKind}{a b:Int}:d6 P .gtr t (.int k a) (.int k b)=some (.bool (decide (b<a))):=by simp [d6,k0]
theorem aFO{P:Program}{t:TypeId}{k:IntKind}{a b:Int}:d6 P .geq t (.int k a) (.int k b)=some (.bool (decide (b≤a))):=by simp [d6,k0]
theorem aLC{P:Program}{t:TypeId}{k:IntKind}{a b:Int}:d6 P .xor t (.int k a) (.int k b)=some (.int k (HC k a b)):=by simp [d6,k0]
theorem aDA{P:Program}{t:TypeId}{k:IntKind}{a b:Int}:d6 P .and t (.int k a) (.int k b)=some (.int k (P2 k a b)):=by simp [d6,k0]
theorem aHR{P:Program}{t:TypeId}{k:IntKind}{a b:Int}:d6 P .or t (.int k a) (.int k b)=some (.int k (P6 k a b)):=by simp [d6,k0]
theorem aHG{k:IntKind}{a b:Int}:yY (.int k a) (.int k b)=some (.int k (if a<b then b else a)):=by simp [yY]
theorem aHI{k:IntKind}{a b:Int}:yZ (.int k a) (.int k b)=some (.int k (if b<a then b else a)):=by simp [yZ]
theorem aJB{P:Program}{t:TypeId}{a b:ByteArray}:d6 P .eql t (.str a) (.str b)=some (.bool (decide (a=b))):=by simp [d6,k0]
theorem aJG{P:Program}{t:TypeId}{a b:ByteArray}:d6 P .neq t (.str a) (.str b)=some (.bool (!decide (a=b))):=by simp [d6,k0]
theorem aIU{P:Program}{t:TypeId}{a b:ByteArray}:d6 P .add t (.str a) (.str b)=if a.size+b.size≤maxLen then some (.str (a++b)) else none:=by simp [d6,k0]
theorem aJF{P:Program}{t:TypeId}{a b:ByteArray}:d6 P .lss t (.str a) (.str b)=some (.bool (Op.bytesLess a.toList b.toList)):=by simp [d6,k0]
theorem aJC{P:Program}{t:TypeId}{a b:ByteArray}:d6 P .gtr t (.str a) (.str b)=some (.bool (!(Op.bytesLess a.toList b.toList||decide (a=b)))):=by simp [d6,k0]
theorem aD3{P:Program}{t:TypeId}{a b:Bool}(h:P.underlying t=some .bool):d6 P .eql t (.bool a) (.bool b)=some (.bool (a == b)):=by simp [d6,h]
theorem aD9{P:Program}{t:TypeId}{a b:Bool}(h:P.underlying t=some .bool):d6 P .neq t (.bool a) (.bool b)=some (.bool (!(a == b))):=by simp [d6,h]
theorem aHP{b:Bool}:HB .not (.bool b)=some (.bool (!b)):=rfl
theorem aHL{k:IntKind}{n:Int}:HB .neg (.int k n)=some (.int k (k.wrap (0 - n))):=rfl
end
end
@[congr] theorem bDW {P:Program} {N:Nat} {mt:List Nat} {c:Code} {Q:Exit→AF→aB→Prop} {φ φ':AF} {st st':aB} (h1:φ=φ') (h2:st=st'):gG P N mt c Q φ st=gG P N mt c Q φ' st':=by rw[h1,h2]
@[congr] theorem bD2 {P:Program} {mt:List Nat} {ops:Array Oper} {l:List Oper} {K:AF→aB→Prop} {φ φ':AF} {st st':aB} (h1:φ=φ') (h2:st=st'):bD P mt ops l K φ st=bD P mt ops l K φ' st':=by rw[h1,h2]
@[congr] theorem bEG {P:Program} {mt:List Nat} {ops:Array Oper} {l:List Oper} {K:AF→aB→Prop} {φ:AF} {st:aB} {dst:Option Tmp} {x x':Option AV} (h1:x=x'):kP P mt ops l K φ dst st x=kP P mt ops l K φ dst st x':=by rw[h1]
@[congr] theorem bEF {P:Program} {mt:List Nat} {ops:Array Oper} {o:Oper} {l:List Oper} {K:AF→aB→Prop} {φ:AF} {st:aB} {x x':Option Bool} (h1:x=x'):xV P mt ops o l K φ st x=xV P mt ops o l K φ st x':=by rw[h1]
@[congr] theorem bEE {P:Program} {mt:List Nat} {ops:Array Oper} {l:List Oper} {K:AF→aB→Prop} {φ:AF} {dst:Option Tmp} {r r':AV} {st st':aB} (h1:r=r') (h2:st=st'):pK P mt ops l K φ dst r st=pK P mt ops l K φ dst r' st':=by rw[h1,h2]
@[congr] theorem bDX {c c':AV} {k₁ k₂:AF→aB→Prop} {φ:AF} {st:aB} (h1:c=c'):wW c k₁ k₂ φ st=wW c' k₁ k₂ φ st:=by rw[h1]
@[congr] theorem bDS {P:Program} {N:Nat} {c:Code} {Q:Exit→AF→aB→Prop} {φ φ':AF} {st st':aB} (h1:φ=φ') (h2:st=st'):fK P N c Q φ st=fK P N c Q φ' st':=by rw[h1,h2]
@[congr] theorem bDR {P:Program} {g:FuncId} {args args':List AV} {st st':aB} {K:AV→aB→Prop} (h1:args=args') (h2:st=st'):aD P g args st K=aD P g args' st' K:=by rw[h1,h2]
@[congr] theorem bEB {P:Program} {f f':AV} {args args':List AV} {st st':aB} {K:AV→aB→Prop} (h0:f=f') (h1:args=args') (h2:st=st'):tW P f args st K=tW P f' args' st' K:=by rw[h0,h1,h2]
@[congr] theorem bD7 {P:Program} {m m':Bool} {t:TypeId} {x x':AV} {st st':aB} {K:AV→aB→Prop} {k:Option AV→Prop} (h0:m=m') (h1:x=x') (h2:st=st'):y8 P m t x st K k=y8 P m' t x' st' K k:=by rw[h0,h1,h2]
@[congr] theorem bD6 {zs zs':Option (List AV)} {st st':aB} {K:AV→aB→Prop} (h1:zs=zs') (h2:st=st'):K5 zs st K=K5 zs' st' K:=by rw[h1,h2]
@[congr] theorem bEM {P:Program} {t:TypeId} {p p' x x':AV} {st st':aB} {K:AV→aB→Prop} (h0:p=p') (h1:x=x') (h2:st=st'):N2 P t p x st K=N2 P t p' x' st' K:=by rw[h0,h1,h2]
@[congr] theorem bD0 {x x' y y':AV} (h0:x=x') (h1:y=y'):yY x y=yY x' y':=by rw[h0,h1]
@[congr] theorem bD1 {x x' y y':AV} (h0:x=x') (h1:y=y'):yZ x y=yZ x' y':=by rw[h0,h1]
@[congr] theorem bDV {P:Program} {t:TypeId} {x x':AV} {st st':aB} {K:AV→aB→Prop} (h1:x=x') (h2:st=st'):wV P t st x K=wV P t st' x' K:=by rw[h1,h2]
@[congr] theorem bDU {P:Program} {t t':TypeId} {s s' x x':AV} {st st':aB} {K:AV→aB→Prop} (h0:s=s') (h1:x=x') (h2:st=st'):tP P t t' st s x K=tP P t t' st' s' x' K:=by rw[h0,h1,h2]
@[congr] theorem bDT {P:Program} {t:TypeId} {s s' x x':AV} {st st':aB} {K:AV→aB→Prop} (h0:s=s') (h1:x=x') (h2:st=st'):jC P t st s x K=jC P t st' s' x' K:=by rw[h0,h1,h2]
@[congr] theorem bDY {P:Program} {t:TypeId} {s s' x x':AV} {st st':aB} {K:AV→aB→Prop} (h0:s=s') (h1:x=x') (h2:st=st'):yX P t st s x K=yX P t st' s' x' K:=by rw[h0,h1,h2]
@[congr] theorem bDZ {P:Program} {t:TypeId} {m m' s s' x x':AV} {st st':aB} {K:AV→aB→Prop} (h:m=m') (h0:s=s') (h1:x=x') (h2:st=st'):tR P t st m s x K=tR P t st' m' s' x' K:=by rw[h,h0,h1,h2]
theorem aEN{P:Program}{g:FuncId}{dD args:List AV}{st:aB}{K:AV→aB→Prop}:tW P (.func g dD) args st K=aD P g (args++dD) st K:=rfl
theorem aEB{P:Program}{t:TypeId}{x:AV}{st:aB}{K:AV→aB→Prop}{k:Option AV→Prop}:y8 P false t x st K k=k (yH P t x):=by simp [y8]
theorem aEC{P:Program}{t:TypeId}{x:AV}{st:aB}{K:AV→aB→Prop}{k:Option AV→Prop}:y8 P true t x st K k=(x.cD=false∧∀b,st b=none→K (.ptr b 0) (st.aC b (.cells x.cells))):=by simp [y8]
theorem aC9{zs:List AV}{st:aB}{K:AV→aB→Prop}:K5 (some zs) st K=∀b,st b=none→K (.ptr b 0) (st.aC b (.cells zs)):=rfl
theorem aJ6{P:Program}{t:TypeId}{b q:Nat}{x:AV}{st:aB}{K:AV→aB→Prop}:N2 P t (.ptr b q) x st K=match st b,tI P t with
 | some (.cells cs),some (_,sz)=>x.cells.length=sz∧q+sz≤cs.length∧x.cells.all AV.storable=true∧K .undef (st.aC b (.cells (aK cs q x.cells)))
 | _,_=>False:=rfl
def j4:Op→Bool
 | .alloc _=>true
 | _=>false
def jV:Op→Bool
 | .store _ _ _=>true
 | _=>false
def zK(P:Program)(mt:List Nat)(ops:Array Oper)(rest:List Oper)(K:AF→aB→Prop)(φ:AF)(st:aB):Prop:=gH P mt ops rest K φ st
def zF(P:Program)(mt:List Nat)(ops:Array Oper)(rest:List Oper)(K:AF→aB→Prop)(φ:AF)(d:Nat)(st:aB)(r:AV):Prop:=gH P mt ops rest K (φ.aC d r) st
def xI(x:AV)(K:AV→Prop):Option (List AV)→Option (Bool×Nat)→Prop
 | some zs,some (_,sz)=>zs.length=sz∧x.width=sz∧x.cells.all AV.storable=true∧x.cD=false∧K (.pptr x)
 | _,_=>False
def zM(P:Program)(mt:List Nat)(ops:Array Oper)(o:Oper)(s:Oper)(rest:List Oper)(K:AF→aB→Prop)(φ:AF)(st:aB)(d:Nat)(t:TypeId)(x:AV):Bool→Prop
 | true=>bD P mt ops [o] (zK P mt ops (s::rest) K) φ st
 | false=>xI x (zF P mt ops rest K φ d st) (zI P t) (tI P t)
section
variable {P:Program} {mt:List Nat} {ops:Array Oper} {rest:List Oper} {K:AF→aB→Prop} {φ:AF} {st:aB} {dst D9:Option Tmp} {type wH:TypeId} {pos pos':String} {after vI:Array Edge} {g g':Option (Nat×Bool)} {op op':Op}
theorem MD:zK P mt ops rest K φ st=gH P mt ops rest K φ st:=rfl
theorem aLD{d:Nat}{r:AV}:zF P mt ops rest K φ d st r=gH P mt ops rest K (φ.aC d r) st:=rfl
theorem aCE:gH P mt ops [] K φ st=K φ st:=by rw[gH]
theorem MB(h:j4 op=false):gH P mt ops (⟨dst,op,type,pos,after,g⟩::rest) K φ st=bD P mt ops [⟨dst,op,type,pos,after,g⟩] (zK P mt ops rest K) φ st:=by
 rw[gH]
 · rfl
 · intro d t ty ps af t' d' x ty' ps' af' r e1 e2
   cases e1
   cases h
 · intro d t ty ps af e y ty2 ps2 af2 t' d' x ty' ps' af' r e1 e2
   cases e1
   cases h
theorem MC{t:TypeId}{x:AV}{k:AV→Prop}:DS P t x k=xI x k (zI P t) (tI P t):=by
 unfold DS xI
 simp only[sJ]
 cases zI P t<;>cases tI P t<;>rfl
theorem aFN{x:AV}{k:AV→Prop}{zs:List AV}{ag:Bool}{sz:Nat}:xI x k (some zs) (some (ag,sz))=(zs.length=sz∧x.width=sz∧x.cells.all AV.storable=true∧x.cD=false∧k (.pptr x)):=rfl
theorem MA{d:Nat}{t:TypeId}{x:Operand}:gH P mt ops (⟨some d,.alloc t,type,pos,after,none⟩::⟨none,.store t (.tmp d) x,wH,pos',vI,none⟩::rest) K φ st =
 zM P mt ops ⟨some d,.alloc t,type,pos,after,none⟩ ⟨none,.store t (.tmp d) x,wH,pos',vI,none⟩ rest K φ st d t (φ.eval x) (mt.contains d||qF x d):=by
 rw[gH]
 cases h:(mt.contains d||qF x d) with
 | true=>
  rw[aE (by simp)]
  show _=bD P mt ops _ (fun φ' st'=>zK P mt ops _ K φ' st') φ st
  simp only[MD,MB (K:=K) (rest:=rest) (op:=.store t (.tmp d) x) rfl]
  rfl
 | false=>
  rw[aG ⟨rfl,rfl,rfl⟩,MC]
  try rfl
theorem aLH{o s:Oper}{d:Nat}{t:TypeId}{x:AV}:zM P mt ops o s rest K φ st d t x true=bD P mt ops [o] (zK P mt ops (s::rest) K) φ st:=rfl
theorem aLG{o s:Oper}{d:Nat}{t:TypeId}{x:AV}:zM P mt ops o s rest K φ st d t x false=xI x (zF P mt ops rest K φ d st) (zI P t) (tI P t):=rfl
def KI(P:Program)(mt:List Nat)(ops:Array Oper)(o:Oper)(os:List Oper)(rest:List Oper)(K:AF→aB→Prop)(φ φ':AF)(st:aB)(d:Nat)(t:TypeId)(x:AV):Bool→Prop
 | true=>bD P mt ops [o] (zK P mt ops (os++rest) K) φ st
 | false=>xI x (zF P mt ops rest K φ' d st) (zI P t) (tI P t)
theorem aLE{o:Oper}{os:List Oper}{φ':AF}{d:Nat}{t:TypeId}{x:AV}:KI P mt ops o os rest K φ φ' st d t x false=xI x (zF P mt ops rest K φ' d st) (zI P t) (tI P t):=rfl
theorem aLF{o:Oper}{os:List Oper}{φ':AF}{d:Nat}{t:TypeId}{x:AV}:KI P mt ops o os rest K φ φ' st d t x true=bD P mt ops [o] (zK P mt ops (os++rest) K) φ st:=rfl
theorem a0G{d e:Nat}{t:TypeId}{x y:Operand}{type2:TypeId}{xZ:String}{HF:Array Edge}:gH P mt ops (⟨some d,.alloc t,type,pos,after,none⟩::⟨some e,.assign y,type2,xZ,HF,none⟩::⟨none,.store t (.tmp d) x,wH,pos',vI,none⟩::rest) K φ st =
 KI P mt ops ⟨some d,.alloc t,type,pos,after,none⟩ [⟨some e,.assign y,type2,xZ,HF,none⟩,⟨none,.store t (.tmp d) x,wH,pos',vI,none⟩] rest K φ (φ.aC e (φ.eval y)) st d t ((φ.aC e (φ.eval y)).eval x) (mt.contains d||qF x d||qF y d||d == e):=by
 rw[gH]
 cases h:(mt.contains d||qF x d||qF y d||d == e) with
 | true=>
  rw[aE (by simp)]
  show _=bD P mt ops _ (fun φ' st'=>zK P mt ops _ K φ' st') φ st
  simp only[MD,gV,fB,MB (K:=K) (op:=.assign y) rfl]
  rfl
 | false=>
  rw[aG ⟨rfl,rfl,rfl⟩,MC]
  try rfl
def kN:Op→Bool
 | .assign _=>true
 | _=>false
theorem aCF{t:TypeId}(h:jV op'=false)(h2:kN op'=false):gH P mt ops (⟨dst,.alloc t,type,pos,after,g⟩::⟨D9,op',wH,pos',vI,g'⟩::rest) K φ st=bD P mt ops [⟨dst,.alloc t,type,pos,after,g⟩] (zK P mt ops (⟨D9,op',wH,pos',vI,g'⟩::rest) K) φ st:=by
 rw[gH]
 · rfl
 · intro d t ty ps af t' d' x ty' ps' af' r e1 e2
   cases e2
   cases h
 · intro d t ty ps af e y ty2 ps2 af2 t' d' x ty' ps' af' r e1 e2
   cases e2
   cases h2
theorem aCG{t:TypeId}:gH P mt ops [⟨dst,.alloc t,type,pos,after,g⟩] K φ st=bD P mt ops [⟨dst,.alloc t,type,pos,after,g⟩] (zK P mt ops [] K) φ st:=by
 rw[gH]
 · rfl
 · intro d t ty ps af t' d' x ty' ps' af' r e1 e2
   cases e2
 · intro d t ty ps af e y ty2 ps2 af2 t' d' x ty' ps' af' r e1 e2
   cases e2
theorem aCH{t:TypeId}{y:Operand}:gH P mt ops [⟨dst,.alloc t,type,pos,after,g⟩,⟨D9,.assign y,wH,pos',vI,g'⟩] K φ st=bD P mt ops [⟨dst,.alloc t,type,pos,after,g⟩] (zK P mt ops [⟨D9,.assign y,wH,pos',vI,g'⟩] K) φ st:=by
 rw[gH]
 · rfl
 · intro d t ty ps af t' d' x ty' ps' af' r e1 e2
   cases e2
 · intro d t ty ps af e y ty2 ps2 af2 t' d' x ty' ps' af' r e1 e2
   cases e2
theorem aCI{t:TypeId}{y:Operand}{aBC:Option Tmp}{op2:Op}{type2:TypeId}{xZ:String}{HF:Array Edge}{g2:Option (Nat×Bool)}(h:jV op2=false):gH P mt ops (⟨dst,.alloc t,type,pos,after,g⟩::⟨D9,.assign y,wH,pos',vI,g'⟩::⟨aBC,op2,type2,xZ,HF,g2⟩::rest) K φ st=bD P mt ops [⟨dst,.alloc t,type,pos,after,g⟩] (zK P mt ops (⟨D9,.assign y,wH,pos',vI,g'⟩::⟨aBC,op2,type2,xZ,HF,g2⟩::rest) K) φ st:=by
 rw[gH]
 · rfl
 · intro d t ty ps af t' d' x ty' ps' af' r e1 e2
   cases e2
 · intro d t ty ps af e y ty2 ps2 af2 t' d' x ty' ps' af' r e1 e2
   cases e2
   cases h
theorem aGV{d e:Nat}:qF (.tmp e) d=(e == d):=rfl
theorem aGU{v:Value}{d:Nat}:qF (.const v) d=false:=rfl
theorem aC2{x:Operand}:j4 (.move x)=false:=rfl
theorem aJ0{x:Operand}:jV (.move x)=false:=rfl
theorem aCK{x:Operand}:j4 (.assign x)=false:=rfl
theorem aJI{x:Operand}:jV (.assign x)=false:=rfl
theorem aC4{c x y:Operand}:j4 (.pick c x y)=false:=rfl
theorem aJ2{c x y:Operand}:jV (.pick c x y)=false:=rfl
theorem aCL{op:BinOp}{t:TypeId}{x y:Operand}{t':TypeId}:j4 (.binOp op t x y t')=false:=rfl
theorem aJJ{op:BinOp}{t:TypeId}{x y:Operand}{t':TypeId}:jV (.binOp op t x y t')=false:=rfl
theorem aC7{op:UnOp}{t:TypeId}{x:Operand}:j4 (.unOp op t x)=false:=rfl
theorem aJ4{op:UnOp}{t:TypeId}{x:Operand}:jV (.unOp op t x)=false:=rfl
theorem aC3{x:Operand}:j4 (.nilCheck x)=false:=rfl
theorem aJ1{x:Operand}:jV (.nilCheck x)=false:=rfl
theorem aCT{t f:Nat}{x:Operand}:j4 (.fieldAddr t x f)=false:=rfl
theorem aJR{t f:Nat}{x:Operand}:jV (.fieldAddr t x f)=false:=rfl
theorem aCW{t:TypeId}{x:Operand}:j4 (.load t x)=false:=rfl
theorem aJU{t:TypeId}{x:Operand}:jV (.load t x)=false:=rfl
theorem aC6{t:TypeId}{p x:Operand}:j4 (.store t p x)=false:=rfl
theorem aCS{t f:Nat}{x:Operand}:j4 (.field t x f)=false:=rfl
theorem aJQ{t f:Nat}{x:Operand}:jV (.field t x f)=false:=rfl
theorem aCV{t:TypeId}{x i:Operand}:j4 (.indexAddr t x i)=false:=rfl
theorem aJT{t:TypeId}{x i:Operand}:jV (.indexAddr t x i)=false:=rfl
theorem aCU{t:TypeId}{x i:Operand}:j4 (.index t x i)=false:=rfl
theorem aJS{t:TypeId}{x i:Operand}:jV (.index t x i)=false:=rfl
theorem aC5{t:TypeId}{x:Operand}{lo hi mx:Option Operand}:j4 (.slice t x lo hi mx)=false:=rfl
theorem aJ3{t:TypeId}{x:Operand}{lo hi mx:Option Operand}:jV (.slice t x lo hi mx)=false:=rfl
theorem aCR{x:Operand}{i:Nat}:j4 (.extract x i)=false:=rfl
theorem aJP{x:Operand}{i:Nat}:jV (.extract x i)=false:=rfl
theorem aCN{t:TypeId}{ps:Array (Nat×Operand)}:j4 (.build t ps)=false:=rfl
theorem aJL{t:TypeId}{ps:Array (Nat×Operand)}:jV (.build t ps)=false:=rfl
theorem aCO{t:TypeId}{n:Nat}{ps:Array (Nat×Operand)}:j4 (.buildSlice t n ps)=false:=rfl
theorem aJM{t:TypeId}{n:Nat}{ps:Array (Nat×Operand)}:jV (.buildSlice t n ps)=false:=rfl
theorem aCQ{t u:TypeId}{x:Operand}:j4 (.convert t u x)=false:=rfl
theorem aJO{t u:TypeId}{x:Operand}:jV (.convert t u x)=false:=rfl
theorem aCX{t:TypeId}{x i:Operand}{ok:Bool}:j4 (.lookup t x i ok)=false:=rfl
theorem aJV{t:TypeId}{x i:Operand}{ok:Bool}:jV (.lookup t x i ok)=false:=rfl
theorem aCP{c:_}:j4 (.call c)=false:=rfl
theorem aJN{c:_}:jV (.call c)=false:=rfl
theorem aCM{t:TypeId}{x:Operand}:j4 (.box t x)=false:=rfl
theorem aJK{t:TypeId}{x:Operand}:jV (.box t x)=false:=rfl
theorem aCZ{t:_}{x:_}:j4 (.makeMap t x)=false:=rfl
theorem aJX{t:_}{x:_}:jV (.makeMap t x)=false:=rfl
theorem aC0{t:TypeId}{n c:Operand}:j4 (.makeSlice t n c)=false:=rfl
theorem aJY{t:TypeId}{n c:Operand}:jV (.makeSlice t n c)=false:=rfl
theorem aC1{t:TypeId}{m k x:Operand}:j4 (.mapUpdate t m k x)=false:=rfl
theorem aJZ{t:TypeId}{m k x:Operand}:jV (.mapUpdate t m k x)=false:=rfl
theorem aCY{f:_}{a:_}{b:_}:j4 (.makeFunc f a b)=false:=rfl
theorem aJW{f:_}{a:_}{b:_}:jV (.makeFunc f a b)=false:=rfl
theorem aJH{t:TypeId}:jV (.alloc t)=false:=rfl
theorem aDW{x:Operand}:kN (.move x)=false:=rfl
theorem aDY{c x y:Operand}:kN (.pick c x y)=false:=rfl
theorem aDF{op:BinOp}{t:TypeId}{x y:Operand}{t':TypeId}:kN (.binOp op t x y t')=false:=rfl
theorem aD0{op:UnOp}{t:TypeId}{x:Operand}:kN (.unOp op t x)=false:=rfl
theorem aDX{x:Operand}:kN (.nilCheck x)=false:=rfl
theorem aDN{t f:Nat}{x:Operand}:kN (.fieldAddr t x f)=false:=rfl
theorem aDQ{t:TypeId}{x:Operand}:kN (.load t x)=false:=rfl
theorem aDM{t f:Nat}{x:Operand}:kN (.field t x f)=false:=rfl
theorem aDP{t:TypeId}{x i:Operand}:kN (.indexAddr t x i)=false:=rfl
theorem aDO{t:TypeId}{x i:Operand}:kN (.index t x i)=false:=rfl
theorem aDZ{t:TypeId}{x:Operand}{lo hi mx:Option Operand}:kN (.slice t x lo hi mx)=false:=rfl
theorem aDL{x:Operand}{i:Nat}:kN (.extract x i)=false:=rfl
theorem aDH{t:TypeId}{ps:Array (Nat×Operand)}:kN (.build t ps)=false:=rfl
theorem aDI{t:TypeId}{n:Nat}{ps:Array (Nat×Operand)}:kN (.buildSlice t n ps)=false:=rfl
theorem aDK{t u:TypeId}{x:Operand}:kN (.convert t u x)=false:=rfl
theorem aDR{t:TypeId}{x i:Operand}{ok:Bool}:kN (.lookup t x i ok)=false:=rfl
theorem aDJ{c:_}:kN (.call c)=false:=rfl
theorem aDG{t:TypeId}{x:Operand}:kN (.box t x)=false:=rfl
theorem aDT{t:_}{x:_}:kN (.makeMap t x)=false:=rfl
theorem aDU{t:TypeId}{n c:Operand}:kN (.makeSlice t n c)=false:=rfl
theorem aDV{t:TypeId}{m k x:Operand}:kN (.mapUpdate t m k x)=false:=rfl
theorem aDS{f:_}{a:_}{b:_}:kN (.makeFunc f a b)=false:=rfl
theorem aDE{t:TypeId}:kN (.alloc t)=false:=rfl
@[congr] theorem bEO {o:Oper} {os:List Oper} {φ' φ2 φ2':AF} {st':aB} {d:Nat} {t:TypeId} {x x':AV} {b b':Bool} (h1:φ=φ') (h0:φ2=φ2') (h2:st=st') (h3:x=x') (h4:b=b'):KI P mt ops o os rest K φ φ2 st d t x b=KI P mt ops o os rest K φ' φ2' st' d t x' b':=by rw[h1,h0,h2,h3,h4]
@[congr] theorem bEC {x x':AV} {k:AV→Prop} {a a':Option (List AV)} {b b':Option (Bool×Nat)} (h0:x=x') (h1:a=a') (h2:b=b'):xI x k a b=xI x' k a' b':=by rw[h0,h1,h2]
@[congr] theorem bEN {o s:Oper} {φ':AF} {st':aB} {d:Nat} {t:TypeId} {x x':AV} {b b':Bool} (h1:φ=φ') (h2:st=st') (h3:x=x') (h4:b=b'):zM P mt ops o s rest K φ st d t x b=zM P mt ops o s rest K φ' st' d t x' b':=by rw[h1,h2,h3,h4]
@[congr] theorem bEK {l:List Oper} {Q:Exit→AF→aB→Prop} {φ':AF} {st':aB} {b b':Bool} (h1:φ=φ') (h2:st=st') (h3:b=b'):JC P mt l Q φ st b=JC P mt l Q φ' st' b':=by rw[h1,h2,h3]
end
end Go.AW
