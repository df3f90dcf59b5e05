/- The rules by which the code is evaluated: equations for simp. -/
import Derived.Test.YtimfffmcljmfgaaGreatDoorUxc
set_option linter.unusedSimpArgs false
set_option linter.unusedVariables false
set_option maxRecDepth 100000
namespace Go.AW
section
variable {P:Program} {N:Nat} {mt:List Nat} {Q:Exit→AF→aA→Prop} {φ:AF} {st:aA} {x y:Code} {ops:Array Oper} {id:Nat}
theorem aLE:gT P N mt .skip Q φ st=Q .normal φ st:=rfl
theorem aLB:gT P N mt (.seq x y) Q φ st=gT P N mt x (HF (gT P N mt y Q) Q) φ st:=rfl
def KN(P:Program)(mt:List Nat)(l:List Oper)(Q:Exit→AF→aA→Prop)(φ:AF)(st:aA):Bool→Prop
 | true=>gV P mt l.toArray l (Q .normal) φ st
 | false=>bF P mt l.toArray l (Q .normal) φ st
theorem aKG{l:List Oper}:gT P N mt (.region id l.toArray false) Q φ st=KN P mt l Q φ st (mt.contains 1000000):=by
 simp only[gT,iK,dY]
 cases mt.contains 1000000<;>rfl
theorem aKF{l:List Oper}:KN P mt l Q φ st true=gV P mt l.toArray l (Q .normal) φ st:=rfl
theorem aKE{l:List Oper}:KN P mt l Q φ st false=bF P mt l.toArray l (Q .normal) φ st:=rfl
theorem aHC:gT P N mt (.region id ops true) Q φ st=fU P N (.region id ops true) Q φ st:=by simp [gT]
theorem aG9{c:Operand}:gT P N mt (.cond c x y) Q φ st=xR (φ.eval c) (gT P N mt x Q) (gT P N mt y Q) φ st:=rfl
theorem aF6:gT P N mt (.block id x) Q φ st=gT P N mt x (E7 id Q) φ st:=rfl
theorem aI7:gT P N mt (.loop x) Q φ st=fU P N (.loop x) Q φ st:=rfl
theorem aHF:gT P N mt (.exit id) Q φ st=Q (.exit id) φ st:=rfl
theorem aKI:gT P N mt .ret Q φ st=Q .ret φ st:=rfl
theorem aMT{k₁ k₂:AF→aA→Prop}:xR (.bool true) k₁ k₂ φ st=k₁ φ st:=by simp [xR]
theorem aHH{k₁ k₂:AF→aA→Prop}:xR (.bool false) k₁ k₂ φ st=k₂ φ st:=by simp [xR]
theorem aMD{k:AF→aA→Prop}:HF k Q .normal φ st=k φ st:=rfl
theorem aMC{k:AF→aA→Prop}:HF k Q (.exit id) φ st=Q (.exit id) φ st:=rfl
theorem aME{k:AF→aA→Prop}:HF k Q .ret φ st=Q .ret φ st:=rfl
theorem aF8:E7 id Q .normal φ st=Q .normal φ st:=rfl
theorem aF7{i:Nat}:E7 id Q (.exit i) φ st=if i=id then Q .normal φ st else Q (.exit i) φ st:=rfl
theorem aF9:E7 id Q .ret φ st=Q .ret φ st:=rfl
theorem aI9{k:AF→aA→Prop}:rA k Q .normal φ st=k φ st:=rfl
theorem aI8{k:AF→aA→Prop}:rA k Q (.exit id) φ st=Q (.exit id) φ st:=rfl
theorem aJA{k:AF→aA→Prop}:rA k Q .ret φ st=Q .ret φ st:=rfl
def pK(P:Program)(rs:List ResultVar)(K:AV→aA→Prop)(φ:AF)(st:aA):Prop:=
 match qJ P φ st rs with
 | some xs=>HI K st xs
 | none=>False
theorem aKU{rs:Array ResultVar}{K:AV→aA→Prop}:GY P rs K .ret φ st=pK P rs.toList K φ st:=rfl
theorem aKT{rs:Array ResultVar}{K:AV→aA→Prop}:GY P rs K .normal φ st=pK P rs.toList K φ st:=rfl
theorem aKK{t:Tmp}{K:AV→aA→Prop}:pK P [.tmp t] K φ st=K (φ t) st:=rfl
theorem aKJ{K:AV→aA→Prop}:pK P [] K φ st=K (.tup []) st:=by simp [pK,qJ,HI,mF]
theorem aKL{t u:Tmp}{K:AV→aA→Prop}:pK P [.tmp t,.tmp u] K φ st=(mF [φ t,φ u]=true∧K (.tup [φ t,φ u]) st):=rfl
theorem aKM{t u v:Tmp}{K:AV→aA→Prop}:pK P [.tmp t,.tmp u,.tmp v] K φ st=(mF [φ t,φ u,φ v]=true∧K (.tup [φ t,φ u,φ v]) st):=rfl
theorem aKN{t u v w:Tmp}{K:AV→aA→Prop}:pK P [.tmp t,.tmp u,.tmp v,.tmp w] K φ st=(mF [φ t,φ u,φ v,φ w]=true∧K (.tup [φ t,φ u,φ v,φ w]) st):=rfl
def OO(k:AV→Prop):Option AV→Prop
 | some r=>k r
 | none=>False
theorem aKO{p:Tmp}{t:TypeId}{K:AV→aA→Prop}:pK P [.cell p t] K φ st=OO (fun r=>K r st) (iJ P st t (φ p)):=by
 simp only[pK,qJ,EZ]
 cases iJ P st t (φ p)<;>rfl
theorem aKP{p u:Tmp}{t:TypeId}{K:AV→aA→Prop}:pK P [.cell p t,.tmp u] K φ st=OO (fun r=>mF [r,φ u]=true∧K (.tup [r,φ u]) st) (iJ P st t (φ p)):=by
 simp only[pK,qJ,EZ]
 cases iJ P st t (φ p)<;>rfl
theorem aKS{u p:Tmp}{t:TypeId}{K:AV→aA→Prop}:pK P [.tmp u,.cell p t] K φ st=OO (fun r=>mF [φ u,r]=true∧K (.tup [φ u,r]) st) (iJ P st t (φ p)):=by
 simp only[pK,qJ,EZ]
 cases iJ P st t (φ p)<;>rfl
theorem aJR{k:AV→Prop}{r:AV}:OO k (some r)=k r:=rfl
def k0(P:Program)(mt:List Nat)(ops:Array Oper)(rest:List Oper)(K:AF→aA→Prop)(φ:AF)(dst:Option Tmp)(st:aA):Option AV→Prop
 | some r=>bF P mt ops rest K (φ.put dst r) st
 | none=>False
def p8(P:Program)(mt:List Nat)(ops:Array Oper)(rest:List Oper)(K:AF→aA→Prop)(φ:AF)(dst:Option Tmp)(r:AV)(st:aA):Prop:=bF P mt ops rest K (φ.put dst r) st
def yY(P:Program)(mt:List Nat)(ops:Array Oper)(o:Oper)(rest:List Oper)(K:AF→aA→Prop)(φ:AF)(st:aA):Option Bool→Prop
 | some true=>bF P mt ops ({ o with guard:=none }::rest) K φ st
 | some false=>bF P mt ops rest K (φ.put o.dst .undef) st
 | none=>False
def gd(ops:Array Oper)(φ:AF)(j:Nat)(want:Bool):Option Bool:=
 match (ops[j]?).bind (·.dst) with
 | none=>some false
 | some d=>match φ d with
  | .bool b=>some (b == want)
  | .undef=>some false
  | _=>none
section
variable {rest:List Oper} {K:AF→aA→Prop} {dst:Option Tmp} {type:TypeId} {pos:String} {after:Array Edge}
theorem aJO:bF P mt ops [] K φ st=K φ st:=rfl
theorem aHR{op:Op}{j:Nat}{want:Bool}:bF P mt ops (⟨dst,op,type,pos,after,some (j,want)⟩::rest) K φ st=yY P mt ops ⟨dst,op,type,pos,after,some (j,want)⟩ rest K φ st (gd ops φ j want):=by
 simp only[bF]
 have h1:j8 ops φ ⟨dst,op,type,pos,after,some (j,want)⟩=gd ops φ j want:=rfl
 rw[h1]
 cases gd ops φ j want with
 | none=>rfl
 | some b=>cases b<;>simp [yY,bF,j8,fM,mO]
theorem aDM{r:AV}:p8 P mt ops rest K φ dst r st=bF P mt ops rest K (φ.put dst r) st:=rfl
theorem aEC{r:AV}:k0 P mt ops rest K φ dst st (some r)=bF P mt ops rest K (φ.put dst r) st:=rfl
theorem aDO{op:Op}{g:Option (Nat×Bool)}:yY P mt ops ⟨dst,op,type,pos,after,g⟩ rest K φ st (some true)=bF P mt ops (⟨dst,op,type,pos,after,none⟩::rest) K φ st:=rfl
theorem aDN{op:Op}{g:Option (Nat×Bool)}:yY P mt ops ⟨dst,op,type,pos,after,g⟩ rest K φ st (some false)=bF P mt ops rest K (φ.put dst .undef) st:=rfl
theorem nQ{o:Oper}(hg:o.guard=none)(e:∀K',fM P mt φ st o K'=match mO P φ st o with | some r=>K' r st | none=>False):bF P mt ops (o::rest) K φ st=k0 P mt ops rest K φ o.dst st (mO P φ st o):=by
 simp only[bF,j8,hg,e]
 cases mO P φ st o<;>rfl
def LP:AV→AV→AV→Option AV
 | .bool b,x,y=>some (if b then x else y)
 | _,_,_=>none
def BW:AV→Option AV
 | .ptr b q=>some (.ptr b q)
 | .pptr e=>some (.pptr e)
 | _=>none
def LQ(P:Program)(t f:Nat)(x:AV):Option AV:=match fI P t f,x with | some (off,ag,sz),.agg cs=>sub ag cs off sz | _,_=>none
def EC(x:AV)(i:Nat):Option AV:=match x with | .tup vs=>vs[i]? | _=>none
def L8(g:FuncId)(cs:List AV):Option AV:=if mF cs=true then some (.func g cs) else none
def uL(P:Program)(f:AV)(args:List AV)(st:aA)(K:AV→aA→Prop):Prop:=match f with | .func g dL=>aD P g (args++dL) st K | _=>False
def AE(P:Program)(m:Bool)(t:TypeId)(x:AV)(st:aA)(K:AV→aA→Prop)(k:Option AV→Prop):Prop:=
 if m=true then x.cE=false∧∀b,st b=none→K (.ptr b 0) (st.aC b (.cells x.cells)) else k (zL P t x)
def MD(zs:Option (List AV))(st:aA)(K:AV→aA→Prop):Prop:=match zs with | some zs=>∀b,st b=none→K (.ptr b 0) (st.aC b (.cells zs)) | none=>False
def PD(P:Program)(t:TypeId)(p x:AV)(st:aA)(K:AV→aA→Prop):Prop:=
 match p with
 | .ptr b q=>match st b,tI P t with
  | some (.cells cs),some (_,sz)=>x.cells.length=sz∧q+sz≤cs.length∧x.cells.all AV.storable=true∧K .undef (st.aC b (.cells (aK cs q x.cells)))
  | _,_=>False
 | _=>False
theorem aJK{x:Operand}:bF P mt ops (⟨dst,.move x,type,pos,after,none⟩::rest) K φ st=bF P mt ops rest K (φ.put dst (φ.eval x)) st:=rfl
theorem aF2{x:Operand}:bF P mt ops (⟨dst,.assign x,type,pos,after,none⟩::rest) K φ st=bF P mt ops rest K (φ.put dst (φ.eval x)) st:=rfl
theorem aJT{c x y:Operand}:bF P mt ops (⟨dst,.pick c x y,type,pos,after,none⟩::rest) K φ st=k0 P mt ops rest K φ dst st (LP (φ.eval c) (φ.eval x) (φ.eval y)):=by
 rw[nQ rfl fun _=>rfl]
 simp only[mO]
 cases φ.eval c<;>rfl
theorem aF5{op:BinOp}{t t':TypeId}{x y:Operand}:bF P mt ops (⟨dst,.binOp op t x y t',type,pos,after,none⟩::rest) K φ st=k0 P mt ops rest K φ dst st (eJ P op t (φ.eval x) (φ.eval y)):=nQ rfl fun _=>rfl
theorem aMU{op:UnOp}{t:TypeId}{x:Operand}:bF P mt ops (⟨dst,.unOp op t x,type,pos,after,none⟩::rest) K φ st=k0 P mt ops rest K φ dst st (IB op (φ.eval x)):=nQ rfl fun _=>rfl
theorem aJP{x:Operand}:bF P mt ops (⟨dst,.nilCheck x,type,pos,after,none⟩::rest) K φ st=k0 P mt ops rest K φ dst st (BW (φ.eval x)):=by
 rw[nQ rfl fun _=>rfl]
 try rfl
theorem aHJ{t f:Nat}{x:Operand}:bF P mt ops (⟨dst,.fieldAddr t x f,type,pos,after,none⟩::rest) K φ st=k0 P mt ops rest K φ dst st (tX P t f (φ.eval x)):=nQ rfl fun _=>rfl
theorem aI5{t:TypeId}{x:Operand}:bF P mt ops (⟨dst,.load t x,type,pos,after,none⟩::rest) K φ st=k0 P mt ops rest K φ dst st (iJ P st t (φ.eval x)):=nQ rfl fun _=>rfl
theorem aHI{t f:Nat}{x:Operand}:bF P mt ops (⟨dst,.field t x f,type,pos,after,none⟩::rest) K φ st=k0 P mt ops rest K φ dst st (LQ P t f (φ.eval x)):=by
 rw[nQ rfl fun _=>rfl]
 try rfl
theorem aIU{t:TypeId}{x i:Operand}:bF P mt ops (⟨dst,.indexAddr t x i,type,pos,after,none⟩::rest) K φ st=k0 P mt ops rest K φ dst st (dG P t (φ.eval x) (φ.eval i)):=nQ rfl fun _=>rfl
theorem aIT{t:TypeId}{x i:Operand}:bF P mt ops (⟨dst,.index t x i,type,pos,after,none⟩::rest) K φ st=k0 P mt ops rest K φ dst st (EW P t (φ.eval x) (φ.eval i)):=nQ rfl fun _=>rfl
theorem aLF{t:TypeId}{x:Operand}{lo hi mx:Option Operand}:bF P mt ops (⟨dst,.slice t x lo hi mx,type,pos,after,none⟩::rest) K φ st=k0 P mt ops rest K φ dst st (fH P φ t (φ.eval x) lo hi mx):=nQ rfl fun _=>rfl
theorem aHG{x:Operand}{i:Nat}:bF P mt ops (⟨dst,.extract x i,type,pos,after,none⟩::rest) K φ st=k0 P mt ops rest K φ dst st (EC (φ.eval x) i):=by
 rw[nQ rfl fun _=>rfl]
 try rfl
theorem aJC{g:FuncId}{dL:Array Operand}:bF P mt ops (⟨dst,.makeFunc (.func g) #[] dL,type,pos,after,none⟩::rest) K φ st=k0 P mt ops rest K φ dst st (L8 g (dL.toList.map φ.eval)):=by
 rw[nQ rfl fun _=>rfl]
 congr 1
 simp [mO,L8]
theorem aGE{t:TypeId}{ps:Array (Nat×Operand)}:bF P mt ops (⟨dst,.build t ps,type,pos,after,none⟩::rest) K φ st=k0 P mt ops rest K φ dst st (BV P φ t ps):=nQ rfl fun _=>rfl
theorem aGF{t:TypeId}{n:Nat}{ps:Array (Nat×Operand)}:bF P mt ops (⟨dst,.buildSlice t n ps,type,pos,after,none⟩::rest) K φ st=k0 P mt ops rest K φ dst st (EB P φ t n ps):=nQ rfl fun _=>rfl
theorem aHA{t u:TypeId}{x:Operand}:bF P mt ops (⟨dst,.convert t u x,type,pos,after,none⟩::rest) K φ st=k0 P mt ops rest K φ dst st (v7 P t u (φ.eval x)):=nQ rfl fun _=>rfl
theorem aI6{t:TypeId}{x i:Operand}{ok:Bool}:bF P mt ops (⟨dst,.lookup t x i ok,type,pos,after,none⟩::rest) K φ st=k0 P mt ops rest K φ dst st (qI P st t ok (φ.eval x) (φ.eval i)):=nQ rfl fun _=>rfl
theorem aIZ{x:Operand}{t:TypeId}:bF P mt ops (⟨dst,.call { callee:=.builtin .len,args:=#[x],argTypes:=#[t] },type,pos,after,none⟩::rest) K φ st=k0 P mt ops rest K φ dst st (mN P t (φ.eval x)):=nQ rfl fun _=>rfl
theorem aGN{f:Operand}{args:List Operand}{ats:Array TypeId}:bF P mt ops (⟨dst,.call { callee:=.value f,args:=args.toArray,argTypes:=ats },type,pos,after,none⟩::rest) K φ st=uL P (φ.eval f) (args.map φ.eval) st (p8 P mt ops rest K φ dst):=rfl
theorem aJG{x y:Operand}{ts:Array TypeId}:bF P mt ops (⟨dst,.call { callee:=.builtin .max,args:=#[x,y],argTypes:=ts },type,pos,after,none⟩::rest) K φ st=k0 P mt ops rest K φ dst st (AA (φ.eval x) (φ.eval y)):=nQ rfl fun _=>rfl
theorem aJI{x y:Operand}{ts:Array TypeId}:bF P mt ops (⟨dst,.call { callee:=.builtin .min,args:=#[x,y],argTypes:=ts },type,pos,after,none⟩::rest) K φ st=k0 P mt ops rest K φ dst st (AB (φ.eval x) (φ.eval y)):=nQ rfl fun _=>rfl
theorem aFC{s x:Operand}{t t':TypeId}:bF P mt ops (⟨dst,.call { callee:=.builtin .append,args:=#[s,x],argTypes:=#[t,t'] },type,pos,after,none⟩::rest) K φ st=(if t=t' then jT P t st (φ.eval s) (φ.eval x) (p8 P mt ops rest K φ dst) else uE P t t' st (φ.eval s) (φ.eval x) (p8 P mt ops rest K φ dst)):=rfl
theorem aG8{x:Operand}{t:TypeId}:bF P mt ops (⟨dst,.call { callee:=.builtin .clear,args:=#[x],argTypes:=#[t] },type,pos,after,none⟩::rest) K φ st=xQ P t st (φ.eval x) (p8 P mt ops rest K φ dst):=rfl
theorem aHB{m k:Operand}{t t':TypeId}:bF P mt ops (⟨dst,.call { callee:=.builtin .delete,args:=#[m,k],argTypes:=#[t,t'] },type,pos,after,none⟩::rest) K φ st=CC P t st (φ.eval m) (φ.eval k) (p8 P mt ops rest K φ dst):=rfl
theorem aGB{t:TypeId}{x:Operand}:bF P mt ops (⟨dst,.box t x,type,pos,after,none⟩::rest) K φ st=AE P (ED mt dst) t (φ.eval x) st (p8 P mt ops rest K φ dst) (k0 P mt ops rest K φ dst st):=by
 simp only[bF,j8,fM,AE,p8]
 split
 · rfl
 · cases zL P t (φ.eval x)<;>rfl
theorem aE9{t:TypeId}:bF P mt ops (⟨dst,.alloc t,type,pos,after,none⟩::rest) K φ st=MD (zI P t) st (p8 P mt ops rest K φ dst):=rfl
theorem aL6{t:TypeId}{p x:Operand}:bF P mt ops (⟨dst,.store t p x,type,pos,after,none⟩::rest) K φ st=PD P t (φ.eval p) (φ.eval x) st (p8 P mt ops rest K φ dst):=rfl
theorem aJD{t:TypeId}:bF P mt ops (⟨dst,.makeMap t none,type,pos,after,none⟩::rest) K φ st=∀b,st b=none→p8 P mt ops rest K φ dst (.map b) (st.aC b (.map fun _=>none)):=rfl
theorem aJE{t:TypeId}{n c:Operand}:bF P mt ops (⟨dst,.makeSlice t n c,type,pos,after,none⟩::rest) K φ st=z8 P t st (φ.eval n) (φ.eval c) (p8 P mt ops rest K φ dst):=rfl
theorem aJF{t:TypeId}{m k x:Operand}:bF P mt ops (⟨dst,.mapUpdate t m k x,type,pos,after,none⟩::rest) K φ st=uF P t st (φ.eval m) (φ.eval k) (φ.eval x) (p8 P mt ops rest K φ dst):=rfl
theorem aMS{t:Tmp}:φ.eval (.tmp t)=φ t:=rfl
theorem aGI{k:IntKind}{n:Int}:φ.eval (.const (.int k n))=.int k n:=rfl
theorem aGG{b:Bool}:φ.eval (.const (.bool b))=.bool b:=rfl
theorem aGK:φ.eval (.const (.slice none 0 0))=.fslice []:=rfl
theorem aGL:φ.eval (.const (.pointer none))=.nilptr:=rfl
theorem aGJ:φ.eval (.const (.map none))=.nilmap:=rfl
theorem aGH{g:FuncId}:φ.eval (.func g)=.func g []:=rfl
theorem aGM{l:List UInt8}:φ.eval (.const (.string ⟨l.toArray⟩))=if l.length≤9223372036854775807 then .str ⟨l.toArray⟩ else .junk:=by
 simp [AF.eval,ofConst,ByteArray.size,maxLen]
theorem aMV{d e:Nat}{v:AV}:(φ.aC d v) e=if e=d then v else φ e:=rfl
theorem aKB{d:Nat}{v:AV}:φ.put (some d) v=φ.aC d v:=rfl
theorem aKC{v:AV}:φ.put none v=φ:=rfl
theorem aFE{i:Nat}:sY i []=AF.bot:=rfl
theorem aFD{i:Nat}{a:AV}{as:List AV}:sY i (a::as)=(sY (i+1) as).aC i a:=rfl
theorem aEK{P:Program}{t:TypeId}{k:IntKind}{a b:Int}:eJ P .add t (.int k a) (.int k b)=some (.int k (k.wrap (a+b))):=by simp [eJ,lR]
theorem aMB{P:Program}{t:TypeId}{k:IntKind}{a b:Int}:eJ P .sub t (.int k a) (.int k b)=some (.int k (k.wrap (a - b))):=by simp [eJ,lR]
theorem aJL{P:Program}{t:TypeId}{k:IntKind}{a b:Int}:eJ P .mul t (.int k a) (.int k b)=some (.int k (k.wrap (a*b))):=by simp [eJ,lR]
theorem aKD{P:Program}{t:TypeId}{k:IntKind}{a b:Int}:eJ P .quo t (.int k a) (.int k b)=if b=0 then none else some (.int k (k.wrap (a.tdiv b))):=by simp [eJ,lR]
theorem aKH{P:Program}{t:TypeId}{k:IntKind}{a b:Int}:eJ P .rem t (.int k a) (.int k b)=if b=0 then none else some (.int k (a.tmod b)):=by simp [eJ,lR]
theorem aHE{P:Program}{t:TypeId}{k:IntKind}{a b:Int}:eJ P .eql t (.int k a) (.int k b)=some (.bool (decide (a=b))):=by simp [eJ,lR]
theorem aJN{P:Program}{t:TypeId}{k:IntKind}{a b:Int}:eJ P .neq t (.int k a) (.int k b)=some (.bool (!decide (a=b))):=by simp [eJ,lR]
theorem aJB{P:Program}{t:TypeId}{k:IntKind}{a b:Int}:eJ P .lss t (.int k a) (.int k b)=some (.bool (decide (a<b))):=by simp [eJ,lR]
theorem aI4{P:Program}{t:TypeId}{k:IntKind}{a b:Int}:eJ P .leq t (.int k a) (.int k b)=some (.bool (decide (a≤b))):=by simp [eJ,lR]
theorem aHQ{P:Program}{t:TypeId}{k:IntKind}{a b:Int}:eJ P .gtr t (.int k a) (.int k b)=some (.bool (decide (b<a))):=by simp [eJ,lR]
theorem aHP{P:Program}{t:TypeId}{k:IntKind}{a b:Int}:eJ P .geq t (.int k a) (.int k b)=some (.bool (decide (b≤a))):=by simp [eJ,lR]
theorem aND{P:Program}{t:TypeId}{k:IntKind}{a b:Int}:eJ P .xor t (.int k a) (.int k b)=some (.int k (ID k a b)):=by simp [eJ,lR]
theorem aFB{P:Program}{t:TypeId}{k:IntKind}{a b:Int}:eJ P .and t (.int k a) (.int k b)=some (.int k (RB k a b)):=by simp [eJ,lR]
theorem aJS{P:Program}{t:TypeId}{k:IntKind}{a b:Int}:eJ P .or t (.int k a) (.int k b)=some (.int k (RH k a b)):=by simp [eJ,lR]
theorem aJH{k:IntKind}{a b:Int}:AA (.int k a) (.int k b)=some (.int k (if a<b then b else a)):=by simp [AA]
theorem aJJ{k:IntKind}{a b:Int}:AB (.int k a) (.int k b)=some (.int k (if b<a then b else a)):=by simp [AB]
theorem aLC{P:Program}{t:TypeId}{a b:ByteArray}:eJ P .eql t (.str a) (.str b)=some (.bool (decide (a=b))):=by simp [eJ,lR]
theorem aLH{P:Program}{t:TypeId}{a b:ByteArray}:eJ P .neq t (.str a) (.str b)=some (.bool (!decide (a=b))):=by simp [eJ,lR]
theorem aKV{P:Program}{t:TypeId}{a b:ByteArray}:eJ P .add t (.str a) (.str b)=if a.size+b.size≤maxLen then some (.str (a++b)) else none:=by simp [eJ,lR]
theorem aLG{P:Program}{t:TypeId}{a b:ByteArray}:eJ P .lss t (.str a) (.str b)=some (.bool (Op.bytesLess a.toList b.toList)):=by simp [eJ,lR]
theorem aLD{P:Program}{t:TypeId}{a b:ByteArray}:eJ P .gtr t (.str a) (.str b)=some (.bool (!(Op.bytesLess a.toList b.toList||decide (a=b)))):=by simp [eJ,lR]
theorem aF4{P:Program}{t:TypeId}{a b:Bool}(h:P.underlying t=some .bool):eJ P .eql t (.bool a) (.bool b)=some (.bool (a == b)):=by simp [eJ,h]
theorem aGA{P:Program}{t:TypeId}{a b:Bool}(h:P.underlying t=some .bool):eJ P .neq t (.bool a) (.bool b)=some (.bool (!(a == b))):=by simp [eJ,h]
theorem aJQ{b:Bool}:IB .not (.bool b)=some (.bool (!b)):=rfl
theorem aJM{k:IntKind}{n:Int}:IB .neg (.int k n)=some (.int k (k.wrap (0 - n))):=rfl
end
end
@[congr] theorem bCF {P:Program} {N:Nat} {mt:List Nat} {c:Code} {Q:Exit→AF→aA→Prop} {φ φ':AF} {st st':aA} (h1:φ=φ') (h2:st=st'):gT P N mt c Q φ st=gT P N mt c Q φ' st':=by rw[h1,h2]
@[congr] theorem bCL {P:Program} {mt:List Nat} {ops:Array Oper} {l:List Oper} {K:AF→aA→Prop} {φ φ':AF} {st st':aA} (h1:φ=φ') (h2:st=st'):bF P mt ops l K φ st=bF P mt ops l K φ' st':=by rw[h1,h2]
@[congr] theorem bCZ {P:Program} {mt:List Nat} {ops:Array Oper} {l:List Oper} {K:AF→aA→Prop} {φ:AF} {st:aA} {dst:Option Tmp} {x x':Option AV} (h1:x=x'):k0 P mt ops l K φ dst st x=k0 P mt ops l K φ dst st x':=by rw[h1]
@[congr] theorem bCY {P:Program} {mt:List Nat} {ops:Array Oper} {o:Oper} {l:List Oper} {K:AF→aA→Prop} {φ:AF} {st:aA} {x x':Option Bool} (h1:x=x'):yY P mt ops o l K φ st x=yY P mt ops o l K φ st x':=by rw[h1]
@[congr] theorem bCX {P:Program} {mt:List Nat} {ops:Array Oper} {l:List Oper} {K:AF→aA→Prop} {φ:AF} {dst:Option Tmp} {r r':AV} {st st':aA} (h1:r=r') (h2:st=st'):p8 P mt ops l K φ dst r st=p8 P mt ops l K φ dst r' st':=by rw[h1,h2]
@[congr] theorem bCG {c c':AV} {k₁ k₂:AF→aA→Prop} {φ:AF} {st:aA} (h1:c=c'):xR c k₁ k₂ φ st=xR c' k₁ k₂ φ st:=by rw[h1]
@[congr] theorem bCB {P:Program} {N:Nat} {c:Code} {Q:Exit→AF→aA→Prop} {φ φ':AF} {st st':aA} (h1:φ=φ') (h2:st=st'):fU P N c Q φ st=fU P N c Q φ' st':=by rw[h1,h2]
@[congr] theorem bCA {P:Program} {g:FuncId} {args args':List AV} {st st':aA} {K:AV→aA→Prop} (h1:args=args') (h2:st=st'):aD P g args st K=aD P g args' st' K:=by rw[h1,h2]
@[congr] theorem bCU {P:Program} {f f':AV} {args args':List AV} {st st':aA} {K:AV→aA→Prop} (h0:f=f') (h1:args=args') (h2:st=st'):uL P f args st K=uL P f' args' st' K:=by rw[h0,h1,h2]
@[congr] theorem bCQ {P:Program} {m m':Bool} {t:TypeId} {x x':AV} {st st':aA} {K:AV→aA→Prop} {k:Option AV→Prop} (h0:m=m') (h1:x=x') (h2:st=st'):AE P m t x st K k=AE P m' t x' st' K k:=by rw[h0,h1,h2]
@[congr] theorem bCP {zs zs':Option (List AV)} {st st':aA} {K:AV→aA→Prop} (h1:zs=zs') (h2:st=st'):MD zs st K=MD zs' st' K:=by rw[h1,h2]
@[congr] theorem bC5 {P:Program} {t:TypeId} {p p' x x':AV} {st st':aA} {K:AV→aA→Prop} (h0:p=p') (h1:x=x') (h2:st=st'):PD P t p x st K=PD P t p' x' st' K:=by rw[h0,h1,h2]
@[congr] theorem bCJ {x x' y y':AV} (h0:x=x') (h1:y=y'):AA x y=AA x' y':=by rw[h0,h1]
@[congr] theorem bCK {x x' y y':AV} (h0:x=x') (h1:y=y'):AB x y=AB x' y':=by rw[h0,h1]
@[congr] theorem bCE {P:Program} {t:TypeId} {x x':AV} {st st':aA} {K:AV→aA→Prop} (h1:x=x') (h2:st=st'):xQ P t st x K=xQ P t st' x' K:=by rw[h1,h2]
@[congr] theorem bCD {P:Program} {t t':TypeId} {s s' x x':AV} {st st':aA} {K:AV→aA→Prop} (h0:s=s') (h1:x=x') (h2:st=st'):uE P t t' st s x K=uE P t t' st' s' x' K:=by rw[h0,h1,h2]
@[congr] theorem bCC {P:Program} {t:TypeId} {s s' x x':AV} {st st':aA} {K:AV→aA→Prop} (h0:s=s') (h1:x=x') (h2:st=st'):jT P t st s x K=jT P t st' s' x' K:=by rw[h0,h1,h2]
@[congr] theorem bCH {P:Program} {t:TypeId} {s s' x x':AV} {st st':aA} {K:AV→aA→Prop} (h0:s=s') (h1:x=x') (h2:st=st'):z8 P t st s x K=z8 P t st' s' x' K:=by rw[h0,h1,h2]
@[congr] theorem bCI {P:Program} {t:TypeId} {m m' s s' x x':AV} {st st':aA} {K:AV→aA→Prop} (h:m=m') (h0:s=s') (h1:x=x') (h2:st=st'):uF P t st m s x K=uF P t st' m' s' x' K:=by rw[h,h0,h1,h2]
theorem aGO{P:Program}{g:FuncId}{dL args:List AV}{st:aA}{K:AV→aA→Prop}:uL P (.func g dL) args st K=aD P g (args++dL) st K:=rfl
theorem aGC{P:Program}{t:TypeId}{x:AV}{st:aA}{K:AV→aA→Prop}{k:Option AV→Prop}:AE P false t x st K k=k (zL P t x):=by simp [AE]
theorem aGD{P:Program}{t:TypeId}{x:AV}{st:aA}{K:AV→aA→Prop}{k:Option AV→Prop}:AE P true t x st K k=(x.cE=false∧∀b,st b=none→K (.ptr b 0) (st.aC b (.cells x.cells))):=by simp [AE]
theorem aFA{zs:List AV}{st:aA}{K:AV→aA→Prop}:MD (some zs) st K=∀b,st b=none→K (.ptr b 0) (st.aC b (.cells zs)):=rfl
theorem aL7{P:Program}{t:TypeId}{b q:Nat}{x:AV}{st:aA}{K:AV→aA→Prop}:PD P t (.ptr b q) x st K=match st b,tI P t with
 | some (.cells cs),some (_,sz)=>x.cells.length=sz∧q+sz≤cs.length∧x.cells.all AV.storable=true∧K .undef (st.aC b (.cells (aK cs q x.cells)))
 | _,_=>False:=rfl
def kL:Op→Bool
 | .alloc _=>true
 | _=>false
def kE:Op→Bool
 | .store _ _ _=>true
 | _=>false
def zK(P:Program)(mt:List Nat)(ops:Array Oper)(rest:List Oper)(K:AF→aA→Prop)(φ:AF)(st:aA):Prop:=gV P mt ops rest K φ st
def zF(P:Program)(mt:List Nat)(ops:Array Oper)(rest:List Oper)(K:AF→aA→Prop)(φ:AF)(d:Nat)(st:aA)(r:AV):Prop:=gV P mt ops rest K (φ.aC d r) st
def yI(x:AV)(K:AV→Prop):Option (List AV)→Option (Bool×Nat)→Prop
 | some zs,some (_,sz)=>zs.length=sz∧x.width=sz∧x.cells.all AV.storable=true∧x.cE=false∧K (.pptr x)
 | _,_=>False
def zM(P:Program)(mt:List Nat)(ops:Array Oper)(o:Oper)(s:Oper)(rest:List Oper)(K:AF→aA→Prop)(φ:AF)(st:aA)(d:Nat)(t:TypeId)(x:AV):Bool→Prop
 | true=>bF P mt ops [o] (zK P mt ops (s::rest) K) φ st
 | false=>yI x (zF P mt ops rest K φ d st) (zI P t) (tI P t)
section
variable {P:Program} {mt:List Nat} {ops:Array Oper} {rest:List Oper} {K:AF→aA→Prop} {φ:AF} {st:aA} {dst FF:Option Tmp} {type xD:TypeId} {pos pos':String} {after wA:Array Edge} {g g':Option (Nat×Bool)} {op op':Op}
theorem NE:zK P mt ops rest K φ st=gV P mt ops rest K φ st:=rfl
theorem aNE{d:Nat}{r:AV}:zF P mt ops rest K φ d st r=gV P mt ops rest K (φ.aC d r) st:=rfl
theorem aEF:gV P mt ops [] K φ st=K φ st:=by rw[gV]
theorem NC(h:kL op=false):gV P mt ops (⟨dst,op,type,pos,after,g⟩::rest) K φ st=bF P mt ops [⟨dst,op,type,pos,after,g⟩] (zK P mt ops rest K) φ st:=by
 rw[gV]
 · rfl
 · intro d t ty ps af t' d' x ty' ps' af' r e1 e2
   cases e1
   cases h
 · intro d t ty ps af e y ty2 ps2 af2 t' d' x ty' ps' af' r e1 e2
   cases e1
   cases h
theorem ND{t:TypeId}{x:AV}{k:AV→Prop}:EU P t x k=yI x k (zI P t) (tI P t):=by
 unfold EU yI
 simp only[s8]
 cases zI P t<;>cases tI P t<;>rfl
theorem aHO{x:AV}{k:AV→Prop}{zs:List AV}{ag:Bool}{sz:Nat}:yI x k (some zs) (some (ag,sz))=(zs.length=sz∧x.width=sz∧x.cells.all AV.storable=true∧x.cE=false∧k (.pptr x)):=rfl
theorem NB{d:Nat}{t:TypeId}{x:Operand}:gV P mt ops (⟨some d,.alloc t,type,pos,after,none⟩::⟨none,.store t (.tmp d) x,xD,pos',wA,none⟩::rest) K φ st =
 zM P mt ops ⟨some d,.alloc t,type,pos,after,none⟩ ⟨none,.store t (.tmp d) x,xD,pos',wA,none⟩ rest K φ st d t (φ.eval x) (mt.contains d||q9 x d):=by
 rw[gV]
 cases h:(mt.contains d||q9 x d) with
 | true=>
  rw[aE (by simp)]
  show _=bF P mt ops _ (fun φ' st'=>zK P mt ops _ K φ' st') φ st
  simp only[NE,NC (K:=K) (rest:=rest) (op:=.store t (.tmp d) x) rfl]
  rfl
 | false=>
  rw[aH ⟨rfl,rfl,rfl⟩,ND]
  try rfl
theorem aNI{o s:Oper}{d:Nat}{t:TypeId}{x:AV}:zM P mt ops o s rest K φ st d t x true=bF P mt ops [o] (zK P mt ops (s::rest) K) φ st:=rfl
theorem aNH{o s:Oper}{d:Nat}{t:TypeId}{x:AV}:zM P mt ops o s rest K φ st d t x false=yI x (zF P mt ops rest K φ d st) (zI P t) (tI P t):=rfl
def LO(P:Program)(mt:List Nat)(ops:Array Oper)(o:Oper)(os:List Oper)(rest:List Oper)(K:AF→aA→Prop)(φ φ':AF)(st:aA)(d:Nat)(t:TypeId)(x:AV):Bool→Prop
 | true=>bF P mt ops [o] (zK P mt ops (os++rest) K) φ st
 | false=>yI x (zF P mt ops rest K φ' d st) (zI P t) (tI P t)
theorem aNF{o:Oper}{os:List Oper}{φ':AF}{d:Nat}{t:TypeId}{x:AV}:LO P mt ops o os rest K φ φ' st d t x false=yI x (zF P mt ops rest K φ' d st) (zI P t) (tI P t):=rfl
theorem aNG{o:Oper}{os:List Oper}{φ':AF}{d:Nat}{t:TypeId}{x:AV}:LO P mt ops o os rest K φ φ' st d t x true=bF P mt ops [o] (zK P mt ops (os++rest) K) φ st:=rfl
theorem a1P{d e:Nat}{t:TypeId}{x y:Operand}{type2:TypeId}{y7:String}{IF:Array Edge}:gV P mt ops (⟨some d,.alloc t,type,pos,after,none⟩::⟨some e,.assign y,type2,y7,IF,none⟩::⟨none,.store t (.tmp d) x,xD,pos',wA,none⟩::rest) K φ st =
 LO P mt ops ⟨some d,.alloc t,type,pos,after,none⟩ [⟨some e,.assign y,type2,y7,IF,none⟩,⟨none,.store t (.tmp d) x,xD,pos',wA,none⟩] rest K φ (φ.aC e (φ.eval y)) st d t ((φ.aC e (φ.eval y)).eval x) (mt.contains d||q9 x d||q9 y d||d == e):=by
 rw[gV]
 cases h:(mt.contains d||q9 x d||q9 y d||d == e) with
 | true=>
  rw[aE (by simp)]
  show _=bF P mt ops _ (fun φ' st'=>zK P mt ops _ K φ' st') φ st
  simp only[NE,iB,fF,NC (K:=K) (op:=.assign y) rfl]
  rfl
 | false=>
  rw[aH ⟨rfl,rfl,rfl⟩,ND]
  try rfl
def kZ:Op→Bool
 | .assign _=>true
 | _=>false
theorem aEG{t:TypeId}(h:kE op'=false)(h2:kZ op'=false):gV P mt ops (⟨dst,.alloc t,type,pos,after,g⟩::⟨FF,op',xD,pos',wA,g'⟩::rest) K φ st=bF P mt ops [⟨dst,.alloc t,type,pos,after,g⟩] (zK P mt ops (⟨FF,op',xD,pos',wA,g'⟩::rest) K) φ st:=by
 rw[gV]
 · rfl
 · intro d t ty ps af t' d' x ty' ps' af' r e1 e2
   cases e2
   cases h
 · intro d t ty ps af e y ty2 ps2 af2 t' d' x ty' ps' af' r e1 e2
   cases e2
   cases h2
theorem aEH{t:TypeId}:gV P mt ops [⟨dst,.alloc t,type,pos,after,g⟩] K φ st=bF P mt ops [⟨dst,.alloc t,type,pos,after,g⟩] (zK P mt ops [] K) φ st:=by
 rw[gV]
 · rfl
 · intro d t ty ps af t' d' x ty' ps' af' r e1 e2
   cases e2
 · intro d t ty ps af e y ty2 ps2 af2 t' d' x ty' ps' af' r e1 e2
   cases e2
theorem aEI{t:TypeId}{y:Operand}:gV P mt ops [⟨dst,.alloc t,type,pos,after,g⟩,⟨FF,.assign y,xD,pos',wA,g'⟩] K φ st=bF P mt ops [⟨dst,.alloc t,type,pos,after,g⟩] (zK P mt ops [⟨FF,.assign y,xD,pos',wA,g'⟩] K) φ st:=by
 rw[gV]
 · rfl
 · intro d t ty ps af t' d' x ty' ps' af' r e1 e2
   cases e2
 · intro d t ty ps af e y ty2 ps2 af2 t' d' x ty' ps' af' r e1 e2
   cases e2
theorem aEJ{t:TypeId}{y:Operand}{aDC:Option Tmp}{op2:Op}{type2:TypeId}{y7:String}{IF:Array Edge}{g2:Option (Nat×Bool)}(h:kE op2=false):gV P mt ops (⟨dst,.alloc t,type,pos,after,g⟩::⟨FF,.assign y,xD,pos',wA,g'⟩::⟨aDC,op2,type2,y7,IF,g2⟩::rest) K φ st=bF P mt ops [⟨dst,.alloc t,type,pos,after,g⟩] (zK P mt ops (⟨FF,.assign y,xD,pos',wA,g'⟩::⟨aDC,op2,type2,y7,IF,g2⟩::rest) K) φ st:=by
 rw[gV]
 · rfl
 · intro d t ty ps af t' d' x ty' ps' af' r e1 e2
   cases e2
 · intro d t ty ps af e y ty2 ps2 af2 t' d' x ty' ps' af' r e1 e2
   cases e2
   cases h
theorem aIW{d e:Nat}:q9 (.tmp e) d=(e == d):=rfl
theorem aIV{v:Value}{d:Nat}:q9 (.const v) d=false:=rfl
theorem aE3{x:Operand}:kL (.move x)=false:=rfl
theorem aL1{x:Operand}:kE (.move x)=false:=rfl
theorem aEL{x:Operand}:kL (.assign x)=false:=rfl
theorem aLJ{x:Operand}:kE (.assign x)=false:=rfl
theorem aE5{c x y:Operand}:kL (.pick c x y)=false:=rfl
theorem aL3{c x y:Operand}:kE (.pick c x y)=false:=rfl
theorem aEM{op:BinOp}{t:TypeId}{x y:Operand}{t':TypeId}:kL (.binOp op t x y t')=false:=rfl
theorem aLK{op:BinOp}{t:TypeId}{x y:Operand}{t':TypeId}:kE (.binOp op t x y t')=false:=rfl
theorem aE8{op:UnOp}{t:TypeId}{x:Operand}:kL (.unOp op t x)=false:=rfl
theorem aL5{op:UnOp}{t:TypeId}{x:Operand}:kE (.unOp op t x)=false:=rfl
theorem aE4{x:Operand}:kL (.nilCheck x)=false:=rfl
theorem aL2{x:Operand}:kE (.nilCheck x)=false:=rfl
theorem aEU{t f:Nat}{x:Operand}:kL (.fieldAddr t x f)=false:=rfl
theorem aLS{t f:Nat}{x:Operand}:kE (.fieldAddr t x f)=false:=rfl
theorem aEX{t:TypeId}{x:Operand}:kL (.load t x)=false:=rfl
theorem aLV{t:TypeId}{x:Operand}:kE (.load t x)=false:=rfl
theorem aE7{t:TypeId}{p x:Operand}:kL (.store t p x)=false:=rfl
theorem aET{t f:Nat}{x:Operand}:kL (.field t x f)=false:=rfl
theorem aLR{t f:Nat}{x:Operand}:kE (.field t x f)=false:=rfl
theorem aEW{t:TypeId}{x i:Operand}:kL (.indexAddr t x i)=false:=rfl
theorem aLU{t:TypeId}{x i:Operand}:kE (.indexAddr t x i)=false:=rfl
theorem aEV{t:TypeId}{x i:Operand}:kL (.index t x i)=false:=rfl
theorem aLT{t:TypeId}{x i:Operand}:kE (.index t x i)=false:=rfl
theorem aE6{t:TypeId}{x:Operand}{lo hi mx:Option Operand}:kL (.slice t x lo hi mx)=false:=rfl
theorem aL4{t:TypeId}{x:Operand}{lo hi mx:Option Operand}:kE (.slice t x lo hi mx)=false:=rfl
theorem aES{x:Operand}{i:Nat}:kL (.extract x i)=false:=rfl
theorem aLQ{x:Operand}{i:Nat}:kE (.extract x i)=false:=rfl
theorem aEO{t:TypeId}{ps:Array (Nat×Operand)}:kL (.build t ps)=false:=rfl
theorem aLM{t:TypeId}{ps:Array (Nat×Operand)}:kE (.build t ps)=false:=rfl
theorem aEP{t:TypeId}{n:Nat}{ps:Array (Nat×Operand)}:kL (.buildSlice t n ps)=false:=rfl
theorem aLN{t:TypeId}{n:Nat}{ps:Array (Nat×Operand)}:kE (.buildSlice t n ps)=false:=rfl
theorem aER{t u:TypeId}{x:Operand}:kL (.convert t u x)=false:=rfl
theorem aLP{t u:TypeId}{x:Operand}:kE (.convert t u x)=false:=rfl
theorem aEY{t:TypeId}{x i:Operand}{ok:Bool}:kL (.lookup t x i ok)=false:=rfl
theorem aLW{t:TypeId}{x i:Operand}{ok:Bool}:kE (.lookup t x i ok)=false:=rfl
theorem aEQ{c:_}:kL (.call c)=false:=rfl
theorem aLO{c:_}:kE (.call c)=false:=rfl
theorem aEN{t:TypeId}{x:Operand}:kL (.box t x)=false:=rfl
theorem aLL{t:TypeId}{x:Operand}:kE (.box t x)=false:=rfl
theorem aE0{t:_}{x:_}:kL (.makeMap t x)=false:=rfl
theorem aLY{t:_}{x:_}:kE (.makeMap t x)=false:=rfl
theorem aE1{t:TypeId}{n c:Operand}:kL (.makeSlice t n c)=false:=rfl
theorem aLZ{t:TypeId}{n c:Operand}:kE (.makeSlice t n c)=false:=rfl
theorem aE2{t:TypeId}{m k x:Operand}:kL (.mapUpdate t m k x)=false:=rfl
theorem aL0{t:TypeId}{m k x:Operand}:kE (.mapUpdate t m k x)=false:=rfl
theorem aEZ{f:_}{a:_}{b:_}:kL (.makeFunc f a b)=false:=rfl
theorem aLX{f:_}{a:_}{b:_}:kE (.makeFunc f a b)=false:=rfl
theorem aLI{t:TypeId}:kE (.alloc t)=false:=rfl
theorem aFX{x:Operand}:kZ (.move x)=false:=rfl
theorem aFZ{c x y:Operand}:kZ (.pick c x y)=false:=rfl
theorem aFG{op:BinOp}{t:TypeId}{x y:Operand}{t':TypeId}:kZ (.binOp op t x y t')=false:=rfl
theorem aF1{op:UnOp}{t:TypeId}{x:Operand}:kZ (.unOp op t x)=false:=rfl
theorem aFY{x:Operand}:kZ (.nilCheck x)=false:=rfl
theorem aFO{t f:Nat}{x:Operand}:kZ (.fieldAddr t x f)=false:=rfl
theorem aFR{t:TypeId}{x:Operand}:kZ (.load t x)=false:=rfl
theorem aFN{t f:Nat}{x:Operand}:kZ (.field t x f)=false:=rfl
theorem aFQ{t:TypeId}{x i:Operand}:kZ (.indexAddr t x i)=false:=rfl
theorem aFP{t:TypeId}{x i:Operand}:kZ (.index t x i)=false:=rfl
theorem aF0{t:TypeId}{x:Operand}{lo hi mx:Option Operand}:kZ (.slice t x lo hi mx)=false:=rfl
theorem aFM{x:Operand}{i:Nat}:kZ (.extract x i)=false:=rfl
theorem aFI{t:TypeId}{ps:Array (Nat×Operand)}:kZ (.build t ps)=false:=rfl
theorem aFJ{t:TypeId}{n:Nat}{ps:Array (Nat×Operand)}:kZ (.buildSlice t n ps)=false:=rfl
theorem aFL{t u:TypeId}{x:Operand}:kZ (.convert t u x)=false:=rfl
theorem aFS{t:TypeId}{x i:Operand}{ok:Bool}:kZ (.lookup t x i ok)=false:=rfl
theorem aFK{c:_}:kZ (.call c)=false:=rfl
theorem aFH{t:TypeId}{x:Operand}:kZ (.box t x)=false:=rfl
theorem aFU{t:_}{x:_}:kZ (.makeMap t x)=false:=rfl
theorem aFV{t:TypeId}{n c:Operand}:kZ (.makeSlice t n c)=false:=rfl
theorem aFW{t:TypeId}{m k x:Operand}:kZ (.mapUpdate t m k x)=false:=rfl
theorem aFT{f:_}{a:_}{b:_}:kZ (.makeFunc f a b)=false:=rfl
theorem aFF{t:TypeId}:kZ (.alloc t)=false:=rfl
@[congr] theorem bC7 {o:Oper} {os:List Oper} {φ' φ2 φ2':AF} {st':aA} {d:Nat} {t:TypeId} {x x':AV} {b b':Bool} (h1:φ=φ') (h0:φ2=φ2') (h2:st=st') (h3:x=x') (h4:b=b'):LO P mt ops o os rest K φ φ2 st d t x b=LO P mt ops o os rest K φ' φ2' st' d t x' b':=by rw[h1,h0,h2,h3,h4]
@[congr] theorem bCV {x x':AV} {k:AV→Prop} {a a':Option (List AV)} {b b':Option (Bool×Nat)} (h0:x=x') (h1:a=a') (h2:b=b'):yI x k a b=yI x' k a' b':=by rw[h0,h1,h2]
@[congr] theorem bC6 {o s:Oper} {φ':AF} {st':aA} {d:Nat} {t:TypeId} {x x':AV} {b b':Bool} (h1:φ=φ') (h2:st=st') (h3:x=x') (h4:b=b'):zM P mt ops o s rest K φ st d t x b=zM P mt ops o s rest K φ' st' d t x' b':=by rw[h1,h2,h3,h4]
@[congr] theorem bC3 {l:List Oper} {Q:Exit→AF→aA→Prop} {φ':AF} {st':aA} {b b':Bool} (h1:φ=φ') (h2:st=st') (h3:b=b'):KN P mt l Q φ st b=KN P mt l Q φ' st' b':=by rw[h1,h2,h3]
end
end Go.AW
