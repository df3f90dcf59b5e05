/- The rules by which the code is evaluated: equations for simp. -/
import Derived.Test.YtkkihpokegenbaaGreatDoorVac
set_option linter.unusedSimpArgs false
set_option linter.unusedVariables false
set_option maxRecDepth 100000
namespace Go.AW
section
variable {P:Program} {N:Nat} {mt:List Nat} {Q:Exit→AF→aA→Prop} {φ:AF} {st:aA} {x y:Code} {ops:Array Oper} {id:Nat}
theorem aDD:eW P N mt .skip Q φ st=Q .normal φ st:=rfl
theorem aC8:eW P N mt (.seq x y) Q φ st=eW P N mt x (DJ (eW P N mt y Q) Q) φ st:=rfl
def F4(P:Program)(mt:List Nat)(l:List Oper)(Q:Exit→AF→aA→Prop)(φ:AF)(st:aA):Bool→Prop
 | true=>eX P mt l.toArray l (Q .normal) φ st
 | false=>aW P mt l.toArray l (Q .normal) φ st
theorem aCD{l:List Oper}:eW P N mt (.region id l.toArray false) Q φ st=F4 P mt l Q φ st (mt.contains 1000000):=by
 simp only[eW,iF,dA]
 cases mt.contains 1000000<;>rfl
theorem aCC{l:List Oper}:F4 P mt l Q φ st true=eX P mt l.toArray l (Q .normal) φ st:=rfl
theorem aCB{l:List Oper}:F4 P mt l Q φ st false=aW P mt l.toArray l (Q .normal) φ st:=rfl
theorem Y9:eW P N mt (.region id ops true) Q φ st=eG P N (.region id ops true) Q φ st:=by simp [eW]
theorem Y6{c:Operand}:eW P N mt (.cond c x y) Q φ st=uL (φ.eval c) (eW P N mt x Q) (eW P N mt y Q) φ st:=rfl
theorem X1:eW P N mt (.block id x) Q φ st=eW P N mt x (BE id Q) φ st:=rfl
theorem aA4:eW P N mt (.loop x) Q φ st=eG P N (.loop x) Q φ st:=rfl
theorem ZC:eW P N mt (.exit id) Q φ st=Q (.exit id) φ st:=rfl
theorem aCF:eW P N mt .ret Q φ st=Q .ret φ st:=rfl
theorem aES{k₁ k₂:AF→aA→Prop}:uL (.bool true) k₁ k₂ φ st=k₁ φ st:=by simp [uL]
theorem ZE{k₁ k₂:AF→aA→Prop}:uL (.bool false) k₁ k₂ φ st=k₂ φ st:=by simp [uL]
theorem aEC{k:AF→aA→Prop}:DJ k Q .normal φ st=k φ st:=rfl
theorem aEB{k:AF→aA→Prop}:DJ k Q (.exit id) φ st=Q (.exit id) φ st:=rfl
theorem aED{k:AF→aA→Prop}:DJ k Q .ret φ st=Q .ret φ st:=rfl
theorem X3:BE id Q .normal φ st=Q .normal φ st:=rfl
theorem X2{i:Nat}:BE id Q (.exit i) φ st=if i=id then Q .normal φ st else Q (.exit i) φ st:=rfl
theorem X4:BE id Q .ret φ st=Q .ret φ st:=rfl
theorem aA6{k:AF→aA→Prop}:oA k Q .normal φ st=k φ st:=rfl
theorem aA5{k:AF→aA→Prop}:oA k Q (.exit id) φ st=Q (.exit id) φ st:=rfl
theorem aA7{k:AF→aA→Prop}:oA k Q .ret φ st=Q .ret φ st:=rfl
def mR(P:Program)(rs:List ResultVar)(K:AV→aA→Prop)(φ:AF)(st:aA):Prop:=
 match nT P φ st rs with
 | some xs=>DO K st xs
 | none=>False
theorem aCR{rs:Array ResultVar}{K:AV→aA→Prop}:CU P rs K .ret φ st=mR P rs.toList K φ st:=rfl
theorem aCQ{rs:Array ResultVar}{K:AV→aA→Prop}:CU P rs K .normal φ st=mR P rs.toList K φ st:=rfl
theorem aCH{t:Tmp}{K:AV→aA→Prop}:mR P [.tmp t] K φ st=K (φ t) st:=rfl
theorem aCG{K:AV→aA→Prop}:mR P [] K φ st=K (.tup []) st:=by simp [mR,nT,DO,kY]
theorem aCI{t u:Tmp}{K:AV→aA→Prop}:mR P [.tmp t,.tmp u] K φ st=(kY [φ t,φ u]=true∧K (.tup [φ t,φ u]) st):=rfl
theorem aCJ{t u v:Tmp}{K:AV→aA→Prop}:mR P [.tmp t,.tmp u,.tmp v] K φ st=(kY [φ t,φ u,φ v]=true∧K (.tup [φ t,φ u,φ v]) st):=rfl
theorem aCK{t u v w:Tmp}{K:AV→aA→Prop}:mR P [.tmp t,.tmp u,.tmp v,.tmp w] K φ st=(kY [φ t,φ u,φ v,φ w]=true∧K (.tup [φ t,φ u,φ v,φ w]) st):=rfl
def JR(k:AV→Prop):Option AV→Prop
 | some r=>k r
 | none=>False
theorem aCL{p:Tmp}{t:TypeId}{K:AV→aA→Prop}:mR P [.cell p t] K φ st=JR (fun r=>K r st) (f0 P st t (φ p)):=by
 simp only[mR,nT,A0]
 cases f0 P st t (φ p)<;>rfl
theorem aCM{p u:Tmp}{t:TypeId}{K:AV→aA→Prop}:mR P [.cell p t,.tmp u] K φ st=JR (fun r=>kY [r,φ u]=true∧K (.tup [r,φ u]) st) (f0 P st t (φ p)):=by
 simp only[mR,nT,A0]
 cases f0 P st t (φ p)<;>rfl
theorem aCP{u p:Tmp}{t:TypeId}{K:AV→aA→Prop}:mR P [.tmp u,.cell p t] K φ st=JR (fun r=>kY [φ u,r]=true∧K (.tup [φ u,r]) st) (f0 P st t (φ p)):=by
 simp only[mR,nT,A0]
 cases f0 P st t (φ p)<;>rfl
theorem aBO{k:AV→Prop}{r:AV}:JR k (some r)=k r:=rfl
def iP(P:Program)(mt:List Nat)(ops:Array Oper)(rest:List Oper)(K:AF→aA→Prop)(φ:AF)(dst:Option Tmp)(st:aA):Option AV→Prop
 | some r=>aW P mt ops rest K (φ.put dst r) st
 | none=>False
def nE(P:Program)(mt:List Nat)(ops:Array Oper)(rest:List Oper)(K:AF→aA→Prop)(φ:AF)(dst:Option Tmp)(r:AV)(st:aA):Prop:=aW P mt ops rest K (φ.put dst r) st
def vP(P:Program)(mt:List Nat)(ops:Array Oper)(o:Oper)(rest:List Oper)(K:AF→aA→Prop)(φ:AF)(st:aA):Option Bool→Prop
 | some true=>aW P mt ops ({ o with guard:=none }::rest) K φ st
 | some false=>aW P mt ops rest K (φ.put o.dst .undef) st
 | none=>False
def gd(ops:Array Oper)(φ:AF)(j:Nat)(want:Bool):Option Bool:=
 match (ops[j]?).bind (·.dst) with
 | none=>some false
 | some d=>match φ d with
  | .bool b=>some (b == want)
  | .undef=>some false
  | _=>none
section
variable {rest:List Oper} {K:AF→aA→Prop} {dst:Option Tmp} {type:TypeId} {pos:String} {after:Array Edge}
theorem aBL:aW P mt ops [] K φ st=K φ st:=rfl
theorem ZO{op:Op}{j:Nat}{want:Bool}:aW P mt ops (⟨dst,op,type,pos,after,some (j,want)⟩::rest) K φ st=vP P mt ops ⟨dst,op,type,pos,after,some (j,want)⟩ rest K φ st (gd ops φ j want):=by
 simp only[aW]
 have h1:gX ops φ ⟨dst,op,type,pos,after,some (j,want)⟩=gd ops φ j want:=rfl
 rw[h1]
 cases gd ops φ j want with
 | none=>rfl
 | some b=>cases b<;>simp [vP,aW,gX,eE,kN]
theorem VB{r:AV}:nE P mt ops rest K φ dst r st=aW P mt ops rest K (φ.put dst r) st:=rfl
theorem V7{r:AV}:iP P mt ops rest K φ dst st (some r)=aW P mt ops rest K (φ.put dst r) st:=rfl
theorem VF{op:Op}{g:Option (Nat×Bool)}:vP P mt ops ⟨dst,op,type,pos,after,g⟩ rest K φ st (some true)=aW P mt ops (⟨dst,op,type,pos,after,none⟩::rest) K φ st:=rfl
theorem VD{op:Op}{g:Option (Nat×Bool)}:vP P mt ops ⟨dst,op,type,pos,after,g⟩ rest K φ st (some false)=aW P mt ops rest K (φ.put dst .undef) st:=rfl
theorem kV{o:Oper}(hg:o.guard=none)(e:∀K',eE P mt φ st o K'=match kN P φ st o with | some r=>K' r st | none=>False):aW P mt ops (o::rest) K φ st=iP P mt ops rest K φ o.dst st (kN P φ st o):=by
 simp only[aW,gX,hg,e]
 cases kN P φ st o<;>rfl
def G1:AV→AV→AV→Option AV
 | .bool b,x,y=>some (if b then x else y)
 | _,_,_=>none
def z7:AV→Option AV
 | .ptr b q=>some (.ptr b q)
 | .pptr e=>some (.pptr e)
 | _=>none
def G3(P:Program)(t f:Nat)(x:AV):Option AV:=match fI P t f,x with | some (off,ag,sz),.agg cs=>sub ag cs off sz | _,_=>none
def z6(x:AV)(i:Nat):Option AV:=match x with | .tup vs=>vs[i]? | _=>none
def HK(g:FuncId)(cs:List AV):Option AV:=if kY cs=true then some (.func g cs) else none
def rV(P:Program)(f:AV)(args:List AV)(st:aA)(K:AV→aA→Prop):Prop:=match f with | .func g dB=>aD P g (args++dB) st K | _=>False
def wE(P:Program)(m:Bool)(t:TypeId)(x:AV)(st:aA)(K:AV→aA→Prop)(k:Option AV→Prop):Prop:=
 if m=true then x.bR=false∧∀b,st b=none→K (.ptr b 0) (st.aC b (.cells x.cells)) else k (v3 P t x)
def HP(zs:Option (List AV))(st:aA)(K:AV→aA→Prop):Prop:=match zs with | some zs=>∀b,st b=none→K (.ptr b 0) (st.aC b (.cells zs)) | none=>False
def J6(P:Program)(t:TypeId)(p x:AV)(st:aA)(K:AV→aA→Prop):Prop:=
 match p with
 | .ptr b q=>match st b,tI P t with
  | some (.cells cs),some (_,sz)=>x.cells.length=sz∧q+sz≤cs.length∧x.cells.all AV.storable=true∧K .undef (st.aC b (.cells (aG cs q x.cells)))
  | _,_=>False
 | _=>False
theorem aBH{x:Operand}:aW P mt ops (⟨dst,.move x,type,pos,after,none⟩::rest) K φ st=aW P mt ops rest K (φ.put dst (φ.eval x)) st:=rfl
theorem XX{x:Operand}:aW P mt ops (⟨dst,.assign x,type,pos,after,none⟩::rest) K φ st=aW P mt ops rest K (φ.put dst (φ.eval x)) st:=rfl
theorem aBQ{c x y:Operand}:aW P mt ops (⟨dst,.pick c x y,type,pos,after,none⟩::rest) K φ st=iP P mt ops rest K φ dst st (G1 (φ.eval c) (φ.eval x) (φ.eval y)):=by
 rw[kV rfl fun _=>rfl]
 simp only[kN]
 cases φ.eval c<;>rfl
theorem X0{op:BinOp}{t t':TypeId}{x y:Operand}:aW P mt ops (⟨dst,.binOp op t x y t',type,pos,after,none⟩::rest) K φ st=iP P mt ops rest K φ dst st (dJ P op t (φ.eval x) (φ.eval y)):=kV rfl fun _=>rfl
theorem aET{op:UnOp}{t:TypeId}{x:Operand}:aW P mt ops (⟨dst,.unOp op t x,type,pos,after,none⟩::rest) K φ st=iP P mt ops rest K φ dst st (EL op (φ.eval x)):=kV rfl fun _=>rfl
theorem aBM{x:Operand}:aW P mt ops (⟨dst,.nilCheck x,type,pos,after,none⟩::rest) K φ st=iP P mt ops rest K φ dst st (z7 (φ.eval x)):=by
 rw[kV rfl fun _=>rfl]
 try rfl
theorem ZG{t f:Nat}{x:Operand}:aW P mt ops (⟨dst,.fieldAddr t x f,type,pos,after,none⟩::rest) K φ st=iP P mt ops rest K φ dst st (sM P t f (φ.eval x)):=kV rfl fun _=>rfl
theorem aA2{t:TypeId}{x:Operand}:aW P mt ops (⟨dst,.load t x,type,pos,after,none⟩::rest) K φ st=iP P mt ops rest K φ dst st (f0 P st t (φ.eval x)):=kV rfl fun _=>rfl
theorem ZF{t f:Nat}{x:Operand}:aW P mt ops (⟨dst,.field t x f,type,pos,after,none⟩::rest) K φ st=iP P mt ops rest K φ dst st (G3 P t f (φ.eval x)):=by
 rw[kV rfl fun _=>rfl]
 try rfl
theorem aAR{t:TypeId}{x i:Operand}:aW P mt ops (⟨dst,.indexAddr t x i,type,pos,after,none⟩::rest) K φ st=iP P mt ops rest K φ dst st (dT P t (φ.eval x) (φ.eval i)):=kV rfl fun _=>rfl
theorem aAQ{t:TypeId}{x i:Operand}:aW P mt ops (⟨dst,.index t x i,type,pos,after,none⟩::rest) K φ st=iP P mt ops rest K φ dst st (AT P t (φ.eval x) (φ.eval i)):=kV rfl fun _=>rfl
theorem aDE{t:TypeId}{x:Operand}{lo hi mx:Option Operand}:aW P mt ops (⟨dst,.slice t x lo hi mx,type,pos,after,none⟩::rest) K φ st=iP P mt ops rest K φ dst st (gJ P φ t (φ.eval x) lo hi mx):=kV rfl fun _=>rfl
theorem ZD{x:Operand}{i:Nat}:aW P mt ops (⟨dst,.extract x i,type,pos,after,none⟩::rest) K φ st=iP P mt ops rest K φ dst st (z6 (φ.eval x) i):=by
 rw[kV rfl fun _=>rfl]
 try rfl
theorem aA9{g:FuncId}{dB:Array Operand}:aW P mt ops (⟨dst,.makeFunc (.func g) #[] dB,type,pos,after,none⟩::rest) K φ st=iP P mt ops rest K φ dst st (HK g (dB.toList.map φ.eval)):=by
 rw[kV rfl fun _=>rfl]
 congr 1
 simp [kN,HK]
theorem X9{t:TypeId}{ps:Array (Nat×Operand)}:aW P mt ops (⟨dst,.build t ps,type,pos,after,none⟩::rest) K φ st=iP P mt ops rest K φ dst st (xR P φ t ps):=kV rfl fun _=>rfl
theorem YA{t:TypeId}{n:Nat}{ps:Array (Nat×Operand)}:aW P mt ops (⟨dst,.buildSlice t n ps,type,pos,after,none⟩::rest) K φ st=iP P mt ops rest K φ dst st (z0 P φ t n ps):=kV rfl fun _=>rfl
theorem Y7{t u:TypeId}{x:Operand}:aW P mt ops (⟨dst,.convert t u x,type,pos,after,none⟩::rest) K φ st=iP P mt ops rest K φ dst st (lM P t u (φ.eval x)):=kV rfl fun _=>rfl
theorem aA3{t:TypeId}{x i:Operand}{ok:Bool}:aW P mt ops (⟨dst,.lookup t x i ok,type,pos,after,none⟩::rest) K φ st=iP P mt ops rest K φ dst st (sS P st t ok (φ.eval x) (φ.eval i)):=kV rfl fun _=>rfl
theorem aAW{x:Operand}{t:TypeId}:aW P mt ops (⟨dst,.call { callee:=.builtin .len,args:=#[x],argTypes:=#[t] },type,pos,after,none⟩::rest) K φ st=iP P mt ops rest K φ dst st (oW P t (φ.eval x)):=kV rfl fun _=>rfl
theorem YK{x:Operand}{t:TypeId}:aW P mt ops (⟨dst,.call { callee:=.builtin .cap,args:=#[x],argTypes:=#[t] },type,pos,after,none⟩::rest) K φ st=iP P mt ops rest K φ dst st (ED P t (φ.eval x)):=kV rfl fun _=>rfl
theorem YI{f:Operand}{args:List Operand}{ats:Array TypeId}:aW P mt ops (⟨dst,.call { callee:=.value f,args:=args.toArray,argTypes:=ats },type,pos,after,none⟩::rest) K φ st=rV P (φ.eval f) (args.map φ.eval) st (nE P mt ops rest K φ dst):=rfl
theorem aBD{x y:Operand}{ts:Array TypeId}:aW P mt ops (⟨dst,.call { callee:=.builtin .max,args:=#[x,y],argTypes:=ts },type,pos,after,none⟩::rest) K φ st=iP P mt ops rest K φ dst st (AU (φ.eval x) (φ.eval y)):=kV rfl fun _=>rfl
theorem aBF{x y:Operand}{ts:Array TypeId}:aW P mt ops (⟨dst,.call { callee:=.builtin .min,args:=#[x,y],argTypes:=ts },type,pos,after,none⟩::rest) K φ st=iP P mt ops rest K φ dst st (AX (φ.eval x) (φ.eval y)):=kV rfl fun _=>rfl
theorem W7{s x:Operand}{t t':TypeId}:aW P mt ops (⟨dst,.call { callee:=.builtin .append,args:=#[s,x],argTypes:=#[t,t'] },type,pos,after,none⟩::rest) K φ st=(if t=t' then iT P t st (φ.eval s) (φ.eval x) (nE P mt ops rest K φ dst) else sR P t t' st (φ.eval s) (φ.eval x) (nE P mt ops rest K φ dst)):=rfl
theorem Y5{x:Operand}{t:TypeId}:aW P mt ops (⟨dst,.call { callee:=.builtin .clear,args:=#[x],argTypes:=#[t] },type,pos,after,none⟩::rest) K φ st=EE P t st (φ.eval x) (nE P mt ops rest K φ dst):=rfl
theorem Y8{m k:Operand}{t t':TypeId}:aW P mt ops (⟨dst,.call { callee:=.builtin .delete,args:=#[m,k],argTypes:=#[t,t'] },type,pos,after,none⟩::rest) K φ st=EF P t st (φ.eval m) (φ.eval k) (nE P mt ops rest K φ dst):=rfl
theorem X6{t:TypeId}{x:Operand}:aW P mt ops (⟨dst,.box t x,type,pos,after,none⟩::rest) K φ st=wE P (z8 mt dst) t (φ.eval x) st (nE P mt ops rest K φ dst) (iP P mt ops rest K φ dst st):=by
 simp only[aW,gX,eE,wE,nE]
 split
 · rfl
 · cases v3 P t (φ.eval x)<;>rfl
theorem W4{t:TypeId}:aW P mt ops (⟨dst,.alloc t,type,pos,after,none⟩::rest) K φ st=HP (zI P t) st (nE P mt ops rest K φ dst):=rfl
theorem aD5{t:TypeId}{p x:Operand}:aW P mt ops (⟨dst,.store t p x,type,pos,after,none⟩::rest) K φ st=J6 P t (φ.eval p) (φ.eval x) st (nE P mt ops rest K φ dst):=rfl
theorem aBA{t:TypeId}:aW P mt ops (⟨dst,.makeMap t none,type,pos,after,none⟩::rest) K φ st=∀b,st b=none→nE P mt ops rest K φ dst (.map b) (st.aC b (.map fun _=>none)):=rfl
theorem aBB{t:TypeId}{n c:Operand}:aW P mt ops (⟨dst,.makeSlice t n c,type,pos,after,none⟩::rest) K φ st=uM P t st (φ.eval n) (φ.eval c) (nE P mt ops rest K φ dst):=rfl
theorem aBC{t:TypeId}{m k x:Operand}:aW P mt ops (⟨dst,.mapUpdate t m k x,type,pos,after,none⟩::rest) K φ st=EG P t st (φ.eval m) (φ.eval k) (φ.eval x) (nE P mt ops rest K φ dst):=rfl
theorem aER{t:Tmp}:φ.eval (.tmp t)=φ t:=rfl
theorem YD{k:IntKind}{n:Int}:φ.eval (.const (.int k n))=.int k n:=rfl
theorem YB{b:Bool}:φ.eval (.const (.bool b))=.bool b:=rfl
theorem YF:φ.eval (.const (.slice none 0 0))=.fslice []:=rfl
theorem YG:φ.eval (.const (.pointer none))=.nilptr:=rfl
theorem YE:φ.eval (.const (.map none))=.nilmap:=rfl
theorem YC{g:FuncId}:φ.eval (.func g)=.func g []:=rfl
theorem YH{l:List UInt8}:φ.eval (.const (.string ⟨l.toArray⟩))=if l.length≤9223372036854775807 then .str ⟨l.toArray⟩ else .junk:=by
 simp [AF.eval,ofConst,ByteArray.size,maxLen]
theorem aEU{d e:Nat}{v:AV}:(φ.aC d v) e=if e=d then v else φ e:=rfl
theorem aB8{d:Nat}{v:AV}:φ.put (some d) v=φ.aC d v:=rfl
theorem aB9{v:AV}:φ.put none v=φ:=rfl
theorem W9{i:Nat}:qI i []=AF.bot:=rfl
theorem W8{i:Nat}{a:AV}{as:List AV}:qI i (a::as)=(qI (i+1) as).aC i a:=rfl
theorem WF{P:Program}{t:TypeId}{k:IntKind}{a b:Int}:dJ P .add t (.int k a) (.int k b)=some (.int k (k.wrap (a+b))):=by simp [dJ,iU]
theorem aEA{P:Program}{t:TypeId}{k:IntKind}{a b:Int}:dJ P .sub t (.int k a) (.int k b)=some (.int k (k.wrap (a - b))):=by simp [dJ,iU]
theorem aBI{P:Program}{t:TypeId}{k:IntKind}{a b:Int}:dJ P .mul t (.int k a) (.int k b)=some (.int k (k.wrap (a*b))):=by simp [dJ,iU]
theorem aCA{P:Program}{t:TypeId}{k:IntKind}{a b:Int}:dJ P .quo t (.int k a) (.int k b)=if b=0 then none else some (.int k (k.wrap (a.tdiv b))):=by simp [dJ,iU]
theorem aCE{P:Program}{t:TypeId}{k:IntKind}{a b:Int}:dJ P .rem t (.int k a) (.int k b)=if b=0 then none else some (.int k (a.tmod b)):=by simp [dJ,iU]
theorem ZB{P:Program}{t:TypeId}{k:IntKind}{a b:Int}:dJ P .eql t (.int k a) (.int k b)=some (.bool (decide (a=b))):=by simp [dJ,iU]
theorem aBK{P:Program}{t:TypeId}{k:IntKind}{a b:Int}:dJ P .neq t (.int k a) (.int k b)=some (.bool (!decide (a=b))):=by simp [dJ,iU]
theorem aA8{P:Program}{t:TypeId}{k:IntKind}{a b:Int}:dJ P .lss t (.int k a) (.int k b)=some (.bool (decide (a<b))):=by simp [dJ,iU]
theorem aA1{P:Program}{t:TypeId}{k:IntKind}{a b:Int}:dJ P .leq t (.int k a) (.int k b)=some (.bool (decide (a≤b))):=by simp [dJ,iU]
theorem ZN{P:Program}{t:TypeId}{k:IntKind}{a b:Int}:dJ P .gtr t (.int k a) (.int k b)=some (.bool (decide (b<a))):=by simp [dJ,iU]
theorem ZM{P:Program}{t:TypeId}{k:IntKind}{a b:Int}:dJ P .geq t (.int k a) (.int k b)=some (.bool (decide (b≤a))):=by simp [dJ,iU]
theorem aFC{P:Program}{t:TypeId}{k:IntKind}{a b:Int}:dJ P .xor t (.int k a) (.int k b)=some (.int k (EM k a b)):=by simp [dJ,iU]
theorem W6{P:Program}{t:TypeId}{k:IntKind}{a b:Int}:dJ P .and t (.int k a) (.int k b)=some (.int k (L4 k a b)):=by simp [dJ,iU]
theorem aBP{P:Program}{t:TypeId}{k:IntKind}{a b:Int}:dJ P .or t (.int k a) (.int k b)=some (.int k (EI k a b)):=by simp [dJ,iU]
theorem aDB{P:Program}{t:TypeId}{a b:Int}:dJ P .shl t (.int .i64 a) (.int .u64 b)=A7 .shl .i64 a b:=by simp [dJ,iU]
theorem aDC{P:Program}{t:TypeId}{a b:Int}:dJ P .shr t (.int .i64 a) (.int .u64 b)=A7 .shr .i64 a b:=by simp [dJ,iU]
theorem aBE{k:IntKind}{a b:Int}:AU (.int k a) (.int k b)=some (.int k (if a<b then b else a)):=by simp [AU]
theorem aBG{k:IntKind}{a b:Int}:AX (.int k a) (.int k b)=some (.int k (if b<a then b else a)):=by simp [AX]
theorem aC9{P:Program}{t:TypeId}{a b:ByteArray}:dJ P .eql t (.str a) (.str b)=some (.bool (decide (a=b))):=by simp [dJ,iU]
theorem aDG{P:Program}{t:TypeId}{a b:ByteArray}:dJ P .neq t (.str a) (.str b)=some (.bool (!decide (a=b))):=by simp [dJ,iU]
theorem aCS{P:Program}{t:TypeId}{a b:ByteArray}:dJ P .add t (.str a) (.str b)=if a.size+b.size≤maxLen then some (.str (a++b)) else none:=by simp [dJ,iU]
theorem aDF{P:Program}{t:TypeId}{a b:ByteArray}:dJ P .lss t (.str a) (.str b)=some (.bool (Op.bytesLess a.toList b.toList)):=by simp [dJ,iU]
theorem aDA{P:Program}{t:TypeId}{a b:ByteArray}:dJ P .gtr t (.str a) (.str b)=some (.bool (!(Op.bytesLess a.toList b.toList||decide (a=b)))):=by simp [dJ,iU]
theorem XZ{P:Program}{t:TypeId}{a b:Bool}(h:P.underlying t=some .bool):dJ P .eql t (.bool a) (.bool b)=some (.bool (a == b)):=by simp [dJ,h]
theorem X5{P:Program}{t:TypeId}{a b:Bool}(h:P.underlying t=some .bool):dJ P .neq t (.bool a) (.bool b)=some (.bool (!(a == b))):=by simp [dJ,h]
theorem aBN{b:Bool}:EL .not (.bool b)=some (.bool (!b)):=rfl
theorem aBJ{k:IntKind}{n:Int}:EL .neg (.int k n)=some (.int k (k.wrap (0 - n))):=rfl
end
end
@[congr] theorem a34 {P:Program} {N:Nat} {mt:List Nat} {c:Code} {Q:Exit→AF→aA→Prop} {φ φ':AF} {st st':aA} (h1:φ=φ') (h2:st=st'):eW P N mt c Q φ st=eW P N mt c Q φ' st':=by rw[h1,h2]
@[congr] theorem a37 {P:Program} {mt:List Nat} {ops:Array Oper} {l:List Oper} {K:AF→aA→Prop} {φ φ':AF} {st st':aA} (h1:φ=φ') (h2:st=st'):aW P mt ops l K φ st=aW P mt ops l K φ' st':=by rw[h1,h2]
@[congr] theorem a4J {P:Program} {mt:List Nat} {ops:Array Oper} {l:List Oper} {K:AF→aA→Prop} {φ:AF} {st:aA} {dst:Option Tmp} {x x':Option AV} (h1:x=x'):iP P mt ops l K φ dst st x=iP P mt ops l K φ dst st x':=by rw[h1]
@[congr] theorem a4I {P:Program} {mt:List Nat} {ops:Array Oper} {o:Oper} {l:List Oper} {K:AF→aA→Prop} {φ:AF} {st:aA} {x x':Option Bool} (h1:x=x'):vP P mt ops o l K φ st x=vP P mt ops o l K φ st x':=by rw[h1]
@[congr] theorem a4H {P:Program} {mt:List Nat} {ops:Array Oper} {l:List Oper} {K:AF→aA→Prop} {φ:AF} {dst:Option Tmp} {r r':AV} {st st':aA} (h1:r=r') (h2:st=st'):nE P mt ops l K φ dst r st=nE P mt ops l K φ dst r' st':=by rw[h1,h2]
@[congr] theorem a35 {c c':AV} {k₁ k₂:AF→aA→Prop} {φ:AF} {st:aA} (h1:c=c'):uL c k₁ k₂ φ st=uL c' k₁ k₂ φ st:=by rw[h1]
@[congr] theorem a31 {P:Program} {N:Nat} {c:Code} {Q:Exit→AF→aA→Prop} {φ φ':AF} {st st':aA} (h1:φ=φ') (h2:st=st'):eG P N c Q φ st=eG P N c Q φ' st':=by rw[h1,h2]
@[congr] theorem a30 {P:Program} {g:FuncId} {args args':List AV} {st st':aA} {K:AV→aA→Prop} (h1:args=args') (h2:st=st'):aD P g args st K=aD P g args' st' K:=by rw[h1,h2]
@[congr] theorem a4F {P:Program} {f f':AV} {args args':List AV} {st st':aA} {K:AV→aA→Prop} (h0:f=f') (h1:args=args') (h2:st=st'):rV P f args st K=rV P f' args' st' K:=by rw[h0,h1,h2]
@[congr] theorem a4C {P:Program} {m m':Bool} {t:TypeId} {x x':AV} {st st':aA} {K:AV→aA→Prop} {k:Option AV→Prop} (h0:m=m') (h1:x=x') (h2:st=st'):wE P m t x st K k=wE P m' t x' st' K k:=by rw[h0,h1,h2]
@[congr] theorem a4B {zs zs':Option (List AV)} {st st':aA} {K:AV→aA→Prop} (h1:zs=zs') (h2:st=st'):HP zs st K=HP zs' st' K:=by rw[h1,h2]
@[congr] theorem a4O {P:Program} {t:TypeId} {p p' x x':AV} {st st':aA} {K:AV→aA→Prop} (h0:p=p') (h1:x=x') (h2:st=st'):J6 P t p x st K=J6 P t p' x' st' K:=by rw[h0,h1,h2]
@[congr] theorem a33 {P:Program} {t t':TypeId} {s s' x x':AV} {st st':aA} {K:AV→aA→Prop} (h0:s=s') (h1:x=x') (h2:st=st'):sR P t t' st s x K=sR P t t' st' s' x' K:=by rw[h0,h1,h2]
@[congr] theorem a32 {P:Program} {t:TypeId} {s s' x x':AV} {st st':aA} {K:AV→aA→Prop} (h0:s=s') (h1:x=x') (h2:st=st'):iT P t st s x K=iT P t st' s' x' K:=by rw[h0,h1,h2]
@[congr] theorem a36 {P:Program} {t:TypeId} {s s' x x':AV} {st st':aA} {K:AV→aA→Prop} (h0:s=s') (h1:x=x') (h2:st=st'):uM P t st s x K=uM P t st' s' x' K:=by rw[h0,h1,h2]
theorem YJ{P:Program}{g:FuncId}{dB args:List AV}{st:aA}{K:AV→aA→Prop}:rV P (.func g dB) args st K=aD P g (args++dB) st K:=rfl
theorem X7{P:Program}{t:TypeId}{x:AV}{st:aA}{K:AV→aA→Prop}{k:Option AV→Prop}:wE P false t x st K k=k (v3 P t x):=by simp [wE]
theorem X8{P:Program}{t:TypeId}{x:AV}{st:aA}{K:AV→aA→Prop}{k:Option AV→Prop}:wE P true t x st K k=(x.bR=false∧∀b,st b=none→K (.ptr b 0) (st.aC b (.cells x.cells))):=by simp [wE]
theorem W5{zs:List AV}{st:aA}{K:AV→aA→Prop}:HP (some zs) st K=∀b,st b=none→K (.ptr b 0) (st.aC b (.cells zs)):=rfl
theorem aD6{P:Program}{t:TypeId}{b q:Nat}{x:AV}{st:aA}{K:AV→aA→Prop}:J6 P t (.ptr b q) x st K=match st b,tI P t with
 | some (.cells cs),some (_,sz)=>x.cells.length=sz∧q+sz≤cs.length∧x.cells.all AV.storable=true∧K .undef (st.aC b (.cells (aG cs q x.cells)))
 | _,_=>False:=rfl
def iN:Op→Bool
 | .alloc _=>true
 | _=>false
def iC:Op→Bool
 | .store _ _ _=>true
 | _=>false
def zK(P:Program)(mt:List Nat)(ops:Array Oper)(rest:List Oper)(K:AF→aA→Prop)(φ:AF)(st:aA):Prop:=eX P mt ops rest K φ st
def zF(P:Program)(mt:List Nat)(ops:Array Oper)(rest:List Oper)(K:AF→aA→Prop)(φ:AF)(d:Nat)(st:aA)(r:AV):Prop:=eX P mt ops rest K (φ.aC d r) st
def vB(x:AV)(K:AV→Prop):Option (List AV)→Option (Bool×Nat)→Prop
 | some zs,some (_,sz)=>zs.length=sz∧x.width=sz∧x.cells.all AV.storable=true∧x.bR=false∧K (.pptr x)
 | _,_=>False
def zM(P:Program)(mt:List Nat)(ops:Array Oper)(o:Oper)(s:Oper)(rest:List Oper)(K:AF→aA→Prop)(φ:AF)(st:aA)(d:Nat)(t:TypeId)(x:AV):Bool→Prop
 | true=>aW P mt ops [o] (zK P mt ops (s::rest) K) φ st
 | false=>vB x (zF P mt ops rest K φ d st) (zI P t) (tI P t)
section
variable {P:Program} {mt:List Nat} {ops:Array Oper} {rest:List Oper} {K:AF→aA→Prop} {φ:AF} {st:aA} {dst BR:Option Tmp} {type t7:TypeId} {pos pos':String} {after sW:Array Edge} {g g':Option (Nat×Bool)} {op op':Op}
theorem IQ:zK P mt ops rest K φ st=eX P mt ops rest K φ st:=rfl
theorem aFD{d:Nat}{r:AV}:zF P mt ops rest K φ d st r=eX P mt ops rest K (φ.aC d r) st:=rfl
theorem WA:eX P mt ops [] K φ st=K φ st:=by rw[eX]
theorem IM(h:iN op=false):eX P mt ops (⟨dst,op,type,pos,after,g⟩::rest) K φ st=aW P mt ops [⟨dst,op,type,pos,after,g⟩] (zK P mt ops rest K) φ st:=by
 rw[eX]
 · rfl
 · intro d t ty ps af t' d' x ty' ps' af' r e1 e2
   cases e1
   cases h
 · intro d t ty ps af e y ty2 ps2 af2 t' d' x ty' ps' af' r e1 e2
   cases e1
   cases h
theorem IN{t:TypeId}{x:AV}{k:AV→Prop}:AS P t x k=vB x k (zI P t) (tI P t):=by
 unfold AS vB
 simp only[BJ]
 cases zI P t<;>cases tI P t<;>rfl
theorem ZL{x:AV}{k:AV→Prop}{zs:List AV}{ag:Bool}{sz:Nat}:vB x k (some zs) (some (ag,sz))=(zs.length=sz∧x.width=sz∧x.cells.all AV.storable=true∧x.bR=false∧k (.pptr x)):=rfl
theorem IL{d:Nat}{t:TypeId}{x:Operand}:eX P mt ops (⟨some d,.alloc t,type,pos,after,none⟩::⟨none,.store t (.tmp d) x,t7,pos',sW,none⟩::rest) K φ st =
 zM P mt ops ⟨some d,.alloc t,type,pos,after,none⟩ ⟨none,.store t (.tmp d) x,t7,pos',sW,none⟩ rest K φ st d t (φ.eval x) (mt.contains d||n7 x d):=by
 rw[eX]
 cases h:(mt.contains d||n7 x d) with
 | true=>
  rw[aK (by simp)]
  show _=aW P mt ops _ (fun φ' st'=>zK P mt ops _ K φ' st') φ st
  simp only[IQ,IM (K:=K) (rest:=rest) (op:=.store t (.tmp d) x) rfl]
  rfl
 | false=>
  rw[aN ⟨rfl,rfl,rfl⟩,IN]
  try rfl
theorem aFH{o s:Oper}{d:Nat}{t:TypeId}{x:AV}:zM P mt ops o s rest K φ st d t x true=aW P mt ops [o] (zK P mt ops (s::rest) K) φ st:=rfl
theorem aFG{o s:Oper}{d:Nat}{t:TypeId}{x:AV}:zM P mt ops o s rest K φ st d t x false=vB x (zF P mt ops rest K φ d st) (zI P t) (tI P t):=rfl
def RB(P:Program)(mt:List Nat)(ops:Array Oper)(o:Oper)(os:List Oper)(rest:List Oper)(K:AF→aA→Prop)(φ φ':AF)(st:aA)(d:Nat)(t:TypeId)(x:AV):Bool→Prop
 | true=>aW P mt ops [o] (zK P mt ops (os++rest) K) φ st
 | false=>vB x (zF P mt ops rest K φ' d st) (zI P t) (tI P t)
theorem aFE{o:Oper}{os:List Oper}{φ':AF}{d:Nat}{t:TypeId}{x:AV}:RB P mt ops o os rest K φ φ' st d t x false=vB x (zF P mt ops rest K φ' d st) (zI P t) (tI P t):=rfl
theorem aFF{o:Oper}{os:List Oper}{φ':AF}{d:Nat}{t:TypeId}{x:AV}:RB P mt ops o os rest K φ φ' st d t x true=aW P mt ops [o] (zK P mt ops (os++rest) K) φ st:=rfl
theorem aTE{d e:Nat}{t:TypeId}{x y:Operand}{type2:TypeId}{vS:String}{EO:Array Edge}:eX P mt ops (⟨some d,.alloc t,type,pos,after,none⟩::⟨some e,.assign y,type2,vS,EO,none⟩::⟨none,.store t (.tmp d) x,t7,pos',sW,none⟩::rest) K φ st =
 RB P mt ops ⟨some d,.alloc t,type,pos,after,none⟩ [⟨some e,.assign y,type2,vS,EO,none⟩,⟨none,.store t (.tmp d) x,t7,pos',sW,none⟩] rest K φ (φ.aC e (φ.eval y)) st d t ((φ.aC e (φ.eval y)).eval x) (mt.contains d||n7 x d||n7 y d||d == e):=by
 rw[eX]
 cases h:(mt.contains d||n7 x d||n7 y d||d == e) with
 | true=>
  rw[aK (by simp)]
  show _=aW P mt ops _ (fun φ' st'=>zK P mt ops _ K φ' st') φ st
  simp only[IQ,fU,dL,IM (K:=K) (op:=.assign y) rfl]
  rfl
 | false=>
  rw[aN ⟨rfl,rfl,rfl⟩,IN]
  try rfl
def iX:Op→Bool
 | .assign _=>true
 | _=>false
theorem WB{t:TypeId}(h:iC op'=false)(h2:iX op'=false):eX P mt ops (⟨dst,.alloc t,type,pos,after,g⟩::⟨BR,op',t7,pos',sW,g'⟩::rest) K φ st=aW P mt ops [⟨dst,.alloc t,type,pos,after,g⟩] (zK P mt ops (⟨BR,op',t7,pos',sW,g'⟩::rest) K) φ st:=by
 rw[eX]
 · rfl
 · intro d t ty ps af t' d' x ty' ps' af' r e1 e2
   cases e2
   cases h
 · intro d t ty ps af e y ty2 ps2 af2 t' d' x ty' ps' af' r e1 e2
   cases e2
   cases h2
theorem WC{t:TypeId}:eX P mt ops [⟨dst,.alloc t,type,pos,after,g⟩] K φ st=aW P mt ops [⟨dst,.alloc t,type,pos,after,g⟩] (zK P mt ops [] K) φ st:=by
 rw[eX]
 · rfl
 · intro d t ty ps af t' d' x ty' ps' af' r e1 e2
   cases e2
 · intro d t ty ps af e y ty2 ps2 af2 t' d' x ty' ps' af' r e1 e2
   cases e2
theorem WD{t:TypeId}{y:Operand}:eX P mt ops [⟨dst,.alloc t,type,pos,after,g⟩,⟨BR,.assign y,t7,pos',sW,g'⟩] K φ st=aW P mt ops [⟨dst,.alloc t,type,pos,after,g⟩] (zK P mt ops [⟨BR,.assign y,t7,pos',sW,g'⟩] K) φ st:=by
 rw[eX]
 · rfl
 · intro d t ty ps af t' d' x ty' ps' af' r e1 e2
   cases e2
 · intro d t ty ps af e y ty2 ps2 af2 t' d' x ty' ps' af' r e1 e2
   cases e2
theorem WE{t:TypeId}{y:Operand}{U3:Option Tmp}{op2:Op}{type2:TypeId}{vS:String}{EO:Array Edge}{g2:Option (Nat×Bool)}(h:iC op2=false):eX P mt ops (⟨dst,.alloc t,type,pos,after,g⟩::⟨BR,.assign y,t7,pos',sW,g'⟩::⟨U3,op2,type2,vS,EO,g2⟩::rest) K φ st=aW P mt ops [⟨dst,.alloc t,type,pos,after,g⟩] (zK P mt ops (⟨BR,.assign y,t7,pos',sW,g'⟩::⟨U3,op2,type2,vS,EO,g2⟩::rest) K) φ st:=by
 rw[eX]
 · rfl
 · intro d t ty ps af t' d' x ty' ps' af' r e1 e2
   cases e2
 · intro d t ty ps af e y ty2 ps2 af2 t' d' x ty' ps' af' r e1 e2
   cases e2
   cases h
theorem aAT{d e:Nat}:n7 (.tmp e) d=(e == d):=rfl
theorem aAS{v:Value}{d:Nat}:n7 (.const v) d=false:=rfl
theorem WY{x:Operand}:iN (.move x)=false:=rfl
theorem aD0{x:Operand}:iC (.move x)=false:=rfl
theorem WG{x:Operand}:iN (.assign x)=false:=rfl
theorem aDI{x:Operand}:iC (.assign x)=false:=rfl
theorem W0{c x y:Operand}:iN (.pick c x y)=false:=rfl
theorem aD2{c x y:Operand}:iC (.pick c x y)=false:=rfl
theorem WH{op:BinOp}{t:TypeId}{x y:Operand}{t':TypeId}:iN (.binOp op t x y t')=false:=rfl
theorem aDJ{op:BinOp}{t:TypeId}{x y:Operand}{t':TypeId}:iC (.binOp op t x y t')=false:=rfl
theorem W3{op:UnOp}{t:TypeId}{x:Operand}:iN (.unOp op t x)=false:=rfl
theorem aD4{op:UnOp}{t:TypeId}{x:Operand}:iC (.unOp op t x)=false:=rfl
theorem WZ{x:Operand}:iN (.nilCheck x)=false:=rfl
theorem aD1{x:Operand}:iC (.nilCheck x)=false:=rfl
theorem WP{t f:Nat}{x:Operand}:iN (.fieldAddr t x f)=false:=rfl
theorem aDR{t f:Nat}{x:Operand}:iC (.fieldAddr t x f)=false:=rfl
theorem WS{t:TypeId}{x:Operand}:iN (.load t x)=false:=rfl
theorem aDU{t:TypeId}{x:Operand}:iC (.load t x)=false:=rfl
theorem W2{t:TypeId}{p x:Operand}:iN (.store t p x)=false:=rfl
theorem WO{t f:Nat}{x:Operand}:iN (.field t x f)=false:=rfl
theorem aDQ{t f:Nat}{x:Operand}:iC (.field t x f)=false:=rfl
theorem WR{t:TypeId}{x i:Operand}:iN (.indexAddr t x i)=false:=rfl
theorem aDT{t:TypeId}{x i:Operand}:iC (.indexAddr t x i)=false:=rfl
theorem WQ{t:TypeId}{x i:Operand}:iN (.index t x i)=false:=rfl
theorem aDS{t:TypeId}{x i:Operand}:iC (.index t x i)=false:=rfl
theorem W1{t:TypeId}{x:Operand}{lo hi mx:Option Operand}:iN (.slice t x lo hi mx)=false:=rfl
theorem aD3{t:TypeId}{x:Operand}{lo hi mx:Option Operand}:iC (.slice t x lo hi mx)=false:=rfl
theorem WN{x:Operand}{i:Nat}:iN (.extract x i)=false:=rfl
theorem aDP{x:Operand}{i:Nat}:iC (.extract x i)=false:=rfl
theorem WJ{t:TypeId}{ps:Array (Nat×Operand)}:iN (.build t ps)=false:=rfl
theorem aDL{t:TypeId}{ps:Array (Nat×Operand)}:iC (.build t ps)=false:=rfl
theorem WK{t:TypeId}{n:Nat}{ps:Array (Nat×Operand)}:iN (.buildSlice t n ps)=false:=rfl
theorem aDM{t:TypeId}{n:Nat}{ps:Array (Nat×Operand)}:iC (.buildSlice t n ps)=false:=rfl
theorem WM{t u:TypeId}{x:Operand}:iN (.convert t u x)=false:=rfl
theorem aDO{t u:TypeId}{x:Operand}:iC (.convert t u x)=false:=rfl
theorem WT{t:TypeId}{x i:Operand}{ok:Bool}:iN (.lookup t x i ok)=false:=rfl
theorem aDV{t:TypeId}{x i:Operand}{ok:Bool}:iC (.lookup t x i ok)=false:=rfl
theorem WL{c:_}:iN (.call c)=false:=rfl
theorem aDN{c:_}:iC (.call c)=false:=rfl
theorem WI{t:TypeId}{x:Operand}:iN (.box t x)=false:=rfl
theorem aDK{t:TypeId}{x:Operand}:iC (.box t x)=false:=rfl
theorem WV{t:_}{x:_}:iN (.makeMap t x)=false:=rfl
theorem aDX{t:_}{x:_}:iC (.makeMap t x)=false:=rfl
theorem WW{t:TypeId}{n c:Operand}:iN (.makeSlice t n c)=false:=rfl
theorem aDY{t:TypeId}{n c:Operand}:iC (.makeSlice t n c)=false:=rfl
theorem WX{t:TypeId}{m k x:Operand}:iN (.mapUpdate t m k x)=false:=rfl
theorem aDZ{t:TypeId}{m k x:Operand}:iC (.mapUpdate t m k x)=false:=rfl
theorem WU{f:_}{a:_}{b:_}:iN (.makeFunc f a b)=false:=rfl
theorem aDW{f:_}{a:_}{b:_}:iC (.makeFunc f a b)=false:=rfl
theorem aDH{t:TypeId}:iC (.alloc t)=false:=rfl
theorem XS{x:Operand}:iX (.move x)=false:=rfl
theorem XU{c x y:Operand}:iX (.pick c x y)=false:=rfl
theorem XB{op:BinOp}{t:TypeId}{x y:Operand}{t':TypeId}:iX (.binOp op t x y t')=false:=rfl
theorem XW{op:UnOp}{t:TypeId}{x:Operand}:iX (.unOp op t x)=false:=rfl
theorem XT{x:Operand}:iX (.nilCheck x)=false:=rfl
theorem XJ{t f:Nat}{x:Operand}:iX (.fieldAddr t x f)=false:=rfl
theorem XM{t:TypeId}{x:Operand}:iX (.load t x)=false:=rfl
theorem XI{t f:Nat}{x:Operand}:iX (.field t x f)=false:=rfl
theorem XL{t:TypeId}{x i:Operand}:iX (.indexAddr t x i)=false:=rfl
theorem XK{t:TypeId}{x i:Operand}:iX (.index t x i)=false:=rfl
theorem XV{t:TypeId}{x:Operand}{lo hi mx:Option Operand}:iX (.slice t x lo hi mx)=false:=rfl
theorem XH{x:Operand}{i:Nat}:iX (.extract x i)=false:=rfl
theorem XD{t:TypeId}{ps:Array (Nat×Operand)}:iX (.build t ps)=false:=rfl
theorem XE{t:TypeId}{n:Nat}{ps:Array (Nat×Operand)}:iX (.buildSlice t n ps)=false:=rfl
theorem XG{t u:TypeId}{x:Operand}:iX (.convert t u x)=false:=rfl
theorem XN{t:TypeId}{x i:Operand}{ok:Bool}:iX (.lookup t x i ok)=false:=rfl
theorem XF{c:_}:iX (.call c)=false:=rfl
theorem XC{t:TypeId}{x:Operand}:iX (.box t x)=false:=rfl
theorem XP{t:_}{x:_}:iX (.makeMap t x)=false:=rfl
theorem XQ{t:TypeId}{n c:Operand}:iX (.makeSlice t n c)=false:=rfl
theorem XR{t:TypeId}{m k x:Operand}:iX (.mapUpdate t m k x)=false:=rfl
theorem XO{f:_}{a:_}{b:_}:iX (.makeFunc f a b)=false:=rfl
theorem XA{t:TypeId}:iX (.alloc t)=false:=rfl
@[congr] theorem a4G {x x':AV} {k:AV→Prop} {a a':Option (List AV)} {b b':Option (Bool×Nat)} (h0:x=x') (h1:a=a') (h2:b=b'):vB x k a b=vB x' k a' b':=by rw[h0,h1,h2]
@[congr] theorem a4P {o s:Oper} {φ':AF} {st':aA} {d:Nat} {t:TypeId} {x x':AV} {b b':Bool} (h1:φ=φ') (h2:st=st') (h3:x=x') (h4:b=b'):zM P mt ops o s rest K φ st d t x b=zM P mt ops o s rest K φ' st' d t x' b':=by rw[h1,h2,h3,h4]
@[congr] theorem a4M {l:List Oper} {Q:Exit→AF→aA→Prop} {φ':AF} {st':aA} {b b':Bool} (h1:φ=φ') (h2:st=st') (h3:b=b'):F4 P mt l Q φ st b=F4 P mt l Q φ' st' b':=by rw[h1,h2,h3]
end
end Go.AW
