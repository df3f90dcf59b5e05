/- The rules by which the code is evaluated: equations for simp. -/
import Derived.Test.YthigelfjekcbmaaGreatDoorDrsc
set_option linter.unusedSimpArgs false
set_option linter.unusedVariables false
set_option maxRecDepth 100000
namespace Go.AW
section
variable {P:Program} {N:Nat} {mt:List Nat} {Q:Exit→AF→aA→Prop} {φ:AF} {st:aA} {x y:Code} {ops:Array Oper} {id:Nat}
theorem aCC:fO P N mt .skip Q φ st=Q .normal φ st:=rfl
theorem aB9:fO P N mt (.seq x y) Q φ st=fO P N mt x (FR (fO P N mt y Q) Q) φ st:=rfl
def E6(P:Program)(mt:List Nat)(l:List Oper)(Q:Exit→AF→aA→Prop)(φ:AF)(st:aA):Bool→Prop
 | true=>fP P mt l.toArray l (Q .normal) φ st
 | false=>a8 P mt l.toArray l (Q .normal) φ st
theorem aBE{l:List Oper}:fO P N mt (.region id l.toArray false) Q φ st=E6 P mt l Q φ st (mt.contains 1000000):=by
 simp only[fO,jX,cM]
 cases mt.contains 1000000<;>rfl
theorem aBD{l:List Oper}:E6 P mt l Q φ st true=fP P mt l.toArray l (Q .normal) φ st:=rfl
theorem aBC{l:List Oper}:E6 P mt l Q φ st false=a8 P mt l.toArray l (Q .normal) φ st:=rfl
theorem YA:fO P N mt (.region id ops true) Q φ st=fW P N (.region id ops true) Q φ st:=by simp [fO]
theorem X7{c:Operand}:fO P N mt (.cond c x y) Q φ st=tR (φ.eval c) (fO P N mt x Q) (fO P N mt y Q) φ st:=rfl
theorem W4:fO P N mt (.block id x) Q φ st=fO P N mt x (AC id Q) φ st:=rfl
theorem Z5:fO P N mt (.loop x) Q φ st=fW P N (.loop x) Q φ st:=rfl
theorem YD:fO P N mt (.exit id) Q φ st=Q (.exit id) φ st:=rfl
theorem aBG:fO P N mt .ret Q φ st=Q .ret φ st:=rfl
theorem aDR{k₁ k₂:AF→aA→Prop}:tR (.bool true) k₁ k₂ φ st=k₁ φ st:=by simp [tR]
theorem YF{k₁ k₂:AF→aA→Prop}:tR (.bool false) k₁ k₂ φ st=k₂ φ st:=by simp [tR]
theorem aDB{k:AF→aA→Prop}:FR k Q .normal φ st=k φ st:=rfl
theorem aDA{k:AF→aA→Prop}:FR k Q (.exit id) φ st=Q (.exit id) φ st:=rfl
theorem aDC{k:AF→aA→Prop}:FR k Q .ret φ st=Q .ret φ st:=rfl
theorem W7:AC id Q .normal φ st=Q .normal φ st:=rfl
theorem W6{i:Nat}:AC id Q (.exit i) φ st=if i=id then Q .normal φ st else Q (.exit i) φ st:=rfl
theorem W8:AC id Q .ret φ st=Q .ret φ st:=rfl
theorem Z7{k:AF→aA→Prop}:oA k Q .normal φ st=k φ st:=rfl
theorem Z6{k:AF→aA→Prop}:oA k Q (.exit id) φ st=Q (.exit id) φ st:=rfl
theorem Z8{k:AF→aA→Prop}:oA k Q .ret φ st=Q .ret φ st:=rfl
def mT(P:Program)(rs:List ResultVar)(K:AV→aA→Prop)(φ:AF)(st:aA):Prop:=
 match oM P φ st rs with
 | some xs=>FV K st xs
 | none=>False
theorem aBS{rs:Array ResultVar}{K:AV→aA→Prop}:E8 P rs K .ret φ st=mT P rs.toList K φ st:=rfl
theorem aBR{rs:Array ResultVar}{K:AV→aA→Prop}:E8 P rs K .normal φ st=mT P rs.toList K φ st:=rfl
theorem aBI{t:Tmp}{K:AV→aA→Prop}:mT P [.tmp t] K φ st=K (φ t) st:=rfl
theorem aBH{K:AV→aA→Prop}:mT P [] K φ st=K (.tup []) st:=by simp [mT,oM,FV,kA]
theorem aBJ{t u:Tmp}{K:AV→aA→Prop}:mT P [.tmp t,.tmp u] K φ st=(kA [φ t,φ u]=true∧K (.tup [φ t,φ u]) st):=rfl
theorem aBK{t u v:Tmp}{K:AV→aA→Prop}:mT P [.tmp t,.tmp u,.tmp v] K φ st=(kA [φ t,φ u,φ v]=true∧K (.tup [φ t,φ u,φ v]) st):=rfl
theorem aBL{t u v w:Tmp}{K:AV→aA→Prop}:mT P [.tmp t,.tmp u,.tmp v,.tmp w] K φ st=(kA [φ t,φ u,φ v,φ w]=true∧K (.tup [φ t,φ u,φ v,φ w]) st):=rfl
def I3(k:AV→Prop):Option AV→Prop
 | some r=>k r
 | none=>False
theorem aBM{p:Tmp}{t:TypeId}{K:AV→aA→Prop}:mT P [.cell p t] K φ st=I3 (fun r=>K r st) (gG P st t (φ p)):=by
 simp only[mT,oM,zZ]
 cases gG P st t (φ p)<;>rfl
theorem aBN{p u:Tmp}{t:TypeId}{K:AV→aA→Prop}:mT P [.cell p t,.tmp u] K φ st=I3 (fun r=>kA [r,φ u]=true∧K (.tup [r,φ u]) st) (gG P st t (φ p)):=by
 simp only[mT,oM,zZ]
 cases gG P st t (φ p)<;>rfl
theorem aBQ{u p:Tmp}{t:TypeId}{K:AV→aA→Prop}:mT P [.tmp u,.cell p t] K φ st=I3 (fun r=>kA [φ u,r]=true∧K (.tup [φ u,r]) st) (gG P st t (φ p)):=by
 simp only[mT,oM,zZ]
 cases gG P st t (φ p)<;>rfl
theorem aAP{k:AV→Prop}{r:AV}:I3 k (some r)=k r:=rfl
def jC(P:Program)(mt:List Nat)(ops:Array Oper)(rest:List Oper)(K:AF→aA→Prop)(φ:AF)(dst:Option Tmp)(st:aA):Option AV→Prop
 | some r=>a8 P mt ops rest K (φ.put dst r) st
 | none=>False
def oD(P:Program)(mt:List Nat)(ops:Array Oper)(rest:List Oper)(K:AF→aA→Prop)(φ:AF)(dst:Option Tmp)(r:AV)(st:aA):Prop:=a8 P mt ops rest K (φ.put dst r) st
def uM(P:Program)(mt:List Nat)(ops:Array Oper)(o:Oper)(rest:List Oper)(K:AF→aA→Prop)(φ:AF)(st:aA):Option Bool→Prop
 | some true=>a8 P mt ops ({ o with guard:=none }::rest) K φ st
 | some false=>a8 P mt ops rest K (φ.put o.dst .undef) st
 | none=>False
def gd(ops:Array Oper)(φ:AF)(j:Nat)(want:Bool):Option Bool:=
 match (ops[j]?).bind (·.dst) with
 | none=>some false
 | some d=>match φ d with
  | .bool b=>some (b == want)
  | .undef=>some false
  | _=>none
section
variable {rest:List Oper} {K:AF→aA→Prop} {dst:Option Tmp} {type:TypeId} {pos:String} {after:Array Edge}
theorem aAM:a8 P mt ops [] K φ st=K φ st:=rfl
theorem YP{op:Op}{j:Nat}{want:Bool}:a8 P mt ops (⟨dst,op,type,pos,after,some (j,want)⟩::rest) K φ st=uM P mt ops ⟨dst,op,type,pos,after,some (j,want)⟩ rest K φ st (gd ops φ j want):=by
 simp only[a8]
 have h1:iI ops φ ⟨dst,op,type,pos,after,some (j,want)⟩=gd ops φ j want:=rfl
 rw[h1]
 cases gd ops φ j want with
 | none=>rfl
 | some b=>cases b<;>simp [uM,a8,iI,eN,kE]
theorem UA{r:AV}:oD P mt ops rest K φ dst r st=a8 P mt ops rest K (φ.put dst r) st:=rfl
theorem U0{r:AV}:jC P mt ops rest K φ dst st (some r)=a8 P mt ops rest K (φ.put dst r) st:=rfl
theorem UC{op:Op}{g:Option (Nat×Bool)}:uM P mt ops ⟨dst,op,type,pos,after,g⟩ rest K φ st (some true)=a8 P mt ops (⟨dst,op,type,pos,after,none⟩::rest) K φ st:=rfl
theorem UB{op:Op}{g:Option (Nat×Bool)}:uM P mt ops ⟨dst,op,type,pos,after,g⟩ rest K φ st (some false)=a8 P mt ops rest K (φ.put dst .undef) st:=rfl
theorem k7{o:Oper}(hg:o.guard=none)(e:∀K',eN P mt φ st o K'=match kE P φ st o with | some r=>K' r st | none=>False):a8 P mt ops (o::rest) K φ st=jC P mt ops rest K φ o.dst st (kE P φ st o):=by
 simp only[a8,iI,hg,e]
 cases kE P φ st o<;>rfl
def F3:AV→AV→AV→Option AV
 | .bool b,x,y=>some (if b then x else y)
 | _,_,_=>none
def wW:AV→Option AV
 | .ptr b q=>some (.ptr b q)
 | .pptr e=>some (.pptr e)
 | _=>none
def F4(P:Program)(t f:Nat)(x:AV):Option AV:=match fI P t f,x with | some (off,ag,sz),.agg cs=>sub ag cs off sz | _,_=>none
def yX(x:AV)(i:Nat):Option AV:=match x with | .tup vs=>vs[i]? | _=>none
def GJ(g:FuncId)(cs:List AV):Option AV:=if kA cs=true then some (.func g cs) else none
def rE(P:Program)(f:AV)(args:List AV)(st:aA)(K:AV→aA→Prop):Prop:=match f with | .func g dJ=>aD P g (args++dJ) st K | _=>False
def vS(P:Program)(m:Bool)(t:TypeId)(x:AV)(st:aA)(K:AV→aA→Prop)(k:Option AV→Prop):Prop:=
 if m=true then x.b9=false∧∀b,st b=none→K (.ptr b 0) (st.aC b (.cells x.cells)) else k (u7 P t x)
def GQ(zs:Option (List AV))(st:aA)(K:AV→aA→Prop):Prop:=match zs with | some zs=>∀b,st b=none→K (.ptr b 0) (st.aC b (.cells zs)) | none=>False
def JK(P:Program)(t:TypeId)(p x:AV)(st:aA)(K:AV→aA→Prop):Prop:=
 match p with
 | .ptr b q=>match st b,tI P t with
  | some (.cells cs),some (_,sz)=>x.cells.length=sz∧q+sz≤cs.length∧x.cells.all AV.storable=true∧K .undef (st.aC b (.cells (aS cs q x.cells)))
  | _,_=>False
 | _=>False
theorem aAI{x:Operand}:a8 P mt ops (⟨dst,.move x,type,pos,after,none⟩::rest) K φ st=a8 P mt ops rest K (φ.put dst (φ.eval x)) st:=rfl
theorem W1{x:Operand}:a8 P mt ops (⟨dst,.assign x,type,pos,after,none⟩::rest) K φ st=a8 P mt ops rest K (φ.put dst (φ.eval x)) st:=rfl
theorem aAR{c x y:Operand}:a8 P mt ops (⟨dst,.pick c x y,type,pos,after,none⟩::rest) K φ st=jC P mt ops rest K φ dst st (F3 (φ.eval c) (φ.eval x) (φ.eval y)):=by
 rw[k7 rfl fun _=>rfl]
 simp only[kE]
 cases φ.eval c<;>rfl
theorem W3{op:BinOp}{t t':TypeId}{x y:Operand}:a8 P mt ops (⟨dst,.binOp op t x y t',type,pos,after,none⟩::rest) K φ st=jC P mt ops rest K φ dst st (dR P op t (φ.eval x) (φ.eval y)):=k7 rfl fun _=>rfl
theorem aDS{op:UnOp}{t:TypeId}{x:Operand}:a8 P mt ops (⟨dst,.unOp op t x,type,pos,after,none⟩::rest) K φ st=jC P mt ops rest K φ dst st (CW op (φ.eval x)):=k7 rfl fun _=>rfl
theorem aAN{x:Operand}:a8 P mt ops (⟨dst,.nilCheck x,type,pos,after,none⟩::rest) K φ st=jC P mt ops rest K φ dst st (wW (φ.eval x)):=by
 rw[k7 rfl fun _=>rfl]
 try rfl
theorem YH{t f:Nat}{x:Operand}:a8 P mt ops (⟨dst,.fieldAddr t x f,type,pos,after,none⟩::rest) K φ st=jC P mt ops rest K φ dst st (qO P t f (φ.eval x)):=k7 rfl fun _=>rfl
theorem Z3{t:TypeId}{x:Operand}:a8 P mt ops (⟨dst,.load t x,type,pos,after,none⟩::rest) K φ st=jC P mt ops rest K φ dst st (gG P st t (φ.eval x)):=k7 rfl fun _=>rfl
theorem YG{t f:Nat}{x:Operand}:a8 P mt ops (⟨dst,.field t x f,type,pos,after,none⟩::rest) K φ st=jC P mt ops rest K φ dst st (F4 P t f (φ.eval x)):=by
 rw[k7 rfl fun _=>rfl]
 try rfl
theorem ZS{t:TypeId}{x i:Operand}:a8 P mt ops (⟨dst,.indexAddr t x i,type,pos,after,none⟩::rest) K φ st=jC P mt ops rest K φ dst st (dG P t (φ.eval x) (φ.eval i)):=k7 rfl fun _=>rfl
theorem ZR{t:TypeId}{x i:Operand}:a8 P mt ops (⟨dst,.index t x i,type,pos,after,none⟩::rest) K φ st=jC P mt ops rest K φ dst st (zU P t (φ.eval x) (φ.eval i)):=k7 rfl fun _=>rfl
theorem aCD{t:TypeId}{x:Operand}{lo hi mx:Option Operand}:a8 P mt ops (⟨dst,.slice t x lo hi mx,type,pos,after,none⟩::rest) K φ st=jC P mt ops rest K φ dst st (fS P φ t (φ.eval x) lo hi mx):=k7 rfl fun _=>rfl
theorem YE{x:Operand}{i:Nat}:a8 P mt ops (⟨dst,.extract x i,type,pos,after,none⟩::rest) K φ st=jC P mt ops rest K φ dst st (yX (φ.eval x) i):=by
 rw[k7 rfl fun _=>rfl]
 try rfl
theorem aAA{g:FuncId}{dJ:Array Operand}:a8 P mt ops (⟨dst,.makeFunc (.func g) #[] dJ,type,pos,after,none⟩::rest) K φ st=jC P mt ops rest K φ dst st (GJ g (dJ.toList.map φ.eval)):=by
 rw[k7 rfl fun _=>rfl]
 congr 1
 simp [kE,GJ]
theorem XD{t:TypeId}{ps:Array (Nat×Operand)}:a8 P mt ops (⟨dst,.build t ps,type,pos,after,none⟩::rest) K φ st=jC P mt ops rest K φ dst st (wV P φ t ps):=k7 rfl fun _=>rfl
theorem XE{t:TypeId}{n:Nat}{ps:Array (Nat×Operand)}:a8 P mt ops (⟨dst,.buildSlice t n ps,type,pos,after,none⟩::rest) K φ st=jC P mt ops rest K φ dst st (yW P φ t n ps):=k7 rfl fun _=>rfl
theorem X8{t u:TypeId}{x:Operand}:a8 P mt ops (⟨dst,.convert t u x,type,pos,after,none⟩::rest) K φ st=jC P mt ops rest K φ dst st (CT P t u (φ.eval x)):=k7 rfl fun _=>rfl
theorem Z4{t:TypeId}{x i:Operand}{ok:Bool}:a8 P mt ops (⟨dst,.lookup t x i ok,type,pos,after,none⟩::rest) K φ st=jC P mt ops rest K φ dst st (nR P st t ok (φ.eval x) (φ.eval i)):=k7 rfl fun _=>rfl
theorem ZX{x:Operand}{t:TypeId}:a8 P mt ops (⟨dst,.call { callee:=.builtin .len,args:=#[x],argTypes:=#[t] },type,pos,after,none⟩::rest) K φ st=jC P mt ops rest K φ dst st (jQ P t (φ.eval x)):=k7 rfl fun _=>rfl
theorem XM{f:Operand}{args:List Operand}{ats:Array TypeId}:a8 P mt ops (⟨dst,.call { callee:=.value f,args:=args.toArray,argTypes:=ats },type,pos,after,none⟩::rest) K φ st=rE P (φ.eval f) (args.map φ.eval) st (oD P mt ops rest K φ dst):=rfl
theorem aAE{x y:Operand}{ts:Array TypeId}:a8 P mt ops (⟨dst,.call { callee:=.builtin .max,args:=#[x,y],argTypes:=ts },type,pos,after,none⟩::rest) K φ st=jC P mt ops rest K φ dst st (vM (φ.eval x) (φ.eval y)):=k7 rfl fun _=>rfl
theorem aAG{x y:Operand}{ts:Array TypeId}:a8 P mt ops (⟨dst,.call { callee:=.builtin .min,args:=#[x,y],argTypes:=ts },type,pos,after,none⟩::rest) K φ st=jC P mt ops rest K φ dst st (vN (φ.eval x) (φ.eval y)):=k7 rfl fun _=>rfl
theorem WA{s x:Operand}{t t':TypeId}:a8 P mt ops (⟨dst,.call { callee:=.builtin .append,args:=#[s,x],argTypes:=#[t,t'] },type,pos,after,none⟩::rest) K φ st=(if t=t' then kD P t st (φ.eval s) (φ.eval x) (oD P mt ops rest K φ dst) else qW P t t' st (φ.eval s) (φ.eval x) (oD P mt ops rest K φ dst)):=rfl
theorem X9{m k:Operand}{t t':TypeId}:a8 P mt ops (⟨dst,.call { callee:=.builtin .delete,args:=#[m,k],argTypes:=#[t,t'] },type,pos,after,none⟩::rest) K φ st=xE P t st (φ.eval m) (φ.eval k) (oD P mt ops rest K φ dst):=rfl
theorem XA{t:TypeId}{x:Operand}:a8 P mt ops (⟨dst,.box t x,type,pos,after,none⟩::rest) K φ st=vS P (yY mt dst) t (φ.eval x) st (oD P mt ops rest K φ dst) (jC P mt ops rest K φ dst st):=by
 simp only[a8,iI,eN,vS,oD]
 split
 · rfl
 · cases u7 P t (φ.eval x)<;>rfl
theorem V4{t:TypeId}:a8 P mt ops (⟨dst,.alloc t,type,pos,after,none⟩::rest) K φ st=GQ (zI P t) st (oD P mt ops rest K φ dst):=rfl
theorem aC4{t:TypeId}{p x:Operand}:a8 P mt ops (⟨dst,.store t p x,type,pos,after,none⟩::rest) K φ st=JK P t (φ.eval p) (φ.eval x) st (oD P mt ops rest K φ dst):=rfl
theorem aAB{t:TypeId}:a8 P mt ops (⟨dst,.makeMap t none,type,pos,after,none⟩::rest) K φ st=∀b,st b=none→oD P mt ops rest K φ dst (.map b) (st.aC b (.map fun _=>none)):=rfl
theorem aAC{t:TypeId}{n c:Operand}:a8 P mt ops (⟨dst,.makeSlice t n c,type,pos,after,none⟩::rest) K φ st=qX P t st (φ.eval n) (φ.eval c) (oD P mt ops rest K φ dst):=rfl
theorem aAD{t:TypeId}{m k x:Operand}:a8 P mt ops (⟨dst,.mapUpdate t m k x,type,pos,after,none⟩::rest) K φ st=qY P t st (φ.eval m) (φ.eval k) (φ.eval x) (oD P mt ops rest K φ dst):=rfl
theorem aDQ{t:Tmp}:φ.eval (.tmp t)=φ t:=rfl
theorem XH{k:IntKind}{n:Int}:φ.eval (.const (.int k n))=.int k n:=rfl
theorem XF{b:Bool}:φ.eval (.const (.bool b))=.bool b:=rfl
theorem XJ:φ.eval (.const (.slice none 0 0))=.fslice []:=rfl
theorem XK:φ.eval (.const (.pointer none))=.nilptr:=rfl
theorem XI:φ.eval (.const (.map none))=.nilmap:=rfl
theorem XG{g:FuncId}:φ.eval (.func g)=.func g []:=rfl
theorem XL{l:List UInt8}:φ.eval (.const (.string ⟨l.toArray⟩))=if l.length≤9223372036854775807 then .str ⟨l.toArray⟩ else .junk:=by
 simp [AF.eval,ofConst,ByteArray.size,maxLen]
theorem aDT{d e:Nat}{v:AV}:(φ.aC d v) e=if e=d then v else φ e:=rfl
theorem aA9{d:Nat}{v:AV}:φ.put (some d) v=φ.aC d v:=rfl
theorem aBA{v:AV}:φ.put none v=φ:=rfl
theorem WC{i:Nat}:sG i []=AF.bot:=rfl
theorem WB{i:Nat}{a:AV}{as:List AV}:sG i (a::as)=(sG (i+1) as).aC i a:=rfl
theorem VA{P:Program}{t:TypeId}{k:IntKind}{a b:Int}:dR P .add t (.int k a) (.int k b)=some (.int k (k.wrap (a+b))):=by simp [dR,jP]
theorem aC9{P:Program}{t:TypeId}{k:IntKind}{a b:Int}:dR P .sub t (.int k a) (.int k b)=some (.int k (k.wrap (a - b))):=by simp [dR,jP]
theorem aAJ{P:Program}{t:TypeId}{k:IntKind}{a b:Int}:dR P .mul t (.int k a) (.int k b)=some (.int k (k.wrap (a*b))):=by simp [dR,jP]
theorem aBB{P:Program}{t:TypeId}{k:IntKind}{a b:Int}:dR P .quo t (.int k a) (.int k b)=if b=0 then none else some (.int k (k.wrap (a.tdiv b))):=by simp [dR,jP]
theorem aBF{P:Program}{t:TypeId}{k:IntKind}{a b:Int}:dR P .rem t (.int k a) (.int k b)=if b=0 then none else some (.int k (a.tmod b)):=by simp [dR,jP]
theorem YC{P:Program}{t:TypeId}{k:IntKind}{a b:Int}:dR P .eql t (.int k a) (.int k b)=some (.bool (decide (a=b))):=by simp [dR,jP]
theorem aAL{P:Program}{t:TypeId}{k:IntKind}{a b:Int}:dR P .neq t (.int k a) (.int k b)=some (.bool (!decide (a=b))):=by simp [dR,jP]
theorem Z9{P:Program}{t:TypeId}{k:IntKind}{a b:Int}:dR P .lss t (.int k a) (.int k b)=some (.bool (decide (a<b))):=by simp [dR,jP]
theorem Z2{P:Program}{t:TypeId}{k:IntKind}{a b:Int}:dR P .leq t (.int k a) (.int k b)=some (.bool (decide (a≤b))):=by simp [dR,jP]
theorem YO{P:Program}{t:TypeId}{k:IntKind}{a b:Int}:dR P .gtr t (.int k a) (.int k b)=some (.bool (decide (b<a))):=by simp [dR,jP]
theorem YN{P:Program}{t:TypeId}{k:IntKind}{a b:Int}:dR P .geq t (.int k a) (.int k b)=some (.bool (decide (b≤a))):=by simp [dR,jP]
theorem aEB{P:Program}{t:TypeId}{k:IntKind}{a b:Int}:dR P .xor t (.int k a) (.int k b)=some (.int k (LH k a b)):=by simp [dR,jP]
theorem V9{P:Program}{t:TypeId}{k:IntKind}{a b:Int}:dR P .and t (.int k a) (.int k b)=some (.int k (K9 k a b)):=by simp [dR,jP]
theorem aAQ{P:Program}{t:TypeId}{k:IntKind}{a b:Int}:dR P .or t (.int k a) (.int k b)=some (.int k (LF k a b)):=by simp [dR,jP]
theorem aAF{k:IntKind}{a b:Int}:vM (.int k a) (.int k b)=some (.int k (if a<b then b else a)):=by simp [vM]
theorem aAH{k:IntKind}{a b:Int}:vN (.int k a) (.int k b)=some (.int k (if b<a then b else a)):=by simp [vN]
theorem aCA{P:Program}{t:TypeId}{a b:ByteArray}:dR P .eql t (.str a) (.str b)=some (.bool (decide (a=b))):=by simp [dR,jP]
theorem aCF{P:Program}{t:TypeId}{a b:ByteArray}:dR P .neq t (.str a) (.str b)=some (.bool (!decide (a=b))):=by simp [dR,jP]
theorem aBT{P:Program}{t:TypeId}{a b:ByteArray}:dR P .add t (.str a) (.str b)=if a.size+b.size≤maxLen then some (.str (a++b)) else none:=by simp [dR,jP]
theorem aCE{P:Program}{t:TypeId}{a b:ByteArray}:dR P .lss t (.str a) (.str b)=some (.bool (Op.bytesLess a.toList b.toList)):=by simp [dR,jP]
theorem aCB{P:Program}{t:TypeId}{a b:ByteArray}:dR P .gtr t (.str a) (.str b)=some (.bool (!(Op.bytesLess a.toList b.toList||decide (a=b)))):=by simp [dR,jP]
theorem W2{P:Program}{t:TypeId}{a b:Bool}(h:P.underlying t=some .bool):dR P .eql t (.bool a) (.bool b)=some (.bool (a == b)):=by simp [dR,h]
theorem W9{P:Program}{t:TypeId}{a b:Bool}(h:P.underlying t=some .bool):dR P .neq t (.bool a) (.bool b)=some (.bool (!(a == b))):=by simp [dR,h]
theorem aAO{b:Bool}:CW .not (.bool b)=some (.bool (!b)):=rfl
theorem aAK{k:IntKind}{n:Int}:CW .neg (.int k n)=some (.int k (k.wrap (0 - n))):=rfl
end
end
@[congr] theorem aY2 {P:Program} {N:Nat} {mt:List Nat} {c:Code} {Q:Exit→AF→aA→Prop} {φ φ':AF} {st st':aA} (h1:φ=φ') (h2:st=st'):fO P N mt c Q φ st=fO P N mt c Q φ' st':=by rw[h1,h2]
@[congr] theorem aY8 {P:Program} {mt:List Nat} {ops:Array Oper} {l:List Oper} {K:AF→aA→Prop} {φ φ':AF} {st st':aA} (h1:φ=φ') (h2:st=st'):a8 P mt ops l K φ st=a8 P mt ops l K φ' st':=by rw[h1,h2]
@[congr] theorem aZL {P:Program} {mt:List Nat} {ops:Array Oper} {l:List Oper} {K:AF→aA→Prop} {φ:AF} {st:aA} {dst:Option Tmp} {x x':Option AV} (h1:x=x'):jC P mt ops l K φ dst st x=jC P mt ops l K φ dst st x':=by rw[h1]
@[congr] theorem aZK {P:Program} {mt:List Nat} {ops:Array Oper} {o:Oper} {l:List Oper} {K:AF→aA→Prop} {φ:AF} {st:aA} {x x':Option Bool} (h1:x=x'):uM P mt ops o l K φ st x=uM P mt ops o l K φ st x':=by rw[h1]
@[congr] theorem aZJ {P:Program} {mt:List Nat} {ops:Array Oper} {l:List Oper} {K:AF→aA→Prop} {φ:AF} {dst:Option Tmp} {r r':AV} {st st':aA} (h1:r=r') (h2:st=st'):oD P mt ops l K φ dst r st=oD P mt ops l K φ dst r' st':=by rw[h1,h2]
@[congr] theorem aY3 {c c':AV} {k₁ k₂:AF→aA→Prop} {φ:AF} {st:aA} (h1:c=c'):tR c k₁ k₂ φ st=tR c' k₁ k₂ φ st:=by rw[h1]
@[congr] theorem aYZ {P:Program} {N:Nat} {c:Code} {Q:Exit→AF→aA→Prop} {φ φ':AF} {st st':aA} (h1:φ=φ') (h2:st=st'):fW P N c Q φ st=fW P N c Q φ' st':=by rw[h1,h2]
@[congr] theorem aYY {P:Program} {g:FuncId} {args args':List AV} {st st':aA} {K:AV→aA→Prop} (h1:args=args') (h2:st=st'):aD P g args st K=aD P g args' st' K:=by rw[h1,h2]
@[congr] theorem aZH {P:Program} {f f':AV} {args args':List AV} {st st':aA} {K:AV→aA→Prop} (h0:f=f') (h1:args=args') (h2:st=st'):rE P f args st K=rE P f' args' st' K:=by rw[h0,h1,h2]
@[congr] theorem aZD {P:Program} {m m':Bool} {t:TypeId} {x x':AV} {st st':aA} {K:AV→aA→Prop} {k:Option AV→Prop} (h0:m=m') (h1:x=x') (h2:st=st'):vS P m t x st K k=vS P m' t x' st' K k:=by rw[h0,h1,h2]
@[congr] theorem aZC {zs zs':Option (List AV)} {st st':aA} {K:AV→aA→Prop} (h1:zs=zs') (h2:st=st'):GQ zs st K=GQ zs' st' K:=by rw[h1,h2]
@[congr] theorem aZQ {P:Program} {t:TypeId} {p p' x x':AV} {st st':aA} {K:AV→aA→Prop} (h0:p=p') (h1:x=x') (h2:st=st'):JK P t p x st K=JK P t p' x' st' K:=by rw[h0,h1,h2]
@[congr] theorem aY6 {x x' y y':AV} (h0:x=x') (h1:y=y'):vM x y=vM x' y':=by rw[h0,h1]
@[congr] theorem aY7 {x x' y y':AV} (h0:x=x') (h1:y=y'):vN x y=vN x' y':=by rw[h0,h1]
@[congr] theorem aY1 {P:Program} {t t':TypeId} {s s' x x':AV} {st st':aA} {K:AV→aA→Prop} (h0:s=s') (h1:x=x') (h2:st=st'):qW P t t' st s x K=qW P t t' st' s' x' K:=by rw[h0,h1,h2]
@[congr] theorem aY0 {P:Program} {t:TypeId} {s s' x x':AV} {st st':aA} {K:AV→aA→Prop} (h0:s=s') (h1:x=x') (h2:st=st'):kD P t st s x K=kD P t st' s' x' K:=by rw[h0,h1,h2]
@[congr] theorem aY4 {P:Program} {t:TypeId} {s s' x x':AV} {st st':aA} {K:AV→aA→Prop} (h0:s=s') (h1:x=x') (h2:st=st'):qX P t st s x K=qX P t st' s' x' K:=by rw[h0,h1,h2]
@[congr] theorem aY5 {P:Program} {t:TypeId} {m m' s s' x x':AV} {st st':aA} {K:AV→aA→Prop} (h:m=m') (h0:s=s') (h1:x=x') (h2:st=st'):qY P t st m s x K=qY P t st' m' s' x' K:=by rw[h,h0,h1,h2]
theorem XN{P:Program}{g:FuncId}{dJ args:List AV}{st:aA}{K:AV→aA→Prop}:rE P (.func g dJ) args st K=aD P g (args++dJ) st K:=rfl
theorem XB{P:Program}{t:TypeId}{x:AV}{st:aA}{K:AV→aA→Prop}{k:Option AV→Prop}:vS P false t x st K k=k (u7 P t x):=by simp [vS]
theorem XC{P:Program}{t:TypeId}{x:AV}{st:aA}{K:AV→aA→Prop}{k:Option AV→Prop}:vS P true t x st K k=(x.b9=false∧∀b,st b=none→K (.ptr b 0) (st.aC b (.cells x.cells))):=by simp [vS]
theorem V8{zs:List AV}{st:aA}{K:AV→aA→Prop}:GQ (some zs) st K=∀b,st b=none→K (.ptr b 0) (st.aC b (.cells zs)):=rfl
theorem aC5{P:Program}{t:TypeId}{b q:Nat}{x:AV}{st:aA}{K:AV→aA→Prop}:JK P t (.ptr b q) x st K=match st b,tI P t with
 | some (.cells cs),some (_,sz)=>x.cells.length=sz∧q+sz≤cs.length∧x.cells.all AV.storable=true∧K .undef (st.aC b (.cells (aS cs q x.cells)))
 | _,_=>False:=rfl
def iP:Op→Bool
 | .alloc _=>true
 | _=>false
def iK:Op→Bool
 | .store _ _ _=>true
 | _=>false
def zK(P:Program)(mt:List Nat)(ops:Array Oper)(rest:List Oper)(K:AF→aA→Prop)(φ:AF)(st:aA):Prop:=fP P mt ops rest K φ st
def zF(P:Program)(mt:List Nat)(ops:Array Oper)(rest:List Oper)(K:AF→aA→Prop)(φ:AF)(d:Nat)(st:aA)(r:AV):Prop:=fP P mt ops rest K (φ.aC d r) st
def uA(x:AV)(K:AV→Prop):Option (List AV)→Option (Bool×Nat)→Prop
 | some zs,some (_,sz)=>zs.length=sz∧x.width=sz∧x.cells.all AV.storable=true∧x.b9=false∧K (.pptr x)
 | _,_=>False
def zM(P:Program)(mt:List Nat)(ops:Array Oper)(o:Oper)(s:Oper)(rest:List Oper)(K:AF→aA→Prop)(φ:AF)(st:aA)(d:Nat)(t:TypeId)(x:AV):Bool→Prop
 | true=>a8 P mt ops [o] (zK P mt ops (s::rest) K) φ st
 | false=>uA x (zF P mt ops rest K φ d st) (zI P t) (tI P t)
section
variable {P:Program} {mt:List Nat} {ops:Array Oper} {rest:List Oper} {K:AF→aA→Prop} {φ:AF} {st:aA} {dst AH:Option Tmp} {type tH:TypeId} {pos pos':String} {after sF:Array Edge} {g g':Option (Nat×Bool)} {op op':Op}
theorem HL:zK P mt ops rest K φ st=fP P mt ops rest K φ st:=rfl
theorem aEC{d:Nat}{r:AV}:zF P mt ops rest K φ d st r=fP P mt ops rest K (φ.aC d r) st:=rfl
theorem U5:fP P mt ops [] K φ st=K φ st:=by rw[fP]
theorem HJ(h:iP op=false):fP P mt ops (⟨dst,op,type,pos,after,g⟩::rest) K φ st=a8 P mt ops [⟨dst,op,type,pos,after,g⟩] (zK P mt ops rest K) φ st:=by
 rw[fP]
 · rfl
 · intro d t ty ps af t' d' x ty' ps' af' r e1 e2
   cases e1
   cases h
 · intro d t ty ps af e y ty2 ps2 af2 t' d' x ty' ps' af' r e1 e2
   cases e1
   cases h
theorem HK{t:TypeId}{x:AV}{k:AV→Prop}:zT P t x k=uA x k (zI P t) (tI P t):=by
 unfold zT uA
 simp only[sI]
 cases zI P t<;>cases tI P t<;>rfl
theorem YM{x:AV}{k:AV→Prop}{zs:List AV}{ag:Bool}{sz:Nat}:uA x k (some zs) (some (ag,sz))=(zs.length=sz∧x.width=sz∧x.cells.all AV.storable=true∧x.b9=false∧k (.pptr x)):=rfl
theorem HI{d:Nat}{t:TypeId}{x:Operand}:fP P mt ops (⟨some d,.alloc t,type,pos,after,none⟩::⟨none,.store t (.tmp d) x,tH,pos',sF,none⟩::rest) K φ st =
 zM P mt ops ⟨some d,.alloc t,type,pos,after,none⟩ ⟨none,.store t (.tmp d) x,tH,pos',sF,none⟩ rest K φ st d t (φ.eval x) (mt.contains d||n9 x d):=by
 rw[fP]
 cases h:(mt.contains d||n9 x d) with
 | true=>
  rw[aG (by simp)]
  show _=a8 P mt ops _ (fun φ' st'=>zK P mt ops _ K φ' st') φ st
  simp only[HL,HJ (K:=K) (rest:=rest) (op:=.store t (.tmp d) x) rfl]
  rfl
 | false=>
  rw[aK ⟨rfl,rfl,rfl⟩,HK]
  try rfl
theorem aEG{o s:Oper}{d:Nat}{t:TypeId}{x:AV}:zM P mt ops o s rest K φ st d t x true=a8 P mt ops [o] (zK P mt ops (s::rest) K) φ st:=rfl
theorem aEF{o s:Oper}{d:Nat}{t:TypeId}{x:AV}:zM P mt ops o s rest K φ st d t x false=uA x (zF P mt ops rest K φ d st) (zI P t) (tI P t):=rfl
def F1(P:Program)(mt:List Nat)(ops:Array Oper)(o:Oper)(os:List Oper)(rest:List Oper)(K:AF→aA→Prop)(φ φ':AF)(st:aA)(d:Nat)(t:TypeId)(x:AV):Bool→Prop
 | true=>a8 P mt ops [o] (zK P mt ops (os++rest) K) φ st
 | false=>uA x (zF P mt ops rest K φ' d st) (zI P t) (tI P t)
theorem aED{o:Oper}{os:List Oper}{φ':AF}{d:Nat}{t:TypeId}{x:AV}:F1 P mt ops o os rest K φ φ' st d t x false=uA x (zF P mt ops rest K φ' d st) (zI P t) (tI P t):=rfl
theorem aEE{o:Oper}{os:List Oper}{φ':AF}{d:Nat}{t:TypeId}{x:AV}:F1 P mt ops o os rest K φ φ' st d t x true=a8 P mt ops [o] (zK P mt ops (os++rest) K) φ st:=rfl
theorem aP3{d e:Nat}{t:TypeId}{x y:Operand}{type2:TypeId}{uN:String}{CZ:Array Edge}:fP P mt ops (⟨some d,.alloc t,type,pos,after,none⟩::⟨some e,.assign y,type2,uN,CZ,none⟩::⟨none,.store t (.tmp d) x,tH,pos',sF,none⟩::rest) K φ st =
 F1 P mt ops ⟨some d,.alloc t,type,pos,after,none⟩ [⟨some e,.assign y,type2,uN,CZ,none⟩,⟨none,.store t (.tmp d) x,tH,pos',sF,none⟩] rest K φ (φ.aC e (φ.eval y)) st d t ((φ.aC e (φ.eval y)).eval x) (mt.contains d||n9 x d||n9 y d||d == e):=by
 rw[fP]
 cases h:(mt.contains d||n9 x d||n9 y d||d == e) with
 | true=>
  rw[aG (by simp)]
  show _=a8 P mt ops _ (fun φ' st'=>zK P mt ops _ K φ' st') φ st
  simp only[HL,gF,e9,HJ (K:=K) (op:=.assign y) rfl]
  rfl
 | false=>
  rw[aK ⟨rfl,rfl,rfl⟩,HK]
  try rfl
def jB:Op→Bool
 | .assign _=>true
 | _=>false
theorem U6{t:TypeId}(h:iK op'=false)(h2:jB op'=false):fP P mt ops (⟨dst,.alloc t,type,pos,after,g⟩::⟨AH,op',tH,pos',sF,g'⟩::rest) K φ st=a8 P mt ops [⟨dst,.alloc t,type,pos,after,g⟩] (zK P mt ops (⟨AH,op',tH,pos',sF,g'⟩::rest) K) φ st:=by
 rw[fP]
 · rfl
 · intro d t ty ps af t' d' x ty' ps' af' r e1 e2
   cases e2
   cases h
 · intro d t ty ps af e y ty2 ps2 af2 t' d' x ty' ps' af' r e1 e2
   cases e2
   cases h2
theorem U7{t:TypeId}:fP P mt ops [⟨dst,.alloc t,type,pos,after,g⟩] K φ st=a8 P mt ops [⟨dst,.alloc t,type,pos,after,g⟩] (zK P mt ops [] K) φ st:=by
 rw[fP]
 · rfl
 · intro d t ty ps af t' d' x ty' ps' af' r e1 e2
   cases e2
 · intro d t ty ps af e y ty2 ps2 af2 t' d' x ty' ps' af' r e1 e2
   cases e2
theorem U8{t:TypeId}{y:Operand}:fP P mt ops [⟨dst,.alloc t,type,pos,after,g⟩,⟨AH,.assign y,tH,pos',sF,g'⟩] K φ st=a8 P mt ops [⟨dst,.alloc t,type,pos,after,g⟩] (zK P mt ops [⟨AH,.assign y,tH,pos',sF,g'⟩] K) φ st:=by
 rw[fP]
 · rfl
 · intro d t ty ps af t' d' x ty' ps' af' r e1 e2
   cases e2
 · intro d t ty ps af e y ty2 ps2 af2 t' d' x ty' ps' af' r e1 e2
   cases e2
theorem U9{t:TypeId}{y:Operand}{T6:Option Tmp}{op2:Op}{type2:TypeId}{uN:String}{CZ:Array Edge}{g2:Option (Nat×Bool)}(h:iK op2=false):fP P mt ops (⟨dst,.alloc t,type,pos,after,g⟩::⟨AH,.assign y,tH,pos',sF,g'⟩::⟨T6,op2,type2,uN,CZ,g2⟩::rest) K φ st=a8 P mt ops [⟨dst,.alloc t,type,pos,after,g⟩] (zK P mt ops (⟨AH,.assign y,tH,pos',sF,g'⟩::⟨T6,op2,type2,uN,CZ,g2⟩::rest) K) φ st:=by
 rw[fP]
 · rfl
 · intro d t ty ps af t' d' x ty' ps' af' r e1 e2
   cases e2
 · intro d t ty ps af e y ty2 ps2 af2 t' d' x ty' ps' af' r e1 e2
   cases e2
   cases h
theorem ZU{d e:Nat}:n9 (.tmp e) d=(e == d):=rfl
theorem ZT{v:Value}{d:Nat}:n9 (.const v) d=false:=rfl
theorem VW{x:Operand}:iP (.move x)=false:=rfl
theorem aCZ{x:Operand}:iK (.move x)=false:=rfl
theorem VB{x:Operand}:iP (.assign x)=false:=rfl
theorem aCH{x:Operand}:iK (.assign x)=false:=rfl
theorem VY{c x y:Operand}:iP (.pick c x y)=false:=rfl
theorem aC1{c x y:Operand}:iK (.pick c x y)=false:=rfl
theorem VD{op:BinOp}{t:TypeId}{x y:Operand}{t':TypeId}:iP (.binOp op t x y t')=false:=rfl
theorem aCI{op:BinOp}{t:TypeId}{x y:Operand}{t':TypeId}:iK (.binOp op t x y t')=false:=rfl
theorem V3{op:UnOp}{t:TypeId}{x:Operand}:iP (.unOp op t x)=false:=rfl
theorem aC3{op:UnOp}{t:TypeId}{x:Operand}:iK (.unOp op t x)=false:=rfl
theorem VX{x:Operand}:iP (.nilCheck x)=false:=rfl
theorem aC0{x:Operand}:iK (.nilCheck x)=false:=rfl
theorem VM{t f:Nat}{x:Operand}:iP (.fieldAddr t x f)=false:=rfl
theorem aCQ{t f:Nat}{x:Operand}:iK (.fieldAddr t x f)=false:=rfl
theorem VQ{t:TypeId}{x:Operand}:iP (.load t x)=false:=rfl
theorem aCT{t:TypeId}{x:Operand}:iK (.load t x)=false:=rfl
theorem V0{t:TypeId}{p x:Operand}:iP (.store t p x)=false:=rfl
theorem VL{t f:Nat}{x:Operand}:iP (.field t x f)=false:=rfl
theorem aCP{t f:Nat}{x:Operand}:iK (.field t x f)=false:=rfl
theorem VP{t:TypeId}{x i:Operand}:iP (.indexAddr t x i)=false:=rfl
theorem aCS{t:TypeId}{x i:Operand}:iK (.indexAddr t x i)=false:=rfl
theorem VO{t:TypeId}{x i:Operand}:iP (.index t x i)=false:=rfl
theorem aCR{t:TypeId}{x i:Operand}:iK (.index t x i)=false:=rfl
theorem VZ{t:TypeId}{x:Operand}{lo hi mx:Option Operand}:iP (.slice t x lo hi mx)=false:=rfl
theorem aC2{t:TypeId}{x:Operand}{lo hi mx:Option Operand}:iK (.slice t x lo hi mx)=false:=rfl
theorem VK{x:Operand}{i:Nat}:iP (.extract x i)=false:=rfl
theorem aCO{x:Operand}{i:Nat}:iK (.extract x i)=false:=rfl
theorem VG{t:TypeId}{ps:Array (Nat×Operand)}:iP (.build t ps)=false:=rfl
theorem aCK{t:TypeId}{ps:Array (Nat×Operand)}:iK (.build t ps)=false:=rfl
theorem VH{t:TypeId}{n:Nat}{ps:Array (Nat×Operand)}:iP (.buildSlice t n ps)=false:=rfl
theorem aCL{t:TypeId}{n:Nat}{ps:Array (Nat×Operand)}:iK (.buildSlice t n ps)=false:=rfl
theorem VJ{t u:TypeId}{x:Operand}:iP (.convert t u x)=false:=rfl
theorem aCN{t u:TypeId}{x:Operand}:iK (.convert t u x)=false:=rfl
theorem VR{t:TypeId}{x i:Operand}{ok:Bool}:iP (.lookup t x i ok)=false:=rfl
theorem aCU{t:TypeId}{x i:Operand}{ok:Bool}:iK (.lookup t x i ok)=false:=rfl
theorem VI{c:_}:iP (.call c)=false:=rfl
theorem aCM{c:_}:iK (.call c)=false:=rfl
theorem VF{t:TypeId}{x:Operand}:iP (.box t x)=false:=rfl
theorem aCJ{t:TypeId}{x:Operand}:iK (.box t x)=false:=rfl
theorem VT{t:_}{x:_}:iP (.makeMap t x)=false:=rfl
theorem aCW{t:_}{x:_}:iK (.makeMap t x)=false:=rfl
theorem VU{t:TypeId}{n c:Operand}:iP (.makeSlice t n c)=false:=rfl
theorem aCX{t:TypeId}{n c:Operand}:iK (.makeSlice t n c)=false:=rfl
theorem VV{t:TypeId}{m k x:Operand}:iP (.mapUpdate t m k x)=false:=rfl
theorem aCY{t:TypeId}{m k x:Operand}:iK (.mapUpdate t m k x)=false:=rfl
theorem VS{f:_}{a:_}{b:_}:iP (.makeFunc f a b)=false:=rfl
theorem aCV{f:_}{a:_}{b:_}:iK (.makeFunc f a b)=false:=rfl
theorem aCG{t:TypeId}:iK (.alloc t)=false:=rfl
theorem WV{x:Operand}:jB (.move x)=false:=rfl
theorem WX{c x y:Operand}:jB (.pick c x y)=false:=rfl
theorem WE{op:BinOp}{t:TypeId}{x y:Operand}{t':TypeId}:jB (.binOp op t x y t')=false:=rfl
theorem WZ{op:UnOp}{t:TypeId}{x:Operand}:jB (.unOp op t x)=false:=rfl
theorem WW{x:Operand}:jB (.nilCheck x)=false:=rfl
theorem WM{t f:Nat}{x:Operand}:jB (.fieldAddr t x f)=false:=rfl
theorem WP{t:TypeId}{x:Operand}:jB (.load t x)=false:=rfl
theorem WL{t f:Nat}{x:Operand}:jB (.field t x f)=false:=rfl
theorem WO{t:TypeId}{x i:Operand}:jB (.indexAddr t x i)=false:=rfl
theorem WN{t:TypeId}{x i:Operand}:jB (.index t x i)=false:=rfl
theorem WY{t:TypeId}{x:Operand}{lo hi mx:Option Operand}:jB (.slice t x lo hi mx)=false:=rfl
theorem WK{x:Operand}{i:Nat}:jB (.extract x i)=false:=rfl
theorem WG{t:TypeId}{ps:Array (Nat×Operand)}:jB (.build t ps)=false:=rfl
theorem WH{t:TypeId}{n:Nat}{ps:Array (Nat×Operand)}:jB (.buildSlice t n ps)=false:=rfl
theorem WJ{t u:TypeId}{x:Operand}:jB (.convert t u x)=false:=rfl
theorem WQ{t:TypeId}{x i:Operand}{ok:Bool}:jB (.lookup t x i ok)=false:=rfl
theorem WI{c:_}:jB (.call c)=false:=rfl
theorem WF{t:TypeId}{x:Operand}:jB (.box t x)=false:=rfl
theorem WS{t:_}{x:_}:jB (.makeMap t x)=false:=rfl
theorem WT{t:TypeId}{n c:Operand}:jB (.makeSlice t n c)=false:=rfl
theorem WU{t:TypeId}{m k x:Operand}:jB (.mapUpdate t m k x)=false:=rfl
theorem WR{f:_}{a:_}{b:_}:jB (.makeFunc f a b)=false:=rfl
theorem WD{t:TypeId}:jB (.alloc t)=false:=rfl
@[congr] theorem aZS {o:Oper} {os:List Oper} {φ' φ2 φ2':AF} {st':aA} {d:Nat} {t:TypeId} {x x':AV} {b b':Bool} (h1:φ=φ') (h0:φ2=φ2') (h2:st=st') (h3:x=x') (h4:b=b'):F1 P mt ops o os rest K φ φ2 st d t x b=F1 P mt ops o os rest K φ' φ2' st' d t x' b':=by rw[h1,h0,h2,h3,h4]
@[congr] theorem aZI {x x':AV} {k:AV→Prop} {a a':Option (List AV)} {b b':Option (Bool×Nat)} (h0:x=x') (h1:a=a') (h2:b=b'):uA x k a b=uA x' k a' b':=by rw[h0,h1,h2]
@[congr] theorem aZR {o s:Oper} {φ':AF} {st':aA} {d:Nat} {t:TypeId} {x x':AV} {b b':Bool} (h1:φ=φ') (h2:st=st') (h3:x=x') (h4:b=b'):zM P mt ops o s rest K φ st d t x b=zM P mt ops o s rest K φ' st' d t x' b':=by rw[h1,h2,h3,h4]
@[congr] theorem aZP {l:List Oper} {Q:Exit→AF→aA→Prop} {φ':AF} {st':aA} {b b':Bool} (h1:φ=φ') (h2:st=st') (h3:b=b'):E6 P mt l Q φ st b=E6 P mt l Q φ' st' b':=by rw[h1,h2,h3]
end
end Go.AW
