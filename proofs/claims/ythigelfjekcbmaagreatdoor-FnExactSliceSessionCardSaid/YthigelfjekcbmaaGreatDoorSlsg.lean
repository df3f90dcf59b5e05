/- Lists, terms and proofs as data, and as abstract values. -/
import Derived.Test.YthigelfjekcbmaaGreatDoorSlsf
set_option linter.unusedSimpArgs false
set_option linter.unusedVariables false
set_option maxRecDepth 100000
namespace Go.AW
section
variable {α:Type}
def gF(f:α→α→Bool):List α→List α→Bool
 | [],[]=>true
 | x::xs,y::ys=>f x y&&gF f xs ys
 | _,_=>false
theorem zQ(f:α→α→Bool):∀ {a b:List α},a.length≠b.length→gF f a b=false
 | [],[],h=>absurd rfl h
 | [],_::_,_=>rfl
 | _::_,[],_=>rfl
 | x::xs,y::ys,h=>by simp only[gF,zQ f (a:=xs) (b:=ys) (by simpa using h),wA]
theorem zO(f:α→α→Bool):∀ {a b:List α} (i:Nat) (x y:α),a[i]?=some x→b[i]?=some y→f x y=false→gF f a b=false
 | [],_,i,x,y,h,_,_=>by simp at h
 | _::_,[],i,x,y,_,h,_=>by simp at h
 | t::ts,t'::ts',0,x,y,h1,h2,h=>by
  simp at h1 h2;subst h1;subst h2
  simp only[gF,h,kT]
 | t::ts,t'::ts',i+1,x,y,h1,h2,h=>by
  simp only[gF,zO f (a:=ts) (b:=ts') i x y (by simpa using h1) (by simpa using h2) h,wA]
theorem zN(f:α→α→Bool):∀ {a b:List α},a.length=b.length→(∀(i:Nat) (x y:α),a[i]?=some x→b[i]?=some y→f x y=true)→gF f a b=true
 | [],[],_,_=>rfl
 | t::ts,t'::ts',h,g=>by
  simp only[gF,cL]
  exact⟨g 0 t t' rfl rfl,zN f (by simpa using h) fun i x y h1 h2=>g (i+1) x y (by simpa using h1) (by simpa using h2)⟩
theorem zP{f:α→α→Bool}:∀ {a b:List α},(∀x∈a,∀y,f x y=true↔x=y)→(gF f a b=true↔a=b)
 | [],[],_=>by simp [gF]
 | [],_::_,_=>by simp [gF]
 | _::_,[],_=>by simp [gF]
 | x::xs,y::ys,h=>by
  simp only[gF,cL,List.cons.injEq,h x (by simp) y,zP (a:=xs) (b:=ys) fun z hz=>h z (by simp [hz])]
def aJ(f:α→Nat):List α→Nat
 | []=>0
 | x::xs=>f x+aJ f xs
theorem sI(f:α→Nat):∀ {l:List α} {i:Nat} {x:α},l[i]?=some x→aJ f (l.take (i+1))=aJ f (l.take i)+f x∧aJ f (l.take (i+1))≤aJ f l
 | [],i,x,h=>by simp at h
 | y::ys,0,x,h=>by simp at h;subst h;simp [aJ]
 | y::ys,i+1,x,h=>by
  have:=sI f (l:=ys) (i:=i) (x:=x) (by simpa using h)
  simp only[uN,aJ] at this ⊢
  omega
theorem pN{f:α→Nat}:∀ {l:List α} {x:α},x∈l→f x≤aJ f l
 | y::ys,x,h=>by
  simp only[cO] at h
  simp only[aJ]
  rcases h with rfl | h
  · omega
  · have:=pN (f:=f) h;omega
theorem bG{P:Program}{t:TypeId}{ag:Bool}{w:Nat}{av:α→AV}{l:List α}{i:Nat}{x:α}(hI:eI P t=some (ag,w))(h:l[i]?=some x)(hw:(av x).width=w):dF P t (.slice (l.map av)) (.int .i64 (i:Int))=some (.pptr (av x)):=by
 simp only[dF,hI,j4,lS,h,p6,hw]
 simp
theorem aOU{av:α→AV}{w:Nat}(hw:∀x,(av x).width=w)(l:List α):iV (l.map av):=⟨w,by intro e h;simp only[cE] at h;obtain⟨t,_,rfl⟩:=h;exact hw t⟩
def i9(left:Int)(n:Nat):Int:=if left<n then -1 else left - n
theorem mQ{left:Int}{n:Nat}:i9 left n<0↔left<n:=by unfold i9;split<;>omega
theorem pP{left:Int}{n:Nat}(h:¬left<n):i9 left n=left - n:=by unfold i9;rw[aG h]
theorem HP(zs:List AV)(hz:zs≠[])(n:Nat):kP zs n=(List.replicate n zs).flatten:=by
 have hl:0<zs.length:=by cases zs with | nil=>exact absurd rfl hz | cons=>simp
 apply E6
 intro i
 unfold kP
 induction n generalizing i with
 | zero=>simp
 | succ n ih=>
  rw[List.replicate_succ,List.flatten_cons]
  rcases j6 i zs.length with h | h
  · rw[PJ h]
    have:i<(n+1)*zs.length:=by rw[sS];omega
    simp [this,Nat.mod_eq_of_lt h,h]
  · rw[PK h,←ih]
    have e1:i % zs.length=(i - zs.length) % zs.length:=by rw[Nat.mod_eq_sub_mod h]
    simp only[lS]
    by_cases h2:i - zs.length<n*zs.length
    · have h3:i<(n+1)*zs.length:=by rw[sS];omega
      simp [h2,h3,e1]
    · have h3:¬i<(n+1)*zs.length:=by rw[sS];omega
      simp [h2,h3]
end
theorem vT{zs:List AV}{x:List AV}{w:Nat}(h1:x.length=w)(h2:zs.length=w):aS zs 0 x=x:=by
 unfold aS
 simp [h1,h2]
theorem nX{x:AV}(h:x.isAgg=true):AV.agg x.cells=x:=by cases x<;>simp [AV.isAgg] at h<;>rfl
theorem oP{x:List AV}{w:Nat}(h:x.length=w):x.take w=x:=by rw[←h];exact eD
inductive Tm where
 | mk (kind n:Int) (name:ByteArray) (kids:List Tm)
mutual
def Tm.av:Tm→AV
 | .mk k n s ts=>.agg [.int .i64 k,.int .i64 n,.str s,.slice (IZ ts)]
def IZ:List Tm→List AV
 | []=>[]
 | t::ts=>t.av::IZ ts
end
theorem aH9:∀(ts:List Tm),IZ ts=ts.map Tm.av
 | []=>rfl
 | t::ts=>by simp only[IZ,bK,aH9 ts]
theorem aX(k n:Int)(s:ByteArray)(ts:List Tm):(Tm.mk k n s ts).av=.agg [.int .i64 k,.int .i64 n,.str s,.slice (ts.map Tm.av)]:=by simp only[Tm.av,aH9]
mutual
def Tm.same:Tm→Tm→Bool
 | .mk k n s ts,.mk k' n' s' ts'=>decide (k=k')&&decide (n=n')&&decide (s=s')&&I7 ts ts'
def I7:List Tm→List Tm→Bool
 | [],[]=>true
 | t::ts,t'::ts'=>t.same t'&&I7 ts ts'
 | _,_=>false
end
theorem aIH:∀(a b:List Tm),I7 a b=gF Tm.same a b
 | [],[]=>rfl
 | [],_::_=>rfl
 | _::_,[]=>rfl
 | t::ts,t'::ts'=>by simp only[I7,gF,aIH ts ts']
theorem Tm.H6(k n:Int)(s:ByteArray)(ts:List Tm)(k' n':Int)(s':ByteArray)(ts':List Tm):(Tm.mk k n s ts).same (Tm.mk k' n' s' ts')=(decide (k=k')&&decide (n=n')&&decide (s=s')&&gF Tm.same ts ts'):=by simp only[Tm.same,aIH]
mutual
def Tm.sz:Tm→Nat
 | .mk _ _ s ts=>s.size+(ts.length+JB ts)
def JB:List Tm→Nat
 | []=>0
 | t::ts=>t.sz+JB ts
end
theorem aIK:∀(a:List Tm),JB a=aJ Tm.sz a
 | []=>rfl
 | t::ts=>by simp only[JB,aJ,aIK ts]
theorem Tm.IE(k n:Int)(s:ByteArray)(ts:List Tm):(Tm.mk k n s ts).sz=s.size+(ts.length+aJ Tm.sz ts):=by simp only[Tm.sz,aIK]
theorem Tm.xN:∀(a b:Tm),a.same b=true↔a=b
 | .mk k n s ts,.mk k' n' s' ts'=>by
  have:=zP (f:=Tm.same) (a:=ts) (b:=ts') fun x hx y=>Tm.xN x y
  simp only[Tm.H6,cL,bM,Tm.mk.injEq,and_assoc,this]
termination_by a=>SizeOf.sizeOf a
decreasing_by have:=List.sizeOf_lt_of_mem hx;simp only[Tm.mk.sizeOf_spec];omega
theorem b7(t:Tm):t.av.isAgg=true:=by cases t;rfl
theorem aO(t:Tm):t.av.width=4:=by cases t;rfl
theorem Tm.eV(t:Tm):t.av.cells.length=4:=by cases t;rfl
theorem Tm.dY(t:Tm):t.av.cells.all AV.storable=true:=by cases t;rfl
theorem Tm.eG(t:Tm):t.av.cA=false:=by cases t;rfl
theorem aB9{t:Tm}:t.av.isAgg=true:=b7 t
theorem aCI{t:Tm}:t.av.width=4:=aO t
theorem aCG{t:Tm}:t.av.cells.all AV.storable=true:=Tm.dY t
theorem aCC{t:Tm}:t.av.cA=false:=Tm.eG t
theorem aCD{t:Tm}:t.av.cells.length=4:=Tm.eV t
theorem aCH{t:Tm}:t.av.cells.take 4=t.av.cells:=oP (Tm.eV t)
theorem aCA{t:Tm}:AV.agg t.av.cells=t.av:=nX (b7 t)
theorem aCE{t:Tm}{a b c d:AV}:aS [a,b,c,d] 0 t.av.cells=t.av.cells:=vT (Tm.eV t) rfl
theorem aCF{t u:Tm}:aS u.av.cells 0 t.av.cells=t.av.cells:=vT (Tm.eV t) (Tm.eV u)
theorem aB1{st:aA}{b:Nat}{o o':AO}:(st.aC b o).aC b o'=st.aC b o':=eH st b o o'
theorem aB0{st:aA}{b:Nat}{o:AO}:(st.aC b o) b=some o:=aA.aL st b o
theorem aBZ{st:aA}{b x:Nat}{o:AO}(h:x≠b):(st.aC b o) x=st x:=aA.aF st o h
theorem aCB{t:Tm}:t.av.cells.drop 4= []:=JW (by rw[Tm.eV];exact cT _)
inductive Pf where
 | mk (goal:Tm) (clause:Int) (kids:List Pf)
def sC(k:Nat)(acc:List UInt8):List UInt8:=if k=0 then acc else sC (k / 10) (UInt8.ofNat (48+k % 10)::acc)
termination_by k
decreasing_by omega
theorem aS4(acc:List UInt8):sC 0 acc=acc:=by rw[sC];simp
theorem aS3{k:Nat}(h:0<k)(acc:List UInt8):sC k acc=sC (k / 10) (UInt8.ofNat (48+k % 10)::acc):=by rw[sC,aG (by omega)]
def mt(k:Int):ByteArray:=if k≤0 then⟨#[109,48]⟩ else⟨(109::sC k.toNat []).toArray⟩
theorem aKO(a b:List UInt8):(⟨a.toArray⟩:ByteArray)++⟨b.toArray⟩=⟨(a++b).toArray⟩:=by
 apply ByteArray.ext
 rw[ByteArray.data_append]
 simp
mutual
def Tm.cP:Tm→Nat
 | .mk _ _ _ ts=>3+xU ts
def xU:List Tm→Nat
 | []=>0
 | t::ts=>t.cP+xU ts
end
mutual
def Tm.mark:Tm→Int→Tm
 | .mk _ _ _ ts,j=>.mk j (j+1) (mt (j+1+1)) (I4 ts (j+1+1+1))
def I4:List Tm→Int→List Tm
 | [],_=>[]
 | t::ts,j=>t.mark j::I4 ts (j+t.cP)
end
def dU{α:Type}(mk:α→Int→α)(n:α→Nat):List α→Int→List α
 | [],_=>[]
 | t::ts,j=>mk t j::dU mk n ts (j+n t)
theorem aIE:∀(ts:List Tm) (j:Int),I4 ts j=dU Tm.mark Tm.cP ts j
 | [],_=>rfl
 | t::ts,j=>by simp only[I4,dU,aIE ts]
theorem OT:∀(ts:List Tm),xU ts=aJ Tm.cP ts
 | []=>rfl
 | t::ts=>by simp only[xU,aJ,OT ts]
theorem Tm.aFP(k n:Int)(s:ByteArray)(ts:List Tm)(j:Int):(Tm.mk k n s ts).mark j=.mk j (j+1) (mt (j+1+1)) (dU Tm.mark Tm.cP ts (j+1+1+1)):=by simp only[Tm.mark,aIE]
theorem Tm.DU(k n:Int)(s:ByteArray)(ts:List Tm):(Tm.mk k n s ts).cP=3+aJ Tm.cP ts:=by simp only[Tm.cP,OT]
theorem vP{α:Type}(mk:α→Int→α)(n:α→Nat):∀(l:List α) (j:Int),(dU mk n l j).length=l.length
 | [],_=>rfl
 | _::l,j=>by simp [dU,vP mk n l]
theorem AZ{st:aA}{k n:Int}{s:ByteArray}{ts:List Tm}{o:AV}{bs:List Nat} :
 aQ st (Tm.mk k n s ts).av o bs↔∃q,o=.agg [.int .i64 k,.int .i64 n,.str s,q]∧aQ st (.slice (ts.map Tm.av)) q bs:=by
 rw[aX]
 generalize AV.slice (ts.map Tm.av)=x
 simp only[aQ,a7]
 constructor
 · rintro⟨os,rfl,o1,os1,b1,b1',rfl,rfl,⟨rfl,rfl⟩,o2,os2,b2,b2',rfl,rfl,⟨rfl,rfl⟩,o3,os3,b3,b3',rfl,rfl,⟨rfl,rfl⟩,o4,os4,b4,b4',rfl,rfl,h,rfl,rfl⟩
   exact⟨o4,rfl,by simpa using h⟩
 · rintro⟨q,rfl,h⟩
   exact⟨_,rfl,_,_,[],bs,rfl,rfl,⟨rfl,rfl⟩,_,_,[],bs,rfl,rfl,⟨rfl,rfl⟩,_,_,[],bs,rfl,rfl,⟨rfl,rfl⟩,q,[],bs,[],rfl,by simp,h,rfl,rfl⟩
theorem aQ.len{st:aA}{es:List AV}{o:AV}{bs:List Nat}(x:aQ st (.slice es) o bs):(o.fits→es.length≤9223372036854775807)∧∀(P:Program) (t e:TypeId),P.underlying t=some (.slice e)→iL P t o=some (.int .i64 (es.length:Int)):=by
 simp only[aQ] at x
 rcases x with ⟨rfl,rfl,_⟩ | ⟨b,bs',os,w,rfl,_⟩
 · exact⟨fun _=>by simp,fun P t e h=>by simp [iL,h]⟩
 · exact⟨fun h=>by simpa [AV.fits] using h,fun P t e h=>by simp [iL,h]⟩
def E8(st:aA)(a:AV)(o:AV)(bs:List Nat)(j:Int)(r:AV)(st':aA):Prop:=r=.int .i64 j∧aQ st' a o bs∧∀q,q∉bs→st' q=st q
theorem MW{α:Type}{av:α→AV}{done:List α}{x:α}{rest:List α}{x':α}:((done++x::rest).map av).set done.length (av x')=((done++ [x'])++rest).map av:=by
 simp only[pZ,bK]
 rw[List.set_append_right _ _ (by simp)]
 simp
theorem MV{α:Type}{av:α→AV}{done:List α}{x:α}{rest:List α}:((done++x::rest).map av)[done.length]?=some (av x):=by
 simp
abbrev iv (n:Int):AV:=.int .i64 n
theorem aFF(l:List Int):∀e∈l.map iv,e.width=1:=by intro e h;simp only[cE] at h;obtain⟨t,_,rfl⟩:=h;rfl
def jW(s:ByteArray):Nat:=
 cond (decide (s=⟨#[61]⟩)||decide (s=⟨#[92,61]⟩)||decide (s=⟨#[61,61]⟩)||decide (s=⟨#[60]⟩)||decide (s=⟨#[62]⟩)||decide (s=⟨#[61,60]⟩)||decide (s=⟨#[62,61]⟩)||decide (s=⟨#[61,58,61]⟩)||decide (s=⟨#[105,115]⟩)) 3 (cond (decide (s=⟨#[43]⟩)||decide (s=⟨#[45]⟩)) 2 (cond (decide (s=⟨#[42]⟩)||decide (s=⟨#[47,47]⟩)||decide (s=⟨#[109,111,100]⟩)) 1 0))
def isBuiltin(s:ByteArray)(n:Int):Bool:=
 cond (decide (s=⟨#[61]⟩)||decide (s=⟨#[92,61]⟩)||decide (s=⟨#[61,61]⟩)||decide (s=⟨#[60]⟩)||decide (s=⟨#[62]⟩)||decide (s=⟨#[61,60]⟩)||decide (s=⟨#[62,61]⟩)||decide (s=⟨#[61,58,61]⟩)||decide (s=⟨#[105,115]⟩)) (decide (n=2)) (cond (decide (s=⟨#[116,114,117,101]⟩)||decide (s=⟨#[102,97,105,108]⟩)) (decide (n=0)) (cond (decide (s=⟨#[118,97,114]⟩)||decide (s=⟨#[110,111,110,118,97,114]⟩)||decide (s=⟨#[97,116,111,109]⟩)||decide (s=⟨#[105,110,116]⟩)) (decide (n=1)) (cond (decide (s=⟨#[97,114,103]⟩)) (decide (n=3)) false)))
abbrev sb (s:ByteArray):List UInt8:=s.data.toList
theorem D8(s:ByteArray):(sb s).length=s.size:=by simp only[sb,Array.length_toList];rfl
theorem aFD{P:Program}{t:TypeId}{s:ByteArray}{i:Nat}{c:UInt8}(hu:P.underlying t=some .string)(h:(sb s)[i]?=some c):yS P t (.str s) (.int .i64 (i:Int))=some (.int .u8 (c.toNat:Int)):=by
 have hi:i<s.size:=by rw[←D8];exact(eS.1 h).1
 have:s[i]?=some c:=by
  rw[getElem?_pos s i hi]
  obtain⟨h1,h2⟩:=eS.1 h
  rw[←h2]
  try rfl
 simp only[yS,hu,j4,this]
 simp
def letter(c:UInt8):Bool:=decide (97≤c.toNat)&&decide (c.toNat≤122)
def sB(s:ByteArray):Bool:=(sb s).all letter&&(decide ((1:Int)≤(s.size:Int))&&decide ((s.size:Int)≤6))
theorem sZ{α:Type}{p:α→Bool}{l:List α}{i:Nat}{x:α}(h:l[i]?=some x)(hp:p x=false):l.all p=false:=by
 rw[List.all_eq_false]
 exact⟨x,cI h,by simp [hp]⟩
theorem FK{α:Type}{p:α→Bool}{l:List α}(h:∀(i:Nat) x,l[i]?=some x→p x=true):l.all p=true:=by
 rw[eE]
 intro x hx
 obtain⟨i,hi⟩:=BJ hx
 exact h i x hi
end Go.AW
