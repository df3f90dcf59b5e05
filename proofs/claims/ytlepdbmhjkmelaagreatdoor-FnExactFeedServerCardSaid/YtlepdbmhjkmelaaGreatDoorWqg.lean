/- Lists, terms and proofs as data, and as abstract values. -/
import Derived.Test.YtlepdbmhjkmelaaGreatDoorWqf
set_option linter.unusedSimpArgs false
set_option linter.unusedVariables false
set_option maxRecDepth 100000
namespace Go.AW
section
variable {α:Type}
def jL(f:α→α→Bool):List α→List α→Bool
 | [],[]=>true
 | x::xs,y::ys=>f x y&&jL f xs ys
 | _,_=>false
theorem DI(f:α→α→Bool):∀ {a b:List α},a.length≠b.length→jL f a b=false
 | [],[],h=>absurd rfl h
 | [],_::_,_=>rfl
 | _::_,[],_=>rfl
 | x::xs,y::ys,h=>by simp only[jL,DI f (a:=xs) (b:=ys) (by simpa using h),xW]
theorem DH(f:α→α→Bool):∀ {a b:List α} (i:Nat) (x y:α),a[i]?=some x→b[i]?=some y→f x y=false→jL f a b=false
 | [],_,i,x,y,h,_,_=>by simp at h
 | _::_,[],i,x,y,_,h,_=>by simp at h
 | t::ts,t'::ts',0,x,y,h1,h2,h=>by
  simp at h1 h2;subst h1;subst h2
  simp only[jL,h,jT]
 | t::ts,t'::ts',i+1,x,y,h1,h2,h=>by
  simp only[jL,DH f (a:=ts) (b:=ts') i x y (by simpa using h1) (by simpa using h2) h,xW]
theorem DG(f:α→α→Bool):∀ {a b:List α},a.length=b.length→(∀(i:Nat) (x y:α),a[i]?=some x→b[i]?=some y→f x y=true)→jL f a b=true
 | [],[],_,_=>rfl
 | t::ts,t'::ts',h,g=>by
  simp only[jL,cY]
  exact⟨g 0 t t' rfl rfl,DG f (by simpa using h) fun i x y h1 h2=>g (i+1) x y (by simpa using h1) (by simpa using h2)⟩
theorem KS{f:α→α→Bool}:∀ {a b:List α},(∀x∈a,∀y,f x y=true↔x=y)→(jL f a b=true↔a=b)
 | [],[],_=>by simp [jL]
 | [],_::_,_=>by simp [jL]
 | _::_,[],_=>by simp [jL]
 | x::xs,y::ys,h=>by
  simp only[jL,cY,List.cons.injEq,h x (by simp) y,KS (a:=xs) (b:=ys) fun z hz=>h z (by simp [hz])]
def aH(f:α→Nat):List α→Nat
 | []=>0
 | x::xs=>f x+aH f xs
theorem rK(f:α→Nat):∀ {l:List α} {i:Nat} {x:α},l[i]?=some x→aH f (l.take (i+1))=aH f (l.take i)+f x∧aH f (l.take (i+1))≤aH f l
 | [],i,x,h=>by simp at h
 | y::ys,0,x,h=>by simp at h;subst h;simp [aH]
 | y::ys,i+1,x,h=>by
  have:=rK f (l:=ys) (i:=i) (x:=x) (by simpa using h)
  simp only[x8,aH] at this ⊢
  omega
theorem pC{f:α→Nat}:∀ {l:List α} {x:α},x∈l→f x≤aH f l
 | y::ys,x,h=>by
  simp only[cG] at h
  simp only[aH]
  rcases h with rfl | h
  · omega
  · have:=pC (f:=f) h;omega
theorem bH{P:Program}{t:TypeId}{ag:Bool}{w:Nat}{av:α→AV}{l:List α}{i:Nat}{x:α}(hI:eI P t=some (ag,w))(h:l[i]?=some x)(hw:(av x).width=w):dP P t (.slice (l.map av)) (.int .i64 (i:Int))=some (.pptr (av x)):=by
 simp only[dP,hI,kB,kD,h,qM,hw]
 simp
theorem aYQ{av:α→AV}{w:Nat}(hw:∀x,(av x).width=w)(l:List α):jU (l.map av):=⟨w,by intro e h;simp only[cF] at h;obtain⟨t,_,rfl⟩:=h;exact hw t⟩
def eY(left:Int)(n:Nat):Int:=if left<n then -1 else left - n
theorem gV{left:Int}{n:Nat}:eY left n<0↔left<n:=by unfold eY;split<;>omega
theorem jJ{left:Int}{n:Nat}(h:¬left<n):eY left n=left - n:=by unfold eY;rw[aK h]
theorem BF(zs:List AV)(hz:zs≠[])(n:Nat):jH zs n=(List.replicate n zs).flatten:=by
 have hl:0<zs.length:=by cases zs with | nil=>exact absurd rfl hz | cons=>simp
 apply JC
 intro i
 unfold jH
 induction n generalizing i with
 | zero=>simp
 | succ n ih=>
  rw[FT,JD]
  rcases mB i zs.length with h | h
  · rw[VY h]
    have:i<(n+1)*zs.length:=by rw[v8];omega
    simp [this,Nat.mod_eq_of_lt h,h]
  · rw[VZ h,←ih]
    have e1:i % zs.length=(i - zs.length) % zs.length:=by rw[Nat.mod_eq_sub_mod h]
    simp only[kD]
    by_cases h2:i - zs.length<n*zs.length
    · have h3:i<(n+1)*zs.length:=by rw[v8];omega
      simp [h2,h3,e1]
    · have h3:¬i<(n+1)*zs.length:=by rw[v8];omega
      simp [h2,h3]
end
theorem y7{zs:List AV}{x:List AV}{w:Nat}(h1:x.length=w)(h2:zs.length=w):aM zs 0 x=x:=by
 unfold aM
 simp [h1,h2]
theorem qS{x:AV}(h:x.isAgg=true):AV.agg x.cells=x:=by cases x<;>simp [AV.isAgg] at h<;>rfl
theorem rM{x:List AV}{w:Nat}(h:x.length=w):x.take w=x:=by rw[←h];exact eD
inductive Tm where
 | mk (kind n:Int) (name:ByteArray) (kids:List Tm)
mutual
def Tm.av:Tm→AV
 | .mk k n s ts=>.agg [.int .i64 k,.int .i64 n,.str s,.slice (NU ts)]
def NU:List Tm→List AV
 | []=>[]
 | t::ts=>t.av::NU ts
end
theorem aP2:∀(ts:List Tm),NU ts=ts.map Tm.av
 | []=>rfl
 | t::ts=>by simp only[NU,bR,aP2 ts]
theorem bD(k n:Int)(s:ByteArray)(ts:List Tm):(Tm.mk k n s ts).av=.agg [.int .i64 k,.int .i64 n,.str s,.slice (ts.map Tm.av)]:=by simp only[Tm.av,aP2]
mutual
def Tm.same:Tm→Tm→Bool
 | .mk k n s ts,.mk k' n' s' ts'=>decide (k=k')&&decide (n=n')&&decide (s=s')&&N2 ts ts'
def N2:List Tm→List Tm→Bool
 | [],[]=>true
 | t::ts,t'::ts'=>t.same t'&&N2 ts ts'
 | _,_=>false
end
theorem aQA:∀(a b:List Tm),N2 a b=jL Tm.same a b
 | [],[]=>rfl
 | [],_::_=>rfl
 | _::_,[]=>rfl
 | t::ts,t'::ts'=>by simp only[N2,jL,aQA ts ts']
theorem Tm.MM(k n:Int)(s:ByteArray)(ts:List Tm)(k' n':Int)(s':ByteArray)(ts':List Tm):(Tm.mk k n s ts).same (Tm.mk k' n' s' ts')=(decide (k=k')&&decide (n=n')&&decide (s=s')&&jL Tm.same ts ts'):=by simp only[Tm.same,aQA]
mutual
def Tm.sz:Tm→Nat
 | .mk _ _ s ts=>s.size+(ts.length+N6 ts)
def N6:List Tm→Nat
 | []=>0
 | t::ts=>t.sz+N6 ts
end
theorem aQD:∀(a:List Tm),N6 a=aH Tm.sz a
 | []=>rfl
 | t::ts=>by simp only[N6,aH,aQD ts]
theorem Tm.MT(k n:Int)(s:ByteArray)(ts:List Tm):(Tm.mk k n s ts).sz=s.size+(ts.length+aH Tm.sz ts):=by simp only[Tm.sz,aQD]
theorem Tm.ET:∀(a b:Tm),a.same b=true↔a=b
 | .mk k n s ts,.mk k' n' s' ts'=>by
  have:=KS (f:=Tm.same) (a:=ts) (b:=ts') fun x hx y=>Tm.ET x y
  simp only[Tm.MM,cY,bM,Tm.mk.injEq,and_assoc,this]
termination_by a=>SizeOf.sizeOf a
decreasing_by have:=List.sizeOf_lt_of_mem hx;simp only[Tm.mk.sizeOf_spec];omega
theorem cD(t:Tm):t.av.isAgg=true:=by cases t;rfl
theorem aT(t:Tm):t.av.width=4:=by cases t;rfl
theorem Tm.gB(t:Tm):t.av.cells.length=4:=by cases t;rfl
theorem Tm.e9(t:Tm):t.av.cells.all AV.storable=true:=by cases t;rfl
theorem Tm.fP(t:Tm):t.av.bV=false:=by cases t;rfl
theorem aI5{t:Tm}:t.av.isAgg=true:=cD t
theorem aJE{t:Tm}:t.av.width=4:=aT t
theorem aJC{t:Tm}:t.av.cells.all AV.storable=true:=Tm.e9 t
theorem aI8{t:Tm}:t.av.bV=false:=Tm.fP t
theorem aI9{t:Tm}:t.av.cells.length=4:=Tm.gB t
theorem aJD{t:Tm}:t.av.cells.take 4=t.av.cells:=rM (Tm.gB t)
theorem aI6{t:Tm}:AV.agg t.av.cells=t.av:=qS (cD t)
theorem aJA{t:Tm}{a b c d:AV}:aM [a,b,c,d] 0 t.av.cells=t.av.cells:=y7 (Tm.gB t) rfl
theorem aJB{t u:Tm}:aM u.av.cells 0 t.av.cells=t.av.cells:=y7 (Tm.gB t) (Tm.gB u)
theorem aIX{st:aA}{b:Nat}{o o':AO}:(st.aC b o).aC b o'=st.aC b o':=dR st b o o'
theorem aIW{st:aA}{b:Nat}{o:AO}:(st.aC b o) b=some o:=aA.aJ st b o
theorem aIV{st:aA}{b x:Nat}{o:AO}(h:x≠b):(st.aC b o) x=st x:=aA.aF st o h
theorem aI7{t:Tm}:t.av.cells.drop 4= []:=List.drop_of_length_le (by rw[Tm.gB];exact cZ _)
inductive Pf where
 | mk (goal:Tm) (clause:Int) (kids:List Pf)
mutual
def Pf.av:Pf→AV
 | .mk (.mk k n s ts) c ps=>.agg [.int .i64 k,.int .i64 n,.str s,.slice (ts.map Tm.av),.int .i64 c,.slice (aM6 ps)]
def aM6:List Pf→List AV
 | []=>[]
 | t::ts=>t.av::aM6 ts
end
mutual
def Pf.same:Pf→Pf→Bool
 | .mk g c ps,.mk g' c' ps'=>g.same g'&&decide (c=c')&&aM9 ps ps'
def aM9:List Pf→List Pf→Bool
 | [],[]=>true
 | t::ts,t'::ts'=>t.same t'&&aM9 ts ts'
 | _,_=>false
end
mutual
def Pf.sz:Pf→Nat
 | .mk g _ ps=>g.sz+(ps.length+aNA ps)
def aNA:List Pf→Nat
 | []=>0
 | t::ts=>t.sz+aNA ts
end
def vO(k:Nat)(acc:List UInt8):List UInt8:=if k=0 then acc else vO (k / 10) (UInt8.ofNat (48+k % 10)::acc)
termination_by k
decreasing_by omega
theorem a52(acc:List UInt8):vO 0 acc=acc:=by rw[vO];simp
theorem a50{k:Nat}(h:0<k)(acc:List UInt8):vO k acc=vO (k / 10) (UInt8.ofNat (48+k % 10)::acc):=by rw[vO,aK (by omega)]
def mt(k:Int):ByteArray:=if k≤0 then⟨#[109,48]⟩ else⟨(109::vO k.toNat []).toArray⟩
theorem aS6(a b:List UInt8):(⟨a.toArray⟩:ByteArray)++⟨b.toArray⟩=⟨(a++b).toArray⟩:=by
 apply ByteArray.ext
 rw[OM]
 simp
mutual
def Tm.dB:Tm→Nat
 | .mk _ _ _ ts=>3+BZ ts
def BZ:List Tm→Nat
 | []=>0
 | t::ts=>t.dB+BZ ts
end
mutual
def Tm.mark:Tm→Int→Tm
 | .mk _ _ _ ts,j=>.mk j (j+1) (mt (j+1+1)) (NZ ts (j+1+1+1))
def NZ:List Tm→Int→List Tm
 | [],_=>[]
 | t::ts,j=>t.mark j::NZ ts (j+t.dB)
end
def dX{α:Type}(mk:α→Int→α)(n:α→Nat):List α→Int→List α
 | [],_=>[]
 | t::ts,j=>mk t j::dX mk n ts (j+n t)
theorem aP7:∀(ts:List Tm) (j:Int),NZ ts j=dX Tm.mark Tm.dB ts j
 | [],_=>rfl
 | t::ts,j=>by simp only[NZ,dX,aP7 ts]
theorem VA:∀(ts:List Tm),BZ ts=aH Tm.dB ts
 | []=>rfl
 | t::ts=>by simp only[BZ,aH,VA ts]
theorem Tm.aMD(k n:Int)(s:ByteArray)(ts:List Tm)(j:Int):(Tm.mk k n s ts).mark j=.mk j (j+1) (mt (j+1+1)) (dX Tm.mark Tm.dB ts (j+1+1+1)):=by simp only[Tm.mark,aP7]
theorem Tm.L5(k n:Int)(s:ByteArray)(ts:List Tm):(Tm.mk k n s ts).dB=3+aH Tm.dB ts:=by simp only[Tm.dB,VA]
theorem xC{α:Type}(mk:α→Int→α)(n:α→Nat):∀(l:List α) (j:Int),(dX mk n l j).length=l.length
 | [],_=>rfl
 | _::l,j=>by simp [dX,xC mk n l]
mutual
def Pf.dB:Pf→Nat
 | .mk g _ ps=>g.dB+1+aM8 ps
def aM8:List Pf→Nat
 | []=>0
 | p::ps=>p.dB+aM8 ps
end
mutual
def Pf.mark:Pf→Int→Pf
 | .mk g _ ps,j=>.mk (g.mark j) (j+g.dB) (aM7 ps (j+g.dB+1))
def aM7:List Pf→Int→List Pf
 | [],_=>[]
 | p::ps,j=>p.mark j::aM7 ps (j+p.dB)
end
theorem aM3{st:aA}{k:IntKind}{n:Int}{o:AV}{bs:List Nat}:aS st (.int k n) o bs↔o=.int k n∧bs= []:=by simp only[aS]
theorem EJ{st:aA}{k n:Int}{s:ByteArray}{ts:List Tm}{o:AV}{bs:List Nat} :
 aS st (Tm.mk k n s ts).av o bs↔∃q,o=.agg [.int .i64 k,.int .i64 n,.str s,q]∧aS st (.slice (ts.map Tm.av)) q bs:=by
 rw[bD]
 generalize AV.slice (ts.map Tm.av)=x
 simp only[aS,aV]
 constructor
 · rintro⟨os,rfl,o1,os1,b1,b1',rfl,rfl,⟨rfl,rfl⟩,o2,os2,b2,b2',rfl,rfl,⟨rfl,rfl⟩,o3,os3,b3,b3',rfl,rfl,⟨rfl,rfl⟩,o4,os4,b4,b4',rfl,rfl,h,rfl,rfl⟩
   exact⟨o4,rfl,by simpa using h⟩
 · rintro⟨q,rfl,h⟩
   exact⟨_,rfl,_,_,[],bs,rfl,rfl,⟨rfl,rfl⟩,_,_,[],bs,rfl,rfl,⟨rfl,rfl⟩,_,_,[],bs,rfl,rfl,⟨rfl,rfl⟩,q,[],bs,[],rfl,by simp,h,rfl,rfl⟩
theorem aS.len{st:aA}{es:List AV}{o:AV}{bs:List Nat}(x:aS st (.slice es) o bs):(o.fits→es.length≤9223372036854775807)∧∀(P:Program) (t e:TypeId),P.underlying t=some (.slice e)→mP P t o=some (.int .i64 (es.length:Int)):=by
 simp only[aS] at x
 rcases x with ⟨rfl,rfl,_⟩ | ⟨b,bs',os,w,rfl,_⟩
 · exact⟨fun _=>by simp,fun P t e h=>by simp [mP,h]⟩
 · exact⟨fun h=>by simpa [AV.fits] using h,fun P t e h=>by simp [mP,h]⟩
def CE(st:aA)(a:AV)(o:AV)(bs:List Nat)(j:Int)(r:AV)(st':aA):Prop:=r=.int .i64 j∧aS st' a o bs∧∀q,q∉bs→st' q=st q
theorem HU{α:Type}{av:α→AV}{done:List α}{x:α}{rest:List α}{x':α}:((done++x::rest).map av).set done.length (av x')=((done++ [x'])++rest).map av:=by
 simp only[oN,bR]
 rw[List.set_append_right _ _ (by simp)]
 simp
theorem HT{α:Type}{av:α→AV}{done:List α}{x:α}{rest:List α}:((done++x::rest).map av)[done.length]?=some (av x):=by
 simp
abbrev iv (n:Int):AV:=.int .i64 n
theorem aLZ(l:List Int):∀e∈l.map iv,e.width=1:=by intro e h;simp only[cF] at h;obtain⟨t,_,rfl⟩:=h;rfl
def jP(s:ByteArray):Nat:=
 cond (decide (s=⟨#[61]⟩)||decide (s=⟨#[92,61]⟩)||decide (s=⟨#[61,61]⟩)||decide (s=⟨#[60]⟩)||decide (s=⟨#[62]⟩)||decide (s=⟨#[61,60]⟩)||decide (s=⟨#[62,61]⟩)||decide (s=⟨#[61,58,61]⟩)||decide (s=⟨#[105,115]⟩)) 3 (cond (decide (s=⟨#[43]⟩)||decide (s=⟨#[45]⟩)) 2 (cond (decide (s=⟨#[42]⟩)||decide (s=⟨#[47,47]⟩)||decide (s=⟨#[109,111,100]⟩)) 1 0))
def isBuiltin(s:ByteArray)(n:Int):Bool:=
 cond (decide (s=⟨#[61]⟩)||decide (s=⟨#[92,61]⟩)||decide (s=⟨#[61,61]⟩)||decide (s=⟨#[60]⟩)||decide (s=⟨#[62]⟩)||decide (s=⟨#[61,60]⟩)||decide (s=⟨#[62,61]⟩)||decide (s=⟨#[61,58,61]⟩)||decide (s=⟨#[105,115]⟩)) (decide (n=2)) (cond (decide (s=⟨#[116,114,117,101]⟩)||decide (s=⟨#[102,97,105,108]⟩)) (decide (n=0)) (cond (decide (s=⟨#[118,97,114]⟩)||decide (s=⟨#[110,111,110,118,97,114]⟩)||decide (s=⟨#[97,116,111,109]⟩)||decide (s=⟨#[105,110,116]⟩)) (decide (n=1)) (cond (decide (s=⟨#[97,114,103]⟩)) (decide (n=3)) false)))
abbrev sb (s:ByteArray):List UInt8:=s.data.toList
theorem BP(s:ByteArray):(sb s).length=s.size:=by simp only[sb,Array.length_toList];rfl
theorem LX{P:Program}{t:TypeId}{s:ByteArray}{i:Nat}{c:UInt8}(hu:P.underlying t=some .string)(h:(sb s)[i]?=some c):CN P t (.str s) (.int .i64 (i:Int))=some (.int .u8 (c.toNat:Int)):=by
 have hi:i<s.size:=by rw[←BP];exact(fC.1 h).1
 have:s[i]?=some c:=by
  rw[getElem?_pos s i hi]
  obtain⟨h1,h2⟩:=fC.1 h
  rw[←h2]
  try rfl
 simp only[CN,hu,kB,this]
 simp
def letter(c:UInt8):Bool:=decide (97≤c.toNat)&&decide (c.toNat≤122)
def uG(s:ByteArray):Bool:=(sb s).all letter&&(decide ((1:Int)≤(s.size:Int))&&decide ((s.size:Int)≤6))
theorem tN{α:Type}{p:α→Bool}{l:List α}{i:Nat}{x:α}(h:l[i]?=some x)(hp:p x=false):l.all p=false:=by
 rw[List.all_eq_false]
 exact⟨x,cH h,by simp [hp]⟩
theorem JW{α:Type}{p:α→Bool}{l:List α}(h:∀(i:Nat) x,l[i]?=some x→p x=true):l.all p=true:=by
 rw[fU]
 intro x hx
 obtain⟨i,hi⟩:=CA hx
 exact h i x hi
end Go.AW
