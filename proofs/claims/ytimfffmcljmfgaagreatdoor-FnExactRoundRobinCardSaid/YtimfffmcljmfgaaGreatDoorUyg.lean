/- Lists, terms and proofs as data, and as abstract values. -/
import Derived.Test.YtimfffmcljmfgaaGreatDoorUyf
set_option linter.unusedSimpArgs false
set_option linter.unusedVariables false
set_option maxRecDepth 100000
namespace Go.AW
section
variable {α:Type}
def g7(f:α→α→Bool):List α→List α→Bool
 | [],[]=>true
 | x::xs,y::ys=>f x y&&g7 f xs ys
 | _,_=>false
theorem B8(f:α→α→Bool):∀ {a b:List α},a.length≠b.length→g7 f a b=false
 | [],[],h=>absurd rfl h
 | [],_::_,_=>rfl
 | _::_,[],_=>rfl
 | x::xs,y::ys,h=>by simp only[g7,B8 f (a:=xs) (b:=ys) (by simpa using h),x8]
theorem B6(f:α→α→Bool):∀ {a b:List α} (i:Nat) (x y:α),a[i]?=some x→b[i]?=some y→f x y=false→g7 f a b=false
 | [],_,i,x,y,h,_,_=>by simp at h
 | _::_,[],i,x,y,_,h,_=>by simp at h
 | t::ts,t'::ts',0,x,y,h1,h2,h=>by
  simp at h1 h2;subst h1;subst h2
  simp only[g7,h,mB]
 | t::ts,t'::ts',i+1,x,y,h1,h2,h=>by
  simp only[g7,B6 f (a:=ts) (b:=ts') i x y (by simpa using h1) (by simpa using h2) h,x8]
theorem B5(f:α→α→Bool):∀ {a b:List α},a.length=b.length→(∀(i:Nat) (x y:α),a[i]?=some x→b[i]?=some y→f x y=true)→g7 f a b=true
 | [],[],_,_=>rfl
 | t::ts,t'::ts',h,g=>by
  simp only[g7,cT]
  exact⟨g 0 t t' rfl rfl,B5 f (by simpa using h) fun i x y h1 h2=>g (i+1) x y (by simpa using h1) (by simpa using h2)⟩
theorem B7{f:α→α→Bool}:∀ {a b:List α},(∀x∈a,∀y,f x y=true↔x=y)→(g7 f a b=true↔a=b)
 | [],[],_=>by simp [g7]
 | [],_::_,_=>by simp [g7]
 | _::_,[],_=>by simp [g7]
 | x::xs,y::ys,h=>by
  simp only[g7,cT,List.cons.injEq,h x (by simp) y,B7 (a:=xs) (b:=ys) fun z hz=>h z (by simp [hz])]
def aL(f:α→Nat):List α→Nat
 | []=>0
 | x::xs=>f x+aL f xs
theorem uD(f:α→Nat):∀ {l:List α} {i:Nat} {x:α},l[i]?=some x→aL f (l.take (i+1))=aL f (l.take i)+f x∧aL f (l.take (i+1))≤aL f l
 | [],i,x,h=>by simp at h
 | y::ys,0,x,h=>by simp at h;subst h;simp [aL]
 | y::ys,i+1,x,h=>by
  have:=uD f (l:=ys) (i:=i) (x:=x) (by simpa using h)
  simp only[wH,aL] at this ⊢
  omega
theorem qF{f:α→Nat}:∀ {l:List α} {x:α},x∈l→f x≤aL f l
 | y::ys,x,h=>by
  simp only[cQ] at h
  simp only[aL]
  rcases h with rfl | h
  · omega
  · have:=qF (f:=f) h;omega
theorem bH{P:Program}{t:TypeId}{ag:Bool}{w:Nat}{av:α→AV}{l:List α}{i:Nat}{x:α}(hI:eI P t=some (ag,w))(h:l[i]?=some x)(hw:(av x).width=w):dM P t (.slice (l.map av)) (.int .i64 (i:Int))=some (.pptr (av x)):=by
 simp only[dM,hI,jV,kS,h,oB,hw]
 simp
theorem aUS{av:α→AV}{w:Nat}(hw:∀x,(av x).width=w)(l:List α):jG (l.map av):=⟨w,by intro e h;simp only[bY] at h;obtain⟨t,_,rfl⟩:=h;exact hw t⟩
def iE(left:Int)(n:Nat):Int:=if left<n then -1 else left - n
theorem mN{left:Int}{n:Nat}:iE left n<0↔left<n:=by unfold iE;split<;>omega
theorem pA{left:Int}{n:Nat}(h:¬left<n):iE left n=left - n:=by unfold iE;rw[aG h]
theorem F9(zs:List AV)(hz:zs≠[])(n:Nat):jB zs n=(List.replicate n zs).flatten:=by
 have hl:0<zs.length:=by cases zs with | nil=>exact absurd rfl hz | cons=>simp
 apply A3
 intro i
 unfold jB
 induction n generalizing i with
 | zero=>simp
 | succ n ih=>
  rw[HL,List.flatten_cons]
  rcases lI i zs.length with h | h
  · rw[TH h]
    have:i<(n+1)*zs.length:=by rw[uN];omega
    simp [this,Nat.mod_eq_of_lt h,h]
  · rw[TI h,←ih]
    have e1:i % zs.length=(i - zs.length) % zs.length:=by rw[Nat.mod_eq_sub_mod h]
    simp only[kS]
    by_cases h2:i - zs.length<n*zs.length
    · have h3:i<(n+1)*zs.length:=by rw[uN];omega
      simp [h2,h3,e1]
    · have h3:¬i<(n+1)*zs.length:=by rw[uN];omega
      simp [h2,h3]
end
theorem z7{zs:List AV}{x:List AV}{w:Nat}(h1:x.length=w)(h2:zs.length=w):aP zs 0 x=x:=by
 unfold aP
 simp [h1,h2]
theorem qU{x:AV}(h:x.isAgg=true):AV.agg x.cells=x:=by cases x<;>simp [AV.isAgg] at h<;>rfl
theorem rO{x:List AV}{w:Nat}(h:x.length=w):x.take w=x:=by rw[←h];exact dQ
inductive Tm where
 | mk (kind n:Int) (name:ByteArray) (kids:List Tm)
mutual
def Tm.av:Tm→AV
 | .mk k n s ts=>.agg [.int .i64 k,.int .i64 n,.str s,.slice (LQ ts)]
def LQ:List Tm→List AV
 | []=>[]
 | t::ts=>t.av::LQ ts
end
theorem aM5:∀(ts:List Tm),LQ ts=ts.map Tm.av
 | []=>rfl
 | t::ts=>by simp only[LQ,bR,aM5 ts]
theorem bA(k n:Int)(s:ByteArray)(ts:List Tm):(Tm.mk k n s ts).av=.agg [.int .i64 k,.int .i64 n,.str s,.slice (ts.map Tm.av)]:=by simp only[Tm.av,aM5]
mutual
def Tm.same:Tm→Tm→Bool
 | .mk k n s ts,.mk k' n' s' ts'=>decide (k=k')&&decide (n=n')&&decide (s=s')&&LZ ts ts'
def LZ:List Tm→List Tm→Bool
 | [],[]=>true
 | t::ts,t'::ts'=>t.same t'&&LZ ts ts'
 | _,_=>false
end
theorem aND:∀(a b:List Tm),LZ a b=g7 Tm.same a b
 | [],[]=>rfl
 | [],_::_=>rfl
 | _::_,[]=>rfl
 | t::ts,t'::ts'=>by simp only[LZ,g7,aND ts ts']
theorem Tm.KZ(k n:Int)(s:ByteArray)(ts:List Tm)(k' n':Int)(s':ByteArray)(ts':List Tm):(Tm.mk k n s ts).same (Tm.mk k' n' s' ts')=(decide (k=k')&&decide (n=n')&&decide (s=s')&&g7 Tm.same ts ts'):=by simp only[Tm.same,aND]
mutual
def Tm.sz:Tm→Nat
 | .mk _ _ s ts=>s.size+(ts.length+L4 ts)
def L4:List Tm→Nat
 | []=>0
 | t::ts=>t.sz+L4 ts
end
theorem aNG:∀(a:List Tm),L4 a=aL Tm.sz a
 | []=>rfl
 | t::ts=>by simp only[L4,aL,aNG ts]
theorem Tm.K7(k n:Int)(s:ByteArray)(ts:List Tm):(Tm.mk k n s ts).sz=s.size+(ts.length+aL Tm.sz ts):=by simp only[Tm.sz,aNG]
theorem Tm.zZ:∀(a b:Tm),a.same b=true↔a=b
 | .mk k n s ts,.mk k' n' s' ts'=>by
  have:=B7 (f:=Tm.same) (a:=ts) (b:=ts') fun x hx y=>Tm.zZ x y
  simp only[Tm.KZ,cT,bM,Tm.mk.injEq,and_assoc,this]
termination_by a=>SizeOf.sizeOf a
decreasing_by have:=List.sizeOf_lt_of_mem hx;simp only[Tm.mk.sizeOf_spec];omega
theorem cE(t:Tm):t.av.isAgg=true:=by cases t;rfl
theorem aO(t:Tm):t.av.width=4:=by cases t;rfl
theorem Tm.fN(t:Tm):t.av.cells.length=4:=by cases t;rfl
theorem Tm.d5(t:Tm):t.av.cells.all AV.storable=true:=by cases t;rfl
theorem Tm.eN(t:Tm):t.av.cD=false:=by cases t;rfl
theorem aF2{t:Tm}:t.av.isAgg=true:=cE t
theorem aGB{t:Tm}:t.av.width=4:=aO t
theorem aF9{t:Tm}:t.av.cells.all AV.storable=true:=Tm.d5 t
theorem aF5{t:Tm}:t.av.cD=false:=Tm.eN t
theorem aF6{t:Tm}:t.av.cells.length=4:=Tm.fN t
theorem aGA{t:Tm}:t.av.cells.take 4=t.av.cells:=rO (Tm.fN t)
theorem aF3{t:Tm}:AV.agg t.av.cells=t.av:=qU (cE t)
theorem aF7{t:Tm}{a b c d:AV}:aP [a,b,c,d] 0 t.av.cells=t.av.cells:=z7 (Tm.fN t) rfl
theorem aF8{t u:Tm}:aP u.av.cells 0 t.av.cells=t.av.cells:=z7 (Tm.fN t) (Tm.fN u)
theorem aFU{st:aA}{b:Nat}{o o':AO}:(st.aC b o).aC b o'=st.aC b o':=eA st b o o'
theorem aFT{st:aA}{b:Nat}{o:AO}:(st.aC b o) b=some o:=aA.aJ st b o
theorem aFS{st:aA}{b x:Nat}{o:AO}(h:x≠b):(st.aC b o) x=st x:=aA.aF st o h
theorem aF4{t:Tm}:t.av.cells.drop 4= []:=List.drop_of_length_le (by rw[Tm.fN];exact cO _)
inductive Pf where
 | mk (goal:Tm) (clause:Int) (kids:List Pf)
def uA(k:Nat)(acc:List UInt8):List UInt8:=if k=0 then acc else uA (k / 10) (UInt8.ofNat (48+k % 10)::acc)
termination_by k
decreasing_by omega
theorem aZH(acc:List UInt8):uA 0 acc=acc:=by rw[uA];simp
theorem aZG{k:Nat}(h:0<k)(acc:List UInt8):uA k acc=uA (k / 10) (UInt8.ofNat (48+k % 10)::acc):=by rw[uA,aG (by omega)]
def mt(k:Int):ByteArray:=if k≤0 then⟨#[109,48]⟩ else⟨(109::uA k.toNat []).toArray⟩
theorem aPT(a b:List UInt8):(⟨a.toArray⟩:ByteArray)++⟨b.toArray⟩=⟨(a++b).toArray⟩:=by
 apply ByteArray.ext
 rw[MM]
 simp
mutual
def Tm.dG:Tm→Nat
 | .mk _ _ _ ts=>3+AH ts
def AH:List Tm→Nat
 | []=>0
 | t::ts=>t.dG+AH ts
end
mutual
def Tm.mark:Tm→Int→Tm
 | .mk _ _ _ ts,j=>.mk j (j+1) (mt (j+1+1)) (LW ts (j+1+1+1))
def LW:List Tm→Int→List Tm
 | [],_=>[]
 | t::ts,j=>t.mark j::LW ts (j+t.dG)
end
def fW{α:Type}(mk:α→Int→α)(n:α→Nat):List α→Int→List α
 | [],_=>[]
 | t::ts,j=>mk t j::fW mk n ts (j+n t)
theorem aNA:∀(ts:List Tm) (j:Int),LW ts j=fW Tm.mark Tm.dG ts j
 | [],_=>rfl
 | t::ts,j=>by simp only[LW,fW,aNA ts]
theorem SQ:∀(ts:List Tm),AH ts=aL Tm.dG ts
 | []=>rfl
 | t::ts=>by simp only[AH,aL,SQ ts]
theorem Tm.aJ0(k n:Int)(s:ByteArray)(ts:List Tm)(j:Int):(Tm.mk k n s ts).mark j=.mk j (j+1) (mt (j+1+1)) (fW Tm.mark Tm.dG ts (j+1+1+1)):=by simp only[Tm.mark,aNA]
theorem Tm.GF(k n:Int)(s:ByteArray)(ts:List Tm):(Tm.mk k n s ts).dG=3+aL Tm.dG ts:=by simp only[Tm.dG,SQ]
theorem GA{α:Type}(mk:α→Int→α)(n:α→Nat):∀(l:List α) (j:Int),(fW mk n l j).length=l.length
 | [],_=>rfl
 | _::l,j=>by simp [fW,GA mk n l]
theorem aKR{st:aA}{k:IntKind}{n:Int}{o:AV}{bs:List Nat}:aV st (.int k n) o bs↔o=.int k n∧bs= []:=by simp only[aV]
theorem GI{st:aA}{k n:Int}{s:ByteArray}{ts:List Tm}{o:AV}{bs:List Nat} :
 aV st (Tm.mk k n s ts).av o bs↔∃q,o=.agg [.int .i64 k,.int .i64 n,.str s,q]∧aV st (.slice (ts.map Tm.av)) q bs:=by
 rw[bA]
 generalize AV.slice (ts.map Tm.av)=x
 simp only[aV,aW]
 constructor
 · rintro⟨os,rfl,o1,os1,b1,b1',rfl,rfl,⟨rfl,rfl⟩,o2,os2,b2,b2',rfl,rfl,⟨rfl,rfl⟩,o3,os3,b3,b3',rfl,rfl,⟨rfl,rfl⟩,o4,os4,b4,b4',rfl,rfl,h,rfl,rfl⟩
   exact⟨o4,rfl,by simpa using h⟩
 · rintro⟨q,rfl,h⟩
   exact⟨_,rfl,_,_,[],bs,rfl,rfl,⟨rfl,rfl⟩,_,_,[],bs,rfl,rfl,⟨rfl,rfl⟩,_,_,[],bs,rfl,rfl,⟨rfl,rfl⟩,q,[],bs,[],rfl,by simp,h,rfl,rfl⟩
theorem aV.len{st:aA}{es:List AV}{o:AV}{bs:List Nat}(x:aV st (.slice es) o bs):(o.fits→es.length≤9223372036854775807)∧∀(P:Program) (t e:TypeId),P.underlying t=some (.slice e)→jZ P t o=some (.int .i64 (es.length:Int)):=by
 simp only[aV] at x
 rcases x with ⟨rfl,rfl,_⟩ | ⟨b,bs',os,w,rfl,_⟩
 · exact⟨fun _=>by simp,fun P t e h=>by simp [jZ,h]⟩
 · exact⟨fun h=>by simpa [AV.fits] using h,fun P t e h=>by simp [jZ,h]⟩
def HN(st:aA)(a:AV)(o:AV)(bs:List Nat)(j:Int)(r:AV)(st':aA):Prop:=r=.int .i64 j∧aV st' a o bs∧∀q,q∉bs→st' q=st q
theorem GC{α:Type}{av:α→AV}{done:List α}{x:α}{rest:List α}{x':α}:((done++x::rest).map av).set done.length (av x')=((done++ [x'])++rest).map av:=by
 simp only[mX,bR]
 rw[List.set_append_right _ _ (by simp)]
 simp
theorem GB{α:Type}{av:α→AV}{done:List α}{x:α}{rest:List α}:((done++x::rest).map av)[done.length]?=some (av x):=by
 simp
abbrev iv (n:Int):AV:=.int .i64 n
theorem aYI(n:Int):(iv n).width=1:=rfl
theorem aJO(l:List Int):∀e∈l.map iv,e.width=1:=by intro e h;simp only[bY] at h;obtain⟨t,_,rfl⟩:=h;rfl
def jD(s:ByteArray):Nat:=
 cond (decide (s=⟨#[61]⟩)||decide (s=⟨#[92,61]⟩)||decide (s=⟨#[61,61]⟩)||decide (s=⟨#[60]⟩)||decide (s=⟨#[62]⟩)||decide (s=⟨#[61,60]⟩)||decide (s=⟨#[62,61]⟩)||decide (s=⟨#[61,58,61]⟩)||decide (s=⟨#[105,115]⟩)) 3 (cond (decide (s=⟨#[43]⟩)||decide (s=⟨#[45]⟩)) 2 (cond (decide (s=⟨#[42]⟩)||decide (s=⟨#[47,47]⟩)||decide (s=⟨#[109,111,100]⟩)) 1 0))
def isBuiltin(s:ByteArray)(n:Int):Bool:=
 cond (decide (s=⟨#[61]⟩)||decide (s=⟨#[92,61]⟩)||decide (s=⟨#[61,61]⟩)||decide (s=⟨#[60]⟩)||decide (s=⟨#[62]⟩)||decide (s=⟨#[61,60]⟩)||decide (s=⟨#[62,61]⟩)||decide (s=⟨#[61,58,61]⟩)||decide (s=⟨#[105,115]⟩)) (decide (n=2)) (cond (decide (s=⟨#[116,114,117,101]⟩)||decide (s=⟨#[102,97,105,108]⟩)) (decide (n=0)) (cond (decide (s=⟨#[118,97,114]⟩)||decide (s=⟨#[110,111,110,118,97,114]⟩)||decide (s=⟨#[97,116,111,109]⟩)||decide (s=⟨#[105,110,116]⟩)) (decide (n=1)) (cond (decide (s=⟨#[97,114,103]⟩)) (decide (n=3)) false)))
abbrev sb (s:ByteArray):List UInt8:=s.data.toList
theorem GQ(s:ByteArray):(sb s).length=s.size:=by simp only[sb,Array.length_toList];rfl
theorem aJJ{P:Program}{t:TypeId}{s:ByteArray}{i:Nat}{c:UInt8}(hu:P.underlying t=some .string)(h:(sb s)[i]?=some c):BH P t (.str s) (.int .i64 (i:Int))=some (.int .u8 (c.toNat:Int)):=by
 have hi:i<s.size:=by rw[←GQ];exact(eE.1 h).1
 have:s[i]?=some c:=by
  rw[getElem?_pos s i hi]
  obtain⟨h1,h2⟩:=eE.1 h
  rw[←h2]
  try rfl
 simp only[BH,hu,jV,this]
 simp
def letter(c:UInt8):Bool:=decide (97≤c.toNat)&&decide (c.toNat≤122)
def sU(s:ByteArray):Bool:=(sb s).all letter&&(decide ((1:Int)≤(s.size:Int))&&decide ((s.size:Int)≤6))
theorem uU{α:Type}{p:α→Bool}{l:List α}{i:Nat}{x:α}(h:l[i]?=some x)(hp:p x=false):l.all p=false:=by
 rw[List.all_eq_false]
 exact⟨x,cG h,by simp [hp]⟩
theorem H3{α:Type}{p:α→Bool}{l:List α}(h:∀(i:Nat) x,l[i]?=some x→p x=true):l.all p=true:=by
 rw[eD]
 intro x hx
 obtain⟨i,hi⟩:=yC hx
 exact h i x hi
end Go.AW
