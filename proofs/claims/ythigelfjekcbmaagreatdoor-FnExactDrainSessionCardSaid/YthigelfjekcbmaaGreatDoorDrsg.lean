/- Lists, terms and proofs as data, and as abstract values. -/
import Derived.Test.YthigelfjekcbmaaGreatDoorDrsf
set_option linter.unusedSimpArgs false
set_option linter.unusedVariables false
set_option maxRecDepth 100000
namespace Go.AW
section
variable {α:Type}
def gK(f:α→α→Bool):List α→List α→Bool
 | [],[]=>true
 | x::xs,y::ys=>f x y&&gK f xs ys
 | _,_=>false
theorem AS(f:α→α→Bool):∀ {a b:List α},a.length≠b.length→gK f a b=false
 | [],[],h=>absurd rfl h
 | [],_::_,_=>rfl
 | _::_,[],_=>rfl
 | x::xs,y::ys,h=>by simp only[gK,AS f (a:=xs) (b:=ys) (by simpa using h),wY]
theorem AQ(f:α→α→Bool):∀ {a b:List α} (i:Nat) (x y:α),a[i]?=some x→b[i]?=some y→f x y=false→gK f a b=false
 | [],_,i,x,y,h,_,_=>by simp at h
 | _::_,[],i,x,y,_,h,_=>by simp at h
 | t::ts,t'::ts',0,x,y,h1,h2,h=>by
  simp at h1 h2;subst h1;subst h2
  simp only[gK,h,lV]
 | t::ts,t'::ts',i+1,x,y,h1,h2,h=>by
  simp only[gK,AQ f (a:=ts) (b:=ts') i x y (by simpa using h1) (by simpa using h2) h,wY]
theorem AP(f:α→α→Bool):∀ {a b:List α},a.length=b.length→(∀(i:Nat) (x y:α),a[i]?=some x→b[i]?=some y→f x y=true)→gK f a b=true
 | [],[],_,_=>rfl
 | t::ts,t'::ts',h,g=>by
  simp only[gK,cK]
  exact⟨g 0 t t' rfl rfl,AP f (by simpa using h) fun i x y h1 h2=>g (i+1) x y (by simpa using h1) (by simpa using h2)⟩
theorem AR{f:α→α→Bool}:∀ {a b:List α},(∀x∈a,∀y,f x y=true↔x=y)→(gK f a b=true↔a=b)
 | [],[],_=>by simp [gK]
 | [],_::_,_=>by simp [gK]
 | _::_,[],_=>by simp [gK]
 | x::xs,y::ys,h=>by
  simp only[gK,cK,List.cons.injEq,h x (by simp) y,AR (a:=xs) (b:=ys) fun z hz=>h z (by simp [hz])]
def aM(f:α→Nat):List α→Nat
 | []=>0
 | x::xs=>f x+aM f xs
theorem uT(f:α→Nat):∀ {l:List α} {i:Nat} {x:α},l[i]?=some x→aM f (l.take (i+1))=aM f (l.take i)+f x∧aM f (l.take (i+1))≤aM f l
 | [],i,x,h=>by simp at h
 | y::ys,0,x,h=>by simp at h;subst h;simp [aM]
 | y::ys,i+1,x,h=>by
  have:=uT f (l:=ys) (i:=i) (x:=x) (by simpa using h)
  simp only[vH,aM] at this ⊢
  omega
theorem qF{f:α→Nat}:∀ {l:List α} {x:α},x∈l→f x≤aM f l
 | y::ys,x,h=>by
  simp only[cP] at h
  simp only[aM]
  rcases h with rfl | h
  · omega
  · have:=qF (f:=f) h;omega
theorem bJ{P:Program}{t:TypeId}{ag:Bool}{w:Nat}{av:α→AV}{l:List α}{i:Nat}{x:α}(hI:eI P t=some (ag,w))(h:l[i]?=some x)(hw:(av x).width=w):dG P t (.slice (l.map av)) (.int .i64 (i:Int))=some (.pptr (av x)):=by
 simp only[dG,hI,jM,lX,h,pP,hw]
 simp
theorem aQG{av:α→AV}{w:Nat}(hw:∀x,(av x).width=w)(l:List α):jD (l.map av):=⟨w,by intro e h;simp only[cE] at h;obtain⟨t,_,rfl⟩:=h;exact hw t⟩
def jK(left:Int)(n:Nat):Int:=if left<n then -1 else left - n
theorem nL{left:Int}{n:Nat}:jK left n<0↔left<n:=by unfold jK;split<;>omega
theorem qH{left:Int}{n:Nat}(h:¬left<n):jK left n=left - n:=by unfold jK;rw[aG h]
theorem ER(zs:List AV)(hz:zs≠[])(n:Nat):lS zs n=(List.replicate n zs).flatten:=by
 have hl:0<zs.length:=by cases zs with | nil=>exact absurd rfl hz | cons=>simp
 apply F9
 intro i
 unfold lS
 induction n generalizing i with
 | zero=>simp
 | succ n ih=>
  rw[CJ,List.flatten_cons]
  rcases kN i zs.length with h | h
  · rw[QP h]
    have:i<(n+1)*zs.length:=by rw[tP];omega
    simp [this,Nat.mod_eq_of_lt h,h]
  · rw[QQ h,←ih]
    have e1:i % zs.length=(i - zs.length) % zs.length:=by rw[Nat.mod_eq_sub_mod h]
    simp only[lX]
    by_cases h2:i - zs.length<n*zs.length
    · have h3:i<(n+1)*zs.length:=by rw[tP];omega
      simp [h2,h3,e1]
    · have h3:¬i<(n+1)*zs.length:=by rw[tP];omega
      simp [h2,h3]
end
theorem wH{zs:List AV}{x:List AV}{w:Nat}(h1:x.length=w)(h2:zs.length=w):aS zs 0 x=x:=by
 unfold aS
 simp [h1,h2]
theorem oO{x:AV}(h:x.isAgg=true):AV.agg x.cells=x:=by cases x<;>simp [AV.isAgg] at h<;>rfl
theorem pJ{x:List AV}{w:Nat}(h:x.length=w):x.take w=x:=by rw[←h];exact eM
inductive Tm where
 | mk (kind n:Int) (name:ByteArray) (kids:List Tm)
mutual
def Tm.av:Tm→AV
 | .mk k n s ts=>.agg [.int .i64 k,.int .i64 n,.str s,.slice (J1 ts)]
def J1:List Tm→List AV
 | []=>[]
 | t::ts=>t.av::J1 ts
end
theorem aJX:∀(ts:List Tm),J1 ts=ts.map Tm.av
 | []=>rfl
 | t::ts=>by simp only[J1,bH,aJX ts]
theorem a7(k n:Int)(s:ByteArray)(ts:List Tm):(Tm.mk k n s ts).av=.agg [.int .i64 k,.int .i64 n,.str s,.slice (ts.map Tm.av)]:=by simp only[Tm.av,aJX]
mutual
def Tm.same:Tm→Tm→Bool
 | .mk k n s ts,.mk k' n' s' ts'=>decide (k=k')&&decide (n=n')&&decide (s=s')&&J9 ts ts'
def J9:List Tm→List Tm→Bool
 | [],[]=>true
 | t::ts,t'::ts'=>t.same t'&&J9 ts ts'
 | _,_=>false
end
theorem aJ5:∀(a b:List Tm),J9 a b=gK Tm.same a b
 | [],[]=>rfl
 | [],_::_=>rfl
 | _::_,[]=>rfl
 | t::ts,t'::ts'=>by simp only[J9,gK,aJ5 ts ts']
theorem Tm.JF(k n:Int)(s:ByteArray)(ts:List Tm)(k' n':Int)(s':ByteArray)(ts':List Tm):(Tm.mk k n s ts).same (Tm.mk k' n' s' ts')=(decide (k=k')&&decide (n=n')&&decide (s=s')&&gK Tm.same ts ts'):=by simp only[Tm.same,aJ5]
mutual
def Tm.sz:Tm→Nat
 | .mk _ _ s ts=>s.size+(ts.length+KD ts)
def KD:List Tm→Nat
 | []=>0
 | t::ts=>t.sz+KD ts
end
theorem aJ8:∀(a:List Tm),KD a=aM Tm.sz a
 | []=>rfl
 | t::ts=>by simp only[KD,aM,aJ8 ts]
theorem Tm.JL(k n:Int)(s:ByteArray)(ts:List Tm):(Tm.mk k n s ts).sz=s.size+(ts.length+aM Tm.sz ts):=by simp only[Tm.sz,aJ8]
theorem Tm.yH:∀(a b:Tm),a.same b=true↔a=b
 | .mk k n s ts,.mk k' n' s' ts'=>by
  have:=AR (f:=Tm.same) (a:=ts) (b:=ts') fun x hx y=>Tm.yH x y
  simp only[Tm.JF,cK,bL,Tm.mk.injEq,and_assoc,this]
termination_by a=>SizeOf.sizeOf a
decreasing_by have:=List.sizeOf_lt_of_mem hx;simp only[Tm.mk.sizeOf_spec];omega
theorem bU(t:Tm):t.av.isAgg=true:=by cases t;rfl
theorem aN(t:Tm):t.av.width=4:=by cases t;rfl
theorem Tm.fG(t:Tm):t.av.cells.length=4:=by cases t;rfl
theorem Tm.d8(t:Tm):t.av.cells.all AV.storable=true:=by cases t;rfl
theorem Tm.eO(t:Tm):t.av.b9=false:=by cases t;rfl
theorem aDG{t:Tm}:t.av.isAgg=true:=bU t
theorem aDP{t:Tm}:t.av.width=4:=aN t
theorem aDN{t:Tm}:t.av.cells.all AV.storable=true:=Tm.d8 t
theorem aDJ{t:Tm}:t.av.b9=false:=Tm.eO t
theorem aDK{t:Tm}:t.av.cells.length=4:=Tm.fG t
theorem aDO{t:Tm}:t.av.cells.take 4=t.av.cells:=pJ (Tm.fG t)
theorem aDH{t:Tm}:AV.agg t.av.cells=t.av:=oO (bU t)
theorem aDL{t:Tm}{a b c d:AV}:aS [a,b,c,d] 0 t.av.cells=t.av.cells:=wH (Tm.fG t) rfl
theorem aDM{t u:Tm}:aS u.av.cells 0 t.av.cells=t.av.cells:=wH (Tm.fG t) (Tm.fG u)
theorem aC8{st:aA}{b:Nat}{o o':AO}:(st.aC b o).aC b o'=st.aC b o':=d4 st b o o'
theorem aC7{st:aA}{b:Nat}{o:AO}:(st.aC b o) b=some o:=aA.aH st b o
theorem aC6{st:aA}{b x:Nat}{o:AO}(h:x≠b):(st.aC b o) x=st x:=aA.aF st o h
theorem aDI{t:Tm}:t.av.cells.drop 4= []:=List.drop_of_length_le (by rw[Tm.fG];exact cQ _)
inductive Pf where
 | mk (goal:Tm) (clause:Int) (kids:List Pf)
def tA(k:Nat)(acc:List UInt8):List UInt8:=if k=0 then acc else tA (k / 10) (UInt8.ofNat (48+k % 10)::acc)
termination_by k
decreasing_by omega
theorem aUI(acc:List UInt8):tA 0 acc=acc:=by rw[tA];simp
theorem aUH{k:Nat}(h:0<k)(acc:List UInt8):tA k acc=tA (k / 10) (UInt8.ofNat (48+k % 10)::acc):=by rw[tA,aG (by omega)]
def mt(k:Int):ByteArray:=if k≤0 then⟨#[109,48]⟩ else⟨(109::tA k.toNat []).toArray⟩
theorem aL8(a b:List UInt8):(⟨a.toArray⟩:ByteArray)++⟨b.toArray⟩=⟨(a++b).toArray⟩:=by
 apply ByteArray.ext
 rw[ByteArray.data_append]
 simp
mutual
def Tm.dB:Tm→Nat
 | .mk _ _ _ ts=>3+yR ts
def yR:List Tm→Nat
 | []=>0
 | t::ts=>t.dB+yR ts
end
mutual
def Tm.mark:Tm→Int→Tm
 | .mk _ _ _ ts,j=>.mk j (j+1) (mt (j+1+1)) (J6 ts (j+1+1+1))
def J6:List Tm→Int→List Tm
 | [],_=>[]
 | t::ts,j=>t.mark j::J6 ts (j+t.dB)
end
def fB{α:Type}(mk:α→Int→α)(n:α→Nat):List α→Int→List α
 | [],_=>[]
 | t::ts,j=>mk t j::fB mk n ts (j+n t)
theorem aJ2:∀(ts:List Tm) (j:Int),J6 ts j=fB Tm.mark Tm.dB ts j
 | [],_=>rfl
 | t::ts,j=>by simp only[J6,fB,aJ2 ts]
theorem P3:∀(ts:List Tm),yR ts=aM Tm.dB ts
 | []=>rfl
 | t::ts=>by simp only[yR,aM,P3 ts]
theorem Tm.aHC(k n:Int)(s:ByteArray)(ts:List Tm)(j:Int):(Tm.mk k n s ts).mark j=.mk j (j+1) (mt (j+1+1)) (fB Tm.mark Tm.dB ts (j+1+1+1)):=by simp only[Tm.mark,aJ2]
theorem Tm.EV(k n:Int)(s:ByteArray)(ts:List Tm):(Tm.mk k n s ts).dB=3+aM Tm.dB ts:=by simp only[Tm.dB,P3]
theorem ES{α:Type}(mk:α→Int→α)(n:α→Nat):∀(l:List α) (j:Int),(fB mk n l j).length=l.length
 | [],_=>rfl
 | _::l,j=>by simp [fB,ES mk n l]
theorem aHX{st:aA}{k:IntKind}{n:Int}{o:AV}{bs:List Nat}:aR st (.int k n) o bs↔o=.int k n∧bs= []:=by simp only[aR]
theorem BT{st:aA}{k n:Int}{s:ByteArray}{ts:List Tm}{o:AV}{bs:List Nat} :
 aR st (Tm.mk k n s ts).av o bs↔∃q,o=.agg [.int .i64 k,.int .i64 n,.str s,q]∧aR st (.slice (ts.map Tm.av)) q bs:=by
 rw[a7]
 generalize AV.slice (ts.map Tm.av)=x
 simp only[aR,aU]
 constructor
 · rintro⟨os,rfl,o1,os1,b1,b1',rfl,rfl,⟨rfl,rfl⟩,o2,os2,b2,b2',rfl,rfl,⟨rfl,rfl⟩,o3,os3,b3,b3',rfl,rfl,⟨rfl,rfl⟩,o4,os4,b4,b4',rfl,rfl,h,rfl,rfl⟩
   exact⟨o4,rfl,by simpa using h⟩
 · rintro⟨q,rfl,h⟩
   exact⟨_,rfl,_,_,[],bs,rfl,rfl,⟨rfl,rfl⟩,_,_,[],bs,rfl,rfl,⟨rfl,rfl⟩,_,_,[],bs,rfl,rfl,⟨rfl,rfl⟩,q,[],bs,[],rfl,by simp,h,rfl,rfl⟩
theorem aR.len{st:aA}{es:List AV}{o:AV}{bs:List Nat}(x:aR st (.slice es) o bs):(o.fits→es.length≤9223372036854775807)∧∀(P:Program) (t e:TypeId),P.underlying t=some (.slice e)→jQ P t o=some (.int .i64 (es.length:Int)):=by
 simp only[aR] at x
 rcases x with ⟨rfl,rfl,_⟩ | ⟨b,bs',os,w,rfl,_⟩
 · exact⟨fun _=>by simp,fun P t e h=>by simp [jQ,h]⟩
 · exact⟨fun h=>by simpa [AV.fits] using h,fun P t e h=>by simp [jQ,h]⟩
def CL(st:aA)(a:AV)(o:AV)(bs:List Nat)(j:Int)(r:AV)(st':aA):Prop:=r=.int .i64 j∧aR st' a o bs∧∀q,q∉bs→st' q=st q
theorem IW{α:Type}{av:α→AV}{done:List α}{x:α}{rest:List α}{x':α}:((done++x::rest).map av).set done.length (av x')=((done++ [x'])++rest).map av:=by
 simp only[lB,bH]
 rw[List.set_append_right _ _ (by simp)]
 simp
theorem IV{α:Type}{av:α→AV}{done:List α}{x:α}{rest:List α}:((done++x::rest).map av)[done.length]?=some (av x):=by
 simp
abbrev iv (n:Int):AV:=.int .i64 n
theorem aTP(n:Int):(iv n).width=1:=rfl
theorem aG0(l:List Int):∀e∈l.map iv,e.width=1:=by intro e h;simp only[cE] at h;obtain⟨t,_,rfl⟩:=h;rfl
def kI(s:ByteArray):Nat:=
 cond (decide (s=⟨#[61]⟩)||decide (s=⟨#[92,61]⟩)||decide (s=⟨#[61,61]⟩)||decide (s=⟨#[60]⟩)||decide (s=⟨#[62]⟩)||decide (s=⟨#[61,60]⟩)||decide (s=⟨#[62,61]⟩)||decide (s=⟨#[61,58,61]⟩)||decide (s=⟨#[105,115]⟩)) 3 (cond (decide (s=⟨#[43]⟩)||decide (s=⟨#[45]⟩)) 2 (cond (decide (s=⟨#[42]⟩)||decide (s=⟨#[47,47]⟩)||decide (s=⟨#[109,111,100]⟩)) 1 0))
def isBuiltin(s:ByteArray)(n:Int):Bool:=
 cond (decide (s=⟨#[61]⟩)||decide (s=⟨#[92,61]⟩)||decide (s=⟨#[61,61]⟩)||decide (s=⟨#[60]⟩)||decide (s=⟨#[62]⟩)||decide (s=⟨#[61,60]⟩)||decide (s=⟨#[62,61]⟩)||decide (s=⟨#[61,58,61]⟩)||decide (s=⟨#[105,115]⟩)) (decide (n=2)) (cond (decide (s=⟨#[116,114,117,101]⟩)||decide (s=⟨#[102,97,105,108]⟩)) (decide (n=0)) (cond (decide (s=⟨#[118,97,114]⟩)||decide (s=⟨#[110,111,110,118,97,114]⟩)||decide (s=⟨#[97,116,111,109]⟩)||decide (s=⟨#[105,110,116]⟩)) (decide (n=1)) (cond (decide (s=⟨#[97,114,103]⟩)) (decide (n=3)) false)))
abbrev sb (s:ByteArray):List UInt8:=s.data.toList
theorem FA(s:ByteArray):(sb s).length=s.size:=by simp only[sb,Array.length_toList];rfl
theorem aGY{P:Program}{t:TypeId}{s:ByteArray}{i:Nat}{c:UInt8}(hu:P.underlying t=some .string)(h:(sb s)[i]?=some c):zU P t (.str s) (.int .i64 (i:Int))=some (.int .u8 (c.toNat:Int)):=by
 have hi:i<s.size:=by rw[←FA];exact(fD.1 h).1
 have:s[i]?=some c:=by
  rw[getElem?_pos s i hi]
  obtain⟨h1,h2⟩:=fD.1 h
  rw[←h2]
  try rfl
 simp only[zU,hu,jM,this]
 simp
def letter(c:UInt8):Bool:=decide (97≤c.toNat)&&decide (c.toNat≤122)
def s9(s:ByteArray):Bool:=(sb s).all letter&&(decide ((1:Int)≤(s.size:Int))&&decide ((s.size:Int)≤6))
theorem tT{α:Type}{p:α→Bool}{l:List α}{i:Nat}{x:α}(h:l[i]?=some x)(hp:p x=false):l.all p=false:=by
 rw[List.all_eq_false]
 exact⟨x,cL h,by simp [hp]⟩
theorem GP{α:Type}{p:α→Bool}{l:List α}(h:∀(i:Nat) x,l[i]?=some x→p x=true):l.all p=true:=by
 rw[eL]
 intro x hx
 obtain⟨i,hi⟩:=CH hx
 exact h i x hi
end Go.AW
