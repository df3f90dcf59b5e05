/- Lists, terms and proofs as data, and as abstract values. -/
import Derived.Test.YtimfffmcljmfgaaGreatDoorUzf
set_option linter.unusedSimpArgs false
set_option linter.unusedVariables false
set_option maxRecDepth 100000
namespace Go.AW
section
variable {α:Type}
def iO(f:α→α→Bool):List α→List α→Bool
 | [],[]=>true
 | x::xs,y::ys=>f x y&&iO f xs ys
 | _,_=>false
theorem EQ(f:α→α→Bool):∀ {a b:List α},a.length≠b.length→iO f a b=false
 | [],[],h=>absurd rfl h
 | [],_::_,_=>rfl
 | _::_,[],_=>rfl
 | x::xs,y::ys,h=>by simp only[iO,EQ f (a:=xs) (b:=ys) (by simpa using h),uY]
theorem EP(f:α→α→Bool):∀ {a b:List α} (i:Nat) (x y:α),a[i]?=some x→b[i]?=some y→f x y=false→iO f a b=false
 | [],_,i,x,y,h,_,_=>by simp at h
 | _::_,[],i,x,y,_,h,_=>by simp at h
 | t::ts,t'::ts',0,x,y,h1,h2,h=>by
  simp at h1 h2;subst h1;subst h2
  simp only[iO,h,iF]
 | t::ts,t'::ts',i+1,x,y,h1,h2,h=>by
  simp only[iO,EP f (a:=ts) (b:=ts') i x y (by simpa using h1) (by simpa using h2) h,uY]
theorem EO(f:α→α→Bool):∀ {a b:List α},a.length=b.length→(∀(i:Nat) (x y:α),a[i]?=some x→b[i]?=some y→f x y=true)→iO f a b=true
 | [],[],_,_=>rfl
 | t::ts,t'::ts',h,g=>by
  simp only[iO,cK]
  exact⟨g 0 t t' rfl rfl,EO f (by simpa using h) fun i x y h1 h2=>g (i+1) x y (by simpa using h1) (by simpa using h2)⟩
theorem BZ{f:α→α→Bool}:∀ {a b:List α},(∀x∈a,∀y,f x y=true↔x=y)→(iO f a b=true↔a=b)
 | [],[],_=>by simp [iO]
 | [],_::_,_=>by simp [iO]
 | _::_,[],_=>by simp [iO]
 | x::xs,y::ys,h=>by
  simp only[iO,cK,List.cons.injEq,h x (by simp) y,BZ (a:=xs) (b:=ys) fun z hz=>h z (by simp [hz])]
def aR(f:α→Nat):List α→Nat
 | []=>0
 | x::xs=>f x+aR f xs
theorem yG(f:α→Nat):∀ {l:List α} {i:Nat} {x:α},l[i]?=some x→aR f (l.take (i+1))=aR f (l.take i)+f x∧aR f (l.take (i+1))≤aR f l
 | [],i,x,h=>by simp at h
 | y::ys,0,x,h=>by simp at h;subst h;simp [aR]
 | y::ys,i+1,x,h=>by
  have:=yG f (l:=ys) (i:=i) (x:=x) (by simpa using h)
  simp only[tK,aR] at this ⊢
  omega
theorem yF{f:α→Nat}:∀ {l:List α} {x:α},x∈l→f x≤aR f l
 | y::ys,x,h=>by
  simp only[c8] at h
  simp only[aR]
  rcases h with rfl | h
  · omega
  · have:=yF (f:=f) h;omega
theorem bO{P:Program}{t:TypeId}{ag:Bool}{w:Nat}{av:α→AV}{l:List α}{i:Nat}{x:α}(hI:eI P t=some (ag,w))(h:l[i]?=some x)(hw:(av x).width=w):dM P t (.slice (l.map av)) (.int .i64 (i:Int))=some (.pptr (av x)):=by
 simp only[dM,hI,jU,nO,h,oD,hw]
 simp
theorem aMD{av:α→AV}{w:Nat}(hw:∀x,(av x).width=w)(l:List α):iR (l.map av):=⟨w,by intro e h;simp only[cU] at h;obtain⟨t,_,rfl⟩:=h;exact hw t⟩
theorem a34{av:α→AV}(hj:∀x,(av x).cH=false)(l:List α):∀e∈l.map av,e.cH=false:=by intro e h;simp only[cU] at h;obtain⟨t,_,rfl⟩:=h;exact hj t
def l8(left:Int)(n:Nat):Int:=if left<n then -1 else left - n
theorem sX{left:Int}{n:Nat}:l8 left n<0↔left<n:=by unfold l8;split<;>omega
theorem wH{left:Int}{n:Nat}(h:¬left<n):l8 left n=left - n:=by unfold l8;rw[aE h]
theorem IZ(zs:List AV)(hz:zs≠[])(n:Nat):j5 zs n=(List.replicate n zs).flatten:=by
 have hl:0<zs.length:=by cases zs with | nil=>exact absurd rfl hz | cons=>simp
 apply KM
 intro i
 unfold j5
 induction n generalizing i with
 | zero=>simp
 | succ n ih=>
  rw[P5,List.flatten_cons]
  rcases kX i zs.length with h | h
  · rw[P0 h]
    have:i<(n+1)*zs.length:=by rw[pS];omega
    simp [this,Nat.mod_eq_of_lt h,h]
  · rw[XW h,←ih]
    have e1:i % zs.length=(i - zs.length) % zs.length:=by rw[Nat.mod_eq_sub_mod h]
    simp only[nO]
    by_cases h2:i - zs.length<n*zs.length
    · have h3:i<(n+1)*zs.length:=by rw[pS];omega
      simp [h2,h3,e1]
    · have h3:¬i<(n+1)*zs.length:=by rw[pS];omega
      simp [h2,h3]
def filled(av:α→AV)(zs:List AV)(l:List α)(i:Nat):List AV:=((l.take i).map av).flatMap AV.cells++(List.replicate (l.length - i) zs).flatten
theorem a0M(av:α→AV)(zs:List AV)(hz:zs≠[])(l:List α):j5 zs l.length=filled av zs l 0:=by simp [filled,IZ zs hz]
theorem a0J(av:α→AV)(zs:List AV)(l:List α):filled av zs l l.length=(l.map av).flatMap AV.cells:=by simp [filled]
theorem SW{av:α→AV}{w:Nat}(hw:∀x,(av x).cells.length=w):∀(l:List α),((l.map av).flatMap AV.cells).length=l.length*w
 | []=>by simp
 | x::xs=>by
  have:=SW hw xs
  simp only[aW,qS,dL,hw,this,aQ,pS]
  omega
theorem a0K{av:α→AV}{zs:List AV}{w:Nat}(hw:∀x,(av x).cells.length=w)(hz:zs.length=w)(l:List α){i:Nat}(hi:i≤l.length):(filled av zs l i).length=l.length*w:=by
 have h2:((List.replicate (l.length - i) zs).flatten).length=(l.length - i)*w:=by simp [hz]
 have h1:=SW hw (l.take i)
 simp only[filled,dL,h1,h2,dQ,kN hi]
 rw[←wT];congr 1;omega
theorem a0L{av:α→AV}{zs:List AV}{w:Nat}(hw:∀x,(av x).cells.length=w)(hz:zs.length=w){l:List α}{i:Nat}{x:α}(h:l[i]?=some x) :
 aG (filled av zs l i) (i*w) (av x).cells=filled av zs l (i+1):=by
 have hi:i<l.length:=(fR.1 h).1
 have h1:=SW hw (l.take i)
 rw[dQ,kN (Nat.le_of_lt hi)] at h1
 unfold aG filled
 have e1:List.replicate (l.length - i) zs=zs::List.replicate (l.length - (i+1)) zs:=by rw[show l.length - i=(l.length - (i+1))+1 by omega,P5]
 have e2:l.take (i+1)=l.take i++ [x]:=by rw[fS,h];try rfl
 rw[e1,e2,GQ h1,KL,h1]
 simp only[hw,List.flatten_cons,oC,aW,aU,yR,qS,List.flatMap_nil,gI,mU]
 congr 2
 rw[show i*w+w - i*w=w by omega,List.drop_left' hz,BC (by omega),eS]
end
theorem C6{zs:List AV}{x:List AV}{w:Nat}(h1:x.length=w)(h2:zs.length=w):aG zs 0 x=x:=by
 unfold aG
 simp [h1,h2]
theorem eX{x:AV}(h:x.isAgg=true):AV.agg x.cells=x:=by cases x<;>simp [AV.isAgg] at h<;>rfl
theorem fB{x:List AV}{w:Nat}(h:x.length=w):x.take w=x:=by rw[←h];exact eN
inductive Tm where
 | mk (kind n:Int) (name:ByteArray) (kids:List Tm)
mutual
def Tm.av:Tm→AV
 | .mk k n s ts=>.agg [.int .i64 k,.int .i64 n,.str s,.slice (OX ts)]
def OX:List Tm→List AV
 | []=>[]
 | t::ts=>t.av::OX ts
end
theorem aSE:∀(ts:List Tm),OX ts=ts.map Tm.av
 | []=>rfl
 | t::ts=>by simp only[OX,aW,aSE ts]
theorem aY(k n:Int)(s:ByteArray)(ts:List Tm):(Tm.mk k n s ts).av=.agg [.int .i64 k,.int .i64 n,.str s,.slice (ts.map Tm.av)]:=by simp only[Tm.av,aSE]
mutual
def Tm.same:Tm→Tm→Bool
 | .mk k n s ts,.mk k' n' s' ts'=>decide (k=k')&&decide (n=n')&&decide (s=s')&&O8 ts ts'
def O8:List Tm→List Tm→Bool
 | [],[]=>true
 | t::ts,t'::ts'=>t.same t'&&O8 ts ts'
 | _,_=>false
end
theorem aSM:∀(a b:List Tm),O8 a b=iO Tm.same a b
 | [],[]=>rfl
 | [],_::_=>rfl
 | _::_,[]=>rfl
 | t::ts,t'::ts'=>by simp only[O8,iO,aSM ts ts']
theorem Tm.N6(k n:Int)(s:ByteArray)(ts:List Tm)(k' n':Int)(s':ByteArray)(ts':List Tm):(Tm.mk k n s ts).same (Tm.mk k' n' s' ts')=(decide (k=k')&&decide (n=n')&&decide (s=s')&&iO Tm.same ts ts'):=by simp only[Tm.same,aSM]
mutual
def Tm.sz:Tm→Nat
 | .mk _ _ s ts=>s.size+(ts.length+PC ts)
def PC:List Tm→Nat
 | []=>0
 | t::ts=>t.sz+PC ts
end
theorem aSP:∀(a:List Tm),PC a=aR Tm.sz a
 | []=>rfl
 | t::ts=>by simp only[PC,aR,aSP ts]
theorem Tm.OA(k n:Int)(s:ByteArray)(ts:List Tm):(Tm.mk k n s ts).sz=s.size+(ts.length+aR Tm.sz ts):=by simp only[Tm.sz,aSP]
theorem Tm.AK:∀(a b:Tm),a.same b=true↔a=b
 | .mk k n s ts,.mk k' n' s' ts'=>by
  have:=BZ (f:=Tm.same) (a:=ts) (b:=ts') fun x hx y=>Tm.AK x y
  simp only[Tm.N6,cK,bL,Tm.mk.injEq,and_assoc,this]
termination_by a=>SizeOf.sizeOf a
decreasing_by have:=List.sizeOf_lt_of_mem hx;simp only[Tm.mk.sizeOf_spec];omega
theorem a7(t:Tm):t.av.isAgg=true:=by cases t;rfl
theorem aK(t:Tm):t.av.width=4:=by cases t;rfl
theorem bY(t:Tm):t.av.cells.length=4:=by cases t;rfl
theorem cB(t:Tm):t.av.cells.all AV.storable=true:=by cases t;rfl
theorem cM(t:Tm):t.av.cH=false:=by cases t;rfl
theorem aLC{t:Tm}:t.av.isAgg=true:=a7 t
theorem aLL{t:Tm}:t.av.width=4:=aK t
theorem aLJ{t:Tm}:t.av.cells.all AV.storable=true:=cB t
theorem aLF{t:Tm}:t.av.cH=false:=cM t
theorem aLG{t:Tm}:t.av.cells.length=4:=bY t
theorem aLK{t:Tm}:t.av.cells.take 4=t.av.cells:=fB (bY t)
theorem aLD{t:Tm}:AV.agg t.av.cells=t.av:=eX (a7 t)
theorem aLH{t:Tm}{a b c d:AV}:aG [a,b,c,d] 0 t.av.cells=t.av.cells:=C6 (bY t) rfl
theorem aLI{t u:Tm}:aG u.av.cells 0 t.av.cells=t.av.cells:=C6 (bY t) (bY u)
theorem aK4{st:aB}{b:Nat}{o o':AO}:(st.aC b o).aC b o'=st.aC b o':=c7 st b o o'
theorem aK3{st:aB}{b:Nat}{o:AO}:(st.aC b o) b=some o:=aB.aP st b o
theorem aK2{st:aB}{b x:Nat}{o:AO}(h:x≠b):(st.aC b o) x=st x:=aB.aJ st o h
theorem aLE{t:Tm}:t.av.cells.drop 4= []:=List.drop_of_length_le (by rw[bY];exact dB _)
inductive Pf where
 | mk (goal:Tm) (clause:Int) (kids:List Pf)
def wB(k:Nat)(acc:List UInt8):List UInt8:=if k=0 then acc else wB (k / 10) (UInt8.ofNat (48+k % 10)::acc)
termination_by k
decreasing_by omega
theorem a4Y(acc:List UInt8):wB 0 acc=acc:=by rw[wB];simp
theorem a4X{k:Nat}(h:0<k)(acc:List UInt8):wB k acc=wB (k / 10) (UInt8.ofNat (48+k % 10)::acc):=by rw[wB,aE (by omega)]
def mt(k:Int):ByteArray:=if k≤0 then⟨#[109,48]⟩ else⟨(109::wB k.toNat []).toArray⟩
theorem aUV(a b:List UInt8):(⟨a.toArray⟩:ByteArray)++⟨b.toArray⟩=⟨(a++b).toArray⟩:=by
 apply ByteArray.ext
 rw[PU]
 simp
mutual
def Tm.dV:Tm→Nat
 | .mk _ _ _ ts=>3+DE ts
def DE:List Tm→Nat
 | []=>0
 | t::ts=>t.dV+DE ts
end
mutual
def Tm.mark:Tm→Int→Tm
 | .mk _ _ _ ts,j=>.mk j (j+1) (mt (j+1+1)) (O4 ts (j+1+1+1))
def O4:List Tm→Int→List Tm
 | [],_=>[]
 | t::ts,j=>t.mark j::O4 ts (j+t.dV)
end
def gX{α:Type}(mk:α→Int→α)(n:α→Nat):List α→Int→List α
 | [],_=>[]
 | t::ts,j=>mk t j::gX mk n ts (j+n t)
theorem aSJ:∀(ts:List Tm) (j:Int),O4 ts j=gX Tm.mark Tm.dV ts j
 | [],_=>rfl
 | t::ts,j=>by simp only[O4,gX,aSJ ts]
theorem W3:∀(ts:List Tm),DE ts=aR Tm.dV ts
 | []=>rfl
 | t::ts=>by simp only[DE,aR,W3 ts]
theorem Tm.aOZ(k n:Int)(s:ByteArray)(ts:List Tm)(j:Int):(Tm.mk k n s ts).mark j=.mk j (j+1) (mt (j+1+1)) (gX Tm.mark Tm.dV ts (j+1+1+1)):=by simp only[Tm.mark,aSJ]
theorem Tm.I3(k n:Int)(s:ByteArray)(ts:List Tm):(Tm.mk k n s ts).dV=3+aR Tm.dV ts:=by simp only[Tm.dV,W3]
theorem I1{α:Type}(mk:α→Int→α)(n:α→Nat):∀(l:List α) (j:Int),(gX mk n l j).length=l.length
 | [],_=>rfl
 | _::l,j=>by simp [gX,I1 mk n l]
theorem I7{st:aB}{k n:Int}{s:ByteArray}{ts:List Tm}{o:AV}{bs:List Nat} :
 bG st (Tm.mk k n s ts).av o bs↔∃q,o=.agg [.int .i64 k,.int .i64 n,.str s,q]∧bG st (.slice (ts.map Tm.av)) q bs:=by
 rw[aY]
 generalize AV.slice (ts.map Tm.av)=x
 simp only[bG,cA]
 constructor
 · rintro⟨os,rfl,o1,os1,b1,b1',rfl,rfl,⟨rfl,rfl⟩,o2,os2,b2,b2',rfl,rfl,⟨rfl,rfl⟩,o3,os3,b3,b3',rfl,rfl,⟨rfl,rfl⟩,o4,os4,b4,b4',rfl,rfl,h,rfl,rfl⟩
   exact⟨o4,rfl,by simpa using h⟩
 · rintro⟨q,rfl,h⟩
   exact⟨_,rfl,_,_,[],bs,rfl,rfl,⟨rfl,rfl⟩,_,_,[],bs,rfl,rfl,⟨rfl,rfl⟩,_,_,[],bs,rfl,rfl,⟨rfl,rfl⟩,q,[],bs,[],rfl,by simp,h,rfl,rfl⟩
theorem bG.len{st:aB}{es:List AV}{o:AV}{bs:List Nat}(x:bG st (.slice es) o bs):(o.fits→es.length≤9223372036854775807)∧∀(P:Program) (t e:TypeId),P.underlying t=some (.slice e)→m8 P t o=some (.int .i64 (es.length:Int)):=by
 simp only[bG] at x
 rcases x with ⟨rfl,rfl,_⟩ | ⟨b,bs',os,w,rfl,_⟩
 · exact⟨fun _=>by simp,fun P t e h=>by simp [m8,h]⟩
 · exact⟨fun h=>by simpa [AV.fits] using h,fun P t e h=>by simp [m8,h]⟩
def P7(st:aB)(a:AV)(o:AV)(bs:List Nat)(j:Int)(r:AV)(st':aB):Prop:=r=.int .i64 j∧bG st' a o bs∧∀q,q∉bs→st' q=st q
theorem UT{α:Type}{av:α→AV}{done:List α}{x:α}{rest:List α}{x':α}:((done++x::rest).map av).set done.length (av x')=((done++ [x'])++rest).map av:=by
 simp only[oC,aW]
 rw[List.set_append_right _ _ (by simp)]
 simp
theorem US{α:Type}{av:α→AV}{done:List α}{x:α}{rest:List α}:((done++x::rest).map av)[done.length]?=some (av x):=by
 simp
abbrev iv (n:Int):AV:=.int .i64 n
theorem aOL(l:List Int):∀e∈l.map iv,e.width=1:=by intro e h;simp only[cU] at h;obtain⟨t,_,rfl⟩:=h;rfl
def dU(s:ByteArray):Nat:=
 cond (decide (s=⟨#[61]⟩)||decide (s=⟨#[92,61]⟩)||decide (s=⟨#[61,61]⟩)||decide (s=⟨#[60]⟩)||decide (s=⟨#[62]⟩)||decide (s=⟨#[61,60]⟩)||decide (s=⟨#[62,61]⟩)||decide (s=⟨#[61,58,61]⟩)||decide (s=⟨#[105,115]⟩)) 3 (cond (decide (s=⟨#[43]⟩)||decide (s=⟨#[45]⟩)) 2 (cond (decide (s=⟨#[42]⟩)||decide (s=⟨#[47,47]⟩)||decide (s=⟨#[109,111,100]⟩)) 1 0))
def isBuiltin(s:ByteArray)(n:Int):Bool:=
 cond (decide (s=⟨#[61]⟩)||decide (s=⟨#[92,61]⟩)||decide (s=⟨#[61,61]⟩)||decide (s=⟨#[60]⟩)||decide (s=⟨#[62]⟩)||decide (s=⟨#[61,60]⟩)||decide (s=⟨#[62,61]⟩)||decide (s=⟨#[61,58,61]⟩)||decide (s=⟨#[105,115]⟩)) (decide (n=2)) (cond (decide (s=⟨#[116,114,117,101]⟩)||decide (s=⟨#[102,97,105,108]⟩)) (decide (n=0)) (cond (decide (s=⟨#[118,97,114]⟩)||decide (s=⟨#[110,111,110,118,97,114]⟩)||decide (s=⟨#[97,116,111,109]⟩)||decide (s=⟨#[105,110,116]⟩)) (decide (n=1)) (cond (decide (s=⟨#[97,114,103]⟩)) (decide (n=3)) false)))
abbrev sb (s:ByteArray):List UInt8:=s.data.toList
theorem cQ(s:ByteArray):(sb s).length=s.size:=by simp only[sb,Array.length_toList];rfl
theorem uK{P:Program}{t:TypeId}{s:ByteArray}{i:Nat}{c:UInt8}(hu:P.underlying t=some .string)(h:(sb s)[i]?=some c):DZ P t (.str s) (.int .i64 (i:Int))=some (.int .u8 (c.toNat:Int)):=by
 have hi:i<s.size:=by rw[←cQ];exact(fR.1 h).1
 have:s[i]?=some c:=by
  rw[getElem?_pos s i hi]
  obtain⟨h1,h2⟩:=fR.1 h
  rw[←h2]
  try rfl
 simp only[DZ,hu,jU,this]
 simp
def letter(c:UInt8):Bool:=decide (97≤c.toNat)&&decide (c.toNat≤122)
def uM(s:ByteArray):Bool:=(sb s).all letter&&(decide ((1:Int)≤(s.size:Int))&&decide ((s.size:Int)≤6))
theorem w7{α:Type}{p:α→Bool}{l:List α}{i:Nat}{x:α}(h:l[i]?=some x)(hp:p x=false):l.all p=false:=by
 rw[List.all_eq_false]
 exact⟨x,cJ h,by simp [hp]⟩
theorem LD{α:Type}{p:α→Bool}{l:List α}(h:∀(i:Nat) x,l[i]?=some x→p x=true):l.all p=true:=by
 rw[eW]
 intro x hx
 obtain⟨i,hi⟩:=BE hx
 exact h i x hi
end Go.AW
