import Derived.Test.YtlepdbmhjkmelaaGreatDoorWql
import Derived.Test.YtlepdbmhjkmelaaGreatDoorWqj
import Derived.Test.YtlepdbmhjkmelaaGreatDoorWqk
import Derived.Test.YtlepdbmhjkmelaaGreatDoorWqf
import Derived.Lib.SliceRun
set_option linter.unusedSimpArgs false
set_option linter.unusedVariables false
set_option maxRecDepth 100000
namespace Go.AW
open Go.Proofs.Tryz
def jV(n:Int):Prop:= -999≤n∧n≤999
theorem aR6(s:ByteArray)(a b:Int)(ha:jV a)(hb:jV b):jV (r9 s a b).1:=by
 unfold r9 jV
 split
 · exact TH _
 split
 · exact TH _
 split
 · exact TH _
 split
 · simp
 rename_i h0
 split
 · exact aKD a b ha hb h0
 · exact tdiv_le a b ha
theorem aS8{f:Int→Int→Int×Int}{x y:Int×Int}(h:jV (f x.1 y.1).1):jV (both f x y).1:=by
 unfold both jV
 split
 · simp
 split
 · simp
 · exact h
theorem Tm.vE{N:Int}:∀t:Tm,cJ N t→jV t.ev.1:=by
 intro t
 induction t using Tm.ind with
 | h k n s ts ih=>
  intro h
  obtain⟨h1,h2⟩:=h.all
  rw[Tm.yK]
  split
  · rename_i hk;exact h1 hk
  split
  · simp [jV]
  split
  · match ts,h2,ih with
    | [],_,_=>simp [two,jV]
    | [x],_,_=>simp [two,jV]
    | [x,y],h2,ih=>exact aS8 (aR6 _ _ _ (ih x (by simp) (h2 x (by simp))) (ih y (by simp) (h2 y (by simp))))
    | x::y::z::l,_,_=>simp [two,jV]
  · simp [jV]
theorem VI{ts:List Tm}(h:(ts.length:Int)=2):∃x y,ts= [x,y]:=by
 match ts,h with
 | [x,y],_=>exact⟨x,y,rfl⟩
 | [],h=>simp at h
 | [x],h=>simp at h
 | x::y::z::l,h=>simp at h;omega
abbrev xO:=zi aX (zi cB (zi d9 (zi cI (zi dD (zi cC FD)))))
theorem J6{N:Int}:∀(t:Tm) (st:aA),cJ N t→aD prog 207 [t.av] st (fun r st'=>r=.tup [.int .i64 t.ev.1,.int .i64 t.ev.2]∧st'=st)
 | .mk k n s ts,st,hok=>by
  obtain⟨h1,h2⟩:=hok.all
  have IH:=fun(x:Tm) (hx:x∈ts) st=>J6 x st (h2 x hx)
  rw[Tm.yK]
  simp only[bD]
  refine wF [1000000] 1 func207 ntmps207 rfl rfl ?_
  intro _
  simp only[aB,seval,xO]
  refine aQ (fun hk=>?_) (fun hk=>?_)
  · simp only[aB,seval,xO]
    simp only[bM] at hk
    simp [hk]
  simp only[cL] at hk
  rw[aK hk]
  simp only[aB,seval,xO]
  refine aQ (fun hk1=>?_) (fun hk1=>?_)
  · simp only[aB,seval]
    simp only[bM] at hk1
    simp [hk1]
  simp only[cL] at hk1
  rw[aK hk1]
  simp only[aE,aB,seval,xO]
  have hty:∀s0:aA,ts.length≠2∨gE qT s=false→(if gE qT s=true then two (r9 s) (ts.map Tm.ev) else(0,3))=((0:Int),(3:Int)):=fun _ h=>by
   split
   · rename_i h3
     rcases h with h | h
     · match ts,h with
       | [],_=>rfl
       | [x],_=>rfl
       | [x,y],h=>simp at h
       | x::y::z::l,_=>rfl
     · rw[h] at h3;cases h3
   · rfl
  refine cP (fun h=>?_) (fun h=>?_)
  case refine_2=>
   simp only[h,aB,seval]
   rw[hty st (.inl (by simp at h;omega))]
  simp only[h,aB,seval,xO]
  refine(PU qT s _).to ?_
  simp only[aB,seval]
  refine aQ (fun h3=>?_) (fun h3=>?_)
  · simp only[aB,seval]
    rw[hty st (.inr (by simpa [gE] using h3))]
  have hin:gE qT s=true:=by simpa [gE] using h3
  rw[aN hin]
  clear hty
  obtain⟨x,y,rfl⟩:=VI (by simpa using h)
  have eH:dP prog 46 (.slice [x.av,y.av]) (.int .i64 0)=some (.pptr x.av):=bH (av:=Tm.av) (l:=[x,y]) (i:=0) bY rfl (aT x)
  have gC:dP prog 46 (.slice [x.av,y.av]) (.int .i64 1)=some (.pptr y.av):=bH (av:=Tm.av) (l:=[x,y]) (i:=1) bY rfl (aT y)
  have hx:=Tm.vE x (h2 x (by simp))
  have hy:=Tm.vE y (h2 y (by simp))
  have IHx:=fun st=>IH x (by simp) st
  have IHy:=fun st=>IH y (by simp) st
  simp only[eH,cD,aT,aB,↓aW,seval,xO]
  refine(IHx _).to ?_
  simp only[two,both]
  generalize x.ev.1=a at *
  generalize x.ev.2=ca at *
  generalize y.ev.1=b at *
  generalize y.ev.2=cb at *
  simp only[aB,seval]
  refine aQ (fun h4=>?_) (fun h4=>?_)
  · simp only[aB,seval]
    have h4':ca≠0:=by simpa using h4
    rw[aN h4']
  have h4':ca=0:=by simpa using h4
  subst h4'
  rw[aK (by simp)]
  simp only[gC,cD,aT,aB,seval,xO]
  refine(IHy _).to ?_
  simp only[aB,seval]
  refine aQ (fun h5=>?_) (fun h5=>?_)
  · simp only[aB,seval]
    have h5':cb≠0:=by simpa using h5
    rw[aN h5']
  have h5':cb=0:=by simpa using h5
  subst h5'
  rw[aK (by simp)]
  unfold jV at hx hy
  have hmul: -998001≤a*b∧a*b≤998001:=by
   have h6:(a*b).natAbs≤998001:=by
    rw[Int.natAbs_mul]
    have:=Nat.mul_le_mul (show a.natAbs≤999 by omega) (show b.natAbs≤999 by omega)
    omega
   omega
  have hw1:=aZ (n:=a+b)
  have hw2:=aZ (n:=a - b)
  have hw3:=aZ (n:=a*b)
  have hrg:∀(v:Int) (st':aA),aD prog 22 [.int .i64 v,.int .i64 (-999),.int .i64 999] st' (fun r s'=>r=.bool (decide (iV v=(v,0)))∧s'=st'):=fun v st'=>by
   refine(sD v (-999) 999 st').mono ?_
   rintro _ _ ⟨rfl,rfl⟩
   refine⟨?_,rfl⟩
   congr 1
   unfold iV
   split
   · rename_i h;simp [h.1,h.2]
   · rename_i h
     rw[show(decide (((0:Int),(5:Int))=(v,0)))=false from wO (by simp)]
     simp only[Bool.and_eq_false_iff,cL]
     omega
  have hrn:∀v,iV v≠(v,0)→iV v=(0,5):=fun v h=>by
   unfold iV at h ⊢
   split
   · rename_i h';rw[aN h'] at h;exact absurd rfl h
   · rfl
  unfold r9
  simp only[aB,seval,xO]
  refine aQ (fun h6=>?_) (fun h6=>?_)
  · simp only[hw1,aB,seval]
    rw[aN (by simpa using h6)]
    refine(hrg (a+b) _).to ?_
    simp only[aB,seval]
    refine aQ (fun h8=>?_) (fun h8=>?_)
    · simp only[aB,seval]
      rw[hrn _ (by simpa using h8)]
    · simp only[aB,seval]
      rw[show iV (a+b)=(a+b,0) by simpa using h8]
  rw[aK (by simpa using h6)]
  simp only[aB,seval]
  refine aQ (fun h7=>?_) (fun h7=>?_)
  · simp only[hw2,aB,seval]
    rw[aN (by simpa using h7)]
    refine(hrg (a - b) _).to ?_
    simp only[aB,seval]
    refine aQ (fun h8=>?_) (fun h8=>?_)
    · simp only[aB,seval]
      rw[hrn _ (by simpa using h8)]
    · simp only[aB,seval]
      rw[show iV (a - b)=(a - b,0) by simpa using h8]
  rw[aK (by simpa using h7)]
  simp only[aB,seval]
  refine aQ (fun h9=>?_) (fun h9=>?_)
  · simp only[hw3,aB,seval]
    rw[aN (by simpa using h9)]
    refine(hrg (a*b) _).to ?_
    simp only[aB,seval]
    refine aQ (fun h8=>?_) (fun h8=>?_)
    · simp only[aB,seval]
      rw[hrn _ (by simpa using h8)]
    · simp only[aB,seval]
      rw[show iV (a*b)=(a*b,0) by simpa using h8]
  rw[aK (by simpa using h9)]
  simp only[aB,seval]
  refine aQ (fun h0=>?_) (fun h0=>?_)
  · simp only[aB,seval]
    rw[aN (by simpa using h0)]
  have h0':b≠0:=by simpa using h0
  rw[aK h0']
  have hq:=tdiv_le a b hx
  have hr:=NT a b h0'
  have hf:=aKD a b hx hy h0'
  have hfe:=a1P a b h0'
  have hw4:=aZ (n:=a.tdiv b)
  have hw5:=aZ (n:=a.tmod b+b)
  have a26:iV (a.tdiv b)=(a.tdiv b,0):=by unfold iV;rw[aN hq]
  have a27:iV (qV a b)=(qV a b,0):=by unfold iV;rw[aN hf]
  simp only[hw4,h0',aB,seval,xO]
  refine aQ (fun h10=>?_) (fun h10=>?_)
  · simp only[hw5,h0',hfe,aB,seval]
    rw[aN (by simpa using h10)]
    refine(hrg (qV a b) _).to ?_
    have hd:decide (iV (qV a b)=(qV a b,0))=true:=by rw[a27];simp
    simp only[hd,aB,seval]
  · simp only[aB,seval]
    rw[aK (by simpa using h10)]
    refine(hrg (a.tdiv b) _).to ?_
    have hd:decide (iV (a.tdiv b)=(a.tdiv b,0))=true:=by rw[a26];simp
    simp only[hd,aB,seval]
termination_by t=>SizeOf.sizeOf t
decreasing_by have:=List.sizeOf_lt_of_mem hx;simp only[Tm.mk.sizeOf_spec];omega
theorem P0(n:Int)(st:aA):aD prog 197 [.int .i64 n] st (fun r st'=>r=.tup [.int .i64 (iV n).1,.int .i64 (iV n).2]∧st'=st):=by
 refine wF [1000000] 1 func197 ntmps197 rfl rfl ?_
 intro _
 simp only[aB,seval]
 refine cP (fun h=>?_) (fun h=>?_)
 · simp only[h,aB,seval]
   have h1:¬n< -999:=by simpa using h
   refine aQ (fun h2=>?_) (fun h2=>?_)
   · simp only[aB,seval]
     have h2':999<n:=by simpa using h2
     unfold iV
     rw[aK (by omega)]
   · simp only[aB,seval]
     have h2':¬ 999<n:=by simpa using h2
     unfold iV
     rw[aN (by omega)]
 · simp only[h,aB,seval]
   have h1:n< -999:=by simpa using h
   unfold iV
   rw[aK (by omega)]
abbrev a8W:=zi aX cB
theorem aVR(a b:Int)(ha:jV a)(hb:jV b)(h0:b≠0)(st:aA):aD prog 198 [.int .i64 a,.int .i64 b] st (fun r st'=>r=.int .i64 (qV a b)∧st'=st):=by
 have hl:=NT a b h0
 unfold jV at ha hb
 have hw:=aZ (n:=a.tmod b+b)
 refine wF [1000000] 2 func198 ntmps198 rfl rfl ?_
 intro _
 simp only[h0,aB,seval]
 have hf:qV a b=if a.tmod b≠0∧decide (a.tmod b<0)≠decide (b<0) then a.tmod b+b else a.tmod b:=rfl
 rw[hf]
 clear hf
 generalize hm:a.tmod b=m at *
 refine cP (fun h=>?_) (fun h=>?_)
 · have h':m≠0:=by simpa using h
   simp only[h,aB,seval,a8W]
   refine aQ (fun h2=>?_) (fun h2=>?_)
   · simp only[hw,aB,seval]
     rw[aN ⟨h',by simpa using h2⟩]
   · simp only[aB,seval]
     rw[aK (by intro h3;exact h3.2 (by simpa using h2))]
 · have h':m=0:=by simpa using h
   simp only[h,aB,seval]
   rw[aK (by intro h3;exact h3.1 h')]
theorem aVP(a b:Int)(ha:jV a)(hb:jV b)(h0:b≠0)(st:aA):aD prog 199 [.int .i64 a,.int .i64 b] st (fun r st'=>r=.int .i64 (a.tdiv b)∧st'=st):=by
 have hl:=tdiv_le a b ha
 have hw:=aZ (n:=a.tdiv b)
 refine wF [1000000] 2 func199 ntmps199 rfl rfl ?_
 intro _
 simp only[h0,hw,aB,seval]
theorem YL(s:ByteArray)(a b:Int)(hx:jV a)(hy:jV b)(st:aA):aD prog 181 [.str s,.int .i64 a,.int .i64 b] st (fun r st'=>r=.tup [.int .i64 (r9 s a b).1,.int .i64 (r9 s a b).2]∧st'=st):=by
 have hMod:=fun h0=>aVR a b hx hy h0
 have hDiv:=fun h0=>aVP a b hx hy h0
 unfold jV at hx hy
 have hmul: -998001≤a*b∧a*b≤998001:=by
  have h6:(a*b).natAbs≤998001:=by
   rw[Int.natAbs_mul]
   have:=Nat.mul_le_mul (show a.natAbs≤999 by omega) (show b.natAbs≤999 by omega)
   omega
  omega
 have hw1:=aZ (n:=a+b)
 have hw2:=aZ (n:=a - b)
 have hw3:=aZ (n:=a*b)
 unfold r9
 refine wF [1000000] 3 func181 ntmps181 rfl rfl ?_
 intro _
 simp only[aB,seval]
 refine aQ (fun h6=>?_) (fun h6=>?_)
 · simp only[hw1,aB,seval]
   rw[aN (by simpa using h6)]
   refine(P0 _ _).to ?_
   simp only[aB,seval]
 rw[aK (by simpa using h6)]
 simp only[aB,seval]
 refine aQ (fun h7=>?_) (fun h7=>?_)
 · simp only[hw2,aB,seval]
   rw[aN (by simpa using h7)]
   refine(P0 _ _).to ?_
   simp only[aB,seval]
 rw[aK (by simpa using h7)]
 simp only[aB,seval]
 refine aQ (fun h9=>?_) (fun h9=>?_)
 · simp only[hw3,aB,seval]
   rw[aN (by simpa using h9)]
   refine(P0 _ _).to ?_
   simp only[aB,seval]
 rw[aK (by simpa using h9)]
 simp only[aB,seval]
 refine aQ (fun h0=>?_) (fun h0=>?_)
 · simp only[aB,seval]
   rw[aN (by simpa using h0)]
 have h0':b≠0:=by simpa using h0
 rw[aK h0']
 simp only[aB,seval]
 refine aQ (fun h10=>?_) (fun h10=>?_)
 · simp only[aB,seval]
   rw[aN (by simpa using h10)]
   refine(hMod h0' _).to ?_
   simp only[aB,seval]
 · simp only[aB,seval]
   rw[aK (by simpa using h10)]
   refine(hDiv h0' _).to ?_
   simp only[aB,seval]
theorem J0(s:ByteArray):gE qT s=decide (jP s=1∨jP s=2):=by
 unfold gE qT jP
 simp only[x6,List.any_nil,Bool.or_false]
 by_cases h1:s=⟨#[43]⟩
 · subst h1;decide
 by_cases h2:s=⟨#[45]⟩
 · subst h2;decide
 by_cases h3:s=⟨#[42]⟩
 · subst h3;decide
 by_cases h4:s=⟨#[47,47]⟩
 · subst h4;decide
 by_cases h5:s=⟨#[109,111,100]⟩
 · subst h5;decide
 simp only[h1,h2,h3,h4,h5,dW,Bool.or_false,cond_false]
 cases (decide (s=⟨#[61]⟩)||decide (s=⟨#[92,61]⟩)||decide (s=⟨#[61,61]⟩)||decide (s=⟨#[60]⟩)||decide (s=⟨#[62]⟩)||decide (s=⟨#[61,60]⟩)||decide (s=⟨#[62,61]⟩)||decide (s=⟨#[61,58,61]⟩)||decide (s=⟨#[105,115]⟩))<;>rfl
abbrev sX:=zi aX (zi d9 (zi cI cC))
theorem KC{N:Int}:∀(t:Tm) (st:aA),cJ N t→aD prog 162 [t.av] st (fun r st'=>r=.tup [.int .i64 t.ev.1,.int .i64 t.ev.2]∧st'=st)
 | .mk k n s ts,st,hok=>by
  obtain⟨h1,h2⟩:=hok.all
  have IH:=fun(x:Tm) (hx:x∈ts) st=>KC x st (h2 x hx)
  rw[Tm.yK]
  simp only[bD]
  refine wF [1000000] 1 func162 ntmps162 rfl rfl ?_
  intro _
  simp only[aB,seval,sX]
  refine aQ (fun hk1=>?_) (fun hk1=>?_)
  · simp only[aB,seval]
    simp only[bM] at hk1
    rw[aK (by omega),aN hk1]
  simp only[cL] at hk1
  rw[aK hk1]
  simp only[aB,seval]
  refine aQ (fun hk=>?_) (fun hk=>?_)
  · simp only[aB,seval,sX]
    simp only[bM] at hk
    simp [hk]
  simp only[cL] at hk
  rw[aK hk]
  simp only[aB,seval,sX]
  refine(YI s _).to ?_
  simp only[aE,aB,seval,sX]
  have hty:∀s0:aA,ts.length≠2∨gE qT s=false→(if gE qT s=true then two (r9 s) (ts.map Tm.ev) else(0,3))=((0:Int),(3:Int)):=fun _ h=>by
   split
   · rename_i h3
     rcases h with h | h
     · match ts,h with
       | [],_=>rfl
       | [x],_=>rfl
       | [x,y],h=>simp at h
       | x::y::z::l,_=>rfl
     · rw[h] at h3;cases h3
   · rfl
  refine cP (fun h=>?_) (fun h=>?_)
  case refine_2=>
   simp only[h,aB,seval]
   rw[hty st (.inl (by simp at h;omega))]
  simp only[h,aB,seval]
  have aLD:gE qT s=false→jP s≠1∧jP s≠2:=fun h=>by
   rw[J0] at h
   have:=of_decide_eq_false h
   omega
  refine cP (fun h3=>?_) (fun h3=>?_)
  · simp only[h3,aB,seval]
    have h3':jP s≠1:=by simp at h3;omega
    refine aQ (fun h6=>?_) (fun h6=>?_)
    · have h6':jP s≠2:=by simp at h6;omega
      simp only[aB,seval]
      rw[hty st (.inr (by rw[J0];simp [h3',h6']))]
    · have h6':jP s=2:=by simp at h6;omega
      have hin:gE qT s=true:=by rw[J0];simp [h6']
      simp only[aB,seval,sX]
      rw[aN hin]
      clear hty aLD
      obtain⟨x,y,rfl⟩:=VI (by simpa using h)
      have eH:dP prog 46 (.slice [x.av,y.av]) (.int .i64 0)=some (.pptr x.av):=bH (av:=Tm.av) (l:=[x,y]) (i:=0) bY rfl (aT x)
      have gC:dP prog 46 (.slice [x.av,y.av]) (.int .i64 1)=some (.pptr y.av):=bH (av:=Tm.av) (l:=[x,y]) (i:=1) bY rfl (aT y)
      have hx:=Tm.vE x (h2 x (by simp))
      have hy:=Tm.vE y (h2 y (by simp))
      have IHx:=fun st=>IH x (by simp) st
      have IHy:=fun st=>IH y (by simp) st
      simp only[bR,bS,two,both]
      simp only[eH,cD,aT,aB,↓aW,seval,sX]
      refine(IHx _).to ?_
      generalize x.ev.1=a at *
      generalize x.ev.2=ca at *
      generalize y.ev.1=b at *
      generalize y.ev.2=cb at *
      simp only[aB,seval]
      refine aQ (fun h4=>?_) (fun h4=>?_)
      · simp only[aB,seval]
        have h4':ca≠0:=by simpa using h4
        rw[aN h4']
      have h4':ca=0:=by simpa using h4
      subst h4'
      rw[aK (by simp)]
      simp only[gC,cD,aT,aB,seval,sX]
      refine(IHy _).to ?_
      simp only[aB,seval]
      refine aQ (fun h5=>?_) (fun h5=>?_)
      · simp only[aB,seval]
        have h5':cb≠0:=by simpa using h5
        rw[aN h5']
      have h5':cb=0:=by simpa using h5
      subst h5'
      rw[aK (by simp)]
      simp only[aB,seval,sX]
      refine(YL s a b hx hy _).to ?_
      simp only[aB,seval]
  · have h3':jP s=1:=by simp at h3;omega
    have hin:gE qT s=true:=by rw[J0];simp [h3']
    simp only[h3,aB,seval,sX]
    rw[aN hin]
    clear hty aLD
    obtain⟨x,y,rfl⟩:=VI (by simpa using h)
    have eH:dP prog 46 (.slice [x.av,y.av]) (.int .i64 0)=some (.pptr x.av):=bH (av:=Tm.av) (l:=[x,y]) (i:=0) bY rfl (aT x)
    have gC:dP prog 46 (.slice [x.av,y.av]) (.int .i64 1)=some (.pptr y.av):=bH (av:=Tm.av) (l:=[x,y]) (i:=1) bY rfl (aT y)
    have hx:=Tm.vE x (h2 x (by simp))
    have hy:=Tm.vE y (h2 y (by simp))
    have IHx:=fun st=>IH x (by simp) st
    have IHy:=fun st=>IH y (by simp) st
    simp only[bR,bS,two,both]
    simp only[eH,cD,aT,aB,↓aW,seval,sX]
    refine(IHx _).to ?_
    generalize x.ev.1=a at *
    generalize x.ev.2=ca at *
    generalize y.ev.1=b at *
    generalize y.ev.2=cb at *
    simp only[aB,seval]
    refine aQ (fun h4=>?_) (fun h4=>?_)
    · simp only[aB,seval]
      have h4':ca≠0:=by simpa using h4
      rw[aN h4']
    have h4':ca=0:=by simpa using h4
    subst h4'
    rw[aK (by simp)]
    simp only[gC,cD,aT,aB,seval,sX]
    refine(IHy _).to ?_
    simp only[aB,seval]
    refine aQ (fun h5=>?_) (fun h5=>?_)
    · simp only[aB,seval]
      have h5':cb≠0:=by simpa using h5
      rw[aN h5']
    have h5':cb=0:=by simpa using h5
    subst h5'
    rw[aK (by simp)]
    simp only[aB,seval,sX]
    refine(YL s a b hx hy _).to ?_
    simp only[aB,seval]
termination_by t=>SizeOf.sizeOf t
decreasing_by have:=List.sizeOf_lt_of_mem hx;simp only[Tm.mk.sizeOf_spec];omega
theorem XB{A C B:List AV}{n:Nat}(hA:A.length=n)(hC:C.length=4) :
 (n+4≤(A++C++B).length)∧List.take 4 (List.drop n (A++C++B))=C∧(A++C++B)[n+0]?=C[0]?:=by
 refine⟨by simp only[dS];omega,?_,(vN (A:=A) (B:=B) hA).2.2.1 C 0 (by omega)⟩
 rw[←hA,kC,FP,←hC,CC]
end Go.AW
namespace Go.AW
def n9(n:Int):Tm:=.mk 2 n ⟨#[]⟩ []
theorem a4W{n:Int}(h:jV n):(n9 n).valid=true:=by
 have ho:(n9 n).lW=true:=by
  unfold n9
  rw[Tm.BI]
  simp [fB,h.1,h.2]
 rw[Tm.aQS ho]
 simp [n9,Tm.lJ,aH,Tm.sM]
def iG(b:Bool):Int:=if b=true then 0 else 1
def KL(s:ByteArray)(a b:Int):Bool:=
 if s=⟨#[60]⟩ then decide (a<b) else if s=⟨#[62]⟩ then decide (b<a) else if s=⟨#[61,60]⟩ then decide (a≤b) else if s=⟨#[62,61]⟩ then decide (b≤a) else decide (a=b)
def uO(s:ByteArray)(x:Tm):Bool:=
 if s=⟨#[118,97,114]⟩ then decide (x.k=1) else if s=⟨#[110,111,110,118,97,114]⟩ then !decide (x.k=1) else if s=⟨#[97,116,111,109]⟩ then decide (x.k=3)&&decide ((x.ts.length:Int)=0) else decide (x.k=2)
def yI(s:ByteArray)(x y:Tm):Int:=(both (fun a b=>(0,iG (KL s a b))) x.ev y.ev).2
def nC(x y:Tm):Option Tm:=if 1≤x.n∧x.n≤y.ts.length then y.ts[(x.n - 1).toNat]? else none
theorem W7{x y u:Tm}(h:nC x y=some u):u∈y.ts:=by
 unfold nC at h
 split at h
 · exact cH h
 · cases h
theorem XD{s:ByteArray}{n:Nat}(h:isBuiltin s (n:Int)=true) :
 (n=2∧(gE sH s=true∨s=⟨#[61]⟩∨s=⟨#[92,61]⟩∨s=⟨#[61,61]⟩∨s=⟨#[105,115]⟩))∨(n=0∧(s=⟨#[116,114,117,101]⟩∨s=⟨#[102,97,105,108]⟩)) ∨
 (n=1∧(s=⟨#[118,97,114]⟩∨s=⟨#[110,111,110,118,97,114]⟩∨s=⟨#[97,116,111,109]⟩∨s=⟨#[105,110,116]⟩))∨(n=3∧s=⟨#[97,114,103]⟩):=by
 unfold isBuiltin at h
 simp only[cond_eq_ite] at h
 split at h
 · rename_i h1
   left
   refine⟨by simp at h;omega,?_⟩
   simp only[tF,bM] at h1
   simp only[gE,sH,x6,List.any_nil,tF,bM,iE,dG]
   rcases h1 with (((((((h1 | h1) | h1) | h1) | h1) | h1) | h1) | h1) | h1<;>simp [h1]
 split at h
 · rename_i h1
   right;left
   refine⟨by simp at h;omega,?_⟩
   simpa using h1
 split at h
 · rename_i h1
   right;right;left
   refine⟨by simp at h;omega,?_⟩
   simp only[tF,bM] at h1
   rcases h1 with ((h1 | h1) | h1) | h1<;>simp [h1]
 split at h
 · rename_i h1
   right;right;right
   exact⟨by simp at h;omega,by simpa using h1⟩
 · cases h
def dQ:AV→List Nat
 | .mslice b _ _ _=>[b]
 | _=>[]
def Trail(st:aA)(q:AV)(tr:List Int):Prop:=
 (q=.fslice []∧tr= [])∨∃b cs,q=.mslice b 0 tr.length 1∧st b=some (.cells cs)∧cs.take tr.length=tr.map iv
structure gG (st:aA) (c m:Nat) (q:AV) (σ:Sub) (tr:List Int):Prop where
 sub:iS st c m q σ
 fK:Trail st q tr
 apart:c∉dQ q
structure mM (c m:Nat) (st:aA) (q:AV) (st':aA) (q':AV):Prop where
 frame:∀b o,st b=some o→b≠c→b≠m→b∉dQ q→st' b=some o
 fresh:∀b∈dQ q',b∈dQ q∨st b=none
def wA(c m:Nat)(st:aA)(q:AV)(σ':Sub)(tr':List Int)(st':aA):Prop:=∃q',gG st' c m q' σ' tr'∧mM c m st q st' q'
theorem mM.refl(c m:Nat)(st:aA)(q:AV):mM c m st q st q:=⟨fun _ _ h _ _ _=>h,fun _ h=>.inl h⟩
theorem mM.trans{c m:Nat}{st st' zB:aA}{q q' q'':AV}{σ:Sub}{tr:List Int}(x:mM c m st q st' q')(hS:gG st' c m q' σ tr)(y:mM c m st' q' zB q''):mM c m st q zB q'':=by
 refine⟨fun b o h h1 h2 h3=>?_,fun b hb=>?_⟩
 · refine y.frame b o (x.frame b o h h1 h2 h3) h1 h2 fun h4=>?_
   rcases x.fresh b h4 with h5 | h5
   · exact h3 h5
   · rw[h5] at h;cases h
 · rcases y.fresh b hb with h | h
   · exact x.fresh b h
   · by_cases h1:b∈dQ q
     · exact .inl h1
     · refine .inr ?_
       cases hst:st b with
       | none=>rfl
       | some o=>
        exfalso
        by_cases hc:b=c
        · subst hc;rw[hS.sub.cells] at h;cases h
        · by_cases hm:b=m
          · subst hm;rw[hS.sub.map] at h;cases h
          · rw[x.frame b o hst hc hm h1] at h;cases h
theorem gG.IF{st:aA}{c m:Nat}{q:AV}{σ:Sub}{tr:List Int}(h:gG st c m q σ tr):∀b∈dQ q,∃cs,st b=some (.cells cs):=by
 intro b hb
 rcases h.fK with ⟨rfl,_⟩ | ⟨b',cs,rfl,hb',_⟩
 · simp [dQ] at hb
 · simp only[dQ,cG,cX,dG] at hb;subst hb;exact⟨cs,hb'⟩
theorem gG.L4{st:aA}{c m:Nat}{q:AV}{σ:Sub}{tr:List Int}(h:gG st c m q σ tr):m∉dQ q:=fun hb=>by
 obtain⟨cs,e⟩:=h.IF m hb
 rw[h.sub.map] at e;cases e
theorem gG.aC{st:aA}{c m b:Nat}{q:AV}{σ:Sub}{tr:List Int}{o:AO}(h:gG st c m q σ tr)(h1:b≠c)(h2:b≠m)(h3:b∉dQ q):gG (st.aC b o) c m q σ tr:=by
 refine⟨h.sub.OF h1 h2,?_,h.apart⟩
 rcases h.fK with h4 | ⟨b',cs,e1,e2,e3⟩
 · exact .inl h4
 · refine .inr ⟨b',cs,e1,?_,e3⟩
   rw[aA.aF _ _ (by rintro rfl;exact h3 (by rw[e1];simp [dQ]))]
   exact e2
theorem gG.FJ{st:aA}{c m b:Nat}{q:AV}{σ:Sub}{tr:List Int}{o:AO}(h:gG st c m q σ tr)(hb:st b=none):gG (st.aC b o) c m q σ tr:=
 h.aC (h.sub.ne hb).1 (h.sub.ne hb).2 fun h3=>by obtain⟨cs,e⟩:=h.IF b h3;rw[hb] at e;cases e
theorem mM.FJ{c m b:Nat}{st:aA}{q:AV}{o:AO}(hb:st b=none):mM c m st q (st.aC b o) q:=
 ⟨fun x p h _ _ _=>by rw[aA.aF _ _ (by rintro rfl;rw[hb] at h;cases h)];exact h,fun _ h=>.inl h⟩
theorem gG.shape{st:aA}{c m:Nat}{q:AV}{σ:Sub}{tr:List Int}(h:gG st c m q σ tr):q.isAgg=false∧q.width=1∧q.bV=false∧q.cells= [q]∧q.storable=true:=by
 rcases h.fK with ⟨rfl,_⟩ | ⟨b',cs,rfl,_⟩<;>exact⟨rfl,rfl,rfl,rfl,rfl⟩
theorem wA.from{c m:Nat}{st s0 st':aA}{q q0:AV}{σ σ':Sub}{tr tr':List Int}(h:wA c m s0 q0 σ' tr' st')(x:mM c m st q s0 q0)(hS:gG s0 c m q0 σ tr):wA c m st q σ' tr' st':=by
 obtain⟨q',h1,h2⟩:=h
 exact⟨q',h1,x.trans hS h2⟩
theorem a9Y{P:Program}{t:TypeId}{ag:Bool}{bytes:Nat}{zs:List AV}{st:aA}{c m:Nat}{q:AV}{σ:Sub}{tr:List Int}{n:Int}{K:AV→aA→Prop}(hI:eI P t=some (ag,1))(hB:eB P t=some bytes)(hZ:eZ P t=some zs)(hz:zs.length=1)(hb8:bytes≤16)
 (h:gG st c m q σ tr) (hl:tr.length+1≤1099511627776)
 (hK:∀q' st',Trail st' q' (tr++ [n])→c∉dQ q'→m∉dQ q'→(∀x,x∉dQ q→x∉dQ q'→st' x=st x)→(∀x∈dQ q',x∈dQ q∨st x=none)→K q' st'):kF P t st q (.fslice [.int .i64 n]) K:=by
 have eW:tO 1 [AV.int .i64 n]:=by intro e he;simp only[cG,cX,dG] at he;subst he;exact⟨rfl,rfl⟩
 have DP:(tr.length+1)*bytes≤140737488355328:=by
  have:=Nat.mul_le_mul hl hb8
  omega
 unfold kF
 simp only[hI,hB,hZ,z7]
 refine⟨hz,eW,?_⟩
 have hcm:∀x,st x=none→x≠c∧x≠m:=fun x hx=>h.sub.ne hx
 rcases h.fK with ⟨rfl,rfl⟩ | ⟨b,cs,rfl,hb,hcs⟩
 · simp only[bG,a8,jW] at DP ⊢
   refine⟨by omega,by omega,by simp,fun h=>by simp at h,fun _ b hb=>?_⟩
   refine hK _ _ (.inr ⟨b,[.int .i64 n],rfl,aA.aJ _ _ _,rfl⟩) (by simp only[dQ,cG,cX,dG];exact dA (hcm b hb).1) (by simp only[dQ,cG,cX,dG];exact dA (hcm b hb).2) (fun x _ hx=>?_) (fun x hx=>?_)
   · simp only[dQ,cG,cX,dG] at hx
     rw[aA.aF _ _ hx]
   · simp only[dQ,cG,cX,dG] at hx
     subst hx;exact .inr hb
 · simp only[a8,bG,jW,hb]
   have hlen:tr.length≤cs.length:=by
    have:=iT List.length hcs
    simp only[dZ,aE] at this
    omega
   have hca:c≠b:=fun e=>h.apart (by simp [dQ,e])
   have hma:m≠b:=fun e=>h.L4 (by simp [dQ,e])
   have kM:cs.take (tr.length*1)++ [AV.int .i64 n].flatMap AV.cells=(tr++ [n]).map iv:=by rw[uZ,hcs];simp [AV.cells]
   refine⟨trivial,DP,by omega,by omega,?_,fun b' hb'=>?_⟩
   · rw[kM]
     refine hK _ _ (.inr ⟨b,_,by simp,aA.aJ _ _ _,by rw[m9 (by simp)]⟩) (by simpa [dQ] using hca) (by simpa [dQ] using hma) (fun x hx _=>?_) (fun x hx=>.inl hx)
     simp only[dQ,cG,cX,dG] at hx
     rw[aA.aF _ _ hx]
   · rw[kM]
     obtain⟨hc',hm'⟩:=hcm b' hb'
     refine hK _ _ (.inr ⟨b',_,by simp,aA.aJ _ _ _,by rw[m9 (by simp)]⟩) (by simpa [dQ] using dA hc') (by simpa [dQ] using dA hm') (fun x hx hx'=>?_) (fun x hx=>?_)
     · simp only[dQ,cG,cX,dG] at hx hx'
       rw[aA.aF _ _ hx']
       simp [aA.erase,hx]
     · simp only[dQ,cG,cX,dG] at hx
       subst hx;exact .inr hb'
end Go.AW
namespace Go.AW
open Go.Proofs.Tryz
abbrev BW:=zi aX (zi cB (zi cC (zi pH (zi NO FF))))
theorem KE{σ:Sub}{f:Nat}{t u:Tm}(hw:f9 σ f t u)(c m:Nat)(q:AV)(st:aA)(hS:iS st c m q σ):aD prog 218 [.ptr c 0,t.av] st (fun r st'=>r=u.av∧st'=st):=by
 refine aD.done ?_
 refine wF [1000000,3] 2 func218 ntmps218 rfl rfl ?_
 intro _
 simp only[aB,seval,BW]
 intro b3 h3 b4 h4
 have hne:b4≠b3:=by rintro rfl;rw[aA.aJ] at h4;cases h4
 have hn4:st b4=none:=by rw[aA.aF st _ hne] at h4;exact h4
 have hD:∀o o',aO ((st.aC b3 o).aC b4 o') st:=fun o o'=>((aO.refl _).aC h3).aC hn4
 have hS':∀o o',iS ((st.aC b3 o).aC b4 o') c m q σ:=fun o o'=>(hS.aC h3).aC (by rw[aA.aF _ _ hne];exact hn4)
 obtain⟨a3J,bCZ⟩:=hS.ne h3
 obtain⟨a3K,bC0⟩:=hS.ne hn4
 refine oI (σ:=Nat×Tm) [1000000,3] [0,3,4] (fun p=>f9 σ p.1 p.2 u) (fun p=>[]) (fun p=>(st.aC b3 (.cells p.2.av.cells)).aC b4 (.cells [.int .i64 0,.int .i64 0,.str ⟨#[]⟩,.fslice []])) (fun p=>p.1) (by decide +kernel) ⟨(f,t),hw,aP.mk (by simp only[aB,seval])⟩ ?_
 rintro⟨g,t⟩ hw
 obtain⟨k,n,s,ts⟩:=t
 simp only at hw
 simp only[bD]
 simp only[hne.symm,aB,seval,BW]
 refine aQ (fun h=>?_) (fun h=>?_)
 case refine_2=>
  simp only[cL] at h
  cases hw with
  | go h1=>exact absurd h1 h
  | stop=>
   simp only[aM,hne.symm,aB,seval,BW]
   exact⟨by rw[←bD,Tm.soft],hD _ _⟩
 simp only[bM] at h
 simp only[aB,seval]
 refine wP [(0,1),(1,1),(2,1),(4,1),(3,2),(5,2),(6,2),(7,1),(8,1),(9,1),(10,0),(11,0),(12,1)] [0,1,2,4,3,5,6,7,8,9,12] mixed ?_
 have hl:=fun(st':aA) (hm:st' m=some (AO.map (mapOf σ)))=>a5I (P:=prog) (n:=n) hm VJ qI bA2
 simp only[hne.symm,hS.cells,a3J.symm,a3K.symm,aB,seval,BW]
 rw[hl _ (hS' _ _).map]
 cases hw with
 | stop hs=>
  rw[show σ n=none from hs h]
  simp only[found,aM,aB,seval,BW]
  intro b5 h5
  have h53:b5≠b3:=by rintro rfl;simp [aA.aF,aA.aJ,hne.symm] at h5
  have h54:b5≠b4:=by rintro rfl;simp [aA.aJ] at h5
  have hn5:st b5=none:=by rw[aA.aF _ _ h54,aA.aF _ _ h53] at h5;exact h5
  simp only[aM,hne.symm,h53.symm,h54.symm,aB,seval,BW]
  exact⟨by rw[←bD,Tm.soft],((((aO.refl _).aC h3).aC hn4).aC hn5).aC hn4⟩
 | go _ h2 h3'=>
  rw[show σ n=some _ from h2]
  simp only[found,aM,aB,seval,BW]
  intro b5 h5
  have h53:b5≠b3:=by rintro rfl;simp [aA.aF,aA.aJ,hne.symm] at h5
  have h54:b5≠b4:=by rintro rfl;simp [aA.aJ] at h5
  have hn5:st b5=none:=by rw[aA.aF _ _ h54,aA.aF _ _ h53] at h5;exact h5
  simp only[hne.symm,h53.symm,aB,seval]
  refine⟨(_,_),Nat.lt_succ_self _,h3',aP.drop (fun x=>?_) (by simp only[aB,seval])⟩
  by_cases e3:x=b3<;>by_cases e4:x=b4<;>by_cases e5:x=b5<;>simp_all [aA.aC]
abbrev aPJ:=zi aX (zi cI (zi dD cC))
theorem aTW(l:List Tm)(g:FuncId)(cU:List AV)(p:Tm→Bool)(J E:aA→Prop)(hc:∀x∈l,∀s,J s→aD prog g ([Tm.av x]++cU) s (fun r s'=>r=.bool (p x)∧(p x=true→E s')∧(p x=false→J s')))(st:aA)(h0:J st) :
 aD prog 149 [.slice (l.map Tm.av),.func g cU] st (fun r st'=>r=.int .i64 (oZ p l 0)∧(l.any p=true→E st')∧(l.any p=false→J st')):=by
 refine wF [1000000] 2 func149 ntmps149 rfl rfl ?_
 simp only[cV,AV.fits,dE,aE]
 intro ⟨hl,_⟩
 simp only[aE,aB,seval,aPJ]
 refine dI (σ:=aA) [1000000] [0,1,7] l (fun i s=>J s∧oZ p (l.drop i) i=oZ p l 0∧(l.drop i).any p=l.any p) (fun i _=>[(8,.int .i64 i)]) (fun _ s=>s) (by decide +kernel) ⟨st,⟨h0,rfl,rfl⟩,aP.mk (by simp only[aB,↓aW,seval])⟩ (fun i x s hx hlt a7 hdr hinv=>?_) (fun s hge hinv=>?_)
 case refine_2=>
  obtain⟨i1,i2,i3⟩:=hinv
  rw[iA] at i2 i3
  simp only[hge,aB,seval]
  exact⟨by rw[←i2];try rfl,fun h=>(by rw[←i3] at h;cases h),fun _=>i1⟩
 obtain⟨i1,i2,i3⟩:=hinv
 rw[hdr,oZ] at i2
 rw[hdr,x6] at i3
 have hw:=aZ (n:=(i:Int)+1)
 simp only[a7,bH (av:=Tm.av) bY hx (aT x),cD,aT,aB,seval,aPJ]
 refine(hc x (cH hx) s i1).mono ?_
 rintro _ s2 ⟨rfl,hE,hJ⟩
 simp only[aB,seval]
 refine aQ (fun h=>?_) (fun h=>?_)
 · rw[aN h] at i2
   rw[h,B8] at i3
   simp only[aB,seval]
   exact⟨by rw[i2],fun _=>hE h,fun h'=>(by rw[←i3] at h';cases h')⟩
 · rw[aK (by simp [h])] at i2
   rw[h,rS] at i3
   simp only[aB,seval]
   exact⟨s2,⟨hJ h,i2,i3⟩,aP.mk (by simp only[hw,aB,seval])⟩
theorem aTL(l:List Tm)(g:FuncId)(cU:List AV)(p:Tm→Bool)(J E:aA→Prop)(hc:∀x∈l,∀s,J s→aD prog g ([Tm.av x]++cU) s (fun r s'=>r=.bool (p x)∧(p x=true→E s')∧(p x=false→J s')))(st:aA)(h0:J st) :
 aD prog 129 [.slice (l.map Tm.av),.func g cU] st (fun r st'=>r=.bool (l.any p)∧(l.any p=true→E st')∧(l.any p=false→J st')):=by
 refine wF [1000000] 2 func129 ntmps129 rfl rfl ?_
 intro _
 simp only[aB,seval]
 refine(aTW l g cU p J E hc st h0).mono ?_
 rintro _ s2 ⟨rfl,hE,hJ⟩
 simp only[a4N,aB,seval]
 exact⟨hE,hJ⟩
def Occ(R:Int→Tm)(n:Int)(t:Tm)(st:aA)(mm:Nat)(M:List Int)(r:AV)(st':aA):Prop:=
 r=.bool (decide (n∈(t.aL R).vl))∧∃M',st'=st.aC mm (.map (mH M'))∧(n∉(t.aL R).vl→∀v∈M',v∈M∨n∉(R v).vl)
abbrev a9N:=zi aX (zi cB (zi cC (zi pH U9)))
theorem aV4{c mm:Nat}{n:Int}{t:Tm}{st:aA}{Q:AV→aA→Prop}(hc:aD prog 223 [.ptr c 0,.int .i64 n,t.av,.map mm] st Q) :
 aD prog 225 [t.av,.pptr (.ptr c 0),.pptr (.int .i64 n),.pptr (.map mm)] st Q:=by
 refine wF [1000000] 4 func225 ntmps225 rfl rfl ?_
 intro _
 simp only[aB,seval,a9N]
 refine hc.mono ?_
 intro r s h
 simp only[aB,seval]
 exact h
abbrev zE:=zi aX (zi cB (zi cI (zi cC (zi pH (zi U6 U9)))))
theorem P2{σ:Sub}{R:Int→Tm}{rk:Int→Nat}{B:Nat}(G:Good σ R rk B){n:Int}(hn:σ n=none)(c m mm:Nat)(q:AV)(hmm:mm≠c∧mm≠m) :
 ∀(K:Nat) (t:Tm) (M:List Int) (st:aA),iS st c m q σ→st mm=some (.map (mH M))→(∀w∈t.vl,rk w<K)→(∀v∈M,n∉(R v).vl∨∀w∈t.vl,rk w<rk v) →
 aD prog 223 [.ptr c 0,.int .i64 n,t.av,.map mm] st (Occ R n t st mm M)
 | K,.mk k x s ts,M,st,hS,hM,hK,SB=>by
  have IH1:=fun(K':Nat) (hK':K'<K) t M st=>P2 G hn c m mm q hmm K' t M st
  have IH2:=fun(y:Tm) (hy:y∈ts) M st=>P2 G hn c m mm q hmm K y M st
  have hlk:=a5H (P:=prog) (n:=x) hM aQK qI bA1
  simp only[bD]
  refine wF [1000000] 4 func223 ntmps223 rfl rfl ?_
  intro _
  simp only[aB,seval,zE]
  refine aQ (fun h=>?_) (fun h=>?_)
  · simp only[bM] at h
    have hvl:(Tm.mk k x s ts).vl= [x]:=Tm.mZ h
    have hmv:(Tm.mk k x s ts).aL R=R x:=Tm.mG R h
    have hKx:rk x<K:=hK x (by rw[hvl];simp)
    simp only[hlk,aB,seval,zE]
    refine aQ (fun h2=>?_) (fun h2=>?_)
    · simp only[bM] at h2
      simp only[aB,seval]
      have hno:n∉(R x).vl:=by
       rcases SB x h2 with h | h
       · exact h
       · exact absurd (h x (by rw[hvl];simp)) (Nat.lt_irrefl _)
      refine⟨by rw[hmv];simp [hno],M,?_,fun _ v hv=>.inl hv⟩
      funext y
      simp only[aA.aC]
      split
      · rename_i e;rw[e,hM]
      · rfl
    · simp only[cL] at h2
      simp only[aB,seval,zE]
      refine bAL hM aQK qI ?_
      simp only[aB,seval,zE]
      obtain⟨f,hwk⟩:=G.wk (Tm.mk k x s ts)
      generalize hu:wk σ (Tm.mk k x s ts)=u at *
      have hS':=hS.OF (o:=.map (mH (x::M))) hmm.1 hmm.2
      have hcw:=KE hwk c m q _ hS'
      rw[bD] at hcw
      refine hcw.to ?_
      have R8:u.aL R=R x:=by rw[hwk.aL G.xA,hmv]
      have rA:=hwk.end
      have hrk:=hwk.H4 G
      obtain⟨k',x',s',ts'⟩:=u
      simp only[bD]
      simp only[aB,↓aW,seval,zE]
      refine aQ (fun h3=>?_) (fun h3=>?_)
      · simp only[bM] at h3
        simp only[aB,seval,zE]
        have rB:R x'=vr x':=G.free (rA h3)
        rw[Tm.mG R h3,rB] at R8
        refine⟨?_,x::M,rfl,fun hno v hv=>?_⟩
        · rw[hmv,←R8,zN]
          simp [eq_comm]
        · rcases cG.1 hv with rfl | hv
          · exact .inr (by rw[hmv] at hno;exact hno)
          · exact .inl hv
      · simp only[cL] at h3
        simp only[aB,seval,zE]
        have hf0:f≠0:=by
         rintro rfl
         cases hwk with
         | stop _=>exact h3 h
        have hr':∀w∈(Tm.mk k' x' s' ts').vl,rk w<rk x:=fun w hw=>by
         obtain⟨v,hv,_,hlt⟩:=hrk w hw
         rw[hvl] at hv
         simp only[cG,cX,dG] at hv
         subst hv
         exact hlt hf0
        have:=IH1 (rk x) hKx (Tm.mk k' x' s' ts') (x::M) _ hS' (aA.aJ _ _ _) hr' (fun v hv=>by
         rcases cG.1 hv with rfl | hv
         · exact .inr hr'
         · rcases SB v hv with h5 | h5
           · exact .inl h5
           · refine .inr fun w hw=>Nat.lt_trans (hr' w hw) ?_
             exact h5 x (by rw[hvl];simp))
        rw[bD] at this
        refine this.mono ?_
        rintro _ _ ⟨rfl,M',rfl,hM'⟩
        simp only[aB,seval]
        rw[R8] at hM' ⊢
        refine⟨by rw[hmv],M',rfl,fun hno v hv=>?_⟩
        rw[hmv] at hno
        rcases hM' hno v hv with h5 | h5
        · rcases cG.1 h5 with rfl | h5
          · exact .inr hno
          · exact .inl h5
        · exact .inr h5
  · simp only[cL] at h
    simp only[aB,seval,zE]
    have hmv:=Tm.kA R (n:=x) (s:=s) (ts:=ts) h
    have a19:ts.any (fun y=>decide (n∈(y.aL R).vl))=decide (n∈((Tm.mk k x s ts).aL R).vl):=by
     rw[hmv,zR]
     simp only[List.any_eq_true,bM]
     rw[Tm.kY h]
     constructor
     · rintro⟨y,hy,h2⟩;exact⟨_,cF.2 ⟨y,hy,rfl⟩,h2⟩
     · rintro⟨z,hz,h2⟩
       obtain⟨y,hy,rfl⟩:=cF.1 hz
       exact⟨y,hy,h2⟩
    refine(aTL ts _ _ (fun y=>decide (n∈(y.aL R).vl)) (fun s1=>∃M',s1=st.aC mm (.map (mH M'))∧∀v∈M',v∈M∨n∉(R v).vl) (fun s1=>∃M',s1=st.aC mm (.map (mH M'))) ?_ st ⟨M,?_,fun v hv=>.inl hv⟩).mono ?_
    · rintro y hy s1 ⟨M',rfl,hM'⟩
      simp only[gR,eE]
      have hc:=IH2 y hy M' (st.aC mm (.map (mH M'))) (hS.OF hmm.1 hmm.2) (aA.aJ _ _ _) (fun w hw=>hK w ((Tm.kY h).2 ⟨y,hy,hw⟩)) (fun v hv=>by
       rcases hM' v hv with h5 | h5
       · rcases SB v h5 with h6 | h6
         · exact .inl h6
         · exact .inr fun w hw=>h6 w ((Tm.kY h).2 ⟨y,hy,hw⟩)
       · exact .inl h5)
      refine(aV4 hc).mono ?_
      rintro _ _ ⟨rfl,M2,rfl,hM2⟩
      rw[dR]
      refine⟨rfl,fun _=>⟨M2,rfl⟩,fun hno=>⟨M2,rfl,fun v hv=>?_⟩⟩
      simp only[cL] at hno
      rcases hM2 hno v hv with h5 | h5
      · exact hM' v h5
      · exact .inr h5
    · funext y
      simp only[aA.aC]
      split
      · rename_i e;rw[e,hM]
      · rfl
    · rintro _ s2 ⟨rfl,hE,hJ⟩
      rw[a19] at hE hJ ⊢
      simp only[aB,seval]
      by_cases hno:n∈((Tm.mk k x s ts).aL R).vl
      · obtain⟨M2,rfl⟩:=hE (by simp [hno])
        exact⟨rfl,M2,rfl,fun h=>absurd hno h⟩
      · obtain⟨M2,rfl,h5⟩:=hJ (by simp [hno])
        exact⟨rfl,M2,rfl,fun _=>h5⟩
termination_by K t=>(K,SizeOf.sizeOf t)
decreasing_by
 · exact Prod.Lex.left _ _ hK'
 · have:=List.sizeOf_lt_of_mem hy
   exact Prod.Lex.right _ (by simp only[Tm.mk.sizeOf_spec];omega)
abbrev NB:=zi aX (zi cB (zi cC (zi iP (zi pH (zi NO (zi FF U9))))))
theorem XP{σ:Sub}(hg:cO σ){n:Int}(hn:σ n=none){t:Tm}{r:Bool}{σ':Sub}{add:List Int}(hb:j6 σ n t=(r,σ',add))(c m:Nat)(q:AV)(tr:List Int)(st:aA)(hS:gG st c m q σ tr)(hl:tr.length+add.length≤1099511627776) :
 aD prog 219 [.ptr c 0,.int .i64 n,t.av] st (fun r' st'=>r'=.bool r∧wA c m st q σ' (tr++add) st'):=by
 obtain⟨rk,B,G⟩:=hg.rs
 refine wF [1000000] 3 func219 ntmps219 rfl rfl ?_
 intro _
 simp only[aB,seval,NB]
 intro mm hmm
 obtain⟨hmc,a3H⟩:=hS.sub.ne hmm
 rw[←a5X]
 have hS1:=hS.FJ (o:=.map (mH [])) hmm
 refine(P2 G hn c m mm q ⟨hmc,a3H⟩ B t [] _ hS1.sub (aA.aJ _ _ _) (fun w _=>G.bd w) (fun v hv=>absurd hv (cX))).mono ?_
 rintro _ _ ⟨rfl,M',rfl,_⟩
 have hS2:=hS.FJ (o:=.map (mH M')) hmm
 have hQ2:mM c m st q (st.aC mm (.map (mH M'))) q:=mM.FJ hmm
 rw[dR]
 generalize st.aC mm (.map (mH M'))=s2 at *
 obtain⟨hqa,hqw,hqj,hqc,hqs⟩:=hS2.shape
 simp only[aB,seval]
 unfold j6 at hb
 refine aQ (fun h=>?_) (fun h=>?_)
 · simp only[bM] at h
   rw[aN h] at hb
   obtain⟨rfl,rfl,rfl⟩:false=r∧σ=σ'∧[]=add:=by simpa using hb
   simp only[aB,seval]
   exact⟨q,hS2,hQ2⟩
 · simp only[cL] at h
   rw[aK h] at hb
   obtain⟨rfl,rfl,rfl⟩:true=r∧σ.set n t=σ'∧[n]=add:=by simpa using hb
   simp only[aB,seval]
   refine wP [(0,1),(1,1),(2,1),(4,1),(3,2),(5,2),(6,0)] [0,1,2,4,3,5] mixed ?_
   simp only[hS2.sub.cells,aB,seval,NB]
   refine bAN hS2.sub.map VJ qI ?_
   have hcm:=hS2.sub.cm
   have hS3:gG (s2.aC m (.map (mapOf (σ.set n t)))) c m q (σ.set n t) tr:=by
    refine⟨⟨by rw[aA.aF _ _ hcm];exact hS2.sub.cells,aA.aJ _ _ _⟩,?_,hS2.apart⟩
    rcases hS2.fK with h4 | ⟨b',cs,e1,e2,e3⟩
    · exact .inl h4
    · refine .inr ⟨b',cs,e1,?_,e3⟩
      rw[aA.aF _ _ (by rintro rfl;exact hS2.L4 (by rw[e1];simp [dQ]))]
      exact e2
   have hQ3:mM c m st q (s2.aC m (.map (mapOf (σ.set n t)))) q:=⟨fun b o h h1 h2 h3=>by rw[aA.aF _ _ h2];exact hQ2.frame b o h h1 h2 h3,fun _ h=>.inl h⟩
   generalize s2.aC m (.map (mapOf (σ.set n t)))=s3 at *
   simp only[hS3.sub.cells,hqa,aB,seval,NB]
   refine a9Y iL DE AK rfl (by omega) hS3 (by simpa using hl) (fun q' s4 ht hc' hm' hk hf=>?_)
   have h4c:s4 c=some (.cells [.map m,q]):=by rw[hk c hS3.apart hc'];exact hS3.sub.cells
   have h4m:s4 m=some (.map (mapOf (σ.set n t))):=by rw[hk m hS3.L4 hm'];exact hS3.sub.map
   have aLJ:q'.cells= [q']∧q'.storable=true:=by
    rcases ht with ⟨rfl,_⟩ | ⟨b',cs,rfl,_⟩<;>exact⟨rfl,rfl⟩
   simp only[aM,h4c,aLJ.1,aLJ.2,aB,seval,NB]
   refine⟨q',⟨⟨aA.aJ _ _ _,by rw[aA.aF _ _ (dA hcm)];exact h4m⟩,?_,hc'⟩,⟨fun b o h h1 h2 h3=>?_,fun b hb=>?_⟩⟩
   · rcases ht with h4 | ⟨b',cs,e1,e2,e3⟩
     · exact .inl h4
     · refine .inr ⟨b',cs,e1,?_,e3⟩
       rw[aA.aF _ _ (by rintro rfl;exact hc' (by rw[e1];simp [dQ]))]
       exact e2
   · rw[aA.aF _ _ h1,hk b h3 (fun h4=>?_)]
     · exact hQ3.frame b o h h1 h2 h3
     · rcases hf b h4 with h5 | h5
       · exact h3 h5
       · rw[hQ3.frame b o h h1 h2 h3] at h5;cases h5
   · rcases hf b hb with h5 | h5
     · exact .inl h5
     · by_cases h6:b∈dQ q
       · exact .inl h6
       · refine .inr ?_
         cases hst:st b with
         | none=>rfl
         | some o=>
          exfalso
          have h1:b≠c:=by rintro rfl;rw[hS3.sub.cells] at h5;cases h5
          have h2:b≠m:=by rintro rfl;rw[hS3.sub.map] at h5;cases h5
          rw[hQ3.frame b o hst h1 h2 h6] at h5;cases h5
abbrev Sm (t:Tm):Prop:=t.small=true
theorem a8F:∀t:Tm,t.k≠1→Sm t→∀x∈t.ts,Sm x:=fun t _ h x hx=>by
 cases t
 exact(Tm.rJ h).2 x hx
abbrev rO:=zi aX (zi cB (zi d9 (zi cI (zi cC pH))))
theorem ZC:∀(g:Nat) (σ:Sub) (a b:Tm) (r:Bool) (σ':Sub) (add:List Int),cO σ→cQ Sm σ→Sm a→Sm b→dK g σ a b=some (r,σ',add)→∀(c m:Nat) (q:AV) (tr:List Int) (st:aA),gG st c m q σ tr→tr.length+add.length≤1099511627776 →
 aD prog 205 [.ptr c 0,a.av,b.av] st (fun r' st'=>r'=.bool r∧wA c m st q σ' (tr++add) st')
 | 0,σ,a,b,r,σ',add,hg,hsm,ha0,hb0,h,c,m,q,tr,st,hS,hl=>by simp only[dK] at h;cases h
 | g+1,σ,a,b,r,σ',add,hg,hsm,ha0,hb0,h,c,m,q,tr,st,hS,hl=>by
  have IH:=ZC g
  obtain⟨rk,B,G⟩:=hg.rs
  obtain⟨fa,wa⟩:=G.wk a
  obtain⟨fb,wb⟩:=G.wk b
  have hca:=fun st (hS:iS st c m q σ)=>KE wa c m q st hS
  have hcb:=fun st (hS:iS st c m q σ)=>KE wb c m q st hS
  have ea:=wa.end
  have eb:=wb.end
  have hsa:=wa.all (p:=Sm) hsm ha0
  have hsb:=wb.all (p:=Sm) hsm hb0
  replace h:=OC h
  generalize wk σ a=a1 at *
  generalize wk σ b=b1 at *
  clear wa wb
  refine wF [1000000,4,5] 3 func205 ntmps205 rfl rfl ?_
  intro eW
  simp only[aB,seval]
  intro b4 h4 b5 h5
  have h54:b5≠b4:=by rintro rfl;rw[aA.aJ] at h5;cases h5
  have hn5:st b5=none:=by rw[aA.aF st _ h54] at h5;exact h5
  have hS':∀o o',gG ((st.aC b4 o).aC b5 o') c m q σ tr:=fun o o'=>(hS.FJ h4).FJ (by rw[aA.aF _ _ h54];exact hn5)
  refine wP [(0,1),(3,1),(1,2),(2,2),(4,2),(5,2),(6,0),(7,0)] [0,3,1,2,4,5] mixed ?_
  simp only[h54.symm,aB,seval,rO]
  refine iD (hca _ (hS' _ _).sub) ?_
  simp only[aB,seval,rO]
  refine iD (hcb _ (hS' _ _).sub) ?_
  obtain⟨ka,na,sa,tsa⟩:=a1
  obtain⟨kb,nb,sb',tsb⟩:=b1
  obtain⟨hla,aLA⟩:=Tm.rJ hsa
  obtain⟨hlb,aLB⟩:=Tm.rJ hsb
  simp only[bD]
  simp only[Tm.k,Tm.n,Tm.ts] at h ea eb
  have hl4:∀q',q'=q→b4∉dQ q:=fun _ _ hb=>by obtain⟨cs,e⟩:=hS.IF b4 hb;rw[h4] at e;cases e
  have hl5:b5∉dQ q:=fun hb=>by obtain⟨cs,e⟩:=hS.IF b5 hb;rw[hn5] at e;cases e
  obtain⟨h4c,h4m⟩:=hS.sub.ne h4
  obtain⟨h5c,h5m⟩:=hS.sub.ne hn5
  have hQ:∀o o',mM c m st q ((st.aC b4 o).aC b5 o') q:=fun o o'=>⟨fun x p h _ _ _=>by
   rw[aA.aF _ _ (by rintro rfl;rw[hn5] at h;cases h),aA.aF _ _ (by rintro rfl;rw[h4] at h;cases h)];exact h,fun _ h=>.inl h⟩
  simp only[aM,h54,h54.symm,aB,seval,rO]
  rw[aA.zJ h54,aA.zJ h54.symm]
  have fM:∀o o',wA c m st q σ tr ((st.aC b4 o).aC b5 o'):=fun o o'=>⟨q,hS' _ _,hQ _ _⟩
  rcases h with ⟨h1,h2,h3,rfl,rfl,rfl⟩ | ⟨h1,h2,h3⟩ | ⟨h1,h2,h3⟩ | ⟨h1,h2,h3,h4⟩ | ⟨h1,h2,h3,rfl,rfl,rfl⟩
  · subst h1 h2 h3
    simp only[dU,h54.symm,aB,seval,rO]
    exact fM _ _
  · subst h1
    have hcb:=XP hg (ea rfl) h3 c m q tr _ (hS' (.cells [.int .i64 1,.int .i64 na,.str sa,.slice (tsa.map Tm.av)]) (.cells [.int .i64 kb,.int .i64 nb,.str sb',.slice (tsb.map Tm.av)])) hl
    rw[bD] at hcb
    by_cases h5:kb=1
    · subst h5
      have h6:¬na=nb:=fun e=>h2 ⟨rfl,e⟩
      simp only[dU,h6,dW,h54.symm,aB,seval,rO]
      refine hcb.mono ?_
      rintro _ s2 ⟨rfl,hp⟩
      simp only[aB,seval]
      exact hp.from (hQ _ _) (hS' _ _)
    · simp only[dU,h5,dW,h54.symm,aB,seval,rO]
      refine hcb.mono ?_
      rintro _ s2 ⟨rfl,hp⟩
      simp only[aB,seval]
      exact hp.from (hQ _ _) (hS' _ _)
  · subst h2
    have hcb:=XP hg (eb rfl) h3 c m q tr _ (hS' (.cells [.int .i64 ka,.int .i64 na,.str sa,.slice (tsa.map Tm.av)]) (.cells [.int .i64 1,.int .i64 nb,.str sb',.slice (tsb.map Tm.av)])) hl
    rw[bD] at hcb
    simp only[dU,h1,dW,h54.symm,aB,seval,rO]
    refine hcb.mono ?_
    rintro _ s2 ⟨rfl,hp⟩
    simp only[aB,seval]
    exact hp.from (hQ _ _) (hS' _ _)
  · rw[uD] at h3
    simp only[Tm.k,Tm.n,Tm.s,Tm.ts] at h3
    obtain⟨rfl,rfl,rfl,hlen⟩:=h3
    have dO:decide ((tsa.length:Int)=(tsb.length:Int))=true:=by simp [hlen]
    simp only[dU,dW,dO,h54.symm,aE,h1,aB,seval,rO]
    have hS0:=hS' (.cells [.int .i64 ka,.int .i64 na,.str sa,.slice (tsa.map Tm.av)]) (.cells [.int .i64 ka,.int .i64 na,.str sa,.slice (tsb.map Tm.av)])
    have hQ0:=hQ (.cells [.int .i64 ka,.int .i64 na,.str sa,.slice (tsa.map Tm.av)]) (.cells [.int .i64 ka,.int .i64 na,.str sa,.slice (tsb.map Tm.av)])
    have e4:((st.aC b4 (.cells [.int .i64 ka,.int .i64 na,.str sa,.slice (tsa.map Tm.av)])).aC b5 (.cells [.int .i64 ka,.int .i64 na,.str sa,.slice (tsb.map Tm.av)])) b4=some (.cells [.int .i64 ka,.int .i64 na,.str sa,.slice (tsa.map Tm.av)]):=by rw[aA.aF _ _ h54.symm,aA.aJ]
    have e5:((st.aC b4 (.cells [.int .i64 ka,.int .i64 na,.str sa,.slice (tsa.map Tm.av)])).aC b5 (.cells [.int .i64 ka,.int .i64 na,.str sa,.slice (tsb.map Tm.av)])) b5=some (.cells [.int .i64 ka,.int .i64 na,.str sa,.slice (tsb.map Tm.av)]):=aA.aJ _ _ _
    generalize (st.aC b4 (.cells [.int .i64 ka,.int .i64 na,.str sa,.slice (tsa.map Tm.av)])).aC b5 (.cells [.int .i64 ka,.int .i64 na,.str sa,.slice (tsb.map Tm.av)])=s0 at *
    refine dI (σ:=Sub×List Int×List Int×AV×aA) [1000000,4,5] [0,4,5,79] tsa
     (fun i p=>cO p.1∧cQ Sm p.1∧gG p.2.2.2.2 c m p.2.2.2.1 p.1 (tr++p.2.1)∧mM c m s0 q p.2.2.2.2 p.2.2.2.1∧eJ g p.1 (tsa.drop i) (tsb.drop i)=some (r,σ',p.2.2.1)∧p.2.1++p.2.2.1=add)
     (fun i _=>[(6,.bool false),(80,.int .i64 i)]) (fun _ p=>p.2.2.2.2) (by decide +kernel)
     ⟨(σ,[],add,q,s0),⟨hg,hsm,by rw[eU];exact hS0,mM.refl _ _ _ _,h4,rfl⟩,aP.mk (by simp only[aB,↓aW,seval])⟩ (fun i x p hx hlt a7 hdr hinv=>?_) (fun p hge hinv=>?_)
    case refine_2=>
     obtain⟨σi,ai,rest,qi,si⟩:=p
     obtain⟨i1,i2,i3,i4,i5,i6⟩:=hinv
     simp only at i1 i2 i3 i4 i5 i6
     rw[iA,hlen,iA] at i5
     simp only[eJ,Option.some.injEq,Prod.mk.injEq] at i5
     obtain⟨rfl,rfl,rfl⟩:=i5
     rw[eU] at i6
     subst i6
     simp only[hge,aB,seval]
     exact⟨qi,i3,hQ0.trans hS0 i4⟩
    obtain⟨σi,ai,rest,qi,si⟩:=p
    obtain⟨i1,i2,i3,i4,i5,i6⟩:=hinv
    simp only at i1 i2 i3 i4 i5 i6
    obtain⟨y,hy⟩:∃y,tsb[i]?=some y:=⟨_,eK (by omega)⟩
    have DU:tsb.drop i=y::tsb.drop (i+1):=by
     obtain⟨h1,h2⟩:=fC.1 hy
     rw[oM h1,h2]
    rw[hdr,DU,eJ] at i5
    have f4:=i4.frame b4 _ e4 h4c h4m (hl4 q rfl)
    have f5:=i4.frame b5 _ e5 h5c h5m hl5
    have hw:=aZ (n:=(i:Int)+1)
    simp only[a7,aB,seval]
    refine wP [(0,1),(1,1),(3,1),(6,1),(8,1),(2,2),(4,1),(5,2),(7,2),(9,1),(10,2),(11,0),(12,1)] [0,1,3,6,8,2,4,5,7,9,10,12] mixed ?_
    simp only[f4,f5,bH (av:=Tm.av) bY hx (aT x),bH (av:=Tm.av) bY hy (aT y),aB,seval,rO]
    cases hu:dK g σi x y with
    | none=>rw[hu] at i5;cases i5
    | some p1=>
     obtain⟨r1,σ1,tr1⟩:=p1
     rw[hu] at i5
     have hx1:Sm x:=aLA x (cH hx)
     have hy1:Sm y:=aLB y (cH hy)
     have hU:=xS i1 hu
     have hA:=(OE a8F g).1 σi x y r1 σ1 tr1 i1 hu i2 hx1 hy1
     have n7:tr1.length≤rest.length:=by
      cases r1 with
      | false=>simp only[Option.some.injEq,Prod.mk.injEq] at i5;rw[i5.2.2];exact cZ _
      | true=>
       simp only at i5
       cases hu2:eJ g σ1 (tsa.drop (i+1)) (tsb.drop (i+1)) with
       | none=>rw[hu2] at i5;cases i5
       | some p2=>
        obtain⟨r2,σ2,tr2⟩:=p2
        rw[hu2] at i5
        simp only[Option.some.injEq,Prod.mk.injEq] at i5
        rw[←i5.2.2,dS];omega
     have a18:add.length=ai.length+rest.length:=by rw[←i6,dS]
     refine(IH σi x y r1 σ1 tr1 i1 i2 hx1 hy1 hu c m qi (tr++ai) si i3 (by rw[dS];omega)).mono ?_
     rintro _ s2 ⟨rfl,q2,hS2,hQ2⟩
     cases r1 with
     | false=>
      simp only[Option.some.injEq,Prod.mk.injEq] at i5
      obtain⟨rfl,rfl,rfl⟩:=i5
      simp only[aB,seval]
      rw[←i6,←kC]
      exact⟨q2,hS2,hQ0.trans hS0 (i4.trans i3 hQ2)⟩
     | true=>
      simp only at i5
      cases hu2:eJ g σ1 (tsa.drop (i+1)) (tsb.drop (i+1)) with
      | none=>rw[hu2] at i5;cases i5
      | some p2=>
       obtain⟨r2,σ2,tr2⟩:=p2
       rw[hu2] at i5
       simp only[Option.some.injEq,Prod.mk.injEq] at i5
       obtain⟨rfl,rfl,rfl⟩:=i5
       simp only[aB,seval]
       exact⟨(σ1,ai++tr1,tr2,q2,s2),⟨hU.gX,hA,by rw[←kC];exact hS2,i4.trans i3 hQ2,hu2,by rw[kC];exact i6⟩,aP.mk (by simp only[hw,aB,seval])⟩
  · have hd:ka=kb→na=nb→sa=sb'→¬(tsa.length:Int)=(tsb.length:Int):=by
     intro e1 e2 e3 e4
     have:vG (Tm.mk ka na sa tsa) (Tm.mk kb nb sb' tsb)=true:=uD.2 ⟨e1,e2,e3,by simp only[Tm.ts];omega⟩
     rw[h3] at this;cases this
    by_cases e1:ka=kb
    · by_cases e2:na=nb
      · by_cases e3:sa=sb'
        · have e4:=hd e1 e2 e3
          subst e1 e2 e3
          simp only[dW,dU,h54.symm,h1,aE,e4,aB,seval,rO]
          exact fM _ _
        · subst e1 e2
          simp only[dW,dU,h54.symm,h1,e3,aB,seval,rO]
          exact fM _ _
      · subst e1
        simp only[dW,dU,h54.symm,h1,e2,aB,seval,rO]
        exact fM _ _
    · clear hd
      simp only[dW,h54.symm,h1,h2,e1,aB,seval,rO]
      exact fM _ _
end Go.AW
namespace Go.AW
theorem sC{P:Program}{N:Nat}{x y:Code}{Q:Exit→AF→aA→Prop}{φ:AF}{st:aA}(e:fR P N x (FB (fR P N y Q) Q) φ st):fR P N (.seq x y) Q φ st:=fun a w R=>by
 refine wp_seq (wp_mono (e a w R) ?_)
 rintro ex a' w' ⟨φ',st',R',T,s,q⟩
 cases ex with
 | normal=>exact wp_mono (q a' w' R') fun _ _ _ h=>h.mono T s
 | _=>exact⟨φ',st',R',T,s,q⟩
theorem JU{P:Program}{g:FuncId}{fn:Func}{c:Code}{args:List AV}{st:aA}{N:Nat}{rs:List ResultVar}{K:AV→aA→Prop}(hf:P.funcs[g]?=some fn)(hN:fn.ntmps=N)(hr:fn.results=rs.toArray)(hb:fn.body=some c)(hn:(fn.name == "runtime.NumGoroutine")=false)
 (yO:args.length≤N) (e:cV args→fR P N c (ER P rs.toArray K) (sA 0 args) st):aD P g args st K:=by
 subst hN
 rw[←hr] at e
 refine⟨⟨fn,hf,by simp [hb],hn⟩,fun w vs S V=>?_⟩
 have e:=e V.fits
 have hl:=V.length
 have R:Rel fn.ntmps { tmps:=vs.toArray++Array.replicate (fn.ntmps - vs.toArray.size) undef,defers:=[] } w (sA 0 args) st:=by
  refine⟨by simp;omega,rfl,PM args vs 0 V fun j v hj=>?_,S⟩
  obtain⟨hjl,hjv⟩:=fC.1 hj
  simp [Array.getElem?_append,hjl,hjv]
 refine calls_of_wp hf hb (wp_mono (e _ w R) ?_)
 rintro ex a' w' ⟨φ',st',R',T,s,q⟩
 have fin:(match pO P φ' st' fn.results.toList with | some xs=>FH K st' xs | none=>False)→a'.defers= []∧∃v,(results fn a'.tmps).run P w'=.ok v w' ∧
  (∃v2 r st2,(Ending.returned v)=.returned v2∧aR w'.heap st2 r v2∧cK w'.heap st2∧bT w.heap st w'.heap st2∧fO w w'∧K r st2):=by
  intro q
  split at q
  · rename_i xs hx
    obtain⟨v,r,r1,r2,r3⟩:=aNM R'.frame R'.store hx q
    exact⟨R'.defers,v,r1,v,r,st',rfl,r2,R'.store,T,s,r3⟩
  · cases q
 cases ex with
 | normal=>exact fin q
 | ret=>exact fin q
 | _=>exact q.elim
theorem aR.a8D{h:bE}{st:aA}{es:List AV}{v:Value}(y:aR h st (.slice es) v):∃a n c,v=.slice a n c∧(es≠[]→a.isNone=false):=by
 obtain⟨y0,y1⟩:=y
 have hv:v.cells.toList= [v]:=by cases v<;>first | rfl | (simp [AV.isAgg,jS] at y0)
 unfold VC at y1
 rw[hv] at y1
 rcases y1 with ⟨⟨p,e⟩,rfl⟩ | ⟨b,off,cap,e,_⟩
 · exact⟨p,0,0,by simpa using e,fun h=>absurd rfl h⟩
 · exact⟨_,_,_,by simpa using e,fun _=>rfl⟩
theorem J1{P:Program}{N:Nat}{id i d d':Nat}{t e ty ty' tx:TypeId}{pos pos':String}{aft r8:Array Edge}{es:List AV}{Q:Exit→AF→aA→Prop}{φ:AF}{st:aA}(ht:P.underlying t=some (.slice e))
 (hd:d<N) (hd':d'<N) (hx:φ i=.slice es) (k:∀c:Bool,(es≠[]→c=false)→Q .normal ((φ.aC d (.slice es)).aC d' (.bool c)) st) :
 fR P N (.region id #[⟨some d,.move (.tmp i),ty,pos,aft,none⟩,⟨some d',.binOp .eql t (.tmp d) (.const (.slice none 0 0)) tx,ty',pos',r8,none⟩] false) Q φ st:=fun a w R=>by
 refine wp_region_list ?_
 have hN:∀(j q:Nat),((#[⟨some d,.move (.tmp i),ty,pos,aft,none⟩,⟨some d',.binOp .eql t (.tmp d) (.const (.slice none 0 0)) tx,ty',pos',r8,none⟩]:Array Oper)[j]?).bind (·.dst)=some q→q<N:=by
  intro j q e
  match j with
  | 0=>simp at e;subst e;exact hd
  | 1=>simp at e;subst e;exact hd'
  | j+2=>simp at e
 refine rX (mt:=[]) (K:=fun φ' st'=>φ'=φ.aC d (.slice es)∧st'=st) hN (by simp [oU,hd]) R (by
  show φ.put (some d) (φ i)=_∧_
  rw[hx]
  exact⟨rfl,rfl⟩) ?_
 rintro a1 w1 _ _ R1 T1 s1 ⟨rfl,rfl⟩
 have y:=R1.frame d
 rw[AF.aJ] at y
 obtain⟨p,n,c,hv,hp⟩:=y.a8D
 have hv':a1.eval (.tmp d)=.slice p n c:=hv
 unfold wpList
 rw[aN (by rfl)]
 refine .inl ?_
 have lG:(execOp a1.eval ⟨some d',.binOp .eql t (.tmp d) (.const (.slice none 0 0)) tx,ty',pos',r8,none⟩).run P w1=.ok (.value (.bool p.isNone)) w1:=by
  simp only[execOp,hv']
  rw[show a1.eval (.const (.slice none 0 0))=.slice none 0 0 from rfl]
  simp [eqGuard_at_slice,Lib.run_eql_slice_nil w1 t e p n c 0 0 ht]
 simp only[Oper.wp,lG,Oper.upon]
 unfold wpList
 exact⟨_,_,R1.put (o:=⟨some d',.binOp .eql t (.tmp d) (.const (.slice none 0 0)) tx,ty',pos',r8,none⟩) (by simp [oU,hd']) (bT.refl _ _) R1.store aR.lU,T1,s1,k _ hp⟩
def bU:AV→List Nat
 | .mslice b _ _ _=>[b]
 | _=>[]
def dY(st:aA)(w:Nat)(q:AV)(l:List AV):Prop:=
 (q=.fslice []∧l= [])∨∃b cs,q=.mslice b 0 l.length w∧st b=Option.some (.cells cs)∧cs.take (l.length*w)=l.flatMap AV.cells∧l.length*w≤cs.length
theorem dY.shape{st:aA}{w:Nat}{q:AV}{l:List AV}(h:dY st w q l):q.isAgg=false∧q.width=1∧q.bV=false∧q.cells= [q]∧q.storable=true:=by
 rcases h with ⟨rfl,_⟩ | ⟨b',cs,rfl,_⟩<;>exact⟨rfl,rfl,rfl,rfl,rfl⟩
theorem dY.aU{st st':aA}{w:Nat}{q:AV}{l:List AV}(h:dY st w q l)(hk:∀b∈bU q,st' b=st b):dY st' w q l:=by
 rcases h with h | ⟨b,cs,rfl,hb,h2⟩
 · exact .inl h
 · exact .inr ⟨b,cs,rfl,by rw[hk b (by simp [bU])];exact hb,h2⟩
theorem dY.some{st:aA}{w:Nat}{q:AV}{l:List AV}(h:dY st w q l):∀b∈bU q,∃cs,st b=Option.some (.cells cs):=by
 intro b hb
 rcases h with ⟨rfl,_⟩ | ⟨b',cs,rfl,hb',_⟩
 · simp [bU] at hb
 · simp only[bU,cG,cX,dG] at hb;subst hb;exact⟨cs,hb'⟩
theorem dY.len{P:Program}{t e:TypeId}{st:aA}{w:Nat}{q:AV}{l:List AV}(h:dY st w q l)(hu:P.underlying t=Option.some (.slice e)):mP P t q=Option.some (.int .i64 (l.length:Int)):=by
 rcases h with ⟨rfl,rfl⟩ | ⟨b,cs,rfl,_⟩<;>simp only[mP,hu,bG]
theorem dY.tP{P:Program}{t:TypeId}{ag:Bool}{bytes w:Nat}{zs:List AV}{st:aA}{q:AV}{l xs:List AV}{x:AV}{K:AV→aA→Prop}(hI:eI P t=Option.some (ag,w))(hB:eB P t=Option.some bytes)(hZ:eZ P t=Option.some zs)(hz:zs.length=w)(hb8:bytes≤4096)
 (h:dY st w q l) (hxe:z7 x=Option.some xs) (eW:tO w xs) (hl:l.length+xs.length≤1073741825)
 (hK:∀q' st',dY st' w q' (l++xs)→(∀y,y∉bU q→y∉bU q'→st' y=st y)→(∀y∈bU q',y∈bU q∨st y=none)→K q' st'):kF P t st q x K:=by
 have DP:(l.length+xs.length)*bytes≤140737488355328:=by
  have:=Nat.mul_le_mul hl hb8
  omega
 have hxc:(xs.flatMap AV.cells).length=xs.length*w:=mD fun e he=>(eW e he).1
 unfold kF
 simp only[hI,hB,hZ,hxe]
 refine⟨hz,eW,?_⟩
 rcases h with ⟨rfl,rfl⟩ | ⟨b,cs,rfl,hb,hcs,hcl⟩
 · simp only[bG,jW] at DP hl ⊢
   refine⟨DP,by omega,by simp,fun h=>?_,fun _ b hb=>?_⟩
   · subst h
     exact hK _ _ (.inl ⟨rfl,rfl⟩) (fun _ _ _=>rfl) (fun y hy=>.inl hy)
   refine hK _ _ (.inr ⟨b,xs.flatMap AV.cells,rfl,by rw[aA.aJ];simp,?_,?_⟩) (fun y _ hy=>?_) (fun y hy=>?_)
   · rw[eE,←hxc,eD]
   · rw[eE,hxc];exact cZ _
   · simp only[bU,cG,cX,dG] at hy
     rw[aA.aF _ _ hy]
   · simp only[bU,cG,cX,dG] at hy
     subst hy;exact .inr hb
 · simp only[hb]
   have kM:cs.take (l.length*w)++xs.flatMap AV.cells=(l++xs).flatMap AV.cells:=by rw[hcs,vZ]
   have hlen:((l++xs).flatMap AV.cells).length=(l++xs).length*w:=by
    rw[←kM,dS,dZ,kQ hcl,hxc,dS,x9]
   refine⟨trivial,DP,by omega,hcl,?_,fun b' hb'=>?_⟩
   · rw[kM]
     refine hK _ _ (.inr ⟨b,_,by simp,aA.aJ _ _ _,by rw[m9 (by rw[hlen];exact cZ _)],by rw[hlen];exact cZ _⟩) (fun y hy _=>?_) (fun y hy=>.inl hy)
     simp only[bU,cG,cX,dG] at hy
     rw[aA.aF _ _ hy]
   · rw[kM]
     refine hK _ _ (.inr ⟨b',_,by simp,aA.aJ _ _ _,by rw[m9 (by rw[hlen];exact cZ _)],by rw[hlen];exact cZ _⟩) (fun y hy hy'=>?_) (fun y hy=>?_)
     · simp only[bU,cG,cX,dG] at hy hy'
       rw[aA.aF _ _ hy']
       simp [aA.erase,hy]
     · simp only[bU,cG,cX,dG] at hy
       subst hy;exact .inr hb'
theorem dY.append{P:Program}{t:TypeId}{ag:Bool}{bytes w:Nat}{zs:List AV}{st:aA}{q:AV}{l:List AV}{x:AV}{K:AV→aA→Prop}(hI:eI P t=Option.some (ag,w))(hB:eB P t=Option.some bytes)(hZ:eZ P t=Option.some zs)(hz:zs.length=w)(hb8:bytes≤4096)
 (h:dY st w q l) (hx:x.width=w) (hxs:x.cells.all AV.storable=true) (hl:l.length≤1073741824)
 (hK:∀q' st',dY st' w q' (l++ [x])→(∀y,y∉bU q→y∉bU q'→st' y=st y)→(∀y∈bU q',y∈bU q∨st y=none)→K q' st'):kF P t st q (.fslice [x]) K:=
 dY.tP hI hB hZ hz hb8 h rfl (g8 hx hxs) (by simpa using hl) hK
def yJ(k:Nat):AV→AV
 | .mslice b o _ w=>.mslice b o k w
 | a=>a
theorem dY.take{st:aA}{w:Nat}{q:AV}{l:List AV}(h:dY st w q l){k:Nat}(hk:k≤l.length)(hw:∀e∈l,e.width=w):dY st w (yJ k q) (l.take k):=by
 rcases h with ⟨rfl,rfl⟩ | ⟨b,cs,rfl,hb,hcs,hcl⟩
 · exact .inl ⟨rfl,by simp⟩
 · have hlk:(l.take k).length=k:=by rw[dZ];omega
   have h1:k*w≤l.length*w:=CF w hk
   refine .inr ⟨b,cs,by rw[hlk];try rfl,hb,?_,by rw[hlk];omega⟩
   rw[hlk]
   have h2:cs.take (k*w)=(cs.take (l.length*w)).take (k*w):=by rw[zT,kQ h1]
   rw[h2,hcs]
   have h3:l.flatMap AV.cells=(l.take k).flatMap AV.cells++(l.drop k).flatMap AV.cells:=by rw[←vZ,oO]
   have h4:((l.take k).flatMap AV.cells).length=k*w:=by rw[mD (n:=w) (es:=l.take k) (fun e he=>hw e (l9 he)),hlk]
   rw[h3,List.take_left' h4]
theorem EH(k:Nat)(q:AV):bU (yJ k q)=bU q:=by cases q<;>rfl
theorem dY.at{st:aA}{w:Nat}{q:AV}{l:List AV}(h:dY st w q l)(hw:∀e∈l,e.width=w){i:Nat}{e:AV}(he:l[i]?=.some e) :
 ∃b cs,q=.mslice b 0 l.length w∧st b=.some (.cells cs)∧i*w+w≤cs.length∧(cs.drop (i*w)).take w=e.cells:=by
 obtain⟨hi,hei⟩:=fC.1 he
 rcases h with ⟨rfl,rfl⟩ | ⟨b,cs,rfl,hb,hcs,hcl⟩
 · simp at he
 · have h1:(i+1)*w≤l.length*w:=CF w hi
   rw[x9,Nat.one_mul] at h1
   refine⟨b,cs,rfl,hb,by omega,?_⟩
   have h2:l=l.take i++e::l.drop (i+1):=by rw[←hei,←oM hi,oO]
   have hA:((l.take i).flatMap AV.cells).length=i*w:=by
    rw[mD (n:=w) (es:=l.take i) (fun e he=>hw e (l9 he)),dZ,kQ (by omega)]
   have hE:e.cells.length=w:=by rw[wK];exact hw e (cH he)
   have h3:(cs.drop (i*w)).take w=((cs.take (l.length*w)).drop (i*w)).take w:=by
    rw[List.drop_take,zT,kQ (by omega)]
   rw[h3,hcs,h2]
   simp only[vZ,rU]
   rw[List.drop_left' hA,List.take_left' hE]
theorem TS{h:bE}{st:aA}{b:Nat}{cs cs':List AV}(hb:st b=some (.cells cs)):bT h st h (st.aC b (.cells cs')):=
 ⟨cZ _,fun y _ e=>⟨rfl,by
  have hne:y≠b:=by rintro rfl;rw[hb] at e;cases e
  rw[aA.aF _ _ hne];exact e⟩,fun _ c _ _ e=>⟨c,e,rfl⟩⟩
theorem QC{h:bE}{b:Nat}:∀ {vs:List Value} {off:Nat} (k:Nat),fE h b off vs→fE h b off (vs.take k)
 | _,_,0,_=>by simp [fE]
 | [],_,k+1,_=>by simp [fE]
 | v::vs,off,k+1,x=>⟨x.1,QC k x.2⟩
theorem aNZ{h:bE}{st:aA}{b:Nat}{cs:List AV}(k:Nat)(hb:st b=some (.cells cs))(S:cK h st):cK h (st.aC b (.cells (cs.take k))):=fun y o e=>by
 have T:=TS (h:=h) (cs':=cs.take k) hb
 by_cases hy:y=b
 · subst hy
   rw[aA.aJ] at e
   cases e
   obtain⟨h1,c,t,e1,e2,vs,e3,e4⟩:=S y _ hb
   exact⟨h1,c,t,e1,nN (by rw[dZ];omega) e2,vs.take k,QC k e3,aY.mono T _ _ (e4.take k)⟩
 · rw[aA.aF _ _ hy] at e
   obtain⟨h1,h2⟩:=S y o e
   exact⟨h1,lB.mono T rfl h2⟩
theorem dY.seen{h:bE}{st s2:aA}{w:Nat}{q:AV}{l:List AV}{c:Value}(S:cK h st)(D:aO st s2)(hA:dY st w q l)(hs2:∀b∈bU q,s2 b=none)(hj:∀e∈l,e.bV=false)(hw:∀e∈l,e.width=w)(x:VC h st q [c]):VC h s2 (.slice l) [c]:=by
 rcases hA with ⟨rfl,rfl⟩ | ⟨b,cs,rfl,hb,hcs,hcl⟩
 · unfold VC at x ⊢
   rcases x with x | ⟨b,off,e,l1,_⟩
   · exact .inl x
   · exact .inl ⟨⟨_,by simpa using e⟩,rfl⟩
 · have S1:=aNZ (l.length*w) hb S
   rw[hcs] at S1
   obtain⟨f1,f2⟩:=frozen S1 (aA.aJ _ _ _) hj
   have hs:s2 b=none:=hs2 b (by simp [bU])
   have D2:aO ((st.aC b (.cells (l.flatMap AV.cells))).erase b) s2:=fun x=>by
    unfold aA.erase
    by_cases hx:x=b
    · subst hx;rw[aN rfl];exact⟨fun _=>hs,fun o e=>by rw[hs] at e;cases e⟩
    · rw[aK hx,aA.aF _ _ hx];exact D x
   have hE:=cW.mono (D2.step h) b rfl _ _ f2
   unfold VC at x
   obtain⟨cap,hv,l1,l2,_⟩:=x
   unfold VC
   exact .inr ⟨b,0,cap,hv,l1,l2,hs,f1,⟨w,hw⟩,hE⟩
theorem MO{P:Program}{φ:AF}{t:TypeId}{ag:Bool}{w d b n k:Nat}(hI:eI P t=Option.some (ag,w))(h:φ d=.int .i64 (k:Int))(hk:k≤n):iB P φ t (.mslice b 0 n w) none (some (.tmp d)) none=some (.mslice b 0 k w):=by
 have h1:eA φ (some (.tmp d)) n n=some k:=by
  unfold eA
  simp only[show φ.eval (.tmp d)=φ d from rfl,h]
  rw[aN (by omega)]
  simp
 have h2:eA φ none 0 k=some 0:=rfl
 unfold iB pP
 rw[aK (by simp [sR])]
 simp only[hI,h1,h2]
 simp
theorem TT{P:Program}{φ:AF}{t:TypeId}{ag:Bool}{w d:Nat}(hI:eI P t=Option.some (ag,w))(h:φ d=.int .i64 0):iB P φ t (.fslice []) none (some (.tmp d)) none=some (.fslice []):=by
 have h1:eA φ (some (.tmp d)) 0 0=some 0:=by
  unfold eA
  simp only[show φ.eval (.tmp d)=φ d from rfl,h]
  simp
 have h2:eA φ none 0 0=some 0:=rfl
 unfold iB
 rw[aN ⟨rfl,rfl⟩]
 simp only[hI,h1,h2]
end Go.AW
namespace Go.AW
open Go.Proofs.Tryz
theorem a5S(σ:Sub)(l:List Int)(n:Int):oB (mapOf (σ.out l)) n none=mapOf (σ.out (l++ [n])):=by
 funext x
 unfold oB mapOf Sub.out
 by_cases h:x=n
 · simp [h]
 · simp only[h,cM,eL,List.mem_singleton,dG]
theorem aXP{P:Program}{st:aA}{m:Nat}{σ:Sub}{l:List Int}{t kt et:TypeId}{n:Int}{K:AV→aA→Prop}(hm:st m=some (.map (mapOf (σ.out l))))(hu:P.underlying t=some (.map kt et))(hk:P.underlying kt=some (.int .i64))
 (h:K (.tup []) (st.aC m (.map (mapOf (σ.out (l++ [n])))))):z6 P t st (.map m) (.int .i64 n) K:=by
 unfold z6
 simp only[hu,hm,hk]
 rw[a5S]
 exact h
theorem Sub.SX(σ:Sub):σ.out []=σ:=by funext n;simp [Sub.out]
theorem a79{φ:AF}{d b n k:Nat}(h:φ d=.int .i64 (k:Int))(hk:k=0∨k<n):iB prog φ 148 (.mslice b 0 n 1) (some (.tmp d)) none none=some (.mslice b k (n - k) 1):=by
 have h1:eA φ none n n=some n:=rfl
 have h2:eA φ (some (.tmp d)) 0 n=some k:=by
  unfold eA
  simp only[show φ.eval (.tmp d)=φ d from rfl,h]
  rw[aN (by omega)]
  simp
 unfold iB pP
 rw[aK (by simp [sR])]
 simp only[iL,h1,h2]
 by_cases h3:k=0
 · subst h3;simp
 · have h4:k<n:=by omega
   simp [h3,h4]
theorem a8C{φ:AF}{d b n:Nat}(h:φ d=.int .i64 (n:Int))(hn:n≠0):iB prog φ 148 (.mslice b 0 n 1) (some (.tmp d)) none none=some .eslice:=by
 have h1:eA φ none n n=some n:=rfl
 have h2:eA φ (some (.tmp d)) 0 n=some n:=by
  unfold eA
  simp only[show φ.eval (.tmp d)=φ d from rfl,h]
  rw[aN (by omega)]
  simp
 unfold iB pP
 rw[aK (by simp [sR])]
 simp only[iL,h1,h2]
 simp [hn]
theorem a8A{φ:AF}{d:Nat}(h:φ d=.int .i64 0):iB prog φ 148 (.fslice []) (some (.tmp d)) none none=some (.fslice []):=by
 have h1:eA φ none 0 0=some 0:=rfl
 have h2:eA φ (some (.tmp d)) 0 0=some 0:=by
  unfold eA
  simp only[show φ.eval (.tmp d)=φ d from rfl,h]
  simp
 unfold iB
 rw[aN ⟨rfl,rfl⟩]
 simp only[iL,h1,h2]
theorem a2Y{P:Program}{t:TypeId}{ag:Bool}{b o len w i:Nat}(hI:eI P t=some (ag,w))(hi:i<len):dP P t (.mslice b o len w) (.int .i64 (i:Int))=some (.ptr b (o+i*w)):=by
 unfold dP
 simp only[hI]
 rw[aN ⟨by omega,by omega,trivial⟩]
 simp
abbrev BU:=zi aX (zi iP (zi pH (zi NO FF)))
theorem P8(σ:Sub)(tr:List Int)(mark:Nat)(hm:mark≤tr.length)(c m:Nat)(q:AV)(st:aA)(hS:gG st c m q σ tr)(hl:tr.length≤1099511627776) :
 aD prog 196 [.ptr c 0,.int .i64 (mark:Int)] st (fun r st'=>r=.tup []∧∃q',gG st' c m q' (σ.out (tr.drop mark)) (tr.take mark)∧(∀b∈dQ q',b∈dQ q)∧∀x o,st x=some o→x≠c→x≠m→st' x=some o):=by
 have hcm:=hS.sub.cm
 rcases hS.fK with ⟨rfl,rfl⟩ | ⟨b,cs,rfl,hb,hcs⟩
 · obtain rfl:mark=0:=by simpa using hm
   have e1:=hS.sub.cells
   have hsl:=fun(φ:AF) (d:Nat) (h:φ d=.int .i64 0)=>a8A h
   have hsh:=fun(φ:AF) (d:Nat) (h:φ d=.int .i64 0)=>TT iL h
   simp only[Int.ofNat_zero]
   refine wF [1000000] 2 func196 ntmps196 rfl rfl ?_
   intro _
   simp only[e1,hsl,aB,seval,BU]
   refine dI (σ:=Unit) [1000000] [0,1,11,12] ([]:List Int) (fun i _=>True) (fun i _=>[(13,.int .i64 i)]) (fun _ _=>st) (by decide +kernel) ⟨(),trivial,aP.mk (by simp only[aB,↓aW,seval])⟩ (fun i x _ hx hlt a7 hdr hinv=>?_) (fun _ hge hinv=>?_)
   · simp at hlt
   · simp only[bG,aM,e1,hsh,aB,seval,BU]
     rw[Sub.SX]
     refine⟨.fslice [],⟨⟨aA.aJ _ _ _,?_⟩,.inl ⟨rfl,rfl⟩,by simp [dQ]⟩,fun _ h=>h,fun x o h h1 h2=>by rw[aA.aF _ _ h1];exact h⟩
     rw[aA.aF _ _ hcm.symm,hS.sub.map]
 · have e1:=hS.sub.cells
   have hbc:b≠c:=fun e=>hS.apart (by simp [dQ,e])
   have hbm:b≠m:=fun e=>hS.L4 (by simp [dQ,e])
   have hc':∀o,(st.aC m o) c=some (.cells [.map m,.mslice b 0 tr.length 1]):=fun o=>by rw[aA.aF _ _ hcm];exact e1
   have hb':∀o,(st.aC m o) b=some (.cells cs):=fun o=>by rw[aA.aF _ _ hbm];exact hb
   have hm0:st.aC m (.map (mapOf σ))=st:=by
    funext x
    unfold aA.aC
    split
    · rename_i h;rw[h,hS.sub.map]
    · rfl
   have fM:∀st',st'=(st.aC m (.map (mapOf (σ.out (tr.drop mark))))).aC c (.cells [.map m,.mslice b 0 mark 1])→∃q',gG st' c m q' (σ.out (tr.drop mark)) (tr.take mark)∧(∀x∈dQ q',x∈dQ (.mslice b 0 tr.length 1))∧∀x o,st x=some o→x≠c→x≠m→st' x=some o:=by
    rintro _ rfl
    have hlt:(tr.take mark).length=mark:=by rw[dZ];omega
    refine⟨.mslice b 0 mark 1,⟨⟨aA.aJ _ _ _,by rw[aA.aF _ _ hcm.symm,aA.aJ]⟩,.inr ⟨b,cs,by rw[hlt],by rw[aA.aF _ _ hbc];exact hb' _,?_⟩,by simpa [dQ] using dA hbc⟩,fun x h=>h,fun x o h h1 h2=>by rw[aA.aF _ _ h1,aA.aF _ _ h2];exact h⟩
    rw[hlt,FR,←hcs,zT,kQ hm]
   have hsh:=fun(φ:AF) (d:Nat) (h:φ d=.int .i64 (mark:Int))=>MO (b:=b) iL h hm
   by_cases hk:mark=0∨mark<tr.length
   · have hsl:=fun(φ:AF) (d:Nat) (h:φ d=.int .i64 (mark:Int))=>a79 (b:=b) h hk
     refine wF [1000000] 2 func196 ntmps196 rfl rfl ?_
     intro _
     simp only[e1,hsl,aB,seval,BU]
     refine dI (σ:=Unit) [1000000] [0,1,11,12] (tr.drop mark) (fun i _=>True) (fun i _=>[(13,.int .i64 i)]) (fun i _=>st.aC m (.map (mapOf (σ.out ((tr.drop mark).take i))))) (by decide +kernel) ⟨(),trivial,by rw[kE,Sub.SX,hm0];exact aP.mk (by simp only[aB,↓aW,seval])⟩ (fun i x _ hx hlt a7 hdr hinv=>?_) (fun _ hge hinv=>?_)
     · have hw:=wrap64 (n:=(i:Int)+1) (by omega) (by rw[lP] at hlt;omega)
       have htk:(tr.drop mark).take (i+1)=(tr.drop mark).take i++ [x]:=by rw[fN,hx];simp
       rw[lP] at hlt a7
       have bCY:decide ((i:Int)<((tr.length - mark:Nat):Int))=true:=by simp;omega
       have hxt:tr[mark+i]?=some x:=by rw[List.getElem?_drop] at hx;exact hx
       have a2P:cs=(tr.take (mark+i)).map iv++ [iv x]++((tr.drop (mark+i+1)).map iv++cs.drop tr.length):=by
        have h1:cs=tr.map iv++cs.drop tr.length:=by rw[←hcs];exact(oO _ _).symm
        have h2:tr.map iv=(tr.take (mark+i)).map iv++iv x::(tr.drop (mark+i+1)).map iv:=by
         have h3:tr.drop (mark+i)=x::tr.drop (mark+i+1):=by
          obtain⟨g1,g2⟩:=fC.1 hxt
          rw[oM g1,g2]
         rw[←bR (f:=iv),←h3,←oN,oO]
        rw[h2] at h1
        exact h1.trans (by simp)
       have hA:((tr.take (mark+i)).map iv).length=mark+i:=by simp only[aE,dZ];omega
       have hat:=a2Y (P:=prog) (b:=b) (o:=mark) (len:=tr.length - mark) (w:=1) (i:=i) iL hlt
       have hcb:=hb' (.map (mapOf (σ.out ((tr.drop mark).take i))))
       rw[a2P] at hcb
       have RT:=hc' (.map (mapOf (σ.out ((tr.drop mark).take i))))
       obtain⟨e1',e2,e3,e4,e5,e6⟩:=vN (B:=(tr.drop (mark+i+1)).map iv++cs.drop tr.length) hA
       simp only[e6,hat,hcb,RT,a7,uZ,aB,seval,BU]
       refine aXP (aA.aJ _ _ _) VJ qI ?_
       rw[dR,←htk]
       simp only[hw,aB,seval]
       exact⟨(),aP.mk (by simp only[aB,seval])⟩
     · rw[eD]
       rw[lP] at hge
       have RT:=hc' (.map (mapOf (σ.out (tr.drop mark))))
       have bCV:decide (((tr.length - mark:Nat):Int)<((tr.length - mark:Nat):Int))=false:=by simp
       simp only[RT,hge,lP,aM,hsh,aB,seval,BU]
       exact fM _ rfl
   · obtain rfl:mark=tr.length:=by omega
     have hn0:tr.length≠0:=by omega
     have hsl:=fun(φ:AF) (d:Nat) (h:φ d=.int .i64 (tr.length:Int))=>a8C (b:=b) h hn0
     refine wF [1000000] 2 func196 ntmps196 rfl rfl ?_
     intro _
     simp only[e1,hsl,mP,I0,aB,↓aW,seval,BU]
     refine dI (σ:=Unit) [1000000] [0,1,11,12] ([]:List Int) (fun i _=>True) (fun i _=>[(13,.int .i64 i)]) (fun _ _=>st) (by decide +kernel) ⟨(),trivial,aP.mk (by simp only[aB,↓aW,seval])⟩ (fun i x _ hx hlt a7 hdr hinv=>?_) (fun _ hge hinv=>?_)
     · simp at hlt
     · simp only[bG,aM,e1,hsh,aB,seval,BU]
       refine fM _ ?_
       rw[iA,Sub.SX,hm0]
def V9(v:Tm)(D:Nat)(cnt cb:Nat)(st:aA)(r:AV)(st':aA):Prop:=
 ∃nW:Nat,nW≤121∧st'=st.aC cb (.cells [.int .i64 nW]) ∧
  if v.flat D=true∧cnt+v.nodes≤120 then r=.tup [v.av,.bool true]∧nW=cnt+v.nodes else r=.tup [Tm.zero.av,.bool false]
theorem EX{α:Type}(f:α→Nat):∀l m:List α,aH f (l++m)=aH f l+aH f m
 | [],m=>by simp [aH]
 | x::l,m=>by simp only[gR,aH,EX f l m];omega
abbrev Cv (t:Tm):Prop:=t.cv=true
theorem aKM{σ:Sub}{R:Int→Tm}{rk:Int→Nat}{B f:Nat}(G:Good σ R rk B){t:Tm}{k n:Int}{s:ByteArray}{ts:List Tm}(hw:f9 σ f t (.mk k n s ts))(hc:Cv (.mk k n s ts)):t.aL R=.mk k n s (ts.map (Tm.aL R)):=by
 rw[←hw.aL G.xA]
 by_cases hk:k=1
 · rw[Tm.mG R hk,G.free (show σ n=none from hw.end hk)]
   obtain⟨h1,_⟩:=Tm.oR.1 hc
   obtain⟨rfl,rfl⟩:=h1 hk
   rw[hk];try rfl
 · rw[Tm.kA R hk]
abbrev uS:=zi aX (zi cB (zi d9 (zi cI (zi cC (zi IV pH)))))
theorem Y0{σ:Sub}{R:Int→Tm}{rk:Int→Nat}{B:Nat}(G:Good σ R rk B)(hcv:cQ Cv σ)(hsm:cQ Sm σ)(c m cb:Nat)(q:AV)(hcb:cb≠c∧cb≠m) :
 ∀(D:Nat) (t:Tm) (cnt:Nat) (st:aA),D≤31→Cv t→Sm t→cnt≤120→iS st c m q σ→st cb=some (.cells [.int .i64 cnt]) →
 aD prog 201 [.ptr c 0,t.av,.int .i64 (31 - D:Int),.ptr cb 0] st (V9 (t.aL R) D cnt cb st)
 | D,t,cnt,st,hD,hct,hst,bCS,hS,hC=>by
  have IH:=fun(D':Nat) (hlt:D'<D) (x:Tm) cnt st=>Y0 G hcv hsm c m cb q hcb D' x cnt st
  obtain⟨f,hw⟩:=G.wk t
  generalize wk σ t=u at *
  have hcu:=hw.all (p:=Cv) hcv hct
  have hsu:=hw.all (p:=Sm) hsm hst
  have hcw:=fun st (hS:iS st c m q σ)=>KE hw c m q st hS
  obtain⟨k,n,s,ts⟩:=u
  have hv:=aKM G hw hcu
  rw[hv]
  obtain⟨hlen,sP⟩:=Tm.rJ hsu
  obtain⟨_,a2R⟩:=Tm.oR.1 hcu
  refine aD.oT (aD.fin ?_)
  refine wF [1000000,5,10] 4 func201 ntmps201 rfl rfl ?_
  intro _
  simp only[aB,seval,uS]
  intro b5 h5 b8 h8
  have h85:b8≠b5:=by rintro rfl;rw[aA.aJ] at h8;cases h8
  have hn8:st b8=none:=by rw[aA.aF st _ h85] at h8;exact h8
  have hS':∀o o',iS ((st.aC b5 o).aC b8 o') c m q σ:=fun o o'=>(hS.aC h5).aC (by rw[aA.aF _ _ h85];exact hn8)
  have hb5:cb≠b5:=by rintro rfl;rw[hC] at h5;cases h5
  have hb8:cb≠b8:=by rintro rfl;rw[hC] at hn8;cases hn8
  have hwc:IntKind.i64.wrap ((cnt:Int)+1)=(cnt:Int)+1:=wrap64 (by omega) (by omega)
  simp only[h85.symm,aB,seval]
  refine(hcw _ (hS' _ _)).to ?_
  simp only[bD]
  simp only[aM,h85.symm,hb5,hb8,hC,hwc,aB,seval,uS]
  have DW:∀(st':aA) (nW:Nat),nW≤121→aO st' (st.aC cb (.cells [.int .i64 nW]))→¬((Tm.mk k n s (ts.map (Tm.aL R))).flat D=true∧cnt+(Tm.mk k n s (ts.map (Tm.aL R))).nodes≤120) →
   ∃b l s0,st'=bK s0 b l∧(l≠[]→s0 b=none)∧(∀e∈l,e.bV=false)∧jU l∧∃s2,aO s0 s2∧V9 (Tm.mk k n s (ts.map (Tm.aL R))) D cnt cb st (AV.fin b l (.tup [.agg [.int .i64 0,.int .i64 0,.str ⟨#[]⟩,.fslice []],.bool false])) s2:=fun st' nW h1 h2 h3=>by
   refine⟨0,[],st',rfl,by simp,by simp,⟨4,by simp⟩,_,h2,nW,h1,rfl,?_⟩
   rw[aK h3]
   simp only[Tm.zero,bD,gJ,iM,gW,lV,pV,nE,bR,bS]
  have hdr:∀o5 o8 o5' o8' nW,aO (((((st.aC b5 o5).aC b8 o8).aC b5 o5').aC cb (.cells [.int .i64 nW])).aC b8 o8') (st.aC cb (.cells [.int .i64 nW])):=fun o5 o8 o5' o8' nW x=>by
   by_cases e5:x=b5<;>by_cases e8:x=b8<;>by_cases ec:x=cb<;>simp_all [aA.aC]
  refine cP (fun h=>?_) (fun h=>?_)
  case refine_2=>
   simp only[h,aM,h85,hb8.symm,aB,seval,uS]
   refine DW _ (cnt+1) (by omega) (hdr _ _ _ _ _) ?_
   simp at h
   rw[Tm.lJ]
   omega
  simp only[h,aB,seval]
  simp at h
  refine aQ (fun h2=>?_) (fun h2=>?_)
  · simp only[bM] at h2
    obtain rfl:D=0:=by omega
    simp only[aM,h85,hb8.symm,aB,↓aW,seval,uS]
    exact DW _ (cnt+1) (by omega) (hdr _ _ _ _ _) (by rw[Tm.G6];simp)
  simp only[cL] at h2
  obtain⟨D',rfl⟩:∃D',D=D'+1:=⟨D - 1,by omega⟩
  have a2S:IntKind.i64.wrap (31 - ((D':Int)+1)+1)=31 - (D':Int):=by rw[wrap64 (by omega) (by omega)];omega
  simp only[aM,hb5.symm,aB,↓aW,seval,uS]
  intro b10 h10
  have RA:b10≠b5:=by rintro rfl;simp [aA.aC,hb5.symm] at h10
  have DN:b10≠b8:=by rintro rfl;simp [aA.aC,h85,hb8.symm] at h10
  have RB:b10≠cb:=by rintro rfl;simp [aA.aC] at h10
  have a3I:st b10=none:=by rw[aA.aF _ _ RB,aA.aF _ _ RA,aA.aF _ _ DN,aA.aF _ _ RA] at h10;exact h10
  simp only[hb5.symm,RA.symm,aE,aB,seval,uS]
  rw[aA.zJ h85]
  have hWS:iS ((st.aC b8 (.cells [.int .i64 0,.int .i64 0,.str ⟨#[]⟩,.fslice []])).aC b5 (.cells [.int .i64 k,.int .i64 n,.str s,.slice (ts.map Tm.av)])) c m q σ:=(hS.aC hn8).aC (by rw[aA.aF _ _ h85.symm];exact h5)
  have hW8:((st.aC b8 (.cells [.int .i64 0,.int .i64 0,.str ⟨#[]⟩,.fslice []])).aC b5 (.cells [.int .i64 k,.int .i64 n,.str s,.slice (ts.map Tm.av)])) b8=some (.cells [.int .i64 0,.int .i64 0,.str ⟨#[]⟩,.fslice []]):=by rw[aA.aF _ _ h85,aA.aJ]
  have hWd:∀X Y Z,aO (((((st.aC b8 (.cells [.int .i64 0,.int .i64 0,.str ⟨#[]⟩,.fslice []])).aC b5 (.cells [.int .i64 k,.int .i64 n,.str s,.slice (ts.map Tm.av)])).aC cb X).aC b8 Y).aC b10 Z) (st.aC cb X):=fun X Y Z x=>by
   by_cases e5:x=b5<;>by_cases e8:x=b8<;>by_cases ec:x=cb<;>by_cases e10:x=b10<;>simp_all [aA.aC]
  generalize ((st.aC b8 (.cells [.int .i64 0,.int .i64 0,.str ⟨#[]⟩,.fslice []])).aC b5 (.cells [.int .i64 k,.int .i64 n,.str s,.slice (ts.map Tm.av)]))=W at *
  obtain⟨a12,a13⟩:=hS.ne a3I
  refine dI (σ:=Nat) [1000000,5,10] [0,2,3,8,10,40,41] ts
   (fun i b=>(((ts.take i).map (Tm.aL R)).map Tm.av≠[]→(aA.aC (W.aC cb (.cells [.int .i64 ((cnt+1+aH Tm.nodes ((ts.take i).map (Tm.aL R)):Nat):Int)])) b10 (.cells ([.int .i64 k,.int .i64 n,.str s]++ [bQ 4 b (((ts.take i).map (Tm.aL R)).map Tm.av)]))) b=none) ∧
    cnt+1+aH Tm.nodes ((ts.take i).map (Tm.aL R))≤120∧((ts.take i).map (Tm.aL R)).all (fun x=>x.flat D')=true)
   (fun i b=>[(9,.bool false),(42,.int .i64 i)])
   (fun i b=>lH (W.aC cb (.cells [.int .i64 ((cnt+1+aH Tm.nodes ((ts.take i).map (Tm.aL R)):Nat):Int)])) b10 b [.int .i64 k,.int .i64 n,.str s] (((ts.take i).map (Tm.aL R)).map Tm.av)) (by decide +kernel)
   ⟨0,⟨fun h=>absurd rfl h,by simp [aH];omega,by simp⟩,aP.mk (by simp only[aB,↓aW,seval])⟩ (fun i x b hx hlt a7 DU hinv=>?_) (fun b hge hinv=>?_)
  · obtain⟨i1,i2,i3⟩:=hinv
    have htk:(ts.take (i+1)).map (Tm.aL R)=(ts.take i).map (Tm.aL R)++ [x.aL R]:=by rw[fN,hx];simp
    have dO:(((ts.take i).map (Tm.aL R)).map Tm.av).length=i:=by simp only[aE,dZ];omega
    have hw:=aZ (n:=(i:Int)+1)
    have fZ:=cH hx
    generalize hl0:(ts.take i).map (Tm.aL R)=l0 at *
    generalize hc0:cnt+1+aH Tm.nodes l0=c0 at *
    have hWc:(W.aC cb (.cells [.int .i64 (c0:Int)])) cb≠none:=by rw[aA.aJ];simp
    have hs1:=oA i1 hWc RB.symm
    have hsS:iS (lH (W.aC cb (.cells [.int .i64 (c0:Int)])) b10 b [.int .i64 k,.int .i64 n,.str s] (l0.map Tm.av)) c m q σ:=by
     have h1:=(hWS.OF (o:=.cells [.int .i64 (c0:Int)]) hcb.1 hcb.2)
     exact⟨by rw[oA i1 (by rw[h1.cells];simp) a12.symm];exact h1.cells,by rw[oA i1 (by rw[h1.map];simp) a13.symm];exact h1.map⟩
    rw[aA.aJ] at hs1
    simp only[a7,a2S,bH (av:=Tm.av) bY hx (aT x),cD,aT,aB,↓aW,seval,uS]
    refine(IH D' (Nat.lt_succ_self _) x c0 _ (by omega) (a2R x fZ) (sP x fZ) i2 hsS hs1).mono ?_
    rintro r s2 ⟨nW,a2M,rfl,hr⟩
    obtain⟨e1,i1'⟩:=aL0 (o:=.cells [.int .i64 (nW:Int)]) i1 hWc RB.symm
    rw[e1,dR]
    rw[dR] at i1'
    have uF:(ts.map (Tm.aL R))=l0++(x.aL R)::(ts.drop (i+1)).map (Tm.aL R):=by rw[←hl0,←bR,←DU,←oN,oO]
    by_cases hok:(x.aL R).flat D'=true∧c0+(x.aL R).nodes≤120
    · rw[aN hok] at hr
      obtain⟨rfl,rfl⟩:=hr
      have hbo:=mF i1'
      simp only[cD,aT,Tm.e9,Tm.fP,hbo,rZ,aB,↓aW,seval,uS]
      refine gA bY lC lE rfl rfl (g8 (aT _) (Tm.e9 _)) (iX _) i1' (by simp only[dO,a8,bG];omega) (by simp only[dO,a8,bG];omega) (fun b' hb'=>?_)
      rw[show l0.map Tm.av++ [(x.aL R).av]=((ts.take (i+1)).map (Tm.aL R)).map Tm.av by rw[htk];simp] at hb' ⊢
      obtain⟨g1,g2,g3⟩:=xB hb'
      simp only[gR,eE] at g1 g3
      have hcc:cnt+1+aH Tm.nodes ((ts.take (i+1)).map (Tm.aL R))=c0+(x.aL R).nodes:=by rw[htk,EX,aH,aH,←hc0];omega
      simp only[g3,nS,iK,g1,hw,aM,aB,seval,uS]
      rw[hcc]
      exact⟨b',⟨g2,hok.2,by rw[htk,xZ,i3];simp [hok.1]⟩,aP.mk (by simp only[aB,seval])⟩
    · rw[aK hok] at hr
      subst hr
      obtain⟨e2,i2'⟩:=aL0 (x:=b8) (o:=.cells [.int .i64 0,.int .i64 0,.str ⟨#[]⟩,.fslice []]) i1' (by rw[aA.aF _ _ hb8.symm,hW8];simp) DN.symm
      have h8o:=oA i1' (x:=b8) (by rw[aA.aF _ _ hb8.symm,hW8];simp) DN.symm
      rw[aA.aF _ _ hb8.symm,hW8] at h8o
      simp only[aM,h8o,Tm.zero,bD,bS,aB,↓aW,seval,uS]
      rw[e2]
      refine DW _ nW a2M (a41 (hWd _ _ _) i2') ?_
      rw[Tm.lJ,Tm.sM,uF,xZ,jK,EX,aH]
      rintro⟨h3,h4⟩
      simp only[cY] at h3
      exact hok ⟨h3.2.1,by omega⟩
  · obtain⟨i1,i2,i3⟩:=hinv
    rw[eD] at i1 i2 i3 ⊢
    have hbo:=mF i1
    have hx8:(W.aC cb (.cells [.int .i64 ((cnt+1+aH Tm.nodes (ts.map (Tm.aL R)):Nat):Int)])) b8≠none:=by rw[aA.aF _ _ hb8.symm,hW8];simp
    have h8o:=oA i1 (x:=b8) hx8 DN.symm
    rw[aA.aF _ _ hb8.symm,hW8] at h8o
    simp only[aM,hge,hbo,h8o,iK,aB,seval,uS]
    obtain⟨h5,h6⟩:=vL (o:=.cells [.int .i64 k,.int .i64 n,.str s,bQ 4 b ((ts.map (Tm.aL R)).map Tm.av)]) i1 hx8 DN.symm
    have yS:cnt+(Tm.mk k n s (ts.map (Tm.aL R))).nodes=cnt+1+aH Tm.nodes (ts.map (Tm.aL R)):=by rw[Tm.lJ];omega
    refine⟨b,_,_,h5,h6,tC _,⟨4,iX _⟩,_,?_,_,Nat.le_succ_of_le i2,rfl,?_⟩
    · rw[aA.pJ _ _ _ DN]
      exact hWd _ _ _
    · rw[aN ⟨by rw[Tm.sM];exact i3,by rw[yS];exact i2⟩,yS]
      refine⟨?_,rfl⟩
      simp only[iM,gJ,bR,bS,gW,pV,lV,nT,bD]
termination_by D=>D
decreasing_by exact hlt
def ME(v:Tm):AV:=if v.flat 30=true∧v.nodes≤120 then .tup [v.av,.bool true] else .tup [Tm.zero.av,.bool false]
abbrev UU:=zi aX (zi cB (zi dD (zi cC (zi IV pH))))
theorem YZ{σ:Sub}{R:Int→Tm}{rk:Int→Nat}{B:Nat}(G:Good σ R rk B)(hcv:cQ Cv σ)(hsm:cQ Sm σ)(c m:Nat)(q:AV)(t:Tm)(hct:Cv t)(hst:Sm t)(st:aA)(hS:iS st c m q σ) :
 aD prog 187 [.ptr c 0,t.av] st (fun r st'=>r=ME (t.aL R)∧st'=st):=by
 refine aD.done ?_
 refine wF [1000000,6] 2 func187 ntmps187 rfl rfl ?_
 intro _
 simp only[aM,aB,↓aW,seval,UU]
 intro b4 h4 b6 h6
 have hne:b6≠b4:=by rintro rfl;rw[aA.aJ] at h6;cases h6
 have hn6:st b6=none:=by rw[aA.aF st _ hne] at h6;exact h6
 have hS':∀o o',iS ((st.aC b4 o).aC b6 o') c m q σ:=fun o o'=>(hS.aC h4).aC (by rw[aA.aF _ _ hne];exact hn6)
 obtain⟨h6c,h6m⟩:=hS.ne hn6
 have hc:=Y0 G hcv hsm c m b6 q ⟨h6c,h6m⟩ 30 t 0 _ (by omega) hct hst (by omega) (hS' (.cells [.int .i64 0,.int .i64 0,.str ⟨#[]⟩,.fslice []]) (.cells [.int .i64 0])) (aA.aJ _ _ _)
 rw[show(31 - ((30:Nat):Int))=1 from rfl] at hc
 refine hc.mono ?_
 rintro r s2 ⟨nW,_,rfl,hr⟩
 unfold ME
 rw[jW] at hr
 split at hr
 · rename_i hok
   obtain⟨rfl,_⟩:=hr
   rw[aN hok]
   simp only[Tm.gB,Tm.e9,aM,hne.symm,aB,seval,UU]
   exact⟨by simp only[xM,xL,Tm.soft,bR,bS],(((aO.refl _).aC h4).aC hn6).aC h4⟩
 · rename_i hok
   subst hr
   rw[aK hok]
   simp only[Tm.zero,bD,bS,aM,hne.symm,aB,seval,UU]
   exact⟨by simp only[vP,xM,y8,xL,BS,MP,bR,bS],(((aO.refl _).aC h4).aC hn6).aC h4⟩
abbrev a9O:=zi pH (zi NO FF)
theorem aV2(st:aA):aD prog 173 [] st (fun r st'=>∃c m,r=.ptr c 0∧gG st' c m (.fslice []) Sub.none []∧mM c m st (.fslice []) st' (.fslice [])∧st c=none∧st m=none):=by
 refine wF [1000000,3] 0 func173 ntmps173 rfl rfl ?_
 intro _
 simp only[aB,seval,a9O]
 intro m hm c hc
 have hne:c≠m:=by rintro rfl;rw[aA.aJ] at hc;cases hc
 have hnc:st c=none:=by rw[aA.aF st _ hne] at hc;exact hc
 refine⟨c,m,rfl,⟨⟨aA.aJ _ _ _,by rw[aA.aF _ _ hne.symm,aA.aJ];try rfl⟩,.inl ⟨rfl,rfl⟩,by simp [dQ]⟩,⟨fun x o h h1 h2 _=>by rw[aA.aF _ _ h1,aA.aF _ _ h2];exact h,by simp [dQ]⟩,hnc,hm⟩
theorem iS.acc{st:aA}{c m b:Nat}{q:AV}{σ:Sub}{l:List AV}(h:iS st c m q σ)(hb:l≠[]→st b=none):iS (bK st b l) c m q σ:=by
 cases l with
 | nil=>exact h
 | cons x l=>exact h.aC (hb (by simp))
abbrev bC7:=zi aX cB
theorem pS(b:Bool)(st:aA):aD prog 204 [.bool b] st (fun r st'=>r=.int .i64 (iG b)∧st'=st):=by
 refine wF [1000000] 1 func204 ntmps204 rfl rfl ?_
 intro _
 simp only[aB,seval]
 cases b
 · simp only[iG,aB,seval]
 · simp only[iG,aB,seval]
abbrev a8X:=zi NM (zi aX (zi dD cC))
theorem aV3(n:Int)(st:aA):aD prog 208 [.int .i64 n] st (fun r st'=>r=(n9 n).av∧st'=st):=by
 refine aD.done ?_
 refine wF [1000000] 1 func208 ntmps208 rfl rfl ?_
 intro _
 simp only[aM,aB,seval,a8X]
 intro b hb
 unfold n9
 exact⟨by simp only[bD,vP,y8,BS,ID,bR,bS,bS],(aO.refl _).aC hb⟩
abbrev TZ:=zi aX (zi cB (zi d9 (zi cI (zi cC FD))))
theorem aT6(k n:Int)(s:ByteArray)(ts:List Tm)(st:aA):aD prog 202 [(Tm.mk k n s ts).av] st (fun r st'=>r=.bool (decide (k=3)&&decide ((ts.length:Int)=2)&&gE sH s)∧st'=st):=by
 simp only[bD]
 refine wF [1000000] 1 func202 ntmps202 rfl rfl ?_
 intro _
 simp only[aB,seval,TZ]
 refine cP (fun h=>?_) (fun h=>?_)
 · simp only[h,aE,aB,seval,TZ]
   refine cP (fun h2=>?_) (fun h2=>?_)
   · simp only[h2,aB,seval,TZ]
     refine(PU sH s _).to ?_
     simp only[aB,seval]
     simp [gE]
   · simp only[h2,aB,seval]
     simp []
 · simp only[h,aB,seval]
   simp []
abbrev T0:=zi aX (zi cB (zi d9 (zi cI cC)))
theorem aT5(n:Int)(s:ByteArray)(x y:Tm)(hs:gE sH s=true){N:Int}(hx:cJ N x)(hy:cJ N y)(st:aA):aD prog 203 [(Tm.mk 3 n s [x,y]).av] st (fun r st'=>r=.int .i64 (yI s x y)∧st'=st):=by
 have eH:dP prog 46 (.slice [x.av,y.av]) (.int .i64 0)=some (.pptr x.av):=bH (av:=Tm.av) (l:=[x,y]) (i:=0) bY rfl (aT x)
 have gC:dP prog 46 (.slice [x.av,y.av]) (.int .i64 1)=some (.pptr y.av):=bH (av:=Tm.av) (l:=[x,y]) (i:=1) bY rfl (aT y)
 have hax:=fun st=>J6 x st hx
 have hay:=fun st=>J6 y st hy
 unfold yI both
 simp only[bD,bR,bS]
 refine wF [1000000] 1 func203 ntmps203 rfl rfl ?_
 intro _
 simp only[eH,cD,aT,aB,seval,T0]
 refine(hax _).to ?_
 generalize x.ev.1=a at *
 generalize x.ev.2=ca at *
 generalize y.ev.1=b at *
 generalize y.ev.2=cb at *
 simp only[aB,seval]
 refine aQ (fun h4=>?_) (fun h4=>?_)
 · simp only[aB,seval]
   have h4':ca≠0:=by simpa using h4
   rw[aN h4']
 have h4':ca=0:=by simpa using h4
 subst h4'
 rw[aK (by simp)]
 simp only[gC,cD,aT,aB,seval,T0]
 refine(hay _).to ?_
 simp only[aB,seval]
 refine aQ (fun h5=>?_) (fun h5=>?_)
 · simp only[aB,seval]
   have h5':cb≠0:=by simpa using h5
   rw[aN h5']
 have h5':cb=0:=by simpa using h5
 subst h5'
 rw[aK (by simp)]
 unfold KL
 simp only[aB,seval,T0]
 refine aQ (fun h6=>?_) (fun h6=>?_)
 · simp only[aB,seval]
   rw[aN (by simpa using h6)]
   refine(pS _ _).to ?_
   simp only[aB,seval]
 rw[aK (by simpa using h6)]
 simp only[aB,seval]
 refine aQ (fun h7=>?_) (fun h7=>?_)
 · simp only[aB,seval]
   rw[aN (by simpa using h7)]
   refine(pS _ _).to ?_
   simp only[aB,seval]
 rw[aK (by simpa using h7)]
 simp only[aB,seval]
 refine aQ (fun h8=>?_) (fun h8=>?_)
 · simp only[aB,seval]
   rw[aN (by simpa using h8)]
   refine(pS _ _).to ?_
   simp only[aB,seval]
 rw[aK (by simpa using h8)]
 simp only[aB,seval]
 refine aQ (fun h9=>?_) (fun h9=>?_)
 · simp only[aB,seval]
   rw[aN (by simpa using h9)]
   refine(pS _ _).to ?_
   simp only[aB,seval]
 rw[aK (by simpa using h9)]
 simp only[aB,seval]
 refine(pS _ _).to ?_
 simp only[aB,seval]
theorem L3{ts:List Tm}(h:ts.length=0):ts= []:=rT h
theorem HN{ts:List Tm}(h:ts.length=1):∃x,ts= [x]:=by
 match ts,h with
 | [x],_=>exact⟨x,rfl⟩
theorem vM{ts:List Tm}(h:ts.length=2):∃x y,ts= [x,y]:=by
 match ts,h with
 | [x,y],_=>exact⟨x,y,rfl⟩
theorem aL1{ts:List Tm}(h:ts.length=3):∃x y z,ts= [x,y,z]:=by
 match ts,h with
 | [x,y,z],_=>exact⟨x,y,z,rfl⟩
theorem aQZ{σ:Sub}{f:Nat}{t u:Tm}(h:f9 σ f t u):wk σ u=u:=(f9.stop h.end).wk
end Go.AW
namespace Go.AW

end Go.AW
namespace Go.AW
open Go.Proofs.Tryz
theorem a8Q{α:Type}(f:α→Nat)(l:List α)(i:Nat):aH f (l.take i)≤aH f l:=by
 have:=EX f (l.take i) (l.drop i)
 rw[oO] at this
 omega
def Full(v:Tm)(room:Nat)(st:aA)(r:AV)(st':aA):Prop:=
 st'=st∧∃(x:Tm) (left:Int),r=.tup [x.av,.int .i64 left]∧-1≤left∧if v.nodes≤room then x=v∧left=(room:Int) - v.nodes else left<0
abbrev bC8:=zi aX cB
theorem tQ(b:Bool)(st:aA):aD prog 159 [.bool b] st (fun r st'=>r=.int .i64 (iG b)∧st'=st):=by
 refine wF [1000000] 1 func159 ntmps159 rfl rfl ?_
 intro _
 simp only[aB,seval]
 cases b
 · simp only[iG,aB,seval]
 · simp only[iG,aB,seval]
abbrev bC9:=zi cB d9
theorem aVO(s:ByteArray)(st:aA):aD prog 165 [.str s] st (fun r st'=>r=.bool (gE sH s)∧st'=st):=by
 have hin:gE sH s=(decide (s=⟨#[60]⟩)||(decide (s=⟨#[62]⟩)||(decide (s=⟨#[61,60]⟩)||(decide (s=⟨#[62,61]⟩)||decide (s=⟨#[61,58,61]⟩))))):=by
  simp only[gE,sH,x6,List.any_nil,Bool.or_false]
 rw[hin]
 refine wF [1000000] 1 func165 ntmps165 rfl rfl ?_
 intro _
 simp only[aB,seval]
 refine cP (fun h1=>?_) (fun h1=>?_)
 case refine_2=>
  simp only[h1,aB,seval]
  simp at h1;simp [h1]
 simp only[h1,aB,seval]
 refine cP (fun h2=>?_) (fun h2=>?_)
 case refine_2=>
  simp only[h2,aB,seval]
  simp at h2;simp [h2]
 simp only[h2,aB,seval]
 refine cP (fun h3=>?_) (fun h3=>?_)
 case refine_2=>
  simp only[h3,aB,seval]
  simp at h3;simp [h3]
 simp only[h3,aB,seval]
 refine cP (fun h4=>?_) (fun h4=>?_)
 case refine_2=>
  simp only[h4,aB,seval]
  simp at h4;simp [h4]
 simp only[h4,aB,seval]
theorem aVQ(s:ByteArray)(a b:Int)(st:aA):aD prog 182 [.str s,.int .i64 a,.int .i64 b] st (fun r st'=>r=.bool (KL s a b)∧st'=st):=by
 unfold KL
 refine wF [1000000] 3 func182 ntmps182 rfl rfl ?_
 intro _
 simp only[aB,seval]
 refine aQ (fun h6=>?_) (fun h6=>?_)
 · simp only[aB,seval]
   rw[aN (by simpa using h6)]
 rw[aK (by simpa using h6)]
 simp only[aB,seval]
 refine aQ (fun h7=>?_) (fun h7=>?_)
 · simp only[aB,seval]
   rw[aN (by simpa using h7)]
 rw[aK (by simpa using h7)]
 simp only[aB,seval]
 refine aQ (fun h8=>?_) (fun h8=>?_)
 · simp only[aB,seval]
   rw[aN (by simpa using h8)]
 rw[aK (by simpa using h8)]
 simp only[aB,seval]
 refine aQ (fun h9=>?_) (fun h9=>?_)
 · simp only[aB,seval]
   rw[aN (by simpa using h9)]
 rw[aK (by simpa using h9)]
 simp only[aB,seval]
abbrev T6:=zi aX (zi cB (zi d9 (zi cI cC)))
theorem aVN(n:Int)(s:ByteArray)(x y:Tm){N:Int}(hx:cJ N x)(hy:cJ N y)(st:aA):aD prog 166 [(Tm.mk 3 n s [x,y]).av] st (fun r st'=>r=.int .i64 (yI s x y)∧st'=st):=by
 have eH:dP prog 46 (.slice [x.av,y.av]) (.int .i64 0)=some (.pptr x.av):=bH (av:=Tm.av) (l:=[x,y]) (i:=0) bY rfl (aT x)
 have gC:dP prog 46 (.slice [x.av,y.av]) (.int .i64 1)=some (.pptr y.av):=bH (av:=Tm.av) (l:=[x,y]) (i:=1) bY rfl (aT y)
 have hax:=fun st=>KC x st hx
 have hay:=fun st=>KC y st hy
 unfold yI both
 simp only[bD,bR,bS]
 refine wF [1000000] 1 func166 ntmps166 rfl rfl ?_
 intro _
 simp only[eH,cD,aT,aB,seval,T6]
 refine(hax _).to ?_
 generalize x.ev.1=a at *
 generalize x.ev.2=ca at *
 generalize y.ev.1=b at *
 generalize y.ev.2=cb at *
 simp only[aB,seval]
 refine aQ (fun h4=>?_) (fun h4=>?_)
 · simp only[aB,seval]
   have h4':ca≠0:=by simpa using h4
   rw[aN h4']
 have h4':ca=0:=by simpa using h4
 subst h4'
 rw[aK (by simp)]
 simp only[gC,cD,aT,aB,seval,T6]
 refine(hay _).to ?_
 simp only[aB,seval]
 refine aQ (fun h5=>?_) (fun h5=>?_)
 · simp only[aB,seval]
   have h5':cb≠0:=by simpa using h5
   rw[aN h5']
 have h5':cb=0:=by simpa using h5
 subst h5'
 rw[aK (by simp)]
 simp only[aB,seval,T6]
 refine(aVQ s a b _).to ?_
 simp only[aB,seval]
 refine(tQ _ _).to ?_
 simp only[aB,seval]
abbrev EY:=zi aX (zi cB (zi d9 (zi cI cC)))
theorem aVS(n:Int)(s:ByteArray)(x:Tm)(hs:s=⟨#[118,97,114]⟩∨s=⟨#[110,111,110,118,97,114]⟩∨s=⟨#[97,116,111,109]⟩∨s=⟨#[105,110,116]⟩)(st:aA) :
 aD prog 167 [(Tm.mk 3 n s [x]).av] st (fun r st'=>r=.int .i64 (iG (uO s x))∧st'=st):=by
 obtain⟨xk,xn,xs,xt⟩:=x
 have eH:dP prog 46 (.slice [(Tm.mk xk xn xs xt).av]) (.int .i64 0)=some (.pptr (Tm.mk xk xn xs xt).av):=bH (av:=Tm.av) (l:=[Tm.mk xk xn xs xt]) (i:=0) bY rfl (aT _)
 simp only[bD] at eH
 simp only[bR,bS,bD]
 refine wF [1000000] 1 func167 ntmps167 rfl rfl ?_
 intro _
 simp only[eH,aB,↓aW,seval,EY]
 refine aQ (fun h=>?_) (fun h=>?_)
 · have hs':s=⟨#[118,97,114]⟩:=by simpa using h
   subst hs'
   simp only[aB,seval,EY]
   refine(tQ _ _).to ?_
   simp only[aB,seval]
   rfl
 have h1:s≠⟨#[118,97,114]⟩:=by simpa using h
 simp only[aB,seval]
 refine aQ (fun h=>?_) (fun h=>?_)
 · have hs':s=⟨#[110,111,110,118,97,114]⟩:=by simpa using h
   subst hs'
   simp only[aB,seval,EY]
   refine(tQ _ _).to ?_
   simp only[aB,seval]
   rfl
 have h2:s≠⟨#[110,111,110,118,97,114]⟩:=by simpa using h
 simp only[aB,seval]
 refine aQ (fun h=>?_) (fun h=>?_)
 · have hs':s=⟨#[105,110,116]⟩:=by simpa using h
   subst hs'
   simp only[aB,seval,EY]
   refine(tQ _ _).to ?_
   simp only[aB,seval]
   rfl
 have h3:s≠⟨#[105,110,116]⟩:=by simpa using h
 have hs':s=⟨#[97,116,111,109]⟩:=by simpa [h1,h2,h3] using hs
 subst hs'
 have et:uO ⟨#[97,116,111,109]⟩ (Tm.mk xk xn xs xt)=(decide (xk=3)&&decide ((xt.length:Int)=0)):=rfl
 rw[et]
 simp only[aB,seval,EY]
 refine cP (fun h4=>?_) (fun h4=>?_)
 · simp only[h4,aE,aB,seval,EY]
   refine(tQ _ _).to ?_
   simp only[aB,seval]
 · simp only[h4,aB,seval]
   refine(tQ _ _).to ?_
   simp only[aB,seval]
   simp at h4;simp []
def sB(x y:Tm):Tm×Int:=if x.k=1∨y.k=1 then(Tm.zero,2) else if x.k≠2∨y.k≠3∨y.ts.length=0 then(Tm.zero,3) else match nC x y with
 | some u=>(u,0)
 | none=>(Tm.zero,1)
abbrev pE:=zi aX (zi cI cC)
theorem aVM{N:Int}(n:Int)(s:ByteArray)(x y z:Tm)(hy:cJ N y)(st:aA):aD prog 164 [(Tm.mk 3 n s [x,y,z]).av] st (fun r st'=>r=.tup [(sB x y).1.av,.int .i64 (sB x y).2]∧st'=st):=by
 have eH:dP prog 46 (.slice [x.av,y.av,z.av]) (.int .i64 0)=some (.pptr x.av):=bH (av:=Tm.av) (l:=[x,y,z]) (i:=0) bY rfl (aT x)
 have gC:dP prog 46 (.slice [x.av,y.av,z.av]) (.int .i64 1)=some (.pptr y.av):=bH (av:=Tm.av) (l:=[x,y,z]) (i:=1) bY rfl (aT y)
 obtain⟨xk,xn,xs,xt⟩:=x
 obtain⟨yk,yn,ys,yt⟩:=y
 have hyl:yt.length≤4:=by
  exact hy.kind.2
 rw[bD] at eH
 simp only[bD xk,bD yk] at eH gC
 unfold sB
 simp only[bD 3,bR,bS,bD xk,bD yk,Tm.k,Tm.ts]
 refine aD.done ?_
 refine wF [1000000] 1 func164 ntmps164 rfl rfl ?_
 intro _
 simp only[eH,gC,aB,↓aW,seval,pE]
 intro b hb
 have AX:∀o (p:Tm×Int) (k:Int),p=(Tm.zero,k)→(AV.tup [.agg [.int .i64 0,.int .i64 0,.str ⟨#[]⟩,.fslice []],.int .i64 k]).soft=.tup [p.1.av,.int .i64 p.2]∧aO (st.aC b o) st:=fun o p k e=>by
  rw[e]
  exact⟨by simp only[Tm.zero,bD,vP,xM,y8,BS,ID,bR,bS,bS],(aO.refl _).aC hb⟩
 refine cP (fun h=>?_) (fun h=>?_)
 case refine_2=>
  have h':xk=1:=by simpa using h
  simp only[h,aM,aB,seval,pE]
  exact AX _ _ 2 (aN (.inl h'))
 have hx1:xk≠1:=by simpa using h
 simp only[h,aB,seval,pE]
 refine aQ (fun h1=>?_) (fun h1=>?_)
 · have h':yk=1:=by simpa using h1
   simp only[aM,aB,seval,pE]
   exact AX _ _ 2 (aN (.inr h'))
 have hy1:yk≠1:=by simpa using h1
 rw[aK (fun h2=>h2.elim hx1 hy1)]
 simp only[aB,seval,pE]
 refine cP (fun h4=>?_) (fun h4=>?_)
 case refine_2=>
  have h':xk≠2:=by simpa using h4
  simp only[h4,aM,aB,seval,pE]
  exact AX _ _ 3 (aN (.inl h'))
 have hx2:xk=2:=by simpa using h4
 simp only[h4,aB,seval,pE]
 refine cP (fun h5=>?_) (fun h5=>?_)
 case refine_2=>
  have h':yk≠3:=by simpa using h5
  simp only[h5,aM,aB,seval,pE]
  exact AX _ _ 3 (aN (.inr (.inl h')))
 have hy3:yk=3:=by simpa using h5
 simp only[h5,aE,aB,seval,pE]
 refine aQ (fun h6=>?_) (fun h6=>?_)
 · have h':yt.length=0:=by simp at h6;simp [h6]
   simp only[aM,aB,seval,pE]
   exact AX _ _ 3 (aN (.inr (.inr h')))
 have hyt:yt.length≠0:=by simp at h6;simpa using h6
 rw[aK (by simp [hx2,hy3];intro h7;simp [h7] at hyt)]
 simp only[aB,seval,pE]
 have hno:¬(1≤xn∧xn≤yt.length)→(match nC (.mk xk xn xs xt) (.mk yk yn ys yt) with | some u=>(u,(0:Int)) | none=>(Tm.zero,1))=(Tm.zero,(1:Int)):=fun h'=>by
  have ea:nC (.mk xk xn xs xt) (.mk yk yn ys yt)=none:=aK h'
  rw[ea]
 refine cP (fun h7=>?_) (fun h7=>?_)
 case refine_2=>
  have h':xn<1:=by simpa using h7
  simp only[h7,aM,aB,seval,pE]
  exact AX _ _ 1 (hno (by omega))
 have hl1:¬xn<1:=by simpa using h7
 simp only[h7,aE,aB,seval,pE]
 refine aQ (fun h8=>?_) (fun h8=>?_)
 · have h':(yt.length:Int)<xn:=by simpa using h8
   simp only[aM,aB,seval,pE]
   exact AX _ _ 1 (hno (by omega))
 have hl2:¬(yt.length:Int)<xn:=by simpa using h8
 have h':1≤xn∧xn≤yt.length:=by omega
 obtain⟨i,hi⟩:∃i:Nat,xn - 1=i:=⟨(xn - 1).toNat,by omega⟩
 have hlt:i<yt.length:=by omega
 obtain⟨u,hu⟩:∃u,yt[i]?=some u:=⟨_,eK hlt⟩
 have ea:nC (.mk xk xn xs xt) (.mk yk yn ys yt)=some u:=by
  refine(aN h').trans ?_
  show yt[(xn - 1).toNat]?=some u
  rw[hi,kB,hu]
 rw[ea]
 have hw:IntKind.i64.wrap (xn - 1)=(i:Int):=by rw[wrap64 (by omega) (by omega)];exact hi
 have RH:=bH (av:=Tm.av) (P:=prog) bY hu (aT u)
 simp only[Tm.gB,Tm.e9,rM (Tm.gB _),qS (cD _),RH,hw,cD,aT,aM,aB,seval,pE]
 exact⟨by simp only[xM,y8,Tm.soft,bR,bS,Tm.soft],(aO.refl _).aC hb⟩
theorem a4V(n:Int):(n9 n).av=(Tm.mk 2 n ⟨#[]⟩ []).av:=rfl
end Go.AW
