/- Unification either way: plain facts. -/
import Derived.Test.YtlepdbmhjkmelaaGreatWsj
import Derived.Test.YtlepdbmhjkmelaaGreatWsf
import Derived.Test.YtlepdbmhjkmelaaGreatWsi
import Derived.Lib.SliceRun
import Derived.Test.YtlepdbmhjkmelaaGreatWsh
set_option linter.unusedSimpArgs false
set_option linter.unusedVariables false
set_option maxRecDepth 100000
namespace Go.AW
theorem aUU:∀t:Tm,t.cv=true→t.aS vr=t:=by
 intro t
 induction t using Tm.ind with
 | h k n s ts ih=>
  intro h
  obtain⟨h1,h2⟩:=Tm.mO.1 h
  by_cases hk:k=1
  · obtain⟨rfl,rfl⟩:=h1 hk
    rw[Tm.oV vr hk,hk];try rfl
  · rw[Tm.mE vr hk]
    congr 1
    have:∀l:List Tm,(∀x∈l,x∈ts)→l.map (Tm.aS vr)=l:=by
     intro l
     induction l with
     | nil=>intro _;rfl
     | cons x l ihl=>intro hl;rw[bF,ih x (hl x (by simp)) (h2 x (hl x (by simp))),ihl fun y hy=>hl y (by simp [hy])]
    exact this ts fun _ h=>h
def yD(l:List Tm):List Tm:=l.map fun t=>t.aS fun v=>vr (gR v (cB l []) 0)
def tK:List ByteArray:=[⟨#[43]⟩,⟨#[45]⟩,⟨#[42]⟩,⟨#[47,47]⟩,⟨#[109,111,100]⟩]
def AB:List ByteArray:=[⟨#[60]⟩,⟨#[62]⟩,⟨#[61,60]⟩,⟨#[62,61]⟩,⟨#[61,58,61]⟩]
def kB(l:List ByteArray)(s:ByteArray):Bool:=l.any fun x=>decide (s=x)
def oY(n:Int):Int×Int:=if -999≤n∧n≤999 then(n,0) else(0,5)
def AH(a b:Int):Int:=if a.tmod b≠0∧decide (a.tmod b<0)≠decide (b<0) then a.tmod b+b else a.tmod b
def rV(s:ByteArray)(a b:Int):Int×Int:=
 if s=⟨#[43]⟩ then oY (a+b) else if s=⟨#[45]⟩ then oY (a - b) else if s=⟨#[42]⟩ then oY (a*b) else if b=0 then(0,4) else if s=⟨#[109,111,100]⟩ then(AH a b,0) else(a.tdiv b,0)
def both(f:Int→Int→Int×Int)(x y:Int×Int):Int×Int:=if x.2≠0 then(0,x.2) else if y.2≠0 then(0,y.2) else f x.1 y.1
def two(f:Int→Int→Int×Int):List (Int×Int)→Int×Int
 | [x,y]=>both f x y
 | _=>(0,3)
mutual
def Tm.ev:Tm→Int×Int
 | .mk k n s ts=>if k=2 then(n,0) else if k=1 then(0,2) else if kB tK s=true then two (rV s) (JK ts) else(0,3)
def JK:List Tm→List (Int×Int)
 | []=>[]
 | t::ts=>t.ev::JK ts
end
theorem aIP:∀ts:List Tm,JK ts=ts.map Tm.ev
 | []=>rfl
 | t::ts=>by simp only[JK,bF,aIP ts]
theorem Tm.MH(k n:Int)(s:ByteArray)(ts:List Tm):(Tm.mk k n s ts).ev=if k=2 then(n,0) else if k=1 then(0,2) else if kB tK s=true then two (rV s) (ts.map Tm.ev) else(0,3):=by simp only[Tm.ev,aIP]
theorem aIM(a b:Int)(hb:b≠0):(0<b→-b<a.tmod b∧a.tmod b<b)∧(b<0→b<a.tmod b∧a.tmod b< -b):=by
 have h1:=J7 (-a) (b:=b)
 have h2:=J7 a (b:=b)
 have h3:=J7 (-a) (b:= -b)
 have h4:=J7 a (b:= -b)
 rw[Int.tmod_neg] at h3 h4
 rw[Int.neg_tmod] at h1 h3
 constructor
 · intro h;exact⟨by have:=h1 h;omega,h2 h⟩
 · intro h;exact⟨by have:=h3 (by omega);omega,h4 (by omega)⟩
theorem tdiv_le(a b:Int)(ha: -999≤a∧a≤999): -999≤a.tdiv b∧a.tdiv b≤999:=by
 have:(a.tdiv b).natAbs≤a.natAbs:=by rw[Int.natAbs_tdiv];exact Nat.div_le_self _ _
 omega
theorem N0(n:Int): -999≤(oY n).1∧(oY n).1≤999:=by unfold oY;split<;>simp_all
theorem aSD(a b:Int)(ha: -999≤a∧a≤999)(hb: -999≤b∧b≤999)(h0:b≠0): -999≤AH a b∧AH a b≤999:=by
 have h1:=aIM a b h0
 unfold AH
 split
 · rename_i h
   have h2:=h.2
   by_cases hb':b<0
   · have:¬a.tmod b<0:=by intro hc;simp [hb',hc] at h2
     have:=h1.2 hb'
     omega
   · have:a.tmod b<0:=by
      apply F7;intro hc;simp [hb',hc] at h2
     have:=h1.1 (by omega)
     omega
 · rcases Int.lt_or_gt_of_ne h0 with h | h
   · have:=h1.2 h;omega
   · have:=h1.1 h;omega
def c8(N:Int)(t:Tm):Prop:=(t.aS fun _=>vr 0).kE=true∧t.cv=true∧∀v∈t.vl,0≤v∧v<N
theorem c8.mono{N M:Int}{t:Tm}(h:c8 N t)(hm:N≤M):c8 M t:=⟨h.1,h.2.1,fun v hv=>⟨(h.2.2 v hv).1,by have:=(h.2.2 v hv).2;omega⟩⟩
theorem c8.own{N k n:Int}{s:ByteArray}{ts:List Tm}(h:c8 N (.mk k n s ts))(hk:k≠1):iT k n s ts.length=true∧∀x∈ts,c8 N x:=by
 obtain⟨h1,h2,h3⟩:=h
 rw[Tm.mE _ hk] at h1
 obtain⟨h4,h5⟩:=Tm.II h1
 rw[aE] at h4
 exact⟨h4,fun x hx=>⟨h5 _ (cL.2 ⟨x,hx,rfl⟩),(Tm.mO.1 h2).2 x hx,fun v hv=>h3 v ((Tm.nB hk).2 ⟨x,hx,hv⟩)⟩⟩
theorem c8.var{N n:Int}{s:ByteArray}{ts:List Tm}(h:c8 N (.mk 1 n s ts)):0≤n∧n<N∧s=⟨#[]⟩∧ts= []:=by
 obtain⟨_,h2,h3⟩:=h
 obtain⟨h4,h5⟩:=(Tm.mO.1 h2).1 rfl
 obtain⟨h6,h7⟩:=h3 n (by rw[Tm.oB rfl];simp)
 exact⟨h6,h7,h4,h5⟩
theorem aVD(N:Int):∀t:Tm,t.k≠1→c8 N t→∀x∈t.ts,c8 N x:=fun t hk h x hx=>by
 cases t
 exact(h.own hk).2 x hx
theorem c8.kind{N k n:Int}{s:ByteArray}{ts:List Tm}(h:c8 N (.mk k n s ts)):(k=1∨k=2∨k=3)∧ts.length≤4:=by
 by_cases hk:k=1
 · subst hk
   rw[h.var.2.2.2]
   simp
 · have:=aVI (h.own hk).1
   omega
theorem aVH{n:Int}{s:ByteArray}{len:Int}(h:iT 2 n s len=true): -999≤n∧n≤999:=by
 simp [iT] at h
 omega
theorem c8.all{N k n:Int}{s:ByteArray}{ts:List Tm}(h:c8 N (.mk k n s ts)):(k=2→-999≤n∧n≤999)∧∀x∈ts,c8 N x:=by
 by_cases hk:k=1
 · subst hk
   rw[h.var.2.2.2]
   simp
 · obtain⟨h1,h2⟩:=h.own hk
   refine⟨fun h2=>?_,h2⟩
   subst h2
   exact aVH h1
theorem c8.small{N:Int}:∀ {t:Tm},c8 N t→t.small=true:=by
 intro t
 induction t using Tm.ind with
 | h k n s ts ih=>
  intro h
  have h4:=h.kind.2
  simp only[Tm.small,FR,bG,bK,dD]
  refine⟨by omega,fun x hx=>?_⟩
  by_cases hk:k=1
  · subst hk;rw[h.var.2.2.2] at hx;cases hx
  · exact ih x hx ((h.own hk).2 x hx)
theorem c8.aS{N M:Int}{f:Int→Tm}{t:Tm}(h:c8 N t)(hf:∀v∈t.vl,c8 M (f v)):c8 M (t.aS f):=by
 induction t using Tm.ind with
 | h k n s ts ih=>
  by_cases hk:k=1
  · rw[Tm.oV f hk];exact hf n (by rw[Tm.oB hk];simp)
  · obtain⟨h1,h2⟩:=h.own hk
    have key:∀x∈ts,c8 M (x.aS f):=fun x hx=>ih x hx (h2 x hx) fun v hv=>hf v ((Tm.nB hk).2 ⟨x,hx,hv⟩)
    rw[Tm.mE f hk]
    refine⟨?_,Tm.mO.2 ⟨fun h=>absurd h hk,fun y hy=>?_⟩,fun v hv=>?_⟩
    · rw[Tm.mE _ hk,Tm.x6,aE,aE,h1,dH,dD]
      intro y hy
      simp only[List.map_map,cL,Function.comp_apply] at hy
      obtain⟨x,hx,rfl⟩:=hy
      exact(key x hx).1
    · obtain⟨x,hx,rfl⟩:=cL.1 hy
      exact(key x hx).2.1
    · obtain⟨y,hy,hv⟩:=(Tm.nB hk).1 hv
      obtain⟨x,hx,rfl⟩:=cL.1 hy
      exact(key x hx).2.2 v hv
theorem IJ{N n:Int}(h0:0≤n)(h1:n<N):c8 N (vr n):=by
 refine⟨by rw[BF];exact aJL (EP.2 (by omega)),Tm.mO.2 ⟨fun _=>⟨rfl,rfl⟩,by simp⟩,fun v hv=>?_⟩
 rw[CK] at hv
 simp only[cT,dF,dS] at hv
 omega
theorem aF8{t:Tm}:t.kE=true↔c8 26 t:=by
 constructor
 · intro h
   refine⟨aUV t h fun v _=>aJL (EP.2 (by omega)),Tm.aU7 t h,fun v hv=>?_⟩
   have:=EP.1 (Tm.aU8 t h v hv)
   omega
 · induction t using Tm.ind with
   | h k n s ts ih=>
    intro h
    rw[Tm.x6]
    by_cases hk:k=1
    · subst hk
      obtain⟨h0,h1,rfl,rfl⟩:=h.var
      have h1':n≤25:=by omega
      simp [iT,h0,h1']
    · obtain⟨h1,h2⟩:=h.own hk
      rw[h1,dH,dD]
      exact fun x hx=>ih x hx (h2 x hx)
theorem Tm.FW{t:Tm}(h:t.valid=true):c8 26 t:=aF8.1 (Tm.aYR h)
theorem Good.x8{σ:Sub}{R:Int→Tm}{rk:Int→Nat}{B:Nat}(G:Good σ R rk B){N:Int}(ho:dC (c8 N) σ):∀n,0≤n→n<N→c8 N (R n):=by
 refine fun n=>G.ind (p:=fun n=>0≤n→n<N→c8 N (R n)) (fun n h h0 h1=>?_) (fun n u h ih h0 h1=>?_) n
 · rw[G.free h];exact IJ h0 h1
 · rw[G.bound h]
   exact(ho n u h).aS fun v hv=>ih v hv ((ho n u h).2.2 v hv).1 ((ho n u h).2.2 v hv).2
theorem Good.aVC{σ:Sub}{R:Int→Tm}{rk:Int→Nat}{B:Nat}(G:Good σ R rk B){N:Int}(ho:dC (c8 N) σ){t:Tm}(h:c8 N t):c8 N (t.aS R):=
 h.aS fun v hv=>G.x8 ho v (h.2.2 v hv).1 (h.2.2 v hv).2
def bS(N:Int)(t:Tm):Prop:=c8 N t∧t.nodes≤120
theorem vW(N:Int):∀t:Tm,t.k≠1→bS N t→∀x∈t.ts,bS N x:=fun t hk h x hx=>by
 refine⟨aVD N t hk h.1 x hx,?_⟩
 have h2:=h.2
 cases t
 rw[Tm.gT] at h2
 have:=E9 (f:=Tm.nodes) hx
 simp only[Tm.ts] at this
 omega
theorem bS.mono{N M:Int}{t:Tm}(h:bS N t)(hm:N≤M):bS M t:=⟨h.1.mono hm,h.2⟩
theorem dC.x8{N:Int}{σ:Sub}(h:dC (bS N) σ):dC (c8 N) σ:=fun n u e=>(h n u e).1
theorem dC.imp{p q:Tm→Prop}{σ:Sub}(h:dC p σ)(hpq:∀t,p t→q t):dC q σ:=fun n u e=>hpq u (h n u e)
open Classical in
noncomputable def nA(σ:Sub)(a b:Tm):Bool×Sub×List Int:=if h:∃x g,c7 g σ a b=some x then h.choose else(false,σ,[])
theorem aYN{g:Nat}{σ:Sub}{a b:Tm}{x:Bool×Sub×List Int}(h:c7 g σ a b=some x):nA σ a b=x:=by
 unfold nA
 have h':∃x g,c7 g σ a b=some x:=⟨x,g,h⟩
 rw[dif_pos h']
 obtain⟨g',h''⟩:=h'.choose_spec
 exact aYK h'' h
def VN(N:Nat):List Int:=(List.range N).map fun i:Nat=>(i:Int)
theorem uH{N:Nat}{n:Int}:n∈VN N↔0≤n∧n<N:=by
 simp only[VN,cL,wN]
 constructor
 · rintro⟨i,h,rfl⟩;omega
 · intro h;exact⟨n.toNat,by omega,by omega⟩
theorem aFU{N:Nat}{tr:List Int}(h:tr.Nodup)(hV:∀m∈tr,0≤m∧m<N):tr.length≤N:=by
 have:=aFV (V:=VN N) h fun x hx=>uH.2 (hV x hx)
 simpa [VN] using this
structure KI (N:Int) (σ:Sub) (a b:Tm) (r:Bool) (σ':Sub) (tr:List Int):Prop where
 run:∃g,c7 g σ a b=some (r,σ',tr)
 eq:nA σ a b=(r,σ',tr)
 wJ:nE σ [a] [b] r σ' tr
 ok:dC (bS N) σ'
 kB:∀m∈tr,0≤m∧m<N
theorem PI{N:Nat}{σ:Sub}{a b:Tm}(hg:dL σ)(ho:dC (bS N) σ)(ha:bS N a)(hb:bS N b):∃r σ' tr,KI N σ a b r σ' tr:=by
 have hin:∀ {t:Tm},bS N t→gH (VN N) t:=fun h v hv=>uH.2 (h.1.2.2 v hv)
 have hr:lN (VN N) σ:=fun n u e=>hin (ho n u e)
 obtain⟨g,⟨r,σ',tr⟩,h⟩:=aYM (VN N) _ _ σ a b hg hr (hin ha) (hin hb) (c6 _) (c6 _)
 obtain⟨h1,h2⟩:=(aI9 g).1 σ a b r σ' tr (VN N) hg h hr (hin ha) (hin hb)
 exact⟨r,σ',tr,⟨g,h⟩,aYN h,FV hg h,(aI8 (vW N) g).1 σ a b r σ' tr hg h ho ha hb,fun m hm=>uH.1 (h2 m hm)⟩
def Sub.out(σ:Sub)(l:List Int):Sub:=fun n=>if n∈l then Option.none else σ n
def hY(ρ:Int→Int)(t:Tm):Tm:=t.aS fun v=>vr (ρ v)
theorem N2(ρ:Int→Int){k n:Int}{s:ByteArray}{ts:List Tm}(h:k≠1):hY ρ (.mk k n s ts)=.mk k n s (ts.map (hY ρ)):=Tm.mE _ h
theorem IR(ρ:Int→Int){t:Tm}(h:t.k=1):hY ρ t=vr (ρ t.n):=Tm.BD _ h
theorem aWH(ρ:Int→Int){t:Tm}(h:t.k≠1):hY ρ t=.mk t.k t.n t.s (t.ts.map (hY ρ)):=Tm.sH _ h
theorem aWG(ρ:Int→Int)(t:Tm):(hY ρ t).k=t.k:=by
 by_cases h:t.k=1
 · rw[IR ρ h,h];try rfl
 · rw[aWH ρ h];try rfl
theorem aGQ(ρ:Int→Int){t:Tm}(hc:t.cv=true):(hY ρ t).nodes=t.nodes:=by
 induction t using Tm.ind with
 | h k n s ts ih=>
  obtain⟨h1,h2⟩:=Tm.mO.1 hc
  by_cases hk:k=1
  · obtain⟨_,rfl⟩:=h1 hk
    rw[IR ρ (t:=.mk k n s []) hk,vr,Tm.gT,Tm.gT]
  · rw[N2 ρ hk,Tm.gT,Tm.gT]
    congr 1
    have:∀l:List Tm,(∀x∈l,x∈ts)→bU Tm.nodes (l.map (hY ρ))=bU Tm.nodes l:=by
     intro l
     induction l with
     | nil=>intro _;rfl
     | cons x l ihl=>intro h;simp only[bF,bU];rw[ih x (h x (by simp)) (h2 x (h x (by simp))),ihl fun y hy=>h y (by simp [hy])]
    exact this ts fun _ h=>h
theorem aWF(ρ:Int→Int){t:Tm}(hc:t.cv=true):∀d,(hY ρ t).flat d=t.flat d:=by
 induction t using Tm.ind with
 | h k n s ts ih=>
  intro d
  obtain⟨h1,h2⟩:=Tm.mO.1 hc
  cases d with
  | zero=>rw[Tm.HO,Tm.HO]
  | succ d=>
   by_cases hk:k=1
   · obtain⟨_,rfl⟩:=h1 hk
     rw[IR ρ (t:=.mk k n s []) hk,vr,Tm.r7,Tm.r7]
   · rw[N2 ρ hk,Tm.r7,Tm.r7,List.all_map]
     rw[F0,dD,dD]
     constructor
     · intro h x hx;rw[←ih x hx (h2 x hx) d];exact h x hx
     · intro h x hx;simp only[Function.comp_apply];rw[ih x hx (h2 x hx) d];exact h x hx
theorem c8.hY{N M:Int}{ρ:Int→Int}{t:Tm}(h:c8 N t)(hr:∀v∈t.vl,0≤ρ v∧ρ v<M):c8 M (AW.hY ρ t):=h.aS fun v hv=>IJ (hr v hv).1 (hr v hv).2
theorem bS.hY{N M:Int}{ρ:Int→Int}{t:Tm}(h:bS N t)(hr:∀v∈t.vl,0≤ρ v∧ρ v<M):bS M (AW.hY ρ t):=⟨h.1.hY hr,by rw[aGQ ρ h.1.2.1];exact h.2⟩
structure Sim (ρ:Int→Int) (N:Int) (σ τ:Sub):Prop where
 inj:∀v w,0≤v→v<N→0≤w→w<N→ρ v=ρ w→v=w
 map:∀v,0≤v→v<N→τ (ρ v)=(σ v).map (hY ρ)
section
variable {ρ:Int→Int} {N:Int} {σ τ:Sub}
end
end Go.AW
namespace Go.AW
open Go.Proofs.Tryz
def iL(n:Int):Prop:= -999≤n∧n≤999
theorem aK1(s:ByteArray)(a b:Int)(ha:iL a)(hb:iL b):iL (rV s a b).1:=by
 unfold rV iL
 split
 · exact N0 _
 split
 · exact N0 _
 split
 · exact N0 _
 split
 · simp
 rename_i h0
 split
 · exact aSD a b ha hb h0
 · exact tdiv_le a b ha
theorem aL4{f:Int→Int→Int×Int}{x y:Int×Int}(h:iL (f x.1 y.1).1):iL (both f x y).1:=by
 unfold both iL
 split
 · simp
 split
 · simp
 · exact h
theorem Tm.AG{N:Int}:∀t:Tm,c8 N t→iL t.ev.1:=by
 intro t
 induction t using Tm.ind with
 | h k n s ts ih=>
  intro h
  obtain⟨h1,h2⟩:=h.all
  rw[Tm.MH]
  split
  · rename_i hk;exact h1 hk
  split
  · simp [iL]
  split
  · match ts,h2,ih with
    | [],_,_=>simp [two,iL]
    | [x],_,_=>simp [two,iL]
    | [x,y],h2,ih=>exact aL4 (aK1 _ _ _ (ih x (by simp) (h2 x (by simp))) (ih y (by simp) (h2 y (by simp))))
    | x::y::z::l,_,_=>simp [two,iL]
  · simp [iL]
theorem aI4{ts:List Tm}(h:(ts.length:Int)=2):∃x y,ts= [x,y]:=by
 match ts,h with
 | [x,y],_=>exact⟨x,y,rfl⟩
 | [],h=>simp at h
 | [x],h=>simp at h
 | x::y::z::l,h=>simp at h;omega
theorem LJ(n:Int)(st:aA):aD prog 277 [.int .i64 n] st (fun r st'=>r=.tup [.int .i64 (oY n).1,.int .i64 (oY n).2]∧st'=st):=by
 refine wF [1000000] 1 func277 ntmps277 rfl rfl ?_
 intro _
 simp only[aB,seval]
 refine c5 (fun h=>?_) (fun h=>?_)
 · simp only[h,aB,seval]
   have h1:¬n< -999:=by simpa using h
   refine bE (fun h2=>?_) (fun h2=>?_)
   · simp only[aB,seval]
     have h2':999<n:=by simpa using h2
     unfold oY
     rw[aH (by omega)]
   · simp only[aB,seval]
     have h2':¬ 999<n:=by simpa using h2
     unfold oY
     rw[aN (by omega)]
 · simp only[h,aB,seval]
   have h1:n< -999:=by simpa using h
   unfold oY
   rw[aH (by omega)]
abbrev aXN:=zi aX cD
theorem aN4(a b:Int)(ha:iL a)(hb:iL b)(h0:b≠0)(st:aA):aD prog 278 [.int .i64 a,.int .i64 b] st (fun r st'=>r=.int .i64 (AH a b)∧st'=st):=by
 have hl:=aIM a b h0
 unfold iL at ha hb
 have hw:=bH (n:=a.tmod b+b)
 refine wF [1000000] 2 func278 ntmps278 rfl rfl ?_
 intro _
 simp only[h0,aB,seval]
 have hf:AH a b=if a.tmod b≠0∧decide (a.tmod b<0)≠decide (b<0) then a.tmod b+b else a.tmod b:=rfl
 rw[hf]
 clear hf
 generalize hm:a.tmod b=m at *
 refine c5 (fun h=>?_) (fun h=>?_)
 · have h':m≠0:=by simpa using h
   simp only[h,aB,seval,aXN]
   refine bE (fun h2=>?_) (fun h2=>?_)
   · simp only[hw,aB,seval]
     rw[aN ⟨h',by simpa using h2⟩]
   · simp only[aB,seval]
     rw[aH (by intro h3;exact h3.2 (by simpa using h2))]
 · have h':m=0:=by simpa using h
   simp only[h,aB,seval]
   rw[aH (by intro h3;exact h3.1 h')]
theorem aN2(a b:Int)(ha:iL a)(hb:iL b)(h0:b≠0)(st:aA):aD prog 279 [.int .i64 a,.int .i64 b] st (fun r st'=>r=.int .i64 (a.tdiv b)∧st'=st):=by
 have hl:=tdiv_le a b ha
 have hw:=bH (n:=a.tdiv b)
 refine wF [1000000] 2 func279 ntmps279 rfl rfl ?_
 intro _
 simp only[h0,hw,aB,seval]
abbrev a0Q:=zi aX cG
theorem R7(s:ByteArray)(a b:Int)(hx:iL a)(hy:iL b)(st:aA):aD prog 275 [.str s,.int .i64 a,.int .i64 b] st (fun r st'=>r=.tup [.int .i64 (rV s a b).1,.int .i64 (rV s a b).2]∧st'=st):=by
 have hMod:=fun h0=>aN4 a b hx hy h0
 have hDiv:=fun h0=>aN2 a b hx hy h0
 unfold iL at hx hy
 have hmul: -998001≤a*b∧a*b≤998001:=by
  have h6:(a*b).natAbs≤998001:=by
   rw[Int.natAbs_mul]
   have:=Nat.mul_le_mul (show a.natAbs≤999 by omega) (show b.natAbs≤999 by omega)
   omega
  omega
 have hw1:=bH (n:=a+b)
 have hw2:=bH (n:=a - b)
 have hw3:=bH (n:=a*b)
 unfold rV
 refine wF [1000000] 3 func275 ntmps275 rfl rfl ?_
 intro _
 simp only[aB,seval]
 refine bE (fun h6=>?_) (fun h6=>?_)
 · simp only[hw1,aB,seval]
   rw[aN (by simpa using h6)]
   refine(LJ _ _).to ?_
   simp only[aB,seval]
 rw[aH (by simpa using h6)]
 simp only[aB,seval]
 refine bE (fun h7=>?_) (fun h7=>?_)
 · simp only[hw2,aB,seval]
   rw[aN (by simpa using h7)]
   refine(LJ _ _).to ?_
   simp only[aB,seval]
 rw[aH (by simpa using h7)]
 simp only[aB,seval]
 refine bE (fun h9=>?_) (fun h9=>?_)
 · simp only[hw3,aB,seval]
   rw[aN (by simpa using h9)]
   refine(LJ _ _).to ?_
   simp only[aB,seval]
 rw[aH (by simpa using h9)]
 simp only[aB,seval]
 refine bE (fun h0=>?_) (fun h0=>?_)
 · simp only[aB,seval]
   rw[aN (by simpa using h0)]
 have h0':b≠0:=by simpa using h0
 rw[aH h0']
 simp only[aB,seval]
 refine bE (fun h10=>?_) (fun h10=>?_)
 · simp only[aB,seval]
   rw[aN (by simpa using h10)]
   refine(hMod h0' _).to ?_
   simp only[aB,seval]
 · simp only[aB,seval]
   rw[aH (by simpa using h10)]
   refine(hDiv h0' _).to ?_
   simp only[aB,seval]
theorem GV(s:ByteArray):kB tK s=decide (dB s=1∨dB s=2):=by
 unfold kB tK dB
 simp only[List.any_cons,List.any_nil,CP]
 by_cases h1:s=⟨#[43]⟩
 · subst h1;decide
 by_cases h2:s=⟨#[45]⟩
 · subst h2;decide
 by_cases h3:s=⟨#[42]⟩
 · subst h3;decide
 by_cases h4:s=⟨#[47,47]⟩
 · subst h4;decide
 by_cases h5:s=⟨#[109,111,100]⟩
 · subst h5;decide
 simp only[h1,h2,h3,h4,h5,a8,CP,cond_false]
 cases (decide (s=⟨#[61]⟩)||decide (s=⟨#[92,61]⟩)||decide (s=⟨#[61,61]⟩)||decide (s=⟨#[60]⟩)||decide (s=⟨#[62]⟩)||decide (s=⟨#[61,60]⟩)||decide (s=⟨#[62,61]⟩)||decide (s=⟨#[61,58,61]⟩)||decide (s=⟨#[105,115]⟩))<;>rfl
abbrev pX:=zi aX (zi cG (zi cI cK))
theorem G3{N:Int}:∀(t:Tm) (st:aA),c8 N t→aD prog 269 [t.av] st (fun r st'=>r=.tup [.int .i64 t.ev.1,.int .i64 t.ev.2]∧st'=st)
 | .mk k n s ts,st,hok=>by
  obtain⟨h1,h2⟩:=hok.all
  have IH:=fun(x:Tm) (hx:x∈ts) st=>G3 x st (h2 x hx)
  rw[Tm.MH]
  simp only[bY]
  refine wF [1000000] 1 func269 ntmps269 rfl rfl ?_
  intro _
  simp only[aB,seval,pX]
  refine bE (fun hk1=>?_) (fun hk1=>?_)
  · simp only[aB,seval]
    simp only[bK] at hk1
    rw[aH (by omega),aN hk1]
  simp only[d5] at hk1
  rw[aH hk1]
  simp only[aB,seval]
  refine bE (fun hk=>?_) (fun hk=>?_)
  · simp only[aB,seval,pX]
    simp only[bK] at hk
    simp [hk]
  simp only[d5] at hk
  rw[aH hk]
  simp only[aB,seval,pX]
  refine(tO s _).to ?_
  simp only[aE,aB,seval,pX]
  have hty:∀s0:aA,ts.length≠2∨kB tK s=false→(if kB tK s=true then two (rV s) (ts.map Tm.ev) else(0,3))=((0:Int),(3:Int)):=fun _ h=>by
   split
   · rename_i h3
     rcases h with h | h
     · match ts,h with
       | [],_=>rfl
       | [x],_=>rfl
       | [x,y],h=>simp at h
       | x::y::z::l,_=>rfl
     · rw[h] at h3;cases h3
   · rfl
  refine c5 (fun h=>?_) (fun h=>?_)
  case refine_2=>
   simp only[h,aB,seval]
   rw[hty st (.inl (by simp at h;omega))]
  simp only[h,aB,seval]
  have aEV:kB tK s=false→dB s≠1∧dB s≠2:=fun h=>by
   rw[GV] at h
   have:=of_decide_eq_false h
   omega
  refine c5 (fun h3=>?_) (fun h3=>?_)
  · simp only[h3,aB,seval]
    have h3':dB s≠1:=by simp at h3;omega
    refine bE (fun h6=>?_) (fun h6=>?_)
    · have h6':dB s≠2:=by simp at h6;omega
      simp only[aB,seval]
      rw[hty st (.inr (by rw[GV];simp [h3',h6']))]
    · have h6':dB s=2:=by simp at h6;omega
      have hin:kB tK s=true:=by rw[GV];simp [h6']
      simp only[aB,seval,pX]
      rw[aN hin]
      clear hty aEV
      obtain⟨x,y,rfl⟩:=aI4 (by simpa using h)
      have g9:dP prog 25 (.slice [x.av,y.av]) (.int .i64 0)=some (.pptr x.av):=bR (av:=Tm.av) (l:=[x,y]) (i:=0) cF rfl (aQ x)
      have lE:dP prog 25 (.slice [x.av,y.av]) (.int .i64 1)=some (.pptr y.av):=bR (av:=Tm.av) (l:=[x,y]) (i:=1) cF rfl (aQ y)
      have hx:=Tm.AG x (h2 x (by simp))
      have hy:=Tm.AG y (h2 y (by simp))
      have IHx:=fun st=>IH x (by simp) st
      have IHy:=fun st=>IH y (by simp) st
      simp only[bF,bD,two,both]
      simp only[g9,bM,aQ,aB,↓a9,seval,pX]
      refine(IHx _).to ?_
      generalize x.ev.1=a at *
      generalize x.ev.2=ca at *
      generalize y.ev.1=b at *
      generalize y.ev.2=cb at *
      simp only[aB,seval]
      refine bE (fun h4=>?_) (fun h4=>?_)
      · simp only[aB,seval]
        have h4':ca≠0:=by simpa using h4
        rw[aN h4']
      have h4':ca=0:=by simpa using h4
      subst h4'
      rw[aH (by simp)]
      simp only[lE,bM,aQ,aB,seval,pX]
      refine(IHy _).to ?_
      simp only[aB,seval]
      refine bE (fun h5=>?_) (fun h5=>?_)
      · simp only[aB,seval]
        have h5':cb≠0:=by simpa using h5
        rw[aN h5']
      have h5':cb=0:=by simpa using h5
      subst h5'
      rw[aH (by simp)]
      simp only[aB,seval,pX]
      refine(R7 s a b hx hy _).to ?_
      simp only[aB,seval]
  · have h3':dB s=1:=by simp at h3;omega
    have hin:kB tK s=true:=by rw[GV];simp [h3']
    simp only[h3,aB,seval,pX]
    rw[aN hin]
    clear hty aEV
    obtain⟨x,y,rfl⟩:=aI4 (by simpa using h)
    have g9:dP prog 25 (.slice [x.av,y.av]) (.int .i64 0)=some (.pptr x.av):=bR (av:=Tm.av) (l:=[x,y]) (i:=0) cF rfl (aQ x)
    have lE:dP prog 25 (.slice [x.av,y.av]) (.int .i64 1)=some (.pptr y.av):=bR (av:=Tm.av) (l:=[x,y]) (i:=1) cF rfl (aQ y)
    have hx:=Tm.AG x (h2 x (by simp))
    have hy:=Tm.AG y (h2 y (by simp))
    have IHx:=fun st=>IH x (by simp) st
    have IHy:=fun st=>IH y (by simp) st
    simp only[bF,bD,two,both]
    simp only[g9,bM,aQ,aB,↓a9,seval,pX]
    refine(IHx _).to ?_
    generalize x.ev.1=a at *
    generalize x.ev.2=ca at *
    generalize y.ev.1=b at *
    generalize y.ev.2=cb at *
    simp only[aB,seval]
    refine bE (fun h4=>?_) (fun h4=>?_)
    · simp only[aB,seval]
      have h4':ca≠0:=by simpa using h4
      rw[aN h4']
    have h4':ca=0:=by simpa using h4
    subst h4'
    rw[aH (by simp)]
    simp only[lE,bM,aQ,aB,seval,pX]
    refine(IHy _).to ?_
    simp only[aB,seval]
    refine bE (fun h5=>?_) (fun h5=>?_)
    · simp only[aB,seval]
      have h5':cb≠0:=by simpa using h5
      rw[aN h5']
    have h5':cb=0:=by simpa using h5
    subst h5'
    rw[aH (by simp)]
    simp only[aB,seval,pX]
    refine(R7 s a b hx hy _).to ?_
    simp only[aB,seval]
termination_by t=>SizeOf.sizeOf t
decreasing_by have:=List.sizeOf_lt_of_mem hx;simp only[Tm.mk.sizeOf_spec];omega
theorem QT{A C B:List AV}{n:Nat}(hA:A.length=n)(hC:C.length=4) :
 (n+4≤(A++C++B).length)∧List.take 4 (List.drop n (A++C++B))=C∧(A++C++B)[n+0]?=C[0]?:=by
 refine⟨by simp only[cX];omega,?_,(aUX (A:=A) (B:=B) hA).2.2.1 C 0 (by omega)⟩
 rw[←hA,qE,List.drop_left,←hC,List.take_left]
end Go.AW
namespace Go.AW
def sD(n:Int):Tm:=.mk 2 n ⟨#[]⟩ []
theorem aT6{n:Int}(h:iL n):(sD n).valid=true:=by
 have ho:(sD n).kE=true:=by
  unfold sD
  rw[Tm.x6]
  simp [iT,h.1,h.2]
 rw[Tm.aJD ho]
 simp [sD,Tm.gT,bU,Tm.r7]
def lB(b:Bool):Int:=if b=true then 0 else 1
def LW(s:ByteArray)(a b:Int):Bool:=
 if s=⟨#[60]⟩ then decide (a<b) else if s=⟨#[62]⟩ then decide (b<a) else if s=⟨#[61,60]⟩ then decide (a≤b) else if s=⟨#[62,61]⟩ then decide (b≤a) else decide (a=b)
def I2(s:ByteArray)(x:Tm):Bool:=
 if s=⟨#[118,97,114]⟩ then decide (x.k=1) else if s=⟨#[110,111,110,118,97,114]⟩ then !decide (x.k=1) else if s=⟨#[97,116,111,109]⟩ then decide (x.k=3)&&decide ((x.ts.length:Int)=0) else decide (x.k=2)
def HD(s:ByteArray)(x y:Tm):Int:=(both (fun a b=>(0,lB (LW s a b))) x.ev y.ev).2
def rW(x y:Tm):Option Tm:=if 1≤x.n∧x.n≤y.ts.length then y.ts[(x.n - 1).toNat]? else none
theorem QQ{x y u:Tm}(h:rW x y=some u):u∈y.ts:=by
 unfold rW at h
 split at h
 · exact cQ h
 · cases h
theorem aL0{s:ByteArray}{n:Nat}(h:isBuiltin s (n:Int)=true) :
 (n=2∧(kB AB s=true∨s=⟨#[61]⟩∨s=⟨#[92,61]⟩∨s=⟨#[61,61]⟩∨s=⟨#[105,115]⟩))∨(n=0∧(s=⟨#[116,114,117,101]⟩∨s=⟨#[102,97,105,108]⟩)) ∨
 (n=1∧(s=⟨#[118,97,114]⟩∨s=⟨#[110,111,110,118,97,114]⟩∨s=⟨#[97,116,111,109]⟩∨s=⟨#[105,110,116]⟩))∨(n=3∧s=⟨#[97,114,103]⟩):=by
 unfold isBuiltin at h
 simp only[cond_eq_ite] at h
 split at h
 · rename_i h1
   left
   refine⟨by simp at h;omega,?_⟩
   simp only[kV,bK] at h1
   simp only[kB,AB,List.any_cons,List.any_nil,kV,bK,iA,dS]
   rcases h1 with (((((((h1 | h1) | h1) | h1) | h1) | h1) | h1) | h1) | h1<;>simp [h1]
 split at h
 · rename_i h1
   right;left
   refine⟨by simp at h;omega,?_⟩
   simpa using h1
 split at h
 · rename_i h1
   right;right;left
   refine⟨by simp at h;omega,?_⟩
   simp only[kV,bK] at h1
   rcases h1 with ((h1 | h1) | h1) | h1<;>simp [h1]
 split at h
 · rename_i h1
   right;right;right
   exact⟨by simp at h;omega,by simpa using h1⟩
 · cases h

end Go.AW
namespace Go.AW
open Go.Proofs.Tryz




end Go.AW
namespace Go.AW
theorem zX{P:Program}{N:Nat}{x y:Code}{Q:Exit→AF→aA→Prop}{φ:AF}{st:aA}(e:d8 P N x (CA (d8 P N y Q) Q) φ st):d8 P N (.seq x y) Q φ st:=fun a w R=>by
 refine wp_seq (wp_mono (e a w R) ?_)
 rintro ex a' w' ⟨φ',st',R',T,s,q⟩
 cases ex with
 | normal=>exact wp_mono (q a' w' R') fun _ _ _ h=>h.mono T s
 | _=>exact⟨φ',st',R',T,s,q⟩
theorem QF{P:Program}{g:FuncId}{fn:Func}{c:Code}{args:List AV}{st:aA}{N:Nat}{rs:List ResultVar}{K:AV→aA→Prop}(hf:P.funcs[g]?=some fn)(hN:fn.ntmps=N)(hr:fn.results=rs.toArray)(hb:fn.body=some c)(hn:(fn.name == "runtime.NumGoroutine")=false)
 (oR:args.length≤N) (e:eF args→d8 P N c (BS P rs.toArray K) (pI 0 args) st):aD P g args st K:=by
 subst hN
 rw[←hr] at e
 refine⟨⟨fn,hf,by simp [hb],hn⟩,fun w vs S V=>?_⟩
 have e:=e V.fits
 have hl:=V.length
 have R:Rel fn.ntmps { tmps:=vs.toArray++Array.replicate (fn.ntmps - vs.toArray.size) undef,defers:=[] } w (pI 0 args) st:=by
  refine⟨by simp;omega,rfl,KW args vs 0 V fun j v hj=>?_,S⟩
  obtain⟨hjl,hjv⟩:=gJ.1 hj
  simp [Array.getElem?_append,hjl,hjv]
 refine calls_of_wp hf hb (wp_mono (e _ w R) ?_)
 rintro ex a' w' ⟨φ',st',R',T,s,q⟩
 have fin:(match mL P φ' st' fn.results.toList with | some xs=>CD K st' xs | none=>False)→a'.defers= []∧∃v,(results fn a'.tmps).run P w'=.ok v w' ∧
  (∃v2 r st2,(Ending.returned v)=.returned v2∧aL w'.heap st2 r v2∧bZ w'.heap st2∧bL w.heap st w'.heap st2∧dY w w'∧K r st2):=by
  intro q
  split at q
  · rename_i xs hx
    obtain⟨v,r,r1,r2,r3⟩:=aGR R'.frame R'.store hx q
    exact⟨R'.defers,v,r1,v,r,st',rfl,r2,R'.store,T,s,r3⟩
  · cases q
 cases ex with
 | normal=>exact fin q
 | ret=>exact fin q
 | _=>exact q.elim
theorem aL.aW3{h:aZ}{st:aA}{es:List AV}{v:Value}(y:aL h st (.slice es) v):∃a n c,v=.slice a n c∧(es≠[]→a.isNone=false):=by
 obtain⟨y0,y1⟩:=y
 have hv:v.cells.toList= [v]:=by cases v<;>first | rfl | (simp [AV.isAgg,iW] at y0)
 unfold VC at y1
 rw[hv] at y1
 rcases y1 with ⟨⟨p,e⟩,rfl⟩ | ⟨b,off,cap,e,_⟩
 · exact⟨p,0,0,by simpa using e,fun h=>absurd rfl h⟩
 · exact⟨_,_,_,by simpa using e,fun _=>rfl⟩
theorem QU{P:Program}{N:Nat}{id i d d':Nat}{t e ty ty' tx:TypeId}{pos pos':String}{aft pG:Array Edge}{es:List AV}{Q:Exit→AF→aA→Prop}{φ:AF}{st:aA}(ht:P.underlying t=some (.slice e))
 (hd:d<N) (hd':d'<N) (hx:φ i=.slice es) (k:∀c:Bool,(es≠[]→c=false)→Q .normal ((φ.aC d (.slice es)).aC d' (.bool c)) st) :
 d8 P N (.region id #[⟨some d,.move (.tmp i),ty,pos,aft,none⟩,⟨some d',.binOp .eql t (.tmp d) (.const (.slice none 0 0)) tx,ty',pos',pG,none⟩] false) Q φ st:=fun a w R=>by
 refine wp_region_list ?_
 have hN:∀(j q:Nat),((#[⟨some d,.move (.tmp i),ty,pos,aft,none⟩,⟨some d',.binOp .eql t (.tmp d) (.const (.slice none 0 0)) tx,ty',pos',pG,none⟩]:Array Oper)[j]?).bind (·.dst)=some q→q<N:=by
  intro j q e
  match j with
  | 0=>simp at e;subst e;exact hd
  | 1=>simp at e;subst e;exact hd'
  | j+2=>simp at e
 refine pE (mt:=[]) (K:=fun φ' st'=>φ'=φ.aC d (.slice es)∧st'=st) hN (by simp [mP,hd]) R (by
  show φ.put (some d) (φ i)=_∧_
  rw[hx]
  exact⟨rfl,rfl⟩) ?_
 rintro a1 w1 _ _ R1 T1 s1 ⟨rfl,rfl⟩
 have y:=R1.frame d
 rw[AF.aK] at y
 obtain⟨p,n,c,hv,hp⟩:=y.aW3
 have hv':a1.eval (.tmp d)=.slice p n c:=hv
 unfold wpList
 rw[aN (by rfl)]
 refine .inl ?_
 have lS:(execOp a1.eval ⟨some d',.binOp .eql t (.tmp d) (.const (.slice none 0 0)) tx,ty',pos',pG,none⟩).run P w1=.ok (.value (.bool p.isNone)) w1:=by
  simp only[execOp,hv']
  rw[show a1.eval (.const (.slice none 0 0))=.slice none 0 0 from rfl]
  simp [eqGuard_at_slice,Lib.run_eql_slice_nil w1 t e p n c 0 0 ht]
 simp only[Oper.wp,lS,Oper.upon]
 unfold wpList
 exact⟨_,_,R1.put (o:=⟨some d',.binOp .eql t (.tmp d) (.const (.slice none 0 0)) tx,ty',pos',pG,none⟩) (by simp [mP,hd']) (bL.refl _ _) R1.store aL.i9,T1,s1,k _ hp⟩
def cP:AV→List Nat
 | .mslice b _ _ _=>[b]
 | _=>[]
def dK(st:aA)(w:Nat)(q:AV)(l:List AV):Prop:=
 (q=.fslice []∧l= [])∨∃b cs,q=.mslice b 0 l.length w∧st b=Option.some (.cells cs)∧cs.take (l.length*w)=l.flatMap AV.cells∧l.length*w≤cs.length
theorem dK.shape{st:aA}{w:Nat}{q:AV}{l:List AV}(h:dK st w q l):q.isAgg=false∧q.width=1∧q.bO=false∧q.cells= [q]∧q.storable=true:=by
 rcases h with ⟨rfl,_⟩ | ⟨b',cs,rfl,_⟩<;>exact⟨rfl,rfl,rfl,rfl,rfl⟩
theorem dK.bJ{st st':aA}{w:Nat}{q:AV}{l:List AV}(h:dK st w q l)(hk:∀b∈cP q,st' b=st b):dK st' w q l:=by
 rcases h with h | ⟨b,cs,rfl,hb,h2⟩
 · exact .inl h
 · exact .inr ⟨b,cs,rfl,by rw[hk b (by simp [cP])];exact hb,h2⟩
theorem dK.some{st:aA}{w:Nat}{q:AV}{l:List AV}(h:dK st w q l):∀b∈cP q,∃cs,st b=Option.some (.cells cs):=by
 intro b hb
 rcases h with ⟨rfl,_⟩ | ⟨b',cs,rfl,hb',_⟩
 · simp [cP] at hb
 · simp only[cP,cT,dF,dS] at hb;subst hb;exact⟨cs,hb'⟩
theorem dK.len{P:Program}{t e:TypeId}{st:aA}{w:Nat}{q:AV}{l:List AV}(h:dK st w q l)(hu:P.underlying t=Option.some (.slice e)):oH P t q=Option.some (.int .i64 (l.length:Int)):=by
 rcases h with ⟨rfl,rfl⟩ | ⟨b,cs,rfl,_⟩<;>simp only[oH,hu,aW]
theorem dK.pH{P:Program}{t:TypeId}{ag:Bool}{bytes w:Nat}{zs:List AV}{st:aA}{q:AV}{l xs:List AV}{x:AV}{K:AV→aA→Prop}(hI:eI P t=Option.some (ag,w))(hB:eB P t=Option.some bytes)(hZ:eZ P t=Option.some zs)(hz:zs.length=w)(hb8:bytes≤4096)
 (h:dK st w q l) (hxe:DE x=Option.some xs) (fF:tJ w xs) (hl:l.length+xs.length≤1073741825)
 (hK:∀q' st',dK st' w q' (l++xs)→(∀y,y∉cP q→y∉cP q'→st' y=st y)→(∀y∈cP q',y∈cP q∨st y=none)→K q' st'):i8 P t st q x K:=by
 have MX:(l.length+xs.length)*bytes≤140737488355328:=by
  have:=Nat.mul_le_mul hl hb8
  omega
 have hxc:(xs.flatMap AV.cells).length=xs.length*w:=lQ fun e he=>(fF e he).1
 unfold i8
 simp only[hI,hB,hZ,hxe]
 refine⟨hz,fF,?_⟩
 rcases h with ⟨rfl,rfl⟩ | ⟨b,cs,rfl,hb,hcs,hcl⟩
 · simp only[aW,jK] at MX hl ⊢
   refine⟨MX,by omega,by simp,fun h=>?_,fun _ b hb=>?_⟩
   · subst h
     exact hK _ _ (.inl ⟨rfl,rfl⟩) (fun _ _ _=>rfl) (fun y hy=>.inl hy)
   refine hK _ _ (.inr ⟨b,xs.flatMap AV.cells,rfl,by rw[aA.aK];simp,?_,?_⟩) (fun y _ hy=>?_) (fun y hy=>?_)
   · rw[dI,←hxc,dR]
   · rw[dI,hxc];exact c6 _
   · simp only[cP,cT,dF,dS] at hy
     rw[aA.aO _ _ hy]
   · simp only[cP,cT,dF,dS] at hy
     subst hy;exact .inr hb
 · simp only[hb]
   have vM:cs.take (l.length*w)++xs.flatMap AV.cells=(l++xs).flatMap AV.cells:=by rw[hcs,wM]
   have hlen:((l++xs).flatMap AV.cells).length=(l++xs).length*w:=by
    rw[←vM,cX,dE,oE hcl,hxc,cX,u7]
   refine⟨trivial,MX,by omega,hcl,?_,fun b' hb'=>?_⟩
   · rw[vM]
     refine hK _ _ (.inr ⟨b,_,by simp,aA.aK _ _ _,by rw[qG (by rw[hlen];exact c6 _)],by rw[hlen];exact c6 _⟩) (fun y hy _=>?_) (fun y hy=>.inl hy)
     simp only[cP,cT,dF,dS] at hy
     rw[aA.aO _ _ hy]
   · rw[vM]
     refine hK _ _ (.inr ⟨b',_,by simp,aA.aK _ _ _,by rw[qG (by rw[hlen];exact c6 _)],by rw[hlen];exact c6 _⟩) (fun y hy hy'=>?_) (fun y hy=>?_)
     · simp only[cP,cT,dF,dS] at hy hy'
       rw[aA.aO _ _ hy']
       simp [aA.erase,hy]
     · simp only[cP,cT,dF,dS] at hy
       subst hy;exact .inr hb'
theorem dK.append{P:Program}{t:TypeId}{ag:Bool}{bytes w:Nat}{zs:List AV}{st:aA}{q:AV}{l:List AV}{x:AV}{K:AV→aA→Prop}(hI:eI P t=Option.some (ag,w))(hB:eB P t=Option.some bytes)(hZ:eZ P t=Option.some zs)(hz:zs.length=w)(hb8:bytes≤4096)
 (h:dK st w q l) (hx:x.width=w) (hxs:x.cells.all AV.storable=true) (hl:l.length≤1073741824)
 (hK:∀q' st',dK st' w q' (l++ [x])→(∀y,y∉cP q→y∉cP q'→st' y=st y)→(∀y∈cP q',y∈cP q∨st y=none)→K q' st'):i8 P t st q (.fslice [x]) K:=
 dK.pH hI hB hZ hz hb8 h rfl (gZ hx hxs) (by simpa using hl) hK
theorem aWX{h:aZ}{st:aA}{b:Nat}{cs cs':List AV}(hb:st b=some (.cells cs)):bL h st h (st.aC b (.cells cs')):=
 ⟨c6 _,fun y _ e=>⟨rfl,by
  have hne:y≠b:=by rintro rfl;rw[hb] at e;cases e
  rw[aA.aO _ _ hne];exact e⟩,fun _ c _ _ e=>⟨c,e,rfl⟩⟩
theorem LQ{h:aZ}{b:Nat}:∀ {vs:List Value} {off:Nat} (k:Nat),dV h b off vs→dV h b off (vs.take k)
 | _,_,0,_=>by simp [dV]
 | [],_,k+1,_=>by simp [dV]
 | v::vs,off,k+1,x=>⟨x.1,LQ k x.2⟩
theorem aWW{h:aZ}{st:aA}{b:Nat}{cs:List AV}(k:Nat)(hb:st b=some (.cells cs))(S:bZ h st):bZ h (st.aC b (.cells (cs.take k))):=fun y o e=>by
 have T:=aWX (h:=h) (cs':=cs.take k) hb
 by_cases hy:y=b
 · subst hy
   rw[aA.aK] at e
   cases e
   obtain⟨h1,c,t,e1,e2,vs,e3,e4⟩:=S y _ hb
   exact⟨h1,c,t,e1,lL (by rw[dE];omega) e2,vs.take k,LQ k e3,aR.mono T _ _ (e4.take k)⟩
 · rw[aA.aO _ _ hy] at e
   obtain⟨h1,h2⟩:=S y o e
   exact⟨h1,kI.mono T rfl h2⟩
theorem dK.seen{h:aZ}{st s2:aA}{w:Nat}{q:AV}{l:List AV}{c:Value}(S:bZ h st)(D:aJ st s2)(hA:dK st w q l)(hs2:∀b∈cP q,s2 b=none)(hj:∀e∈l,e.bO=false)(hw:∀e∈l,e.width=w)(x:VC h st q [c]):VC h s2 (.slice l) [c]:=by
 rcases hA with ⟨rfl,rfl⟩ | ⟨b,cs,rfl,hb,hcs,hcl⟩
 · unfold VC at x ⊢
   rcases x with x | ⟨b,off,e,l1,_⟩
   · exact .inl x
   · exact .inl ⟨⟨_,by simpa using e⟩,rfl⟩
 · have S1:=aWW (l.length*w) hb S
   rw[hcs] at S1
   obtain⟨f1,f2⟩:=frozen S1 (aA.aK _ _ _) hj
   have hs:s2 b=none:=hs2 b (by simp [cP])
   have D2:aJ ((st.aC b (.cells (l.flatMap AV.cells))).erase b) s2:=fun x=>by
    unfold aA.erase
    by_cases hx:x=b
    · subst hx;rw[aN rfl];exact⟨fun _=>hs,fun o e=>by rw[hs] at e;cases e⟩
    · rw[aH hx,aA.aO _ _ hx];exact D x
   have hE:=cM.mono (D2.step h) b rfl _ _ f2
   unfold VC at x
   obtain⟨cap,hv,l1,l2,_⟩:=x
   unfold VC
   exact .inr ⟨b,0,cap,hv,l1,l2,hs,f1,⟨w,hw⟩,hE⟩
theorem aG9{P:Program}{φ:AF}{t:TypeId}{ag:Bool}{w d b n k:Nat}(hI:eI P t=Option.some (ag,w))(h:φ d=.int .i64 (k:Int))(hk:k≤n):fJ P φ t (.mslice b 0 n w) none (some (.tmp d)) none=some (.mslice b 0 k w):=by
 have h1:cU φ (some (.tmp d)) n n=some k:=by
  unfold cU
  simp only[show φ.eval (.tmp d)=φ d from rfl,h]
  rw[aN (by omega)]
  simp
 have h2:cU φ none 0 k=some 0:=rfl
 unfold fJ l5
 rw[aH (by simp [nO])]
 simp only[hI,h1,h2]
 simp
theorem aG7{P:Program}{φ:AF}{t:TypeId}{ag:Bool}{w d:Nat}(hI:eI P t=Option.some (ag,w))(h:φ d=.int .i64 0):fJ P φ t (.fslice []) none (some (.tmp d)) none=some (.fslice []):=by
 have h1:cU φ (some (.tmp d)) 0 0=some 0:=by
  unfold cU
  simp only[show φ.eval (.tmp d)=φ d from rfl,h]
  simp
 have h2:cU φ none 0 0=some 0:=rfl
 unfold fJ
 rw[aN ⟨rfl,rfl⟩]
 simp only[hI,h1,h2]
end Go.AW
namespace Go.AW
open Go.Proofs.Tryz

theorem I0{α:Type}(f:α→Nat):∀l m:List α,bU f (l++m)=bU f l+bU f m
 | [],m=>by simp [bU]
 | x::l,m=>by simp only[gO,bU,I0 f l m];omega
abbrev Cv (t:Tm):Prop:=t.cv=true
theorem aSP{σ:Sub}{R:Int→Tm}{rk:Int→Nat}{B f:Nat}(G:Good σ R rk B){t:Tm}{k n:Int}{s:ByteArray}{ts:List Tm}(hw:fH σ f t (.mk k n s ts))(hc:Cv (.mk k n s ts)):t.aS R=.mk k n s (ts.map (Tm.aS R)):=by
 rw[←hw.aS G.vR]
 by_cases hk:k=1
 · rw[Tm.oV R hk,G.free (show σ n=none from hw.end hk)]
   obtain⟨h1,_⟩:=Tm.mO.1 hc
   obtain⟨rfl,rfl⟩:=h1 hk
   rw[hk];try rfl
 · rw[Tm.mE R hk]

abbrev OR:=zi aX (zi cD (zi cI cK))
theorem aMH(l l':List Tm)(g:FuncId)(st:aA)(hc:∀x∈l,∀(y:Tm) (st:aA),aD prog g [Tm.av x,Tm.av y] st (fun r st'=>r=.bool (Tm.same x y)∧st'=st)) :
 aD prog 90 [.slice (l.map Tm.av),.slice (l'.map Tm.av),.func g []] st (fun r st'=>r=.bool (pP Tm.same l l')∧st'=st):=by
 refine wF [1000000] 3 func90 ntmps90 rfl rfl ?_
 simp only[eF,AV.fits,eN,aE]
 intro ⟨⟨hl,_⟩,⟨hl',_⟩⟩
 simp only[aE,aB,seval,OR]
 refine⟨fun h4=>?_,fun h4=>?_⟩
 · simp only[aB,seval]
   simp only[jI,d5] at h4
   rw[ME _ (show l.length≠l'.length by omega)]
 simp only[rK,bK] at h4
 have h4':l.length=l'.length:=by omega
 simp only[aE,aB,seval,OR]
 refine d7 (σ:=Unit) [1000000] [1,2,15,16] l (fun i _=>∀(j:Nat) (x y:Tm),j<i→l[j]?=some x→l'[j]?=some y→Tm.same x y=true) (fun i _=>[(17,.int .i64 i)]) (fun _ _=>st) (by decide +kernel) ⟨(),by intro j x y h;omega,aP.mk (by simp only[aB,↓a9,seval])⟩ (fun i x _ hx hlt bN hdr cZ=>?_) (fun _ hge cZ=>?_)
 case refine_2=>
  simp only[hge,aB,seval]
  rw[MC _ h4' (fun j x y h6 h7=>cZ j x y (by have:=(gJ.1 h6).1;omega) h6 h7)]
 obtain⟨y,hy⟩:∃y,l'[i]?=some y:=⟨_,d4 (h4'▸hlt)⟩
 have hw:=bH (n:=(i:Int)+1)
 simp only[bN,bM,aQ,cO,cR,bR (av:=Tm.av) cF hx (aQ x),bR (av:=Tm.av) cF hy (aQ y),aB,↓a9,seval,OR]
 refine(hc x (cQ hx) y _).to ?_
 simp only[aB,seval]
 refine⟨fun h6=>?_,fun h6=>?_⟩
 · simp only[aB,seval]
   have h7:Tm.same x y=false:=by simpa using h6
   rw[MD _ i x y hx hy h7]
 have h7:Tm.same x y=true:=by simpa using h6
 simp only[aB,seval]
 refine⟨(),fun j u v hj hu hv=>?_,aP.mk (by simp only[hw,aB,seval])⟩
 rcases lM j i with h8 | h8
 · exact cZ j u v h8 hu hv
 · obtain rfl:j=i:=by omega
   rw[hx] at hu;rw[hy] at hv;cases hu;cases hv;exact h7
abbrev JD:=zi aX (zi cD (zi cG (zi cI cK)))
theorem aMR:∀(a b:Tm) (st:aA),aD prog 38 [a.av,b.av] st (fun r st'=>r=.bool (a.same b)∧st'=st)
 | .mk k n s ts,.mk k' n' s' ts',st=>by
  have hc:=aMH ts ts' 38 st fun x hx y st=>aMR x y st
  refine wF [] 2 func38 ntmps38 rfl rfl ?_
  intro _
  simp only[bY,Tm.aGZ]
  simp only[aB,seval,JD]
  refine c5 (fun h1=>?_) (fun h1=>?_)
  case refine_2=>
   simp only[h1,aB,seval]
   simp at h1
   simp []
  simp only[h1,aB,seval,JD]
  refine c5 (fun h2=>?_) (fun h2=>?_)
  case refine_2=>
   simp only[h2,aB,seval]
   simp at h2
   simp []
  simp only[h2,aB,seval,JD]
  refine c5 (fun h3=>?_) (fun h3=>?_)
  case refine_2=>
   simp only[h3,aB,seval]
   simp at h3
   simp []
  simp only[h3,aB,seval,JD]
  refine hc.to ?_
  simp only[aB,seval]
termination_by a=>SizeOf.sizeOf a
decreasing_by have:=List.sizeOf_lt_of_mem hx;simp only[Tm.mk.sizeOf_spec];omega
abbrev B7:=zi aX (zi cD (zi cG (zi cI cK)))
theorem SL:∀(a b:Tm) (st:aA),aD prog 268 [a.av,b.av] st (fun r st'=>r=.bool (a.same b)∧st'=st)
 | .mk k n s ts,.mk k' n' s' ts',st=>by
  have hc:=fun(x:Tm) (hx:x∈ts) y st=>SL x y st
  refine wF [] 2 func268 ntmps268 rfl rfl ?_
  simp only[bY,eF,AV.fits,eN,aE,Tm.aGZ]
  intro ⟨⟨_,_,_,hl,_⟩,⟨_,_,_,hl',_⟩⟩
  simp only[aB,seval,B7]
  refine c5 (fun h1=>?_) (fun h1=>?_)
  case refine_2=>
   simp only[h1,aB,seval]
   simp at h1
   simp [h1]
  simp only[h1,aB,seval,B7]
  refine c5 (fun h2=>?_) (fun h2=>?_)
  case refine_2=>
   simp only[h2,aB,seval]
   simp at h2
   simp [h2]
  simp only[h2,aB,seval,B7]
  refine c5 (fun h3=>?_) (fun h3=>?_)
  case refine_2=>
   simp only[h3,aB,seval]
   simp at h3
   simp [h3]
  simp only[h3,aE,aB,seval,B7]
  refine⟨fun h4=>?_,fun h4=>?_⟩
  · simp only[aB,seval]
    simp only[jI,d5] at h4
    rw[ME _ (show ts.length≠ts'.length by omega)]
    simp
  simp only[aB,seval]
  simp only[rK,bK] at h1 h2 h3 h4
  have h4':ts.length=ts'.length:=by omega
  subst h1 h2 h3
  simp only[aV,dH]
  refine CN (α:=Nat) [] (fun i=>i≤ts.length∧∀(j:Nat) (x y:Tm),j<i→ts[j]?=some x→ts'[j]?=some y→Tm.same x y=true)
   (fun i=>[(2,.pptr (.agg [.int .i64 k,.int .i64 n,.str s,.slice (ts.map Tm.av)])),(3,.pptr (.agg [.int .i64 k,.int .i64 n,.str s,.slice (ts'.map Tm.av)])),(5,.int .i64 i)]) (fun _=>st) (fun i=>ts.length - i) (by decide +kernel)
   ⟨0,⟨by omega,by intro j x y h;omega⟩,aP.mk (by simp only[aB,↓a9,seval])⟩ ?_
  intro i ⟨hi,cZ⟩
  simp only[aE,aB,seval,B7]
  refine⟨fun h5=>?_,fun h5=>?_⟩
  case refine_2=>
   simp only[aB,seval]
   simp only[d5,qD] at h5
   rw[MC _ h4' (fun j x y h6 h7=>cZ j x y (by have:=(gJ.1 h6).1;omega) h6 h7)]
  simp only[bK,qD] at h5
  obtain⟨x,hx⟩:∃x,ts[i]?=some x:=⟨_,d4 h5⟩
  obtain⟨y,hy⟩:∃y,ts'[i]?=some y:=⟨_,d4 (h4'▸h5)⟩
  simp only[aB,seval]
  refine aK9 mixed (by decide +kernel) (by decide +kernel) ?_
  simp only[bR (av:=Tm.av) cF hx (aQ x),bR (av:=Tm.av) cF hy (aQ y),bM,aQ,aB,seval,B7]
  refine(hc x (cQ hx) y st).to ?_
  simp only[aB,seval]
  refine⟨fun h6=>?_,fun h6=>?_⟩
  · simp only[aB,seval]
    have h7:Tm.same x y=false:=by simpa using h6
    rw[MD _ i x y hx hy h7]
  have h7:Tm.same x y=true:=by simpa using h6
  simp only[aB,seval]
  refine⟨i+1,by omega,⟨by omega,fun j u v hj hu hv=>?_⟩,aP.mk ?_⟩
  · rcases lM j i with h8 | h8
    · exact cZ j u v h8 hu hv
    · obtain rfl:j=i:=by omega
      rw[hx] at hu;rw[hy] at hv;cases hu;cases hv;exact h7
  · have:=bH (n:=(i:Int)+1)
    simp only[this,aB,seval]
termination_by a=>SizeOf.sizeOf a
decreasing_by have:=List.sizeOf_lt_of_mem hx;simp only[Tm.mk.sizeOf_spec];omega

theorem aFE{ts:List Tm}(h:ts.length=0):ts= []:=rM h
theorem aUA{ts:List Tm}(h:ts.length=1):∃x,ts= [x]:=by
 match ts,h with
 | [x],_=>exact⟨x,rfl⟩
theorem EL{ts:List Tm}(h:ts.length=2):∃x y,ts= [x,y]:=by
 match ts,h with
 | [x,y],_=>exact⟨x,y,rfl⟩
theorem aUB{ts:List Tm}(h:ts.length=3):∃x y z,ts= [x,y,z]:=by
 match ts,h with
 | [x,y,z],_=>exact⟨x,y,z,rfl⟩
theorem aJO{σ:Sub}{f:Nat}{t u:Tm}(h:fH σ f t u):wk σ u=u:=(fH.stop h.end).wk
end Go.AW
namespace Go.AW

end Go.AW
namespace Go.AW
open Go.Proofs.Tryz
theorem aXJ{α:Type}(f:α→Nat)(l:List α)(i:Nat):bU f (l.take i)≤bU f l:=by
 have:=I0 f (l.take i) (l.drop i)
 rw[y7] at this
 omega
def Full(v:Tm)(room:Nat)(st:aA)(r:AV)(st':aA):Prop:=
 st'=st∧∃(x:Tm) (left:Int),r=.tup [x.av,.int .i64 left]∧-1≤left∧if v.nodes≤room then x=v∧left=(room:Int) - v.nodes else left<0
abbrev a0R:=zi aX cD
theorem qM(b:Bool)(st:aA):aD prog 267 [.bool b] st (fun r st'=>r=.int .i64 (lB b)∧st'=st):=by
 refine wF [1000000] 1 func267 ntmps267 rfl rfl ?_
 intro _
 simp only[aB,seval]
 cases b
 · simp only[lB,aB,seval]
 · simp only[lB,aB,seval]
abbrev a0S:=zi cD cG
theorem aN1(s:ByteArray)(st:aA):aD prog 271 [.str s] st (fun r st'=>r=.bool (kB AB s)∧st'=st):=by
 have hin:kB AB s=(decide (s=⟨#[60]⟩)||(decide (s=⟨#[62]⟩)||(decide (s=⟨#[61,60]⟩)||(decide (s=⟨#[62,61]⟩)||decide (s=⟨#[61,58,61]⟩))))):=by
  simp only[kB,AB,List.any_cons,List.any_nil,CP]
 rw[hin]
 refine wF [1000000] 1 func271 ntmps271 rfl rfl ?_
 intro _
 simp only[aB,seval]
 refine c5 (fun h1=>?_) (fun h1=>?_)
 case refine_2=>
  simp only[h1,aB,seval]
  simp at h1;simp [h1]
 simp only[h1,aB,seval]
 refine c5 (fun h2=>?_) (fun h2=>?_)
 case refine_2=>
  simp only[h2,aB,seval]
  simp at h2;simp [h2]
 simp only[h2,aB,seval]
 refine c5 (fun h3=>?_) (fun h3=>?_)
 case refine_2=>
  simp only[h3,aB,seval]
  simp at h3;simp [h3]
 simp only[h3,aB,seval]
 refine c5 (fun h4=>?_) (fun h4=>?_)
 case refine_2=>
  simp only[h4,aB,seval]
  simp at h4;simp [h4]
 simp only[h4,aB,seval]
theorem aN3(s:ByteArray)(a b:Int)(st:aA):aD prog 276 [.str s,.int .i64 a,.int .i64 b] st (fun r st'=>r=.bool (LW s a b)∧st'=st):=by
 unfold LW
 refine wF [1000000] 3 func276 ntmps276 rfl rfl ?_
 intro _
 simp only[aB,seval]
 refine bE (fun h6=>?_) (fun h6=>?_)
 · simp only[aB,seval]
   rw[aN (by simpa using h6)]
 rw[aH (by simpa using h6)]
 simp only[aB,seval]
 refine bE (fun h7=>?_) (fun h7=>?_)
 · simp only[aB,seval]
   rw[aN (by simpa using h7)]
 rw[aH (by simpa using h7)]
 simp only[aB,seval]
 refine bE (fun h8=>?_) (fun h8=>?_)
 · simp only[aB,seval]
   rw[aN (by simpa using h8)]
 rw[aH (by simpa using h8)]
 simp only[aB,seval]
 refine bE (fun h9=>?_) (fun h9=>?_)
 · simp only[aB,seval]
   rw[aN (by simpa using h9)]
 rw[aH (by simpa using h9)]
 simp only[aB,seval]
abbrev OD:=zi aX (zi cD (zi cG (zi cI cK)))
theorem aN0(n:Int)(s:ByteArray)(x y:Tm){N:Int}(hx:c8 N x)(hy:c8 N y)(st:aA):aD prog 272 [(Tm.mk 3 n s [x,y]).av] st (fun r st'=>r=.int .i64 (HD s x y)∧st'=st):=by
 have g9:dP prog 25 (.slice [x.av,y.av]) (.int .i64 0)=some (.pptr x.av):=bR (av:=Tm.av) (l:=[x,y]) (i:=0) cF rfl (aQ x)
 have lE:dP prog 25 (.slice [x.av,y.av]) (.int .i64 1)=some (.pptr y.av):=bR (av:=Tm.av) (l:=[x,y]) (i:=1) cF rfl (aQ y)
 have hax:=fun st=>G3 x st hx
 have hay:=fun st=>G3 y st hy
 unfold HD both
 simp only[bY,bF,bD]
 refine wF [1000000] 1 func272 ntmps272 rfl rfl ?_
 intro _
 simp only[g9,bM,aQ,aB,seval,OD]
 refine(hax _).to ?_
 generalize x.ev.1=a at *
 generalize x.ev.2=ca at *
 generalize y.ev.1=b at *
 generalize y.ev.2=cb at *
 simp only[aB,seval]
 refine bE (fun h4=>?_) (fun h4=>?_)
 · simp only[aB,seval]
   have h4':ca≠0:=by simpa using h4
   rw[aN h4']
 have h4':ca=0:=by simpa using h4
 subst h4'
 rw[aH (by simp)]
 simp only[lE,bM,aQ,aB,seval,OD]
 refine(hay _).to ?_
 simp only[aB,seval]
 refine bE (fun h5=>?_) (fun h5=>?_)
 · simp only[aB,seval]
   have h5':cb≠0:=by simpa using h5
   rw[aN h5']
 have h5':cb=0:=by simpa using h5
 subst h5'
 rw[aH (by simp)]
 simp only[aB,seval,OD]
 refine(aN3 s a b _).to ?_
 simp only[aB,seval]
 refine(qM _ _).to ?_
 simp only[aB,seval]
abbrev BY:=zi aX (zi cD (zi cG (zi cI cK)))
theorem aN5(n:Int)(s:ByteArray)(x:Tm)(hs:s=⟨#[118,97,114]⟩∨s=⟨#[110,111,110,118,97,114]⟩∨s=⟨#[97,116,111,109]⟩∨s=⟨#[105,110,116]⟩)(st:aA) :
 aD prog 273 [(Tm.mk 3 n s [x]).av] st (fun r st'=>r=.int .i64 (lB (I2 s x))∧st'=st):=by
 obtain⟨xk,xn,xs,xt⟩:=x
 have g9:dP prog 25 (.slice [(Tm.mk xk xn xs xt).av]) (.int .i64 0)=some (.pptr (Tm.mk xk xn xs xt).av):=bR (av:=Tm.av) (l:=[Tm.mk xk xn xs xt]) (i:=0) cF rfl (aQ _)
 simp only[bY] at g9
 simp only[bF,bD,bY]
 refine wF [1000000] 1 func273 ntmps273 rfl rfl ?_
 intro _
 simp only[g9,aB,↓a9,seval,BY]
 refine bE (fun h=>?_) (fun h=>?_)
 · have hs':s=⟨#[118,97,114]⟩:=by simpa using h
   subst hs'
   simp only[aB,seval,BY]
   refine(qM _ _).to ?_
   simp only[aB,seval]
   rfl
 have h1:s≠⟨#[118,97,114]⟩:=by simpa using h
 simp only[aB,seval]
 refine bE (fun h=>?_) (fun h=>?_)
 · have hs':s=⟨#[110,111,110,118,97,114]⟩:=by simpa using h
   subst hs'
   simp only[aB,seval,BY]
   refine(qM _ _).to ?_
   simp only[aB,seval]
   rfl
 have h2:s≠⟨#[110,111,110,118,97,114]⟩:=by simpa using h
 simp only[aB,seval]
 refine bE (fun h=>?_) (fun h=>?_)
 · have hs':s=⟨#[105,110,116]⟩:=by simpa using h
   subst hs'
   simp only[aB,seval,BY]
   refine(qM _ _).to ?_
   simp only[aB,seval]
   rfl
 have h3:s≠⟨#[105,110,116]⟩:=by simpa using h
 have hs':s=⟨#[97,116,111,109]⟩:=by simpa [h1,h2,h3] using hs
 subst hs'
 have et:I2 ⟨#[97,116,111,109]⟩ (Tm.mk xk xn xs xt)=(decide (xk=3)&&decide ((xt.length:Int)=0)):=rfl
 rw[et]
 simp only[aB,seval,BY]
 refine c5 (fun h4=>?_) (fun h4=>?_)
 · simp only[h4,aE,aB,seval,BY]
   refine(qM _ _).to ?_
   simp only[aB,seval]
 · simp only[h4,aB,seval]
   refine(qM _ _).to ?_
   simp only[aB,seval]
   simp at h4;simp []
def pJ(x y:Tm):Tm×Int:=if x.k=1∨y.k=1 then(Tm.zero,2) else if x.k≠2∨y.k≠3∨y.ts.length=0 then(Tm.zero,3) else match rW x y with
 | some u=>(u,0)
 | none=>(Tm.zero,1)
abbrev m5:=zi aX (zi cI cK)
theorem aNZ{N:Int}(n:Int)(s:ByteArray)(x y z:Tm)(hy:c8 N y)(st:aA):aD prog 270 [(Tm.mk 3 n s [x,y,z]).av] st (fun r st'=>r=.tup [(pJ x y).1.av,.int .i64 (pJ x y).2]∧st'=st):=by
 have g9:dP prog 25 (.slice [x.av,y.av,z.av]) (.int .i64 0)=some (.pptr x.av):=bR (av:=Tm.av) (l:=[x,y,z]) (i:=0) cF rfl (aQ x)
 have lE:dP prog 25 (.slice [x.av,y.av,z.av]) (.int .i64 1)=some (.pptr y.av):=bR (av:=Tm.av) (l:=[x,y,z]) (i:=1) cF rfl (aQ y)
 obtain⟨xk,xn,xs,xt⟩:=x
 obtain⟨yk,yn,ys,yt⟩:=y
 have hyl:yt.length≤4:=by
  exact hy.kind.2
 rw[bY] at g9
 simp only[bY xk,bY yk] at g9 lE
 unfold pJ
 simp only[bY 3,bF,bD,bY xk,bY yk,Tm.k,Tm.ts]
 refine aD.done ?_
 refine wF [1000000] 1 func270 ntmps270 rfl rfl ?_
 intro _
 simp only[g9,lE,aB,↓a9,seval,m5]
 intro b hb
 have pR:∀o (p:Tm×Int) (k:Int),p=(Tm.zero,k)→(AV.tup [.agg [.int .i64 0,.int .i64 0,.str ⟨#[]⟩,.fslice []],.int .i64 k]).soft=.tup [p.1.av,.int .i64 p.2]∧aJ (st.aC b o) st:=fun o p k e=>by
  rw[e]
  exact⟨by simp only[Tm.zero,bY,jF,jW,jG,mZ,mY,bF,bD,bD],(aJ.refl _).aC hb⟩
 refine c5 (fun h=>?_) (fun h=>?_)
 case refine_2=>
  have h':xk=1:=by simpa using h
  simp only[h,aG,aB,seval,m5]
  exact pR _ _ 2 (aN (.inl h'))
 have hx1:xk≠1:=by simpa using h
 simp only[h,aB,seval,m5]
 refine bE (fun h1=>?_) (fun h1=>?_)
 · have h':yk=1:=by simpa using h1
   simp only[aG,aB,seval,m5]
   exact pR _ _ 2 (aN (.inr h'))
 have hy1:yk≠1:=by simpa using h1
 rw[aH (fun h2=>h2.elim hx1 hy1)]
 simp only[aB,seval,m5]
 refine c5 (fun h4=>?_) (fun h4=>?_)
 case refine_2=>
  have h':xk≠2:=by simpa using h4
  simp only[h4,aG,aB,seval,m5]
  exact pR _ _ 3 (aN (.inl h'))
 have hx2:xk=2:=by simpa using h4
 simp only[h4,aB,seval,m5]
 refine c5 (fun h5=>?_) (fun h5=>?_)
 case refine_2=>
  have h':yk≠3:=by simpa using h5
  simp only[h5,aG,aB,seval,m5]
  exact pR _ _ 3 (aN (.inr (.inl h')))
 have hy3:yk=3:=by simpa using h5
 simp only[h5,aE,aB,seval,m5]
 refine bE (fun h6=>?_) (fun h6=>?_)
 · have h':yt.length=0:=by simp at h6;simp [h6]
   simp only[aG,aB,seval,m5]
   exact pR _ _ 3 (aN (.inr (.inr h')))
 have hyt:yt.length≠0:=by simp at h6;simpa using h6
 rw[aH (by simp [hx2,hy3];intro h7;simp [h7] at hyt)]
 simp only[aB,seval,m5]
 have hno:¬(1≤xn∧xn≤yt.length)→(match rW (.mk xk xn xs xt) (.mk yk yn ys yt) with | some u=>(u,(0:Int)) | none=>(Tm.zero,1))=(Tm.zero,(1:Int)):=fun h'=>by
  have ea:rW (.mk xk xn xs xt) (.mk yk yn ys yt)=none:=aH h'
  rw[ea]
 refine c5 (fun h7=>?_) (fun h7=>?_)
 case refine_2=>
  have h':xn<1:=by simpa using h7
  simp only[h7,aG,aB,seval,m5]
  exact pR _ _ 1 (hno (by omega))
 have hl1:¬xn<1:=by simpa using h7
 simp only[h7,aE,aB,seval,m5]
 refine bE (fun h8=>?_) (fun h8=>?_)
 · have h':(yt.length:Int)<xn:=by simpa using h8
   simp only[aG,aB,seval,m5]
   exact pR _ _ 1 (hno (by omega))
 have hl2:¬(yt.length:Int)<xn:=by simpa using h8
 have h':1≤xn∧xn≤yt.length:=by omega
 obtain⟨i,hi⟩:∃i:Nat,xn - 1=i:=⟨(xn - 1).toNat,by omega⟩
 have hlt:i<yt.length:=by omega
 obtain⟨u,hu⟩:∃u,yt[i]?=some u:=⟨_,d4 hlt⟩
 have ea:rW (.mk xk xn xs xt) (.mk yk yn ys yt)=some u:=by
  refine(aN h').trans ?_
  show yt[(xn - 1).toNat]?=some u
  rw[hi,fV,hu]
 rw[ea]
 have hw:IntKind.i64.wrap (xn - 1)=(i:Int):=by rw[wrap64 (by omega) (by omega)];exact hi
 have aSW:=bR (av:=Tm.av) (P:=prog) cF hu (aQ u)
 simp only[cH,cO,fU (cH _),fN (bM _),aSW,hw,bM,aQ,aG,aB,seval,m5]
 exact⟨by simp only[jW,jG,Tm.soft,bF,bD,Tm.soft],(aJ.refl _).aC hb⟩
theorem aT5(n:Int):(sD n).av=(Tm.mk 2 n ⟨#[]⟩ []).av:=rfl
def cE(N:Nat)(σ:Sub):List AV:=(List.range N).map fun i:Nat=>cellOf (σ (i:Int))
theorem zW(N:Nat)(σ:Sub):∀e∈cE N σ,e.width=4:=by intro e h;simp only[cE,cL] at h;obtain⟨i,_,rfl⟩:=h;exact G6 _
theorem w6(N:Nat)(σ:Sub){i:Nat}(h:i<N):(cE N σ)[i]?=some (cellOf (σ (i:Int))):=by
 simp only[cE,mI,List.getElem?_range h,nC]
theorem aK6(N:Nat)(σ:Sub){i:Nat}(h:i<N)(u:Tm):(cE N σ).set i u.av=cE N (σ.set (i:Int) u):=by
 apply F9
 intro j
 by_cases hj:j<N
 · rw[w6 N _ hj,List.getElem?_set]
   by_cases e:i=j
   · subst e
     simp [cE,hj,Sub.set,cellOf]
   · rw[aH e,w6 N _ hj]
     simp only[Sub.set]
     rw[aH (by omega)]
 · rw[rN (by simp [cE];omega),rN (by simp [cE];omega)]
def d9(N:Nat)(st:aA)(b:Nat)(σ:Sub):Prop:=st b=some (.cells ((cE N σ).flatMap AV.cells))
theorem d9.mid{N:Nat}{st:aA}{b:Nat}{σ:Sub}(h:d9 N st b σ){i:Nat}(hi:i<N) :
 ∃A B,st b=some (.cells (A++(cellOf (σ (i:Int))).cells++B))∧A.length=i*4∧∀(u:Tm),d9 N (st.aC b (.cells (A++u.av.cells++B))) b (σ.set (i:Int) u):=by
 obtain⟨A,B,h1,h2,h3⟩:=aSB (zW N σ) (w6 N σ hi)
 refine⟨A,B,by rw[←h1];exact h,h2,fun u=>?_⟩
 unfold d9
 rw[aA.aK,←aK6 N σ hi,h3]
theorem d9.aC{N:Nat}{st:aA}{b x:Nat}{σ:Sub}{o:AO}(h:d9 N st b σ)(hx:x≠b):d9 N (st.aC x o) b σ:=by
 unfold d9
 rw[aA.aO _ _ (dM hx)]
 exact h
theorem d9.none{N:Nat}{st:aA}{b:Nat}{σ:Sub}(h:d9 N st b σ){i:Nat}(hi:i<N)(hn:σ (i:Int)=Option.none) :
 ∃D,st b=some (.cells D)∧D[i*4+0]?=some (.int .i64 0)∧i*4+4≤D.length:=by
 obtain⟨A,B,e1,e2,_⟩:=h.mid hi
 rw[hn] at e1
 obtain⟨r1,r2,r3⟩:=QT (B:=B) (C:=(cellOf Option.none).cells) e2 rfl
 exact⟨_,e1,r3,r1⟩
theorem d9.some{N:Nat}{st:aA}{b:Nat}{σ:Sub}(h:d9 N st b σ){i:Nat}(hi:i<N){k n:Int}{s:ByteArray}{ts:List Tm}(hn:σ (i:Int)=Option.some (.mk k n s ts)) :
 ∃D,st b=Option.some (.cells D)∧D[i*4+0]?=Option.some (.int .i64 k)∧i*4+4≤D.length∧List.take 4 (List.drop (i*4) D)= [.int .i64 k,.int .i64 n,.str s,.slice (ts.map Tm.av)]:=by
 obtain⟨A,B,e1,e2,_⟩:=h.mid hi
 rw[hn] at e1
 simp only[cellOf,bY,AV.cells] at e1
 obtain⟨r1,r2,r3⟩:=QT (B:=B) (C:=[.int .i64 k,.int .i64 n,.str s,.slice (ts.map Tm.av)]) e2 rfl
 exact⟨_,e1,r3,r1,r2⟩
theorem d9.set{N:Nat}{st:aA}{b:Nat}{σ:Sub}(h:d9 N st b σ){i:Nat}(hi:i<N)(u:Tm) :
 ∃D D',st b=Option.some (.cells D)∧i*4+4≤D.length∧aG D (i*4) u.av.cells=D'∧d9 N (st.aC b (.cells D')) b (σ.set (i:Int) u):=by
 obtain⟨A,B,e1,e2,e3⟩:=h.mid hi
 obtain⟨p1,p2⟩:=NO (B:=B) (C:=(cellOf (σ (i:Int))).cells) (x:=u.av.cells) e2 (aOX _) (cH u)
 exact⟨_,_,e1,p2,p1,e3 u⟩
abbrev B3:=zi aX (zi cI cK)
theorem Q7{N:Nat}{σ:Sub}(hok:dC (c8 N) σ){f:Nat}{t u:Tm}(hw:fH σ f t u)(ht:c8 N t)(b:Nat)(st:aA)(hS:d9 N st b σ):aD prog 194 [t.av,.mslice b 0 N 4] st (fun r st'=>r=u.av∧st'=st):=by
 refine aD.done ?_
 refine wF [1000000,2] 2 func194 ntmps194 rfl rfl ?_
 intro _
 simp only[aB,seval,B3]
 intro b2 h2 b4 h4
 have hne:b4≠b2:=by rintro rfl;rw[aA.aK] at h4;cases h4
 have hn4:st b4=none:=by rw[aA.aO st _ hne] at h4;exact h4
 have hb2:b2≠b:=by rintro rfl;rw[d9,h2] at hS;cases hS
 have hb4:b4≠b:=by rintro rfl;rw[d9,hn4] at hS;cases hS
 refine gW (σ:=Nat×Tm) [1000000,2] [1,2,4] (fun p=>fH σ p.1 p.2 u∧c8 N p.2) (fun p=>[]) (fun p=>(st.aC b2 (.cells p.2.av.cells)).aC b4 (.cells [.int .i64 0,.int .i64 0,.str ⟨#[]⟩,.fslice []])) (fun p=>p.1) (by decide +kernel) ⟨(f,t),⟨hw,ht⟩,aP.mk (by simp only[aB,seval])⟩ ?_
 rintro⟨g,t⟩ ⟨hw,ht⟩
 obtain⟨k,n,s,ts⟩:=t
 simp only at hw ht
 simp only[bY]
 have fO:k≠1∨σ n=none→u=.mk k n s ts:=fun h=>by
  cases hw with
  | stop _=>rfl
  | go h1 h2 _=>
   simp only[Tm.k] at h1
   rcases h with h | h
   · exact absurd h1 h
   · rw[show σ n=some _ from h2] at h;cases h
 simp only[hne.symm,aB,seval,B3]
 refine c5 (fun h=>?_) (fun h=>?_)
 case refine_2=>
  simp only[h,aG,hne.symm,aB,seval,B3]
  simp only[fA,d5] at h
  rw[fO (.inl h),←bY]
  exact⟨Tm.soft _,((aJ.refl _).aC h2).aC hn4⟩
 simp only[bK] at h
 subst h
 obtain⟨hn0,hn1,_⟩:=ht.var
 obtain⟨i,rfl⟩:∃i:Nat,n=i:=⟨n.toNat,by omega⟩
 have hi:i<N:=by omega
 have hi':decide ((i:Int)<(N:Int))=true:=by simp;omega
 simp only[aV,hi',eO,hne.symm,aB,seval,B3]
 have hat:=AT (P:=prog) (b:=b) (len:=N) cF hi
 cases hw with
 | stop hs=>
  obtain⟨D,e1,e2,_⟩:=hS.none hi (hs rfl)
  simp only[hat,e1,e2,aV,aG,hne.symm,hb2.symm,hb4.symm,aB,seval,B3]
  exact⟨by rw[←bY,Tm.soft],((aJ.refl _).aC h2).aC hn4⟩
 | go h1 h2' h3=>
  simp only[Tm.n] at h2'
  have ho:=hok _ _ h2'
  rename_i g' u'
  obtain⟨k',n',s',ts'⟩:=u'
  have hk':¬k'=0:=by have:=ho.kind.1;omega
  obtain⟨D,e1,e2,e3,e4⟩:=hS.some hi h2'
  have e5:i*4+0+4≤D.length:=e3
  simp only[hat,e1,e2,e3,e4,hk',a8,aG,hne.symm,hb2.symm,hb4.symm,aB,seval,B3]
  rw[aA.JX hne,aA.rG _ _ _ hne]
  refine⟨(g',.mk k' n' s' ts'),Nat.lt_succ_self _,⟨h3,ho⟩,?_⟩
  simp only[bY]
  exact aP.mk (by simp only[aB,seval])
theorem d9.acc{N:Nat}{st:aA}{b bW:Nat}{σ:Sub}{l:List AV}(h:d9 N st b σ)(hb:l≠[]→st bW=Option.none):d9 N (aU st bW l) b σ:=by
 cases l with
 | nil=>exact h
 | cons x l=>exact h.aC (by rintro rfl;rw[d9,hb (by simp)] at h;cases h)
abbrev FE:=zi aX (zi cD (zi cI (zi kT cK)))
theorem aL9{N:Nat}{σ:Sub}{R:Int→Tm}{rk:Int→Nat}{B:Nat}(G:Good σ R rk B)(hok:dC (bS N) σ)(hN:N≤1048576){n:Int}(hn:σ n=none)(t:Tm)(ht:bS N t)(b:Nat)(st:aA)(hS:d9 N st b σ) :
 aD prog 195 [.int .i64 n,t.av,.mslice b 0 N 4] st (fun r st'=>r=.bool (decide (n∈(t.aS R).vl))∧st'=st):=by
 refine aD.done ?_
 refine wF [1000000] 3 func195 ntmps195 rfl rfl ?_
 intro _
 simp only[aB,seval,FE]
 have h0:=DU t [] 0 st (Tm.r0 t (ht.1.2.1)) (fun h=>absurd rfl h) (by have:=ht.2;simp only[aW];omega)
 simp only[bD,jM,rT] at h0
 refine h0.mono ?_
 rintro _ _ ⟨b0,rfl,rfl,hb0⟩
 obtain⟨v1,v2,_⟩:=PK t (Tm.r0 t (ht.1.2.1)) []
 simp only[aB,seval]
 refine gW (σ:=Nat×List Int×Nat) [1000000] [0,2]
  (fun p=>p.1≤p.2.1.length∧p.2.1.Nodup∧(∀w∈p.2.1,w∈VN N)∧(p.2.1.map iv≠[]→st p.2.2=none)∧(∀w∈p.2.1.take p.1,w≠n∧∀u,σ w=some u→∀v∈u.vl,v∈p.2.1)∧(∀w∈p.2.1,n∈(R w).vl→n∈(t.aS R).vl)∧(n∈(t.aS R).vl→∃w∈p.2.1,n∈(R w).vl))
  (fun p=>[(6,.bool false),(7,bQ 1 p.2.2 (p.2.1.map iv)),(8,.int .i64 p.1)]) (fun p=>aU st p.2.2 (p.2.1.map iv)) (fun p=>N - p.1) (by decide +kernel)
  ⟨(0,t.vars [],b0),⟨f9 _,v2 qF,fun w hw=>?_,hb0,by simp,fun w hw hm=>?_,fun hm=>?_⟩,aP.mk (by simp only[aB,↓a9,seval])⟩ ?_
 · rcases (v1 w).1 hw with h | h
   · cases h
   · exact uH.2 (ht.1.2.2 w h)
 · rcases (v1 w).1 hw with h | h
   · cases h
   · exact(yQ t).2 ⟨w,h,hm⟩
 · obtain⟨w,hw,hm⟩:=(yQ t).1 hm
   exact⟨w,(v1 w).2 (.inr hw),hm⟩
 rintro⟨i,W,bW⟩ ⟨i1,i2,i3,i4,i5,i6,i7⟩
 simp only at i1 i2 i3 i4 i5 i6 i7
 have haL:=DM (w:=1) (b:=bW) (l:=W.map iv) aI6
 have hWl:=aFU i2 (fun m hm=>uH.1 (i3 m hm))
 simp only[haL,aE,aB,seval]
 refine bE (fun h=>?_) (fun h=>?_)
 case refine_2=>
  simp only[d5,qD] at h
  obtain rfl:i=W.length:=by omega
  rw[dR] at i5
  simp only[aB,seval]
  have hno:n∉(t.aS R).vl:=fun hm=>by
   obtain⟨w,hw,hnw⟩:=i7 hm
   exact aYU G i5 w hw hnw
  exact⟨by simp only[hno,a8,q0],aJ.aU (aJ.refl _) i4⟩
 simp only[bK,qD] at h
 obtain⟨w,hx⟩:∃w,W[i]?=some w:=⟨_,d4 h⟩
 have fP:=cQ hx
 have hat:=QI (b:=bW) (l:=W.map iv) (i:=i) (x:=iv w) pO (by rw[mI,hx];try rfl)
 obtain⟨eJ,AU⟩:=QJ (st:=st) (b:=bW) hx
 have hw:=bH (n:=(i:Int)+1)
 simp only[hat,eJ,AU,y9,aB,seval,FE]
 refine bE (fun h2=>?_) (fun h2=>?_)
 · simp only[bK] at h2
   subst h2
   simp only[aB,seval]
   have hm:w∈(t.aS R).vl:=i6 w fP (by rw[G.free hn,CK];simp)
   exact⟨by simp only[hm,aV,q0],aJ.aU (aJ.refl _) i4⟩
 simp only[d5] at h2
 simp only[hat,eJ,AU,y9,aB,seval,FE]
 obtain⟨hw0,hw1⟩:=uH.1 (i3 w fP)
 obtain⟨j,rfl⟩:∃j:Nat,w=j:=⟨w.toNat,by omega⟩
 have hj:j<N:=by omega
 have hj':decide ((j:Int)<(N:Int))=true:=by simp;omega
 have aEG:=AT (P:=prog) (b:=b) (len:=N) cF hj
 have hSA:=hS.acc i4
 have htk:W.take (i+1)=W.take i++ [(j:Int)]:=by rw[eD,hx];try rfl
 have step:∀W':List Int,(∀v∈W,v∈W')→(∀u,σ (j:Int)=some u→∀v∈u.vl,v∈W')→∀w∈W'.take (i+1),W'.take (i+1)=W.take (i+1)→w≠n∧∀u,σ w=some u→∀v∈u.vl,v∈W':=by
  intro W' AY vM w hw' hte
  rw[hte,htk] at hw'
  rcases kW.1 hw' with hw' | hw'
  · exact⟨(i5 w hw').1,fun u hu v hv=>AY v ((i5 w hw').2 u hu v hv)⟩
  · simp only[cT,dF,dS] at hw'
    subst hw'
    exact⟨h2,vM⟩
 cases hs:σ (j:Int) with
 | none=>
  obtain⟨D,e1,e2,_⟩:=hSA.none hj hs
  simp only[hj',aEG,e1,e2,aV,eO,hat,eJ,AU,y9,hw,aB,seval,FE]
  exact⟨(i+1,W,bW),by simp only;omega,⟨h,i2,i3,i4,fun w hw'=>step W (fun _ h=>h) (fun u hu=>by rw[hs] at hu;cases hu) w hw' rfl,i6,i7⟩,aP.mk (by simp only[aB,seval])⟩
 | some u=>
  obtain⟨k',n',s',ts'⟩:=u
  have ho:=hok _ _ hs
  have hk':¬k'=0:=by have:=ho.1.kind.1;omega
  obtain⟨D,e1,e2,e3,e4⟩:=hSA.some hj hs
  simp only[hj',aEG,e1,e2,e3,e4,hk',a8,eO,hat,eJ,AU,y9,aB,seval,FE]
  have hwf:=Tm.r0 _ (ho.1.2.1)
  have hc:=DU (.mk k' n' s' ts') W bW st hwf i4 (by have:=ho.2;omega)
  obtain⟨u1,u2,m,u3⟩:=PK _ hwf W
  rw[bY] at hc
  refine hc.mono ?_
  rintro _ _ ⟨b',rfl,rfl,hb'⟩
  generalize (Tm.mk k' n' s' ts').vars W=W' at *
  have hte:W'.take (i+1)=W.take (i+1):=by rw[u3,GD (by omega)]
  have hbd:(Tm.mk k' n' s' ts').aS R=R (j:Int):=(G.bound hs).symm
  simp only[hw,aB,seval]
  refine⟨(i+1,W',b'),by simp only;omega,⟨by rw[u3];simp only[cX];omega,u2 i2,fun w hw'=>?_,hb',fun w hw'=>step W' (fun v hv=>(u1 v).2 (.inl hv)) (fun u hu v hv=>?_) w hw' hte,fun w hw' hm=>?_,fun hm=>?_⟩,aP.mk (by simp only[aB,seval])⟩
  · rcases (u1 w).1 hw' with h | h
    · exact i3 w h
    · exact uH.2 (ho.1.2.2 w h)
  · rw[hs] at hu
    cases hu
    exact(u1 v).2 (.inr hv)
  · rcases (u1 w).1 hw' with h | h
    · exact i6 w h hm
    · refine i6 (j:Int) fP ?_
      rw[←hbd]
      exact(yQ _).2 ⟨w,h,hm⟩
  · obtain⟨w,h,hm⟩:=i7 hm
    exact⟨w,(u1 w).2 (.inl h),hm⟩
def AN(N b:Nat)(st:aA)(σ':Sub)(st':aA):Prop:=d9 N st' b σ'∧∀x o,st x=some o→x≠b→st' x=some o
theorem AN.refl{N b:Nat}{st:aA}{σ:Sub}(h:d9 N st b σ):AN N b st σ st:=⟨h,fun _ _ h _=>h⟩
theorem AN.trans{N b:Nat}{st s2 s3:aA}{σ2 σ3:Sub}(x:AN N b st σ2 s2)(y:AN N b s2 σ3 s3):AN N b st σ3 s3:=⟨y.1,fun q o h hn=>y.2 q o (x.2 q o h hn) hn⟩
def CX(N:Nat)(f:Nat)(b:Nat)(σ:Sub)(a c:Tm)(r:Bool)(σ':Sub):Prop:=∀st,d9 N st b σ→aD prog f [a.av,c.av,.mslice b 0 N 4] st (fun r' st'=>r'=.bool r∧AN N b st σ' st')
abbrev lW:=zi aX (zi cD (zi cG (zi cI cK)))
theorem aFF(N:Nat)(hN:N≤1048576)(g:Nat)(bb:Nat)(IH:∀(σ:Sub) (a b:Tm) (r:Bool) (σ':Sub) (add:List Int),dL σ→dC (bS N) σ→bS N a→bS N b→c7 g σ a b=some (r,σ',add)→CX N 153 bb σ a b r σ')
 (σ:Sub) (a b:Tm) (r:Bool) (σ':Sub) (add:List Int) (hg:dL σ) (hok:dC (bS N) σ) (ha0:bS N a) (hb0:bS N b) (h:c7 (g+1) σ a b=some (r,σ',add))
 (aE9:(wk σ a).k≠1→(wk σ b).k=1→CX N 153 bb σ (wk σ b) (wk σ a) r σ'):CX N 153 bb σ a b r σ':=by
 intro st hS
 obtain⟨rk,B,G⟩:=hg.rs
 obtain⟨fa,wa⟩:=G.wk a
 obtain⟨fb,wb⟩:=G.wk b
 have H3:dC (c8 N) σ:=fun n u hu=>(hok n u hu).1
 have hca:=fun st (hS:d9 N st bb σ)=>Q7 H3 wa ha0.1 bb st hS
 have hcb:=fun st (hS:d9 N st bb σ)=>Q7 H3 wb hb0.1 bb st hS
 have ea:=wa.end
 have eb:=wb.end
 have hsa:=wa.all (p:=bS N) hok ha0
 have hsb:=wb.all (p:=bS N) hok hb0
 replace h:=aI7 h
 generalize wk σ a=a1 at *
 generalize wk σ b=b1 at *
 clear wa wb
 refine wF [1000000,3,4] 3 func153 ntmps153 rfl rfl ?_
 intro fF
 simp only[aB,seval,lW]
 intro b4 h4 b5 h5
 have h54:b5≠b4:=by rintro rfl;rw[aA.aK] at h5;cases h5
 have hn5:st b5=none:=by rw[aA.aO st _ h54] at h5;exact h5
 have h4b:b4≠bb:=by rintro rfl;rw[d9,h4] at hS;cases hS
 have h5b:b5≠bb:=by rintro rfl;rw[d9,hn5] at hS;cases hS
 have hS':∀o o',d9 N ((st.aC b4 o).aC b5 o') bb σ:=fun o o'=>(hS.aC h4b).aC h5b
 have hQ:∀o o',AN N bb st σ ((st.aC b4 o).aC b5 o'):=fun o o'=>⟨hS' o o',fun x p h _=>by
  rw[aA.aO _ _ (by rintro rfl;rw[hn5] at h;cases h),aA.aO _ _ (by rintro rfl;rw[h4] at h;cases h)];exact h⟩
 simp only[cH,fU (cH a),fN (bM a),h54.symm,aB,seval]
 refine(hca _ (hS' _ _)).to ?_
 simp only[cH,fU (cH b),fN (bM b),cO,aG,h54,h54.symm,aB,seval,lW]
 rw[aA.JX h54,aA.rG _ _ _ h54]
 refine(hcb _ (hS' _ _)).to ?_
 obtain⟨ka,na,sa,tsa⟩:=a1
 obtain⟨kb,nb,sb',tsb⟩:=b1
 obtain⟨hla,a0D⟩:=Tm.yF (hsa.1.small)
 obtain⟨hlb,a0E⟩:=Tm.yF (hsb.1.small)
 have lF:∀o o',AN N bb st σ ((st.aC b4 o).aC b5 o'):=hQ
 have hka:=fun h=>(vW N) _ h hsa
 have hkb:=fun h=>(vW N) _ h hsb
 simp only[bY]
 simp only[Tm.k,Tm.n,Tm.ts] at h ea eb aE9 hka hkb
 simp only[d3,aG,h54.symm,aB,seval,lW]
 have var:∀ {n:Int} {t:Tm},n∈VN N→σ n=none→bS N t→l6 σ n t=(r,σ',add)→∀s0,d9 N s0 bb σ→aD prog 195 [.int .i64 n,t.av,.mslice bb 0 N 4] s0 (fun r' st'=>r'=.bool (!r)∧st'=s0):=by
  intro n t _ hn ht hb s0 hs0
  have:=aL9 G hok hN hn t ht bb s0 hs0
  unfold l6 at hb
  split at hb
  · rename_i hm
    cases hb
    simpa [hm] using this
  · rename_i hm
    cases hb
    simpa [hm] using this
 rcases h with ⟨h1,h2,h3,rfl,rfl,rfl⟩ | ⟨h1,h2,h3⟩ | ⟨h1,h2,h3⟩ | ⟨h1,h2,h3,h4⟩ | ⟨h1,h2,h3,rfl,rfl,rfl⟩
 · subst h1 h2 h3
   simp only[aV,eO,h54.symm,aB,seval,lW]
   exact lF _ _
 · subst h1
   have hin:=uH.2 (hsa.1.2.2 na (by rw[Tm.oB rfl];simp))
   obtain⟨hn0,hn1⟩:=uH.1 hin
   have hcw:=var hin (ea rfl) hsb h3 _ (hS' (.cells [.int .i64 1,.int .i64 na,.str sa,.slice (tsa.map Tm.av)]) (.cells [.int .i64 kb,.int .i64 nb,.str sb',.slice (tsb.map Tm.av)]))
   have hna:=ea rfl
   rw[bY] at hcw
   obtain⟨i,rfl⟩:∃i:Nat,na=i:=⟨na.toNat,by omega⟩
   have hi:i<N:=by omega
   have hat:=AT (P:=prog) (b:=bb) (len:=N) cF hi
   have h6:kb=1→¬(i:Int)=nb:=fun e1 e=>h2 ⟨e1,e⟩
   have tail:∀(s0:aA),s0=((st.aC b4 (.cells [.int .i64 1,.int .i64 i,.str sa,.slice (tsa.map Tm.av)])).aC b5 (.cells [.int .i64 kb,.int .i64 nb,.str sb',.slice (tsb.map Tm.av)]))→r=true →
    ∃D D',s0 bb=some (.cells D)∧i*4+4≤D.length∧aG D (i*4) [.int .i64 kb,.int .i64 nb,.str sb',.slice (tsb.map Tm.av)]=D'∧AN N bb st σ' (s0.aC bb (.cells D')):=by
    rintro _ rfl rfl
    unfold l6 at h3
    split at h3
    · cases h3
    · cases h3
      obtain⟨D,D',e1,e2,e3,e4⟩:=(hS' (.cells [.int .i64 1,.int .i64 i,.str sa,.slice (tsa.map Tm.av)]) (.cells [.int .i64 kb,.int .i64 nb,.str sb',.slice (tsb.map Tm.av)])).set hi (.mk kb nb sb' tsb)
      refine⟨D,D',e1,e2,by rw[←e3,bY];try rfl,e4,fun x o hx hxb=>?_⟩
      rw[aA.aO _ _ hxb]
      exact(hQ _ _).2 x o hx hxb
   by_cases h5:kb=1
   · subst h5
     simp only[aV,h6 rfl,a8,eO,h54.symm,aB,seval,lW]
     refine hcw.to ?_
     cases r with
     | false=>
      simp only[aB,seval]
      unfold l6 at h3
      split at h3
      · cases h3
        exact lF _ _
      · cases h3
     | true=>
      obtain⟨D,D',e1,e2,e3,e4⟩:=tail _ rfl rfl
      simp only[hat,e1,e2,aG,h54.symm,aB,seval,lW]
      rw[←e3] at e4
      exact e4
   · simp only[aV,h5,a8,eO,h54.symm,aB,seval,lW]
     refine hcw.to ?_
     cases r with
     | false=>
      simp only[aB,seval]
      unfold l6 at h3
      split at h3
      · cases h3
        exact lF _ _
      · cases h3
     | true=>
      obtain⟨D,D',e1,e2,e3,e4⟩:=tail _ rfl rfl
      simp only[hat,e1,e2,aG,h54.symm,aB,seval,lW]
      rw[←e3] at e4
      exact e4
 · subst h2
   have hsw:=aE9 h1 rfl
   simp only[CX,bY] at hsw
   simp only[aV,h1,a8,eO,h54.symm,aB,seval,lW]
   refine(hsw _ (hS' _ _)).mono ?_
   rintro _ s2 ⟨rfl,hp⟩
   simp only[aB,seval]
   exact(hQ _ _).trans hp
 · rw[xO] at h3
   simp only[Tm.k,Tm.n,Tm.s,Tm.ts] at h3
   obtain⟨rfl,rfl,rfl,hlen⟩:=h3
   have cS:decide ((tsa.length:Int)=(tsb.length:Int))=true:=by simp [hlen]
   simp only[aV,a8,cS,eO,h54.symm,aE,h1,aB,seval,lW]
   have hS0:=hS' (.cells [.int .i64 ka,.int .i64 na,.str sa,.slice (tsa.map Tm.av)]) (.cells [.int .i64 ka,.int .i64 na,.str sa,.slice (tsb.map Tm.av)])
   have hQ0:=hQ (.cells [.int .i64 ka,.int .i64 na,.str sa,.slice (tsa.map Tm.av)]) (.cells [.int .i64 ka,.int .i64 na,.str sa,.slice (tsb.map Tm.av)])
   have e4:((st.aC b4 (.cells [.int .i64 ka,.int .i64 na,.str sa,.slice (tsa.map Tm.av)])).aC b5 (.cells [.int .i64 ka,.int .i64 na,.str sa,.slice (tsb.map Tm.av)])) b4=some (.cells [.int .i64 ka,.int .i64 na,.str sa,.slice (tsa.map Tm.av)]):=by rw[aA.aO _ _ h54.symm,aA.aK]
   have e5:((st.aC b4 (.cells [.int .i64 ka,.int .i64 na,.str sa,.slice (tsa.map Tm.av)])).aC b5 (.cells [.int .i64 ka,.int .i64 na,.str sa,.slice (tsb.map Tm.av)])) b5=some (.cells [.int .i64 ka,.int .i64 na,.str sa,.slice (tsb.map Tm.av)]):=aA.aK _ _ _
   generalize (st.aC b4 (.cells [.int .i64 ka,.int .i64 na,.str sa,.slice (tsa.map Tm.av)])).aC b5 (.cells [.int .i64 ka,.int .i64 na,.str sa,.slice (tsb.map Tm.av)])=s0 at *
   refine d7 (σ:=Sub×List Int×aA) [1000000,3,4] [2,3,4] tsa
    (fun i p=>dL p.1∧dC (bS N) p.1∧AN N bb s0 p.1 p.2.2∧eY g p.1 (tsa.drop i) (tsb.drop i)=some (r,σ',p.2.1))
    (fun i _=>[(6,.bool false),(7,.int .i64 i)]) (fun _ p=>p.2.2) (by decide +kernel)
    ⟨(σ,add,s0),⟨hg,hok,AN.refl hS0,h4⟩,aP.mk (by simp only[aB,↓a9,seval])⟩ (fun i x p hx hlt bN hdr hinv=>?_) (fun p hge hinv=>?_)
   case refine_2=>
    obtain⟨σi,rest,si⟩:=p
    obtain⟨i1,i2,i3,i5⟩:=hinv
    simp only at i1 i2 i3 i5
    have f4:=i3.2 b4 _ e4 h4b
    rw[o9,hlen,o9] at i5
    simp only[eY,Option.some.injEq,Prod.mk.injEq] at i5
    obtain⟨rfl,rfl,rfl⟩:=i5
    simp only[hge,f4,aE,aB,seval,lW]
    exact hQ0.trans i3
   obtain⟨σi,rest,si⟩:=p
   obtain⟨i1,i2,i3,i5⟩:=hinv
   simp only at i1 i2 i3 i5
   obtain⟨y,hy⟩:∃y,tsb[i]?=some y:=⟨_,d4 (by omega)⟩
   have aEO:tsb.drop i=y::tsb.drop (i+1):=by
    obtain⟨h1,h2⟩:=gJ.1 hy
    rw[sT h1,h2]
   rw[hdr,aEO,eY] at i5
   have f4:=i3.2 b4 _ e4 h4b
   have f5:=i3.2 b5 _ e5 h5b
   have hw:=bH (n:=(i:Int)+1)
   simp only[bN,aE,f4,aB,seval,lW]
   refine wP [(0,1),(2,1),(5,1),(7,1),(10,1),(1,2),(3,1),(4,2),(6,2),(8,1),(9,2),(11,0),(12,1)] [0,2,5,7,10,1,3,4,6,8,9,12] mixed ?_
   simp only[f4,f5,bR (av:=Tm.av) cF hx (aQ x),bR (av:=Tm.av) cF hy (aQ y),aB,seval,lW]
   cases hu:c7 g σi x y with
   | none=>rw[hu] at i5;cases i5
   | some p1=>
    obtain⟨r1,σ1,tr1⟩:=p1
    rw[hu] at i5
    have hx1:bS N x:=hka h1 x (cQ hx)
    have hy1:bS N y:=hkb h2 y (cQ hy)
    have hU:=FV i1 hu
    have hA:=(aI8 (vW N) g).1 σi x y r1 σ1 tr1 i1 hu i2 hx1 hy1
    refine(IH σi x y r1 σ1 tr1 i1 i2 hx1 hy1 hu si i3.1).mono ?_
    rintro _ s2 ⟨rfl,hp2⟩
    cases r1 with
    | false=>
     simp only[Option.some.injEq,Prod.mk.injEq] at i5
     obtain⟨rfl,rfl,rfl⟩:=i5
     simp only[aB,seval]
     exact hQ0.trans (i3.trans hp2)
    | true=>
     simp only at i5
     cases hu2:eY g σ1 (tsa.drop (i+1)) (tsb.drop (i+1)) with
     | none=>rw[hu2] at i5;cases i5
     | some p2=>
      obtain⟨r2,σ2,tr2⟩:=p2
      rw[hu2] at i5
      simp only[Option.some.injEq,Prod.mk.injEq] at i5
      obtain⟨rfl,rfl,_⟩:=i5
      simp only[aB,seval]
      exact⟨(σ1,tr2,s2),⟨hU.g8,hA,i3.trans hp2,hu2⟩,aP.mk (by simp only[hw,aB,seval])⟩
 · have hd:ka=kb→na=nb→sa=sb'→¬(tsa.length:Int)=(tsb.length:Int):=by
    intro e1 e2 e3 e4
    have:xN (Tm.mk ka na sa tsa) (Tm.mk kb nb sb' tsb)=true:=xO.2 ⟨e1,e2,e3,by simp only[Tm.ts];omega⟩
    rw[h3] at this;cases this
   by_cases e1:ka=kb
   · by_cases e2:na=nb
     · by_cases e3:sa=sb'
       · have e4:=hd e1 e2 e3
         subst e1 e2 e3
         simp only[a8,aV,eO,h54.symm,h1,aE,e4,aB,seval,lW]
         exact lF _ _
       · subst e1 e2
         simp only[a8,aV,eO,h54.symm,h1,e3,aB,seval,lW]
         exact lF _ _
     · subst e1
       simp only[a8,aV,eO,h54.symm,h1,e2,aB,seval,lW]
       exact lF _ _
   · clear hd
     simp only[a8,eO,h54.symm,h1,h2,e1,aB,seval,lW]
     exact lF _ _
theorem Q6(N:Nat)(hN:N≤1048576)(bb:Nat):∀(g:Nat) (σ:Sub) (a b:Tm) (r:Bool) (σ':Sub) (add:List Int),dL σ→dC (bS N) σ→bS N a→bS N b→c7 g σ a b=some (r,σ',add)→CX N 153 bb σ a b r σ'
 | 0,σ,a,b,r,σ',add,hg,hok,ha,hb,h=>by simp only[c7] at h;cases h
 | g+1,σ,a,b,r,σ',add,hg,hok,ha,hb,h=>by
  refine aFF N hN g bb (Q6 N hN bb g) σ a b r σ' add hg hok ha hb h fun h1 h2=>?_
  obtain⟨rk,B,G⟩:=hg.rs
  obtain⟨fa,wa⟩:=G.wk a
  obtain⟨fb,wb⟩:=G.wk b
  have eb:=aJO wb
  have ea:=aJO wa
  have hbn:l6 σ (wk σ b).n (wk σ a)=(r,σ',add):=by
   rcases aI7 h with h | h | h | h | h
   · exact absurd h.1 h1
   · exact absurd h.1 h1
   · exact h.2.2
   · exact absurd h2 h.2.1
   · exact absurd h2 h.2.1
  refine aFF N hN 0 bb (fun σ a b r σ' add _ _ _ _ h=>by simp only[c7] at h;cases h) σ (wk σ b) (wk σ a) r σ' add hg hok (wb.all (p:=bS N) hok hb) (wa.all (p:=bS N) hok ha) ?_ fun h3=>?_
  · rw[c7,eb,ea,aH (fun h=>h1 h.2.1),aN h2,hbn]
  · rw[eb] at h3;exact absurd h2 h3
end Go.AW
namespace Go.AW
noncomputable def CG(σ:Sub)(a b:Tm):Int×Sub×List Int:=(lB (nA σ a b).1,(nA σ a b).2)
noncomputable def zU(σ:Sub)(x y z:Tm):Int×Sub×List Int:=
 if x.k=1∨y.k=1 then(2,σ,[]) else if x.k≠2∨y.k≠3∨y.ts.length=0 then(3,σ,[]) else match rW x y with
  | some u=>CG σ z u
  | none=>(1,σ,[])
noncomputable def gM(σ:Sub)(s:ByteArray):List Tm→Int×Sub×List Int
 | []=>(lB (decide (s=⟨#[116,114,117,101]⟩)),σ,[])
 | [x]=>(lB (I2 s x),σ,[])
 | [x,y]=>if kB AB s=true then(HD s x y,σ,[]) else if s=⟨#[61]⟩ then CG σ x y else if s=⟨#[92,61]⟩ then(lB (!(nA σ x y).1),σ,[])
  else if s=⟨#[61,61]⟩ then(lB (x.same y),σ,[]) else if y.ev.2≠0 then(y.ev.2,σ,[]) else CG σ x (sD y.ev.1)
 | [x,y,z]=>zU σ x y z
 | _=>(0,σ,[])
structure rP (N:Int) (σ:Sub) (σ':Sub) (add:List Int):Prop where
 g8:dL σ'
 ok:dC (bS N) σ'
 bJ:∀n,n∉add→σ' n=σ n
 new:∀n∈add,σ n=none∧σ' n≠none
 nodup:add.Nodup
 kB:∀n∈add,0≤n∧n<N
theorem rP.same{N:Int}{σ:Sub}(hg:dL σ)(ho:dC (bS N) σ):rP N σ σ []:=⟨hg,ho,fun _ _=>rfl,by simp,qF,by simp⟩
theorem KI.E6{N:Int}{σ:Sub}{a b:Tm}{r:Bool}{σ':Sub}{tr:List Int}(h:KI N σ a b r σ' tr):rP N σ σ' tr:=⟨h.wJ.g8,h.ok,h.wJ.bJ,h.wJ.new,h.wJ.nodup,h.kB⟩
theorem rP.wJ{N:Nat}{σ:Sub}{a b:Tm}(hg:dL σ)(ho:dC (bS N) σ)(ha:bS N a)(hb:bS N b):rP N σ (nA σ a b).2.1 (nA σ a b).2.2:=by
 obtain⟨r,σ',tr,h⟩:=PI hg ho ha hb
 rw[h.eq]
 exact h.E6
theorem aFD{N:Int}{n:Int}(h:iL n):bS N (sD n):=by
 have h1:=aT6 h
 have h2:=Tm.FW h1
 refine⟨⟨h2.1,h2.2.1,fun v hv=>?_⟩,Tm.qA h1⟩
 unfold sD at hv
 rw[Tm.nB (by decide)] at hv
 obtain⟨t,ht,_⟩:=hv
 cases ht
theorem aK3{N:Int}{x y u:Tm}(hy:bS N y)(hk:y.k≠1)(h:rW x y=some u):bS N u:=vW N y hk hy u (QQ h)
theorem aXA{N:Nat}{σ:Sub}(hg:dL σ)(ho:dC (bS N) σ)(s:ByteArray)(ks:List Tm)(hv:∀x∈ks,bS N x):rP N σ (gM σ s ks).2.1 (gM σ s ks).2.2:=by
 have hs:=rP.same hg ho
 match ks,hv with
 | [],_=>exact hs
 | [x],_=>exact hs
 | [x,y],hv=>
  have hx:=hv x (by simp)
  have hy:=hv y (by simp)
  simp only[gM]
  split
  · exact hs
  split
  · exact rP.wJ hg ho hx hy
  split
  · exact hs
  split
  · exact hs
  split
  · exact hs
  · exact rP.wJ hg ho hx (aFD (Tm.AG y hy.1))
 | [x,y,z],hv=>
  have hy:=hv y (by simp)
  have hz:=hv z (by simp)
  simp only[gM,zU]
  split
  · exact hs
  rename_i h1
  split
  · exact hs
  split
  · rename_i u hu
    exact rP.wJ hg ho hz (aK3 hy (fun h=>h1 (.inr h)) hu)
  · exact hs
 | a::b::c::d::l,_=>exact hs
section
variable {ρ:Int→Int} {N:Int} {σ τ:Sub}
end
section
variable {ρ:Int→Int} {N:Nat} {σ τ:Sub}
end
theorem aW9(σ:Sub)(s:ByteArray)(ks:List Tm):0≤(gM σ s ks).1:=by
 have hc:∀b,0≤lB b:=fun b=>by unfold lB;split<;>omega
 have hr:∀n,0≤(oY n).2:=fun n=>by unfold oY;split<;>simp
 have har:∀s a b,0≤(rV s a b).2:=fun s a b=>by
  unfold rV
  split
  · exact hr _
  split
  · exact hr _
  split
  · exact hr _
  split
  · simp
  split
  · simp
  · simp
 have hb:∀(f:Int→Int→Int×Int) (x y:Int×Int),(∀a b,0≤(f a b).2)→0≤x.2→0≤y.2→0≤(both f x y).2:=fun f x y hf hx hy=>by
  unfold both
  split
  · exact hx
  split
  · exact hy
  · exact hf _ _
 have he:∀t:Tm,0≤t.ev.2:=by
  intro t
  induction t using Tm.ind with
  | h k n s ts ih=>
   rw[Tm.MH]
   split
   · simp
   split
   · simp
   split
   · match ts,ih with
     | [],_=>simp [two]
     | [x],_=>simp [two]
     | [x,y],ih=>exact hb _ _ _ (har s) (ih x (by simp)) (ih y (by simp))
     | x::y::z::l,_=>simp [two]
   · simp
 match ks with
 | []=>exact hc _
 | [x]=>exact hc _
 | [x,y]=>
  simp only[gM]
  split
  · exact hb _ _ _ (fun _ _=>hc _) (he x) (he y)
  split
  · exact hc _
  split
  · exact hc _
  split
  · exact hc _
  split
  · exact he y
  · exact hc _
 | [x,y,z]=>
  simp only[gM,zU]
  split
  · simp
  split
  · simp
  split
  · exact hc _
  · simp
 | a::b::c::d::l=>simp [gM]
end Go.AW
namespace Go.AW
open Go.Proofs.Tryz
theorem aK2(σ:Sub)(x y z:Tm):zU σ x y z=if(pJ x y).2=0 then CG σ z (pJ x y).1 else((pJ x y).2,σ,[]):=by
 unfold zU pJ
 split
 · simp
 split
 · simp
 cases rW x y<;>rfl
def pD(N bb:Nat)(st:aA)(x:Int×Sub×List Int)(r:AV)(st':aA):Prop:=r=.int .i64 x.1∧AN N bb st x.2.1 st'
theorem pD.same{N bb:Nat}{st:aA}{σ:Sub}{r:AV}(h:d9 N st bb σ)(k:Int)(hr:r=.int .i64 k):pD N bb st (k,σ,[]) r st:=⟨hr,AN.refl h⟩
theorem DR{N:Nat}(hN:N≤1048576){σ:Sub}(hg:dL σ)(ho:dC (bS N) σ)(a b:Tm)(ha:bS N a)(hb:bS N b)(bb:Nat)(st:aA)(hS:d9 N st bb σ) :
 aD prog 153 [a.av,b.av,.mslice bb 0 N 4] st (fun r st'=>r=.bool (nA σ a b).1∧AN N bb st (nA σ a b).2.1 st'):=by
 obtain⟨r,σ',tr',hU⟩:=PI hg ho ha hb
 obtain⟨g,lS⟩:=hU.run
 rw[hU.eq]
 exact Q6 N hN bb g σ a b r σ' tr' hg ho ha hb lS st hS
abbrev o4:=zi aX (zi cD (zi cG (zi cI cK)))
theorem aMA{N:Nat}(hN:N≤1048576){σ:Sub}(hg:dL σ)(ho:dC (bS N) σ)(n:Int)(s:ByteArray)(ks:List Tm)(hb:isBuiltin s (ks.length:Int)=true)(hne:s≠⟨#[92,61]⟩)(hv:∀x∈ks,bS N x)(bb:Nat)(st:aA)(hS:d9 N st bb σ) :
 aD prog 263 [(Tm.mk 3 n s ks).av,.mslice bb 0 N 4] st (pD N bb st (gM σ s ks)):=by
 have hcs:=aL0 hb
 have aEL:=fun x y (hxy:ks= [x,y])=>aN0 n s x y (hv x (by simp [hxy])).1 (hv y (by simp [hxy])).1
 have aEJ:=fun x y z (hxy:ks= [x,y,z])=>aNZ n s x y z (hv y (by simp [hxy])).1
 have aEM:=fun x (hxy:ks= [x]) h=>aN5 n s x h
 simp only[bY] at aEL aEJ aEM ⊢
 refine wF [1000000] 2 func263 ntmps263 rfl rfl ?_
 intro _
 simp only[aB,seval,o4]
 refine bE (fun h=>?_) (fun h=>?_)
 · have hs:s=⟨#[116,114,117,101]⟩:=by simpa using h
   have hk:=aFE (ts:=ks) (by subst hs;simpa [isBuiltin] using hb)
   subst hk
   simp only[aB,seval]
   exact pD.same hS _ (by simp [lB,hs])
 have ht:s≠⟨#[116,114,117,101]⟩:=by simpa using h
 simp only[aB,seval]
 refine bE (fun h=>?_) (fun h=>?_)
 · have hs:s=⟨#[102,97,105,108]⟩:=by simpa using h
   have hk:=aFE (ts:=ks) (by subst hs;simpa [isBuiltin] using hb)
   subst hk
   simp only[aB,seval]
   exact pD.same hS _ (by simp [lB,hs])
 have hf:s≠⟨#[102,97,105,108]⟩:=by simpa using h
 simp only[aB,seval]
 refine bE (fun h=>?_) (fun h=>?_)
 · have hs:s=⟨#[61]⟩:=by simpa using h
   obtain⟨x,y,rfl⟩:=EL (ts:=ks) (by subst hs;simp [isBuiltin] at hb;omega)
   have e:gM σ s [x,y]=CG σ x y:=by subst hs;rfl
   rw[e]
   have g9:dP prog 25 (.slice [x.av,y.av]) (.int .i64 0)=some (.pptr x.av):=bR (av:=Tm.av) (l:=[x,y]) (i:=0) cF rfl (aQ x)
   have lE:dP prog 25 (.slice [x.av,y.av]) (.int .i64 1)=some (.pptr y.av):=bR (av:=Tm.av) (l:=[x,y]) (i:=1) cF rfl (aQ y)
   simp only[aB,seval]
   refine wX [(0,1),(1,1),(2,1),(3,1),(4,1),(5,1),(6,1),(7,1),(8,1),(9,0),(10,0),(11,1)] [0,1,2,3,4,5,6,7,8,11] dW mixed rfl cY ?_
   simp only[g9,lE,bM,aQ,aB,seval,o4]
   refine(DR hN hg ho x y (hv x (by simp)) (hv y (by simp)) bb _ hS).mono ?_
   rintro _ s2 ⟨rfl,hP⟩
   simp only[aB,seval]
   refine⟨cY,?_⟩
   refine(qM _ _).to ?_
   simp only[aB,seval]
   exact⟨cY,rfl,hP⟩
 have he:s≠⟨#[61]⟩:=by simpa using h
 simp only[aB,seval]
 refine bE (fun h=>absurd (by simpa using h) hne) (fun h=>?_)
 simp only[aB,seval]
 refine bE (fun h=>?_) (fun h=>?_)
 · have hs:s=⟨#[61,61]⟩:=by simpa using h
   obtain⟨x,y,rfl⟩:=EL (ts:=ks) (by subst hs;simp [isBuiltin] at hb;omega)
   have e:gM σ s [x,y]=(lB (x.same y),σ,[]):=by subst hs;rfl
   rw[e]
   have g9:dP prog 25 (.slice [x.av,y.av]) (.int .i64 0)=some (.pptr x.av):=bR (av:=Tm.av) (l:=[x,y]) (i:=0) cF rfl (aQ x)
   have lE:dP prog 25 (.slice [x.av,y.av]) (.int .i64 1)=some (.pptr y.av):=bR (av:=Tm.av) (l:=[x,y]) (i:=1) cF rfl (aQ y)
   simp only[aB,seval]
   refine KX mixed (by decide +kernel) (by decide +kernel) ?_
   simp only[g9,lE,bM,aQ,aB,seval,o4]
   refine iK (SL x y _) ?_
   simp only[aB,seval]
   refine iK (qM _ _) ?_
   simp only[aB,seval]
   exact pD.same hS _ rfl
 have hee:s≠⟨#[61,61]⟩:=by simpa using h
 simp only[aB,seval]
 refine bE (fun h=>?_) (fun h=>?_)
 · have hs:s=⟨#[105,115]⟩:=by simpa using h
   obtain⟨x,y,rfl⟩:=EL (ts:=ks) (by subst hs;simp [isBuiltin] at hb;omega)
   have e:gM σ s [x,y]=if y.ev.2≠0 then(y.ev.2,σ,[]) else CG σ x (sD y.ev.1):=by subst hs;rfl
   rw[e]
   have hy:=hv y (by simp)
   have hin:=aFD (N:=N) (Tm.AG y hy.1)
   have har:=fun st=>G3 y st hy.1
   generalize y.ev.1=a at *
   generalize y.ev.2=ca at *
   have g9:dP prog 25 (.slice [x.av,y.av]) (.int .i64 0)=some (.pptr x.av):=bR (av:=Tm.av) (l:=[x,y]) (i:=0) cF rfl (aQ x)
   have lE:dP prog 25 (.slice [x.av,y.av]) (.int .i64 1)=some (.pptr y.av):=bR (av:=Tm.av) (l:=[x,y]) (i:=1) cF rfl (aQ y)
   simp only[lE,bM,aQ,aB,seval,o4]
   refine(har _).to ?_
   simp only[aB,seval]
   refine bE (fun h4=>?_) (fun h4=>?_)
   · simp only[aB,seval]
     have h4':ca≠0:=by simpa using h4
     rw[aN h4']
     exact pD.same hS _ rfl
   have h4':ca=0:=by simpa using h4
   subst h4'
   rw[aH (by simp)]
   simp only[aB,seval]
   refine wX [(0,1),(1,1),(2,1),(3,1),(4,1),(6,1),(5,0),(7,0),(8,0),(9,1)] [0,1,2,3,4,6,9] dW mixed rfl cY ?_
   simp only[g9,bM,aQ,aB,seval,o4]
   refine(LE a _).to ?_
   rw[←aT5]
   simp only[aB,seval]
   refine⟨cY,?_⟩
   refine(DR hN hg ho x (sD a) (hv x (by simp)) hin bb _ hS).mono ?_
   rintro _ s2 ⟨rfl,hP⟩
   simp only[aB,seval]
   refine⟨cY,?_⟩
   refine(qM _ _).to ?_
   simp only[aB,seval]
   exact⟨cY,rfl,hP⟩
 have his:s≠⟨#[105,115]⟩:=by simpa using h
 simp only[aB,seval]
 refine bE (fun h=>?_) (fun h=>?_)
 · have hs:s=⟨#[97,114,103]⟩:=by simpa using h
   obtain⟨x,y,z,rfl⟩:=aUB (ts:=ks) (by subst hs;simp [isBuiltin] at hb;omega)
   have e:gM σ s [x,y,z]=zU σ x y z:=rfl
   rw[e,aK2]
   have hz:=hv z (by simp)
   have hy:=hv y (by simp)
   have hga:=aEJ x y z rfl
   have hgv:(pJ x y).2=0→bS N (pJ x y).1:=fun h=>by
    unfold pJ at h ⊢
    split at h
    · cases h
    rename_i h1
    rw[aH h1]
    split at h
    · cases h
    rename_i h2
    rw[aH h2]
    cases hu:rW x y with
    | none=>rw[hu] at h;cases h
    | some u=>exact vW N y (fun h=>h1 (.inr h)) hy u (QQ hu)
   generalize (pJ x y).1=u at *
   generalize (pJ x y).2=cu at *
   have MV:dP prog 25 (.slice [x.av,y.av,z.av]) (.int .i64 2)=some (.pptr z.av):=bR (av:=Tm.av) (l:=[x,y,z]) (i:=2) cF rfl (aQ z)
   simp only[bF,bD] at hga
   simp only[aB,seval,o4]
   refine(hga _).to ?_
   simp only[aQ,cR,cO,aB,↓a9,seval,o4]
   refine bE (fun h4=>?_) (fun h4=>?_)
   · simp only[aB,seval]
     have h4':cu≠0:=by simpa using h4
     rw[aH h4']
     exact pD.same hS _ rfl
   have h4':cu=0:=by simpa using h4
   subst h4'
   rw[aN rfl]
   simp only[aB,seval]
   refine wX [(0,1),(1,1),(2,1),(3,1),(4,1),(5,1),(6,0),(7,0),(8,1)] [0,1,2,3,4,5,8] dW mixed rfl cY ?_
   simp only[MV,bM,aQ,aB,seval,o4]
   refine(DR hN hg ho z u hz (hgv rfl) bb _ hS).mono ?_
   rintro _ s2 ⟨rfl,hP⟩
   simp only[aB,seval]
   refine⟨cY,?_⟩
   refine(qM _ _).to ?_
   simp only[aB,seval]
   exact⟨cY,rfl,hP⟩
 have aED:s≠⟨#[97,114,103]⟩:=by simpa using h
 simp only[aB,seval,o4]
 refine(aN1 s _).to ?_
 simp only[aB,seval]
 refine bE (fun h=>?_) (fun h=>?_)
 · have hlen:ks.length=2:=by
    rcases hcs with ⟨h2,h3⟩ | ⟨h2,h3⟩ | ⟨h2,h3⟩ | ⟨h2,h3⟩
    · exact h2
    · simp [ht,hf] at h3
    · rcases h3 with rfl | rfl | rfl | rfl<;>exact absurd h (by decide)
    · exact absurd h3 aED
   obtain⟨x,y,rfl⟩:=EL hlen
   have e:gM σ s [x,y]=(HD s x y,σ,[]):=by simp only[gM];rw[aN h]
   rw[e]
   have hc:=aEL x y rfl
   simp only[bF,bD] at hc
   simp only[aB,seval,o4]
   refine(hc _).to ?_
   simp only[aB,seval]
   exact pD.same hS _ rfl
 · have hlen:ks.length=1∧(s=⟨#[118,97,114]⟩∨s=⟨#[110,111,110,118,97,114]⟩∨s=⟨#[97,116,111,109]⟩∨s=⟨#[105,110,116]⟩):=by
    rcases hcs with ⟨h2,h3⟩ | ⟨h2,h3⟩ | ⟨h2,h3⟩ | ⟨h2,h3⟩
    · simp [h,he,hne,hee,his] at h3
    · simp [ht,hf] at h3
    · exact⟨h2,h3⟩
    · exact absurd h3 aED
   obtain⟨x,rfl⟩:=aUA hlen.1
   have e:gM σ s [x]=(lB (I2 s x),σ,[]):=rfl
   rw[e]
   have hc:=aEM x rfl hlen.2
   simp only[bF,bD] at hc
   simp only[aB,seval,o4]
   refine(hc _).to ?_
   simp only[aB,seval]
   exact pD.same hS _ rfl
theorem QR(N:Nat)(σ:Sub):tJ 4 (cE N σ):=by
 intro e h
 simp only[cE,cL] at h
 obtain⟨i,_,rfl⟩:=h
 refine⟨G6 _,?_⟩
 cases σ (i:Int) with
 | none=>rfl
 | some u=>exact cO u
theorem DP(N:Nat)(σ:Sub):∀e∈cE N σ,e.bO=false:=by
 intro e h
 simp only[cE,cL] at h
 obtain⟨i,_,rfl⟩:=h
 cases σ (i:Int) with
 | none=>rfl
 | some u=>exact cR u
theorem rX(N:Nat)(σ:Sub):(cE N σ).length=N:=by simp [cE]
theorem KV{N:Nat}(h0:0<N)(hN:N≤1048576)(σ:Sub){st:aA}{K:AV→aA→Prop}(hK:∀b,st b=none→d9 N (st.aC b (.cells ((cE N σ).flatMap AV.cells))) b σ→K (.mslice b 0 N 4) (st.aC b (.cells ((cE N σ).flatMap AV.cells)))) :
 i8 prog 25 st (.fslice []) (.slice (cE N σ)) K:=by
 have hl:=rX N σ
 refine eE (P:=prog) (st:=st) (b:=0) (l:=[]) (xs:=cE N σ) (x:=.slice (cE N σ)) (K:=K) cF kL kM rfl rfl (QR N σ) (by simp) (by simp) (by simp only[aW,hl];omega) (by simp only[aW,hl];omega) (fun b hb=>?_)
 have hne: []++cE N σ≠[]:=by
  rw[dI]
  intro e
  rw[e] at hl
  simp at hl
  omega
 rw[tH hne,lO hne,dI,hl]
 exact hK b (hb hne) (aA.aK _ _ _)
theorem aMC{N:Nat}(h0:0<N)(hN:N≤1048576){σ:Sub}(hg:dL σ)(ho:dC (bS N) σ)(n:Int)(s:ByteArray)(x y:Tm)(hs:s=⟨#[92,61]⟩)(hx:bS N x)(hy:bS N y)(st:aA) :
 aD prog 263 [(Tm.mk 3 n s [x,y]).av,.slice (cE N σ)] st (fun r st'=>r=.int .i64 (lB (!(nA σ x y).1))∧st'=st):=by
 have ht:s≠⟨#[116,114,117,101]⟩:=by subst hs;decide
 have hf:s≠⟨#[102,97,105,108]⟩:=by subst hs;decide
 have he:s≠⟨#[61]⟩:=by subst hs;decide
 refine aD.done ?_
 simp only[bY 3,bF,bD]
 refine wF [1000000] 2 func263 ntmps263 rfl rfl ?_
 intro _
 have g9:dP prog 25 (.slice [x.av,y.av]) (.int .i64 0)=some (.pptr x.av):=bR (av:=Tm.av) (l:=[x,y]) (i:=0) cF rfl (aQ x)
 have lE:dP prog 25 (.slice [x.av,y.av]) (.int .i64 1)=some (.pptr y.av):=bR (av:=Tm.av) (l:=[x,y]) (i:=1) cF rfl (aQ y)
 simp only[aB,seval,o4]
 refine bE (fun h=>absurd (by simpa using h) ht) (fun h=>?_)
 simp only[aB,seval]
 refine bE (fun h=>absurd (by simpa using h) hf) (fun h=>?_)
 simp only[aB,seval]
 refine bE (fun h=>absurd (by simpa using h) he) (fun h=>?_)
 simp only[aB,seval]
 refine bE (fun h=>?_) (fun h=>absurd hs (by simpa using h))
 simp only[aB,seval]
 refine wX [(0,1),(1,1),(2,1),(3,1),(4,1),(5,1),(6,1),(7,1),(8,1),(9,1),(10,0),(11,0),(12,1),(13,0),(14,1)] [0,1,2,3,4,5,6,7,8,9,12,14] dW mixed rfl cY ?_
 simp only[g9,lE,bM,aQ,aB,seval,o4]
 refine KV h0 hN σ fun b hb hA0=>?_
 have hD0:aJ (st.aC b (.cells ((cE N σ).flatMap AV.cells))) st:=(aJ.refl _).aC hb
 generalize st.aC b (.cells ((cE N σ).flatMap AV.cells))=s0 at *
 simp only[aB,seval]
 refine⟨cY,?_⟩
 refine(DR hN hg ho x y hx hy b _ hA0).mono ?_
 rintro _ s2 ⟨rfl,hA,hk⟩
 simp only[aB,seval]
 refine⟨cY,?_⟩
 refine(qM _ _).to ?_
 simp only[aB,seval]
 refine⟨cY,rfl,fun q=>?_⟩
 have key:∀o,st q=some o→s2 q=some o:=fun o h=>hk q o ((hD0 q).2 o h) (by rintro rfl;rw[hb] at h;cases h)
 refine⟨fun h=>?_,key⟩
 cases hq:st q with
 | none=>rfl
 | some o=>rw[key o hq] at h;cases h
theorem aMB{N:Nat}(h0:0<N)(hN:N≤1048576){σ:Sub}(hg:dL σ)(ho:dC (bS N) σ)(n:Int)(s:ByteArray)(ks:List Tm)(hb:isBuiltin s (ks.length:Int)=true)(hv:∀x∈ks,bS N x)(bb:Nat)(st:aA)(hS:d9 N st bb σ) :
 aD prog 263 [(Tm.mk 3 n s ks).av,.mslice bb 0 N 4] st (pD N bb st (gM σ s ks)):=by
 by_cases hs:s=⟨#[92,61]⟩
 · obtain⟨x,y,rfl⟩:=EL (ts:=ks) (by subst hs;simp [isBuiltin] at hb;omega)
   have e:gM σ s [x,y]=(lB (!(nA σ x y).1),σ,[]):=by subst hs;rfl
   rw[e]
   have hc:=aMC h0 hN hg ho n s x y hs (hv x (by simp)) (hv y (by simp)) dW
   refine(aD.aSI (args':=[(Tm.mk 3 n s [x,y]).av,.mslice bb 0 N 4]) (st:=st) rfl hc fun h vs S V=>?_).mono ?_
   · simp only[cJ] at V ⊢
     obtain⟨v,vs',rfl,V1,w,ws',rfl,V2,rfl⟩:=V
     refine⟨v,[w],rfl,V1.mono ((aJ.dW st).step h),w,[],rfl,?_,rfl⟩
     have h2:=V2.fz S hS (DP N σ) ⟨4,zW N σ⟩
     have h3:(AV.mslice bb 0 N 4).fz bb (cE N σ)=.slice (cE N σ):=by simp [AV.fz,rX]
     rw[h3] at h2
     exact h2.mono ((aJ.dW (st.erase bb)).step h)
   · rintro _ _ ⟨rfl,rfl⟩
     exact pD.same hS _ rfl
 · exact aMA hN hg ho n s ks hb hs hv bb st hS
end Go.AW
