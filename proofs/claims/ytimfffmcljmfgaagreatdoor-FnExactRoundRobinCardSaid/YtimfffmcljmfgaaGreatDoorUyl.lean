/- Searches as data: the reference's, and the program's. -/
import Derived.Test.YtimfffmcljmfgaaGreatDoorUyk
import Derived.Test.YtimfffmcljmfgaaGreatDoorUyj
import Derived.Test.YtimfffmcljmfgaaGreatDoorUyg
import Derived.Test.YtimfffmcljmfgaaGreatDoorUyi
set_option linter.unusedSimpArgs false
set_option linter.unusedVariables false
set_option maxRecDepth 100000
namespace Go.AW
def FN(c:Cl):Int:=(bX (c.1::c.2) []).foldl (fun n v=>if n≤v then v+1 else n) 0
def nO(c:Cl):Nat:=(FN c).toNat
def c8(N:Nat)(t:Tm):Tm:=bT (fun v=>v+(N:Int)) t
def eK(t:Tm):Bool:=t.flat 30&&decide (t.nodes≤120)
def q9(t:Tm):Bool:=decide (t.k=3)&&decide (t.s=⟨#[33]⟩)&&decide ((t.ts.length:Int)=0)
def FU(c:Cl)(t:Tm):Bool:=decide (c.1.s=t.s)&&decide ((c.1.ts.length:Int)=(t.ts.length:Int))
def d6(p:List Cl)(t:Tm):List Nat:=(List.range p.length).filter fun i=>match p[i]? with
 | some c=>FU c t
 | none=>false
def oK(c:Int):Int:=if c=2 then 4 else if c=3 then 5 else if c=4 then 6 else 7
noncomputable def iJ(σ:Sub)(vars:List Int):Option (List Tm):=
 if((vars.map (rs σ)).all eK=true)∧(bX (vars.map (rs σ)) []).length≤26 then some (oZ (vars.map (rs σ))) else none
structure RG where
 t:Tm
 aU:Nat
structure RC where
 goal:Tm
 rest:List RG
 left:List Nat
 σ:Sub
 N:Nat
structure RS where
 goals:List RG
 σ:Sub
 N:Nat
 chs:List RC
inductive RO where
 | go (s:RS)
 | fail
 | stop (e:Int)
noncomputable def iD(p:List Cl)(chs:List RC)(goal:Tm)(rest:List RG)(σ:Sub)(N:Nat):List Nat→Option RS
 | []=>none
 | i::l=>match p[i]? with
  | none=>none
  | some x=>if(iQ σ goal (c8 N x.1)).1=true then
   some ⟨x.2.map (fun t=>⟨c8 N t,chs.length⟩)++rest,(iQ σ goal (c8 N x.1)).2.1,N+nO x,if l= [] then chs else chs++ [⟨goal,rest,l,σ,N⟩]⟩
   else iD p chs goal rest σ N l
noncomputable def fF(p:List Cl):Nat→List RC→Option RS
 | 0,_=>none
 | n+1,chs=>match chs.getLast? with
  | none=>none
  | some c=>match iD p chs.dropLast c.goal c.rest c.σ c.N c.left with
   | some s=>some s
   | none=>fF p n chs.dropLast
noncomputable def iC(p:List Cl)(cnd:Tm→List Nat→List Nat)(s:RS)(g:RG)(rest:List RG):RO:=
 if eK (g.t.aK (rs s.σ))=false then .stop 3
 else if q9 (g.t.aK (rs s.σ))=true then .go ⟨rest,s.σ,s.N,s.chs.take g.aU⟩
 else if isBuiltin (g.t.aK (rs s.σ)).s ((g.t.aK (rs s.σ)).ts.length:Int)=true then
  if(cZ s.σ (g.t.aK (rs s.σ)).s (g.t.aK (rs s.σ)).ts).1=0 then .go ⟨rest,(cZ s.σ (g.t.aK (rs s.σ)).s (g.t.aK (rs s.σ)).ts).2.1,s.N,s.chs⟩
  else if(cZ s.σ (g.t.aK (rs s.σ)).s (g.t.aK (rs s.σ)).ts).1=1 then .fail
  else .stop (oK (cZ s.σ (g.t.aK (rs s.σ)).s (g.t.aK (rs s.σ)).ts).1)
 else if d6 p (g.t.aK (rs s.σ))= [] then .stop 8
 else match iD p s.chs (g.t.aK (rs s.σ)) rest s.σ s.N (cnd (g.t.aK (rs s.σ)) (d6 p (g.t.aK (rs s.σ)))) with
  | some s'=>.go s'
  | none=>.fail
noncomputable def iA(p:List Cl)(cnd:Tm→List Nat→List Nat)(vars:List Int)(most fuel:Nat)(s:RS):List (List Tm)×Int:=
 match s.goals with
 | []=>if h:most=0 then([],1) else match iJ s.σ vars with
  | none=>([],3)
  | some a=>match fF p s.chs.length s.chs with
   | none=>([a],0)
   | some s'=>(a::(iA p cnd vars (most - 1) fuel s').1,(iA p cnd vars (most - 1) fuel s').2)
 | g::rest=>if h:fuel=0 then([],2) else match iC p cnd s g rest with
  | .stop e=>([],e)
  | .go s'=>iA p cnd vars most (fuel - 1) s'
  | .fail=>match fF p s.chs.length s.chs with
   | none=>([],0)
   | some s'=>iA p cnd vars most (fuel - 1) s'
termination_by most+fuel
decreasing_by all_goals omega
def lR(q:List Tm):RS:=⟨q.map fun t=>⟨t,0⟩,Sub.none,26,[]⟩
noncomputable def uC(p:List Cl)(cnd:Tm→List Nat→List Nat)(q:List Tm)(most fuel:Nat):List (List Tm)×Int:=iA p cnd (bX q []) most fuel (lR q)
structure IG where
 t:Tm
 cut:Nat
 up:Int
structure IC where
 goal:Tm
 node:Nat
 rest:List IG
 list:List Nat
 eT:Nat
 taken:Nat
structure IS where
 goals:List IG
 σ:Sub
 tr:List Int
 chs:List IC
 fresh:Nat
 nn:Nat
inductive wD where
 | go (s:IS)
 | fail (s:IS)
 | stop (e:Int)
noncomputable def fE(p:List Cl)(goal:Tm)(at':Nat)(rest:List IG):List Nat→IS→Bool×IS
 | [],s=>(false,s)
 | i::l,s=>match p[i]? with
  | none=>(false,s)
  | some x=>if(iQ s.σ goal (c8 s.fresh x.1)).1=true then
   (true,⟨x.2.map (fun t=>⟨c8 s.fresh t,s.chs.length,at'⟩)++rest,(iQ s.σ goal (c8 s.fresh x.1)).2.1,s.tr++(iQ s.σ goal (c8 s.fresh x.1)).2.2,if l= [] then s.chs else s.chs++ [⟨goal,at',rest,l,s.tr.length,s.nn⟩],s.fresh+26,s.nn⟩)
   else fE p goal at' rest l { s with fresh:=s.fresh+26 }
def IS.pop(s:IS)(c:IC):IS:={ s with chs:=s.chs.dropLast,σ:=s.σ.out (s.tr.drop c.eT),tr:=s.tr.take c.eT,nn:=c.taken }
noncomputable def gE(p:List Cl):Nat→IS→Option IS
 | 0,_=>none
 | n+1,s=>match s.chs.getLast? with
  | none=>none
  | some c=>if(fE p c.goal c.node c.rest c.list (s.pop c)).1=true then some (fE p c.goal c.node c.rest c.list (s.pop c)).2 else gE p n (fE p c.goal c.node c.rest c.list (s.pop c)).2
noncomputable def lL(p:List Cl)(cnd:Tm→List Nat→List Nat)(s:IS)(g:IG)(rest:List IG):wD:=
 if eK (g.t.aK (rs s.σ))=false then .stop 3
 else if q9 (g.t.aK (rs s.σ))=true then .go { s with goals:=rest,chs:=s.chs.take g.cut,nn:=s.nn+1 }
 else if isBuiltin (g.t.aK (rs s.σ)).s ((g.t.aK (rs s.σ)).ts.length:Int)=true then
  if(cZ s.σ (g.t.aK (rs s.σ)).s (g.t.aK (rs s.σ)).ts).1=0 then .go { s with goals:=rest,σ:=(cZ s.σ (g.t.aK (rs s.σ)).s (g.t.aK (rs s.σ)).ts).2.1,tr:=s.tr++(cZ s.σ (g.t.aK (rs s.σ)).s (g.t.aK (rs s.σ)).ts).2.2,nn:=s.nn+1 }
  else if(cZ s.σ (g.t.aK (rs s.σ)).s (g.t.aK (rs s.σ)).ts).1=1 then .fail { s with σ:=(cZ s.σ (g.t.aK (rs s.σ)).s (g.t.aK (rs s.σ)).ts).2.1,tr:=s.tr++(cZ s.σ (g.t.aK (rs s.σ)).s (g.t.aK (rs s.σ)).ts).2.2,nn:=s.nn+1 }
  else .stop (oK (cZ s.σ (g.t.aK (rs s.σ)).s (g.t.aK (rs s.σ)).ts).1)
 else if d6 p (g.t.aK (rs s.σ))= [] then .stop 8
 else if(fE p (g.t.aK (rs s.σ)) s.nn rest (cnd (g.t.aK (rs s.σ)) (d6 p (g.t.aK (rs s.σ)))) { s with nn:=s.nn+1 }).1=true then .go (fE p (g.t.aK (rs s.σ)) s.nn rest (cnd (g.t.aK (rs s.σ)) (d6 p (g.t.aK (rs s.σ)))) { s with nn:=s.nn+1 }).2
 else .fail (fE p (g.t.aK (rs s.σ)) s.nn rest (cnd (g.t.aK (rs s.σ)) (d6 p (g.t.aK (rs s.σ)))) { s with nn:=s.nn+1 }).2
noncomputable def iT(p:List Cl)(cnd:Tm→List Nat→List Nat)(vars:List Int)(most fuel:Nat)(s:IS):List (List Tm)×Int:=
 match s.goals with
 | []=>if h:most=0 then([],1) else match iJ s.σ vars with
  | none=>([],3)
  | some a=>match gE p s.chs.length s with
   | none=>([a],0)
   | some s'=>(a::(iT p cnd vars (most - 1) fuel s').1,(iT p cnd vars (most - 1) fuel s').2)
 | g::rest=>if h:fuel=0 then([],2) else match lL p cnd s g rest with
  | .stop e=>([],e)
  | .go s'=>iT p cnd vars most (fuel - 1) s'
  | .fail s'=>match gE p s'.chs.length s' with
   | none=>([],0)
   | some s''=>iT p cnd vars most (fuel - 1) s''
termination_by most+fuel
decreasing_by all_goals omega
def nR(q:List Tm):IS:=⟨q.map fun t=>⟨t,0,-1⟩,Sub.none,[],[],26,0⟩
structure nJ (ρ:Int→Int) (N F:Nat) (σ τ:Sub):Prop where
 sim:fB ρ N σ τ
 rng:∀v,0≤v→v<(N:Int)→0≤ρ v∧ρ v<(F:Int)
 g1:cJ σ
 o1:cK (bD N) σ
 g2:cJ τ
 o2:cK (bD F) τ
 d1:∀n,¬(0≤n∧n<(N:Int))→σ n=none
 d2:∀n,¬(0≤n∧n<(F:Int))→τ n=none
 h26:26≤N
 idn:∀v,0≤v→v<26→ρ v=v
theorem nJ.mono{ρ:Int→Int}{N F F':Nat}{σ τ:Sub}(S:nJ ρ N F σ τ)(h:F≤F'):nJ ρ N F' σ τ:=
 ⟨S.sim,fun v h0 h1=>⟨(S.rng v h0 h1).1,by have:=(S.rng v h0 h1).2;omega⟩,S.g1,S.o1,S.g2,S.o2.imp fun t ht=>ht.mono (by omega),S.d1,fun n hn=>S.d2 n fun h'=>hn ⟨h'.1,by omega⟩,S.h26,S.idn⟩
def sN(ρ:Int→Int)(N F:Nat):Int→Int:=fun v=>if v<(N:Int) then ρ v else v - N+F
theorem tS{ρ:Int→Int}{N F:Nat}{v:Int}(h:v<(N:Int)):sN ρ N F v=ρ v:=aH h
theorem nJ.ext{ρ:Int→Int}{N F:Nat}{σ τ:Sub}(S:nJ ρ N F σ τ){k:Nat}(hk:k≤26):nJ (sN ρ N F) (N+k) (F+26) σ τ:=by
 have hH:∀v:Int,¬v<(N:Int)→sN ρ N F v=v - N+F:=fun v h=>aG h
 refine⟨⟨fun v w hv0 hv1 hw0 hw1 e=>?_,fun v h0 h1=>?_⟩,fun v h0 h1=>?_,S.g1,S.o1.imp fun t ht=>ht.mono (by omega),S.g2,S.o2.imp fun t ht=>ht.mono (by omega),fun n hn=>S.d1 n fun h=>hn ⟨h.1,by omega⟩,fun n hn=>S.d2 n fun h=>hn ⟨h.1,by omega⟩,by have:=S.h26;omega,fun v h0 h1=>by rw[tS (by have:=S.h26;omega)];exact S.idn v h0 h1⟩
 · by_cases hv:v<(N:Int)<;>by_cases hw:w<(N:Int)
   · rw[tS hv,tS hw] at e;exact S.sim.inj v w hv0 hv hw0 hw e
   · rw[tS hv,hH w hw] at e
     have:=S.rng v hv0 hv
     omega
   · rw[tS hw,hH v hv] at e
     have:=S.rng w hw0 hw
     omega
   · rw[hH v hv,hH w hw] at e
     omega
 · by_cases hv:v<(N:Int)
   · rw[tS hv,S.sim.map v h0 hv]
     cases hs:σ v with
     | none=>rfl
     | some u=>
      simp only[oB,Option.some.injEq]
      refine Q6 fun w hw=>?_
      rw[tS ((S.o1 v u hs).1.2.2 w hw).2]
   · rw[hH v hv,S.d1 v (fun h=>hv h.2),S.d2 _ (fun h=>by omega)]
     try rfl
 · by_cases hv:v<(N:Int)
   · rw[tS hv]
     have:=S.rng v h0 hv
     omega
   · rw[hH v hv];omega
theorem aHV(l:List Int):∀n:Int,n≤l.foldl (fun n v=>if n≤v then v+1 else n) n∧(∀v∈l,v<l.foldl (fun n v=>if n≤v then v+1 else n) n)∧∀m:Int,n≤m→(∀v∈l,v<m)→l.foldl (fun n v=>if n≤v then v+1 else n) n≤m:=by
 induction l with
 | nil=>intro n;exact⟨Int.le_refl _,by simp,fun m h _=>h⟩
 | cons x l ih=>
  intro n
  simp only[List.foldl_cons]
  obtain⟨h1,h2,h3⟩:=ih (if n≤x then x+1 else n)
  refine⟨?_,fun v hv=>?_,fun m hm hl=>h3 m ?_ fun v hv=>hl v (by simp [hv])⟩
  · split at h1<;>rename_i h<;>split<;>omega
  · rcases cQ.1 hv with rfl | hv
    · split at h1<;>rename_i h<;>split<;>omega
    · exact h2 v hv
  · have:=hl x (by simp)
    split<;>omega
structure fQ (c:Cl):Prop where
 head:bD 26 c.1
 body:∀t∈c.2,bD 26 t∧t.k=3
theorem fQ.vars{c:Cl}(h:fQ c){v:Int}:v∈bX (c.1::c.2) []↔∃t∈c.1::c.2,v∈t.vl:=by
 rw[xV]
 · simp
 · intro t ht
   rcases cQ.1 ht with rfl | ht
   · exact h.head.1.2.1
   · exact(h.body t ht).1.1.2.1
theorem fQ.CZ{c:Cl}(h:fQ c):∀t∈c.1::c.2,bD 26 t:=fun t ht=>by
 rcases cQ.1 ht with rfl | ht
 · exact h.head
 · exact(h.body t ht).1
theorem fQ.fr{c:Cl}(h:fQ c):nO c≤26∧∀t∈c.1::c.2,∀v∈t.vl,v<(nO c:Int):=by
 obtain⟨h1,h2,h3⟩:=aHV (bX (c.1::c.2) []) 0
 have hle:=h3 26 (by omega) fun v hv=>by
  obtain⟨t,ht,hv⟩:=h.vars.1 hv
  exact((h.CZ t ht).1.2.2 v hv).2
 unfold nO FN
 refine⟨by omega,fun t ht v hv=>?_⟩
 have:=h2 v (h.vars.2 ⟨t,ht,hv⟩)
 omega
theorem fQ.c8{c:Cl}(h:fQ c)(N:Nat):∀t∈c.1::c.2,bD ((N+nO c:Nat):Int) (c8 N t):=fun t ht=>by
 refine(h.CZ t ht).bT fun v hv=>?_
 have h1:=((h.CZ t ht).1.2.2 v hv).1
 have h2:=h.fr.2 t ht v hv
 omega
theorem RD{ρ:Int→Int}{N F:Nat}{c:Cl}(h:fQ c):∀t∈c.1::c.2,bT (sN ρ N F) (c8 N t)=c8 F t:=fun t ht=>by
 unfold AW.c8
 rw[show bT (sN ρ N F) (bT (fun v=>v+(N:Int)) t)=t.aK fun v=>vr (sN ρ N F (v+N)) from GO _ _ t]
 refine p8 t fun v hv=>?_
 have h1:=((h.CZ t ht).1.2.2 v hv).1
 show vr (sN ρ N F (v+(N:Int)))=vr (v+(F:Int))
 unfold sN
 rw[aG (by omega)]
 congr 1
 omega
theorem aLI{N:Nat}(t:Tm):(c8 N t).k=t.k:=xM _ t
def GL(ρ:Int→Int)(N:Nat)(gs:List RG)(hs:List IG):Prop:=hs.map (fun h=>(h.t,h.cut))=gs.map (fun g=>(bT ρ g.t,g.aU))∧∀g∈gs,bD N g.t∧g.t.k=3
theorem GL.ext{ρ ρ':Int→Int}{N N':Nat}{gs:List RG}{hs:List IG}(h:GL ρ N gs hs)(hN:N≤N')(hr:∀v,0≤v→v<(N:Int)→ρ' v=ρ v):GL ρ' N' gs hs:=by
 refine⟨h.1.trans (qM fun g hg=>?_),fun g hg=>⟨(h.2 g hg).1.mono (by omega),(h.2 g hg).2⟩⟩
 rw[Q6 (ρ:=ρ) (ρ':=ρ') fun v hv=>(hr v ((h.2 g hg).1.1.2.2 v hv).1 ((h.2 g hg).1.1.2.2 v hv).2).symm]
theorem GL.app{ρ:Int→Int}{N:Nat}{gs gs':List RG}{hs hs':List IG}(h:GL ρ N gs hs)(h':GL ρ N gs' hs'):GL ρ N (gs++gs') (hs++hs'):=by
 refine⟨by rw[mX,mX,h.1,h'.1],fun g hg=>?_⟩
 rcases dS.1 hg with hg | hg
 · exact h.2 g hg
 · exact h'.2 g hg
def C1(F:Nat)(c:RC)(d:IC)(τ:Sub):Prop:=∃ρ,nJ ρ c.N F c.σ τ∧d.goal=bT ρ c.goal∧bD c.N c.goal∧GL ρ c.N c.rest d.rest∧d.list=c.left
inductive iB (F:Nat):List RC→List IC→Sub→List Int→Prop
 | nil {τ:Sub} {tr:List Int}:iB F [] [] τ tr
 | snoc {cs:List RC} {ds:List IC} {c:RC} {d:IC} {τ:Sub} {tr:List Int} (h:iB F cs ds (τ.out (tr.drop d.eT)) (tr.take d.eT)) (h1:C1 F c d (τ.out (tr.drop d.eT))) (h2:d.eT≤tr.length):iB F (cs++ [c]) (ds++ [d]) τ tr
theorem iB.len{F:Nat}{cs:List RC}{ds:List IC}{τ:Sub}{tr:List Int}(h:iB F cs ds τ tr):ds.length=cs.length:=by
 induction h with
 | nil=>rfl
 | snoc _ _ _ ih=>simp [ih]
theorem iB.mono{F F':Nat}(hF:F≤F'){cs:List RC}{ds:List IC}{τ:Sub}{tr:List Int}(h:iB F cs ds τ tr):iB F' cs ds τ tr:=by
 induction h with
 | nil=>exact .nil
 | snoc _ h1 h2 ih=>exact .snoc ih (by obtain⟨ρ,h3,h4⟩:=h1;exact⟨ρ,h3.mono hF,h4⟩) h2
theorem aTZ(tr:List Int){a m:Nat}(h:a≤m)(n:Int):n∈tr.drop m++(tr.take m).drop a↔n∈tr.drop a:=by
 have e:tr.drop a=(tr.take m).drop a++tr.drop m:=by
  conv=>lhs;rw[←n9 m tr]
  rw[List.drop_append]
  by_cases hm:m≤tr.length
  · rw[dI,jX hm,show a - m=0 by omega,r0]
  · rw[List.drop_of_length_le (show tr.length≤m by omega)]
    simp
 rw[e,dS,dS,or_comm]
theorem iB.lift{F:Nat}{cs:List RC}{ds:List IC}{τ:Sub}{tr:List Int}{m:Nat}(h:iB F cs ds (τ.out (tr.drop m)) (tr.take m))(hm:m≤tr.length):iB F cs ds τ tr:=by
 generalize hτ:τ.out (tr.drop m)=τ' at h
 generalize htr:tr.take m=tr' at h
 cases h with
 | nil=>exact .nil
 | @snoc cs ds c d _ _ h h1 h2=>
  subst hτ htr
  have hd:d.eT≤m:=by rw[dI] at h2;omega
  have e1:(τ.out (tr.drop m)).out ((tr.take m).drop d.eT)=τ.out (tr.drop d.eT):=by
   rw[Sub.aZ2]
   exact Sub.aZ3 τ (aTZ tr hd)
  have e2:(tr.take m).take d.eT=tr.take d.eT:=by rw[yG,jX hd]
  rw[e1,e2] at h
  rw[e1] at h1
  exact .snoc h h1 (by omega)
theorem iB.more{F:Nat}{cs:List RC}{ds:List IC}{τ τ':Sub}{tr add:List Int}(h:iB F cs ds τ tr)(e:τ'.out add=τ):iB F cs ds τ' (tr++add):=by
 refine iB.lift (m:=tr.length) ?_ (by simp)
 rw[A1,D4,e]
 exact h
theorem iB.take{F:Nat}{cs:List RC}{ds:List IC}{τ:Sub}{tr:List Int}(h:iB F cs ds τ tr)(k:Nat):iB F (cs.take k) (ds.take k) τ tr:=by
 induction h with
 | nil=>simp;exact .nil
 | @snoc cs ds c d τ tr h h1 h2 ih=>
  have hl:=h.len
  by_cases hk:k≤cs.length
  · rw[A8 hk,A8 (by omega)]
    exact ih.lift h2
  · rw[mY (by simp;omega),mY (by simp;omega)]
    exact .snoc h h1 h2
def Rl(s:RS)(i:IS):Prop:=∃ρ,nJ ρ s.N i.fresh s.σ i.σ∧GL ρ s.N s.goals i.goals∧iB i.fresh s.chs i.chs i.σ i.tr
theorem yL.zT{N:Int}{σ:Sub}{a b:Tm}{r:Bool}{σ':Sub}{tr:List Int}(h:yL N σ a b r σ' tr):σ'.out tr=σ:=funext fun n=>h.out n
theorem mE.zT{N:Int}{σ σ':Sub}{add:List Int}(h:mE N σ σ' add):σ'.out add=σ:=by
 funext n
 unfold Sub.out
 split
 · rename_i hn;exact((h.new n hn).1).symm
 · rename_i hn;exact h.aU n hn
theorem mE.uZ{N:Nat}{σ σ':Sub}{add:List Int}(h:mE N σ σ' add)(hd:∀n,¬(0≤n∧n<(N:Int))→σ n=none):∀n,¬(0≤n∧n<(N:Int))→σ' n=none:=fun n hn=>by
 rw[h.aU n fun h'=>hn (h.fP n h')]
 exact hd n hn
theorem nJ.grow{ρ:Int→Int}{N F:Nat}{σ τ σ' τ':Sub}{add aO5:List Int}(S:nJ ρ N F σ τ)(h:mE N σ σ' add)(h':mE F τ τ' aO5)(s:fB ρ N σ' τ'):nJ ρ N F σ' τ':=
 ⟨s,S.rng,h.gJ,h.ok,h'.gJ,h'.ok,h.uZ S.d1,h'.uZ S.d2,S.h26,S.idn⟩
theorem nJ.zX{ρ:Int→Int}{N F:Nat}{σ τ:Sub}(S:nJ ρ N F σ τ){t:Tm}(h:bD N t):bD F (bT ρ t):=h.bT fun v hv=>S.rng v (h.1.2.2 v hv).1 (h.1.2.2 v hv).2
section
variable {p:List Cl} (hp:∀c∈p,fQ c)
include hp
theorem MA{cs:List RC}{goal:Tm}{rest:List RG}{σ:Sub}{N:Nat}{ρ:Int→Int}{Q8:List IG}{τ:Sub}{tr:List Int}{ds:List IC}{nn at':Nat}(hg:bD N goal)(hr:GL ρ N rest Q8) :
 ∀(l:List Nat) (F:Nat) (gl:List IG),nJ ρ N F σ τ→iB F cs ds τ tr →
 match iD p cs goal rest σ N l with
 | none=>∃F',F≤F'∧fE p (bT ρ goal) at' Q8 l ⟨gl,τ,tr,ds,F,nn⟩=(false,⟨gl,τ,tr,ds,F',nn⟩)
 | some s=>∃i,fE p (bT ρ goal) at' Q8 l ⟨gl,τ,tr,ds,F,nn⟩=(true,i)∧Rl s i:=by
 intro l
 induction l with
 | nil=>intro F gl S C;exact⟨F,cO _,rfl⟩
 | cons j l ih=>
  intro F gl S C
  unfold iD fE
  cases hj:p[j]? with
  | none=>exact⟨F,cO _,rfl⟩
  | some x=>
   have hx:=hp x (cG hj)
   have S2:=S.ext hx.fr.1
   have hgo:bT (sN ρ N F) goal=bT ρ goal:=Q6 fun v hv=>tS (hg.1.2.2 v hv).2
   have hhd:=hx.c8 N x.1 (by simp)
   have hgN:bD ((N+nO x:Nat):Int) goal:=hg.mono (by omega)
   obtain⟨r,σ',add,U⟩:=tD S2.g1 S2.o1 hgN hhd
   obtain⟨g,gQ⟩:=U.run
   obtain⟨τ',e,S',_⟩:=S2.sim.iQ S2.g1 S2.g2 S2.o1.lP hgN.1 hhd.1 gQ
   rw[hgo,RD hx x.1 (by simp)] at e
   have hF1:bD ((F+26:Nat):Int) (bT ρ goal):=by rw[←hgo];exact S2.zX hgN
   have hF2:bD ((F+26:Nat):Int) (c8 F x.1):=by rw[←RD (ρ:=ρ) (N:=N) (F:=F) hx x.1 (by simp)];exact S2.zX hhd
   obtain⟨r2,τ2,aO6,U2⟩:=tD S2.g2 S2.o2 hF1 hF2
   have e2:=U2.eq
   rw[e] at e2
   obtain⟨rfl,rfl,rfl⟩:r=r2∧τ'=τ2∧add.map (sN ρ N F)=aO6:=by simpa using e2
   simp only[U.eq,e]
   cases r with
   | false=>
    simp only[jF,cS]
    have:=ih (F+26) gl (S.mono (by omega)) (C.mono (by omega))
    cases hq:iD p cs goal rest σ N l with
    | none=>
     rw[hq] at this
     obtain⟨F',h1,h2⟩:=this
     exact⟨F',by omega,h2⟩
    | some s=>
     rw[hq] at this
     exact this
   | true=>
    simp only[dX]
    refine⟨_,rfl,sN ρ N F,S2.grow U.vW U2.vW S',?_,?_⟩
    · refine GL.app ⟨?_,fun g hg=>?_⟩ (hr.ext (show N≤N+nO x by omega) fun v _ hv=>tS hv)
      · simp only[r8]
        refine qM fun t ht=>?_
        simp only[DY]
        rw[RD hx t (by simp [ht]),C.len]
      · obtain⟨t,ht,rfl⟩:=bY.1 hg
        exact⟨hx.c8 N t (by simp [ht]),by rw[aLI];exact(hx.body t ht).2⟩
    · have C2:=(C.mono (show F≤F+26 by omega)).more U2.zT
      by_cases hl:l= []
      · simp only[aH hl]
        exact C2
      · simp only[aG hl]
        refine .snoc ?_ ?_ (by simp)
        · simp only[A1,D4,U2.zT]
          exact C.mono (by omega)
        · simp only[A1,U2.zT]
          exact⟨ρ,S.mono (by omega),rfl,hg,hr,rfl⟩
theorem NP:∀(n:Nat) (cs:List RC) (i:IS),iB i.fresh cs i.chs i.σ i.tr →
 match fF p n cs with
 | none=>gE p n i=none
 | some s=>∃i',gE p n i=some i'∧Rl s i':=by
 intro n
 induction n with
 | zero=>intro cs i C;simp only[fF,gE]
 | succ n ih=>
  intro cs i C
  obtain⟨gl,τ,tr,ds,F,nn⟩:=i
  simp only at C
  cases C with
  | nil=>simp only[fF,gE,List.getLast?_nil]
  | @snoc cs ds c d _ _ h h1 h2=>
   obtain⟨ρ,S,e1,hok,hG,e2⟩:=h1
   have key:=MA hp (cs:=cs) (nn:=d.taken) (at':=d.node) (tr:=tr.take d.eT) hok hG c.left F gl S h
   simp only[fF,gE,List.getLast?_append,List.getLast?_singleton,Option.some_or,MP]
   have e3:(IS.pop ⟨gl,τ,tr,ds++ [d],F,nn⟩ d)=⟨gl,τ.out (tr.drop d.eT),tr.take d.eT,ds,F,d.taken⟩:=by simp only[IS.pop,MP]
   rw[e1,e2,e3]
   cases ht:iD p cs c.goal c.rest c.σ c.N c.left with
   | none=>
    rw[ht] at key
    obtain⟨F',hF,e⟩:=key
    simp only[e,jF,cS]
    exact ih cs _ (h.mono hF)
   | some s=>
    rw[ht] at key
    obtain⟨i',e,hR⟩:=key
    simp only[e,dX]
    exact⟨i',rfl,hR⟩
variable {cnd:Tm→List Nat→List Nat} (hc:∀(ρ:Int→Int) (t:Tm) (l:List Nat),cnd (bT ρ t) l=cnd t l)
omit hp in
theorem aK1{ρ:Int→Int}{t:Tm}(h:t.k=3):(bT ρ t).s=t.s∧(bT ρ t).ts=t.ts.map (bT ρ)∧(bT ρ t).k=3:=by
 rw[C9 ρ (by omega)]
 exact⟨rfl,rfl,h⟩
omit hp in
theorem aU9{ρ:Int→Int}{t:Tm}(h:t.k=3):d6 p (bT ρ t)=d6 p t:=by
 obtain⟨h1,h2,_⟩:=aK1 (ρ:=ρ) h
 unfold d6 FU
 simp only[h1,h2,aE]
include hc
theorem aLV{s:RS}{i:IS}{g:RG}{gs:List RG}(hR:Rl s i)(hgs:s.goals=g::gs) :
 ∃h hs,i.goals=h::hs∧match iC p cnd s g gs with
 | .stop e=>lL p cnd i h hs=.stop e
 | .go s'=>∃i',lL p cnd i h hs=.go i'∧Rl s' i'
 | .fail=>∃i',lL p cnd i h hs=.fail i'∧iB i'.fresh s.chs i'.chs i'.σ i'.tr:=by
 obtain⟨ρ,S,hG,C⟩:=hR
 rw[hgs] at hG
 obtain⟨gl,τ,tr,ds,F,nn⟩:=i
 simp only at S hG C ⊢
 cases gl with
 | nil=>exact absurd hG.1 (by simp)
 | cons h hs=>
  refine⟨h,hs,rfl,?_⟩
  have hGt:GL ρ s.N gs hs:=⟨(uK hG.1).2,fun x hx=>hG.2 x (by simp [hx])⟩
  have he:=(uK hG.1).1
  simp only[Prod.mk.injEq] at he
  obtain⟨e1,e2⟩:=he
  obtain⟨hgX,hg3⟩:=hG.2 g (by simp)
  have hT:=S.sim.rsT S.g1 S.g2 S.o1.lP hgX.1
  obtain⟨rk,B,G⟩:=S.g1.rs
  have hV:=G.QK S.o1.lP hgX.1
  unfold iC lL
  simp only[e1,hT]
  have ht3:(g.t.aK (rs s.σ)).k=3:=by rw[Tm.rJ _ (by omega)];exact hg3
  generalize g.t.aK (rs s.σ)=t at *
  obtain⟨r1,r2,r3⟩:=aK1 (ρ:=ρ) ht3
  have eL:eK (bT ρ t)=eK t:=by unfold eK;rw[Q7 ρ hV.2.1,KW ρ hV.2.1]
  have FT:q9 (bT ρ t)=q9 t:=by unfold q9;rw[r1,r2,r3,ht3,aE]
  simp only[eL,FT,aU9 (p:=p) (ρ:=ρ) ht3,hc,r1,r2,aE]
  by_cases c1:eK t=false
  · rw[aH c1,aH c1]
  rw[aG c1,aG c1]
  have hX:bD s.N t:=⟨hV,by
   have:eK t=true:=by simpa using c1
   unfold eK at this
   simp only[cT,bM] at this
   exact this.2⟩
  by_cases c2:q9 t=true
  · rw[aH c2,aH c2]
    refine⟨_,rfl,ρ,S,hGt,?_⟩
    simp only[e2]
    exact C.take g.aU
  rw[aG c2,aG c2]
  by_cases c3:isBuiltin t.s (t.ts.length:Int)=true
  · rw[aH c3,aH c3]
    have hk:∀x∈t.ts,bD s.N x:=p9 _ t (by omega) hX
    obtain⟨q1,q2,q3⟩:=S.sim.cZ S.g1 S.g2 S.o1 t.s t.ts hk
    have q4:=K1 S.g1 S.o1 t.s t.ts hk
    have q5:=K1 S.g2 S.o2 t.s (t.ts.map (bT ρ)) (fun x hx=>by
     obtain⟨y,hy,rfl⟩:=bY.1 hx
     exact S.zX (hk y hy))
    rw[q1]
    by_cases c4:(cZ s.σ t.s t.ts).1=0
    · rw[aH c4,aH c4]
      exact⟨_,rfl,ρ,S.grow q4 q5 q3,hGt,C.more q5.zT⟩
    rw[aG c4,aG c4]
    by_cases c5:(cZ s.σ t.s t.ts).1=1
    · rw[aH c5,aH c5]
      exact⟨_,rfl,C.more q5.zT⟩
    rw[aG c5,aG c5]
  rw[aG c3,aG c3]
  by_cases c6:d6 p t= []
  · rw[aH c6,aH c6]
  rw[aG c6,aG c6]
  have key:=MA hp (at':=nn) (nn:=nn+1) hX hGt (cnd t (d6 p t)) F (h::hs) S C
  cases hq:iD p s.chs t gs s.σ s.N (cnd t (d6 p t)) with
  | none=>
   rw[hq] at key
   obtain⟨F',hF,e⟩:=key
   simp only[e,jF,cS]
   exact⟨_,rfl,C.mono hF⟩
  | some s'=>
   rw[hq] at key
   obtain⟨i',e,hR⟩:=key
   simp only[e,dX]
   exact⟨i',rfl,hR⟩
end
theorem aNH{ρ:Int→Int}{N:Int}{σ τ:Sub}(S:fB ρ N σ τ):∀(l:List Tm) (acc:List Int),(∀t∈l,cH N t)→(∀v∈acc,0≤v∧v<N)→bX (l.map (bT ρ)) (acc.map ρ)=(bX l acc).map ρ∧∀v∈bX l acc,0≤v∧v<N
 | [],acc,_,ha=>⟨rfl,ha⟩
 | t::l,acc,h,ha=>by
  obtain⟨e1,e2⟩:=a32 (D:=fun v=>0≤v∧v<N) (h:=ρ) (fun v w hv hw e=>S.inj v w hv.1 hv.2 hw.1 hw.2 e) (f:=fun v=>vr (ρ v)) (fun _ _=>rfl) t (Tm.tM t (h t (by simp)).2.1) (h t (by simp)).2.2 acc ha
  simp only[bR,bX]
  rw[show(bT ρ t).vars (acc.map ρ)=(t.vars acc).map ρ from e1]
  exact aNH S l _ (fun x hx=>h x (by simp [hx])) e2
theorem a0Y{ρ:Int→Int}{N:Int}{σ τ:Sub}(S:fB ρ N σ τ){l:List Tm}(h:∀t∈l,cH N t):oZ (l.map (bT ρ))=oZ l∧(bX (l.map (bT ρ)) []).length=(bX l []).length:=by
 obtain⟨e1,e2⟩:=aNH S l [] h (by simp)
 rw[bQ] at e1
 refine⟨?_,by rw[e1,aE]⟩
 unfold oZ
 rw[e1,r8]
 refine qM fun t ht=>?_
 simp only[DY]
 rw[GO]
 refine p8 t fun v hv=>?_
 rw[aJH (D:=fun v=>0≤v∧v<N) (fun v w hv hw e=>S.inj v w hv.1 hv.2 hw.1 hw.2 e) v ((h t ht).2.2 v hv) _ _ e2]
theorem aO9{ρ:Int→Int}{N F:Nat}{σ τ:Sub}(S:nJ ρ N F σ τ){vars:List Int}(hv:∀v∈vars,0≤v∧v<26):iJ τ vars=iJ σ vars:=by
 obtain⟨rk,B,G⟩:=S.g1.rs
 have hid:=S.idn
 have h26:=S.h26
 have e:vars.map (rs τ)=(vars.map (rs σ)).map (bT ρ):=by
  rw[r8]
  refine qM fun v h=>?_
  obtain⟨h0,h1⟩:=hv v h
  have:=S.sim.rs S.g1 S.g2 S.o1.lP v h0 (by omega)
  rw[hid v h0 h1] at this
  exact this
 have hok:∀t∈vars.map (rs σ),cH N t:=fun t ht=>by
  obtain⟨v,h,rfl⟩:=bY.1 ht
  obtain⟨h0,h1⟩:=hv v h
  exact G.lP S.o1.lP v h0 (by omega)
 obtain⟨e1,e2⟩:=a0Y S.sim hok
 have e3:((vars.map (rs σ)).map (bT ρ)).all eK=(vars.map (rs σ)).all eK:=by
  rw[List.all_map,x9,eD,eD]
  have:∀t∈vars.map (rs σ),eK (bT ρ t)=eK t:=fun t ht=>by unfold eK;rw[Q7 ρ (hok t ht).2.1,KW ρ (hok t ht).2.1]
  constructor
  · intro h t ht;rw[←this t ht];exact h t ht
  · intro h t ht;simp only[DY];rw[this t ht];exact h t ht
 unfold iJ
 rw[e,e1,e2,e3]
section
variable {p:List Cl} (hp:∀c∈p,fQ c) {cnd:Tm→List Nat→List Nat} (hc:∀(ρ:Int→Int) (t:Tm) (l:List Nat),cnd (bT ρ t) l=cnd t l)
include hp hc
theorem a07{vars:List Int}(hv:∀v∈vars,0≤v∧v<26):∀(n most fuel:Nat) (s:RS) (i:IS),most+fuel≤n→Rl s i→iT p cnd vars most fuel i=iA p cnd vars most fuel s:=by
 intro n
 induction n with
 | zero=>
  intro most fuel s i hn hR
  obtain⟨rfl,rfl⟩:most=0∧fuel=0:=by omega
  obtain⟨ρ,S,hG,C⟩:=hR
  rw[iT,iA]
  cases hgs:s.goals with
  | nil=>
   rw[hgs] at hG
   have hi:i.goals= []:=List.map_eq_nil_iff.1 hG.1
   simp [hi]
  | cons g gs=>
   rw[hgs] at hG
   cases hi:i.goals with
   | nil=>rw[hi] at hG;exact absurd hG.1 (by simp)
   | cons h hs=>simp
 | succ n ih=>
  intro most fuel s i hn hR
  cases hgs:s.goals with
  | nil=>
   obtain⟨ρ,S,hG,C⟩:=hR
   rw[hgs] at hG
   have hi:i.goals= []:=List.map_eq_nil_iff.1 hG.1
   rw[iT,iA]
   simp only[hgs,hi]
   by_cases hm:most=0
   · simp [hm]
   simp only[hm,dif_neg,GG]
   rw[aO9 S hv]
   cases iJ s.σ vars with
   | none=>rfl
   | some a=>
    simp only
    have key:=NP hp s.chs.length s.chs i C
    rw[C.len]
    cases hb:fF p s.chs.length s.chs with
    | none=>rw[hb] at key;simp only[key]
    | some s'=>
     rw[hb] at key
     obtain⟨i',e,hR'⟩:=key
     simp only[e]
     rw[ih (most - 1) fuel s' i' (by omega) hR']
  | cons g gs=>
   obtain⟨h,hs,hi,key⟩:=aLV hp hc hR hgs
   rw[iT,iA]
   simp only[hgs,hi]
   by_cases hf:fuel=0
   · simp [hf]
   simp only[hf,dif_neg,GG]
   cases hq:iC p cnd s g gs with
   | stop e=>
    rw[hq] at key
    simp only[key]
   | go s'=>
    rw[hq] at key
    obtain⟨i',e,hR'⟩:=key
    simp only[e]
    exact ih most (fuel - 1) s' i' (by omega) hR'
   | fail=>
    rw[hq] at key
    obtain⟨i',e,C'⟩:=key
    simp only[e]
    have KE:=NP hp s.chs.length s.chs i' C'
    rw[C'.len]
    cases hb:fF p s.chs.length s.chs with
    | none=>rw[hb] at KE;simp only[KE]
    | some s'=>
     rw[hb] at KE
     obtain⟨i'',e2,hR'⟩:=KE
     simp only[e2]
     exact ih most (fuel - 1) s' i'' (by omega) hR'
omit hp hc in
theorem aLU{q:List Tm}(hq:∀t∈q,bD 26 t∧t.k=3):Rl (lR q) (nR q):=by
 refine⟨fun v=>v,⟨⟨fun v w _ _ _ _ e=>e,fun v _ _=>rfl⟩,fun v h0 h1=>⟨h0,h1⟩,cJ.none,fun n u h=>(by cases h),cJ.none,fun n u h=>(by cases h),fun _ _=>rfl,fun _ _=>rfl,cO _,fun _ _ _=>rfl⟩,⟨?_,fun g hg=>?_⟩,.nil⟩
 · simp only[nR,lR,r8]
   refine qM fun t ht=>?_
   simp only[DY]
   rw[show bT (fun v=>v) t=t from P9 t (hq t ht).1.1.2.1]
 · simp only[lR] at hg
   obtain⟨t,ht,rfl⟩:=bY.1 hg
   exact hq t ht
theorem a1Y{q:List Tm}(hq:∀t∈q,bD 26 t∧t.k=3)(most fuel:Nat):iT p cnd (bX q []) most fuel (nR q)=uC p cnd q most fuel:=by
 refine a07 hp hc (fun v hv=>?_) _ most fuel _ _ (cO _) (aLU hq)
 rw[xV _ _ fun t ht=>(hq t ht).1.1.2.1] at hv
 rcases hv with hv | ⟨t,ht,hv⟩
 · cases hv
 · exact(hq t ht).1.1.2.2 v hv
end
theorem aTK{c:Cl}(h:pO c=true):fQ c:=by
 simp only[pO,cT,bM,eD] at h
 refine⟨⟨Tm.HF h.1.1,Tm.HE h.1.1⟩,fun t ht=>?_⟩
 have hg:=h.2.2 t ht
 have hk:t.valid=true∧t.k=3:=by
  obtain⟨k,n,s,ts⟩:=t
  simp only[Tm.goal,cT] at hg
  refine⟨hg.1,?_⟩
  have:=hg.2
  simp only[xA,qB,n7,cT,bM] at this
  simp only[Tm.k]
  rcases this with (h | h) | h<;>first | exact h.1 | exact h.1.1 | exact h.1.1.1
 exact⟨⟨Tm.HF hk.1,Tm.HE hk.1⟩,hk.2⟩
def oU(l:List IC):Nat:=(l.map fun c=>c.list.length).sum
theorem P8(l m:List IC):oU (l++m)=oU l+oU m:=by simp [oU]
theorem aJT(c:IC):oU [c]=c.list.length:=by simp [oU]
theorem aJU(l:List IC)(k:Nat):oU (l.take k)≤oU l:=by
 have:=P8 (l.take k) (l.drop k)
 rw[n9] at this
 omega
structure IX (p:List Cl) (M:Nat) (i:IS):Prop where
 tnd:i.tr.Nodup
 tin:∀n∈i.tr,(0≤n∧n<(i.fresh:Int))∧i.σ n≠none
 phi:i.fresh+26*oU i.chs≤M
 ch:∀c∈i.chs,c.node<c.taken∧c.taken≤i.nn∧c.eT≤i.tr.length∧∀x∈c.list,x<p.length
 mono:i.chs.Pairwise (fun c d=>c.taken≤d.taken∧c.eT≤d.eT)
theorem IX.up{p:List Cl}{M M':Nat}{i:IS}(h:IX p M i)(hM:M≤M'):IX p M' i:=⟨h.tnd,h.tin,pH h.phi hM,h.ch,h.mono⟩
theorem IX.SV{p:List Cl}{M:Nat}{i:IS}(h:IX p M i):i.tr.length≤i.fresh:=CW h.tnd fun n hn=>(h.tin n hn).1
theorem KB{p:List Cl}(hp:∀c∈p,fQ c){M:Nat}{goal:Tm}{at':Nat}{rest:List IG}:∀(l:List Nat) (s:IS),(∀x∈l,x<p.length)→at'<s.nn→s.fresh+26*oU s.chs+26*l.length≤M→IX p M s→cJ s.σ→cK (bD s.fresh) s.σ→bD s.fresh goal →
 IX p M (fE p goal at' rest l s).2
 | [],s,_,_,_,h,_,_,_=>by unfold fE;exact h
 | j::l,s,hl,ha,hM,h,hg,ho,hgo=>by
  obtain⟨x,hx⟩:∃x,p[j]?=some x:=⟨_,dZ (hl j (by simp))⟩
  have hX:=hp x (cG hx)
  have hl':∀x∈l,x<p.length:=fun x h=>hl x (by simp [h])
  simp only[a8] at hM
  unfold fE
  simp only[hx]
  split
  · have hhd:bD ((s.fresh+26:Nat):Int) (c8 s.fresh x.1):=(hX.c8 s.fresh x.1 (by simp)).mono (by have:=hX.fr.1;omega)
    obtain⟨r,σ',add,U⟩:=tD (N:=s.fresh+26) hg (fun n u e=>(ho n u e).mono (by omega)) (hgo.mono (by omega)) hhd
    rw[U.eq]
    have S:=U.vW
    refine⟨?_,?_,?_,?_,?_⟩
    · simp only
      refine jW.2 ⟨h.tnd,S.nodup,fun a ha b hb e=>?_⟩
      subst e
      exact(h.tin a ha).2 (S.new a hb).1
    · intro n hn
      simp only[dS] at hn ⊢
      rcases hn with hn | hn
      · have h1:=h.tin n hn
        have hna:n∉add:=fun ha=>h1.2 (S.new n ha).1
        exact⟨⟨h1.1.1,by have:=h1.1.2;omega⟩,by rw[S.aU n hna];exact h1.2⟩
      · have:=S.fP n hn
        exact⟨⟨this.1,by omega⟩,(S.new n hn).2⟩
    · simp only
      split
      · omega
      · rw[P8,aJT];simp only;omega
    · intro c hc
      have key:∀c∈s.chs,c.node<c.taken∧c.taken≤s.nn∧c.eT≤(s.tr++add).length∧∀x∈c.list,x<p.length:=fun c hc=>by
       obtain⟨h1,h2,h3,h4⟩:=h.ch c hc
       exact⟨h1,h2,by rw[dP];omega,h4⟩
      simp only at hc ⊢
      split at hc
      · exact key c hc
      · rcases dS.1 hc with hc | hc
        · exact key c hc
        · simp only[cQ,dD,dN] at hc
          subst hc
          exact⟨ha,cO _,by rw[dP];simp only;omega,hl'⟩
    · simp only
      split
      · exact h.mono
      · refine List.pairwise_append.2 ⟨h.mono,List.pairwise_singleton _ _,fun a ha b hb=>?_⟩
        simp only[cQ,dD,dN] at hb
        subst hb
        obtain⟨h1,h2,h3,h4⟩:=h.ch a ha
        exact⟨h2,h3⟩
  · refine KB hp l { s with fresh:=s.fresh+26 } hl' ha (by simp only;omega) ⟨h.tnd,fun n hn=>?_,by simp only;omega,h.ch,h.mono⟩ hg (fun n u e=>(ho n u e).mono (by simp only;omega)) (hgo.mono (by simp only;omega))
    have:=h.tin n hn
    exact⟨⟨this.1.1,by simp only;omega⟩,this.2⟩
theorem IX.pop{p:List Cl}{M:Nat}{gl:List IG}{τ:Sub}{tr:List Int}{ds:List IC}{d:IC}{F nn:Nat}(h:IX p M ⟨gl,τ,tr,ds++ [d],F,nn⟩) :
 IX p M ⟨gl,τ.out (tr.drop d.eT),tr.take d.eT,ds,F,d.taken⟩∧F+26*oU ds+26*d.list.length≤M∧d.node<d.taken∧d.taken≤nn∧d.eT≤tr.length∧∀x∈d.list,x<p.length:=by
 obtain⟨h1,h2,h3,h4⟩:=h.ch d (by simp)
 have aXD:=h.phi
 simp only[P8,aJT] at aXD
 have hm:=List.pairwise_append.1 h.mono
 have hnd:=h.tnd
 simp only at hnd h2 h3
 have hsp:tr.take d.eT++tr.drop d.eT=tr:=n9 _ _
 rw[←hsp,jW] at hnd
 refine⟨⟨hnd.1,fun n hn=>?_,by simp only;omega,fun c hc=>?_,hm.1⟩,by omega,h1,h2,h3,h4⟩
 · have:=h.tin n (pG hn)
   refine⟨this.1,?_⟩
   simp only
   unfold Sub.out
   rw[aG (fun hd=>hnd.2.2 n hn n hd rfl)]
   exact this.2
 · obtain⟨g1,g2,g3,g4⟩:=h.ch c (by simp [hc])
   have:=hm.2.2 c hc d (by simp)
   exact⟨g1,this.1,by simp only[dI];simp only at g3;omega,g4⟩
theorem aJC{p:List Cl}(hp:∀c∈p,fQ c){M:Nat}:∀(n:Nat) (cs:List RC) (i:IS),iB i.fresh cs i.chs i.σ i.tr→IX p M i→∀i',gE p n i=some i'→IX p M i'
 | 0,_,_,_,_,i',h=>by simp [gE] at h
 | n+1,cs,i,C,h,i',e=>by
  obtain⟨gl,τ,tr,ds,F,nn⟩:=i
  simp only at C
  cases C with
  | nil=>simp only[gE,List.getLast?_nil] at e;cases e
  | @snoc cs ds c d _ _ C h1 h2=>
   obtain⟨hP,hM,hnt,htn,htr,hli⟩:=h.pop
   have e3:(IS.pop ⟨gl,τ,tr,ds++ [d],F,nn⟩ d)=⟨gl,τ.out (tr.drop d.eT),tr.take d.eT,ds,F,d.taken⟩:=by simp only[IS.pop,MP]
   simp only[gE,List.getLast?_append,List.getLast?_singleton,Option.some_or,e3] at e
   obtain⟨ρ,S,e1,hok,hG,e2⟩:=h1
   have hX:=KB hp (rest:=d.rest) d.list _ hli (at':=d.node) (by simp only;exact hnt) (by simp only;exact hM) hP S.g2 S.o2 (e1▸S.zX hok)
   split at e
   · cases e
     exact hX
   · rename_i hf
     have key:=MA hp (cs:=cs) (nn:=d.taken) (at':=d.node) (tr:=tr.take d.eT) hok hG c.left F gl S C
     rw[←e1,←e2] at key
     cases ht:iD p cs c.goal c.rest c.σ c.N c.left with
     | some s=>
      rw[e2,ht] at key
      obtain⟨i2,k1,_⟩:=key
      rw[←e2] at k1
      rw[k1] at hf
      simp at hf
     | none=>
      rw[e2,ht] at key
      obtain⟨F',hF,k1⟩:=key
      rw[←e2] at k1
      rw[k1] at e hX
      exact aJC hp n cs _ (C.mono hF) hX i' e
def dE:AV→List Nat
 | .mslice b _ _ _=>[b]
 | _=>[]
def Trail(st:aA)(q:AV)(tr:List Int):Prop:=
 (q=.fslice []∧tr= [])∨∃b cs,q=.mslice b 0 tr.length 1∧st b=some (.cells cs)∧cs.take tr.length=tr.map iv
structure fR (st:aA) (c m:Nat) (q:AV) (σ:Sub) (tr:List Int):Prop where
 sub:iG st c m q σ
 eT:Trail st q tr
 apart:c∉dE q
structure lW (c m:Nat) (st:aA) (q:AV) (st':aA) (q':AV):Prop where
 frame:∀b o,st b=some o→b≠c→b≠m→b∉dE q→st' b=some o
 fresh:∀b∈dE q',b∈dE q∨st b=none
def uO(c m:Nat)(st:aA)(q:AV)(σ':Sub)(tr':List Int)(st':aA):Prop:=∃q',fR st' c m q' σ' tr'∧lW c m st q st' q'
theorem lW.refl(c m:Nat)(st:aA)(q:AV):lW c m st q st q:=⟨fun _ _ h _ _ _=>h,fun _ h=>.inl h⟩
theorem lW.trans{c m:Nat}{st st' xO:aA}{q q' q'':AV}{σ:Sub}{tr:List Int}(x:lW c m st q st' q')(hS:fR st' c m q' σ tr)(y:lW c m st' q' xO q''):lW c m st q xO q'':=by
 refine⟨fun b o h h1 h2 h3=>?_,fun b hb=>?_⟩
 · refine y.frame b o (x.frame b o h h1 h2 h3) h1 h2 fun h4=>?_
   rcases x.fresh b h4 with h5 | h5
   · exact h3 h5
   · rw[h5] at h;cases h
 · rcases y.fresh b hb with h | h
   · exact x.fresh b h
   · by_cases h1:b∈dE q
     · exact .inl h1
     · refine .inr ?_
       cases hst:st b with
       | none=>rfl
       | some o=>
        exfalso
        by_cases hc:b=c
        · subst hc;rw[hS.sub.cells] at h;cases h
        · by_cases hm:b=m
          · subst hm;rw[hS.sub.map] at h;cases h
          · rw[x.frame b o hst hc hm h1] at h;cases h
theorem fR.GY{st:aA}{c m:Nat}{q:AV}{σ:Sub}{tr:List Int}(h:fR st c m q σ tr):∀b∈dE q,∃cs,st b=some (.cells cs):=by
 intro b hb
 rcases h.eT with ⟨rfl,_⟩ | ⟨b',cs,rfl,hb',_⟩
 · simp [dE] at hb
 · simp only[dE,cQ,dD,dN] at hb;subst hb;exact⟨cs,hb'⟩
theorem fR.KG{st:aA}{c m:Nat}{q:AV}{σ:Sub}{tr:List Int}(h:fR st c m q σ tr):m∉dE q:=fun hb=>by
 obtain⟨cs,e⟩:=h.GY m hb
 rw[h.sub.map] at e;cases e
theorem fR.aC{st:aA}{c m b:Nat}{q:AV}{σ:Sub}{tr:List Int}{o:AO}(h:fR st c m q σ tr)(h1:b≠c)(h2:b≠m)(h3:b∉dE q):fR (st.aC b o) c m q σ tr:=by
 refine⟨h.sub.MG h1 h2,?_,h.apart⟩
 rcases h.eT with h4 | ⟨b',cs,e1,e2,e3⟩
 · exact .inl h4
 · refine .inr ⟨b',cs,e1,?_,e3⟩
   rw[aA.aF _ _ (by rintro rfl;exact h3 (by rw[e1];simp [dE]))]
   exact e2
theorem fR.DT{st:aA}{c m b:Nat}{q:AV}{σ:Sub}{tr:List Int}{o:AO}(h:fR st c m q σ tr)(hb:st b=none):fR (st.aC b o) c m q σ tr:=
 h.aC (h.sub.ne hb).1 (h.sub.ne hb).2 fun h3=>by obtain⟨cs,e⟩:=h.GY b h3;rw[hb] at e;cases e
theorem lW.DT{c m b:Nat}{st:aA}{q:AV}{o:AO}(hb:st b=none):lW c m st q (st.aC b o) q:=
 ⟨fun x p h _ _ _=>by rw[aA.aF _ _ (by rintro rfl;rw[hb] at h;cases h)];exact h,fun _ h=>.inl h⟩
theorem fR.shape{st:aA}{c m:Nat}{q:AV}{σ:Sub}{tr:List Int}(h:fR st c m q σ tr):q.isAgg=false∧q.width=1∧q.cD=false∧q.cells= [q]∧q.storable=true:=by
 rcases h.eT with ⟨rfl,_⟩ | ⟨b',cs,rfl,_⟩<;>exact⟨rfl,rfl,rfl,rfl,rfl⟩
theorem uO.from{c m:Nat}{st s0 st':aA}{q q0:AV}{σ σ':Sub}{tr tr':List Int}(h:uO c m s0 q0 σ' tr' st')(x:lW c m st q s0 q0)(hS:fR s0 c m q0 σ tr):uO c m st q σ' tr' st':=by
 obtain⟨q',h1,h2⟩:=h
 exact⟨q',h1,x.trans hS h2⟩
theorem a3A{P:Program}{t:TypeId}{ag:Bool}{bytes:Nat}{zs:List AV}{st:aA}{c m:Nat}{q:AV}{σ:Sub}{tr:List Int}{n:Int}{K:AV→aA→Prop}(hI:eI P t=some (ag,1))(hB:eB P t=some bytes)(hZ:eZ P t=some zs)(hz:zs.length=1)(hb8:bytes≤16)
 (h:fR st c m q σ tr) (hl:tr.length+1≤1099511627776)
 (hK:∀q' st',Trail st' q' (tr++ [n])→c∉dE q'→m∉dE q'→(∀x,x∉dE q→x∉dE q'→st' x=st x)→(∀x∈dE q',x∈dE q∨st x=none)→K q' st'):iZ P t st q (.fslice [.int .i64 n]) K:=by
 have eL:uV 1 [AV.int .i64 n]:=by intro e he;simp only[cQ,dD,dN] at he;subst he;exact⟨rfl,rfl⟩
 have xC:(tr.length+1)*bytes≤140737488355328:=by
  have:=HO hl hb8
  omega
 unfold iZ
 simp only[hI,hB,hZ,wJ]
 refine⟨hz,eL,?_⟩
 have hcm:∀x,st x=none→x≠c∧x≠m:=fun x hx=>h.sub.ne hx
 rcases h.eT with ⟨rfl,rfl⟩ | ⟨b,cs,rfl,hb,hcs⟩
 · simp only[bL,a8,gU] at xC ⊢
   refine⟨by omega,by omega,by simp,fun h=>by simp at h,fun _ b hb=>?_⟩
   refine hK _ _ (.inr ⟨b,[.int .i64 n],rfl,aA.aJ _ _ _,rfl⟩) (by simp only[dE,cQ,dD,dN];exact dF (hcm b hb).1) (by simp only[dE,cQ,dD,dN];exact dF (hcm b hb).2) (fun x _ hx=>?_) (fun x hx=>?_)
   · simp only[dE,cQ,dD,dN] at hx
     rw[aA.aF _ _ hx]
   · simp only[dE,cQ,dD,dN] at hx
     subst hx;exact .inr hb
 · simp only[a8,bL,gU,hb]
   have hlen:tr.length≤cs.length:=by
    have:=gI List.length hcs
    simp only[dI,aE] at this
    omega
   have hca:c≠b:=fun e=>h.apart (by simp [dE,e])
   have hma:m≠b:=fun e=>h.KG (by simp [dE,e])
   have hH:cs.take (tr.length*1)++ [AV.int .i64 n].flatMap AV.cells=(tr++ [n]).map iv:=by rw[uM,hcs];simp [AV.cells]
   refine⟨trivial,xC,by omega,by omega,?_,fun b' hb'=>?_⟩
   · rw[hH]
     refine hK _ _ (.inr ⟨b,_,by simp,aA.aJ _ _ _,by rw[mY (by simp)]⟩) (by simpa [dE] using hca) (by simpa [dE] using hma) (fun x hx _=>?_) (fun x hx=>.inl hx)
     simp only[dE,cQ,dD,dN] at hx
     rw[aA.aF _ _ hx]
   · rw[hH]
     obtain⟨hc',hm'⟩:=hcm b' hb'
     refine hK _ _ (.inr ⟨b',_,by simp,aA.aJ _ _ _,by rw[mY (by simp)]⟩) (by simpa [dE] using dF hc') (by simpa [dE] using dF hm') (fun x hx hx'=>?_) (fun x hx=>?_)
     · simp only[dE,cQ,dD,dN] at hx hx'
       rw[aA.aF _ _ hx']
       simp [aA.erase,hx]
     · simp only[dE,cQ,dD,dN] at hx
       subst hx;exact .inr hb'
end Go.AW
namespace Go.AW
open Go.Proofs.Tryz
abbrev AE:=zi tI_3 (zi zI_3 (zi a7 (zi tI_4 (zi zI_4 (zi cL (zi tI_66 (zi zI_66 (zi b9 (zi cA (zi cB (zi cC (zi bZ (zi tI_141 (zi zI_141 (zi AJ (zi tI_227 (zi zI_227 (zi tI_304 (zi zI_304 (zi B9 (zi CA BR)))))))))))))))))))))
theorem IN{σ:Sub}{f:Nat}{t u:Tm}(hw:fM σ f t u)(c m:Nat)(q:AV)(st:aA)(hS:iG st c m q σ):aD prog 380 [.ptr c 0,t.av] st (fun r st'=>r=u.av∧st'=st):=by
 refine aD.done ?_
 refine wF [1000000,3] 2 func380 ntmps380 rfl rfl ?_
 intro _
 simp -implicitDefEqProofs only[aB,seval,AE]
 intro b3 h3 b4 h4
 have hne:b4≠b3:=by rintro rfl;rw[aA.aJ] at h4;cases h4
 have hn4:st b4=none:=by rw[aA.aF st _ hne] at h4;exact h4
 have hD:∀o o',aM ((st.aC b3 o).aC b4 o') st:=fun o o'=>((aM.refl _).aC h3).aC hn4
 have hS':∀o o',iG ((st.aC b3 o).aC b4 o') c m q σ:=fun o o'=>(hS.aC h3).aC (by rw[aA.aF _ _ hne];exact hn4)
 obtain⟨aW1,a6F⟩:=hS.ne h3
 obtain⟨aW2,a6G⟩:=hS.ne hn4
 refine pC (σ:=Nat×Tm) [1000000,3] [0,3,4] (fun p=>fM σ p.1 p.2 u) (fun p=>[]) (fun p=>(st.aC b3 (.cells p.2.av.cells)).aC b4 (.cells [.int .i64 0,.int .i64 0,.str ⟨#[]⟩,.fslice []])) (fun p=>p.1) (by decide +kernel) ⟨(f,t),hw,aN.mk (by simp -implicitDefEqProofs only[aB,seval])⟩ ?_
 rintro⟨g,t⟩ hw
 obtain⟨k,n,s,ts⟩:=t
 simp only at hw
 simp only[bA]
 simp -implicitDefEqProofs only[hne.symm,aB,seval,AE]
 refine aT (fun h=>?_) (fun h=>?_)
 case refine_2=>
  simp only[cM] at h
  cases hw with
  | go h1=>exact absurd h1 h
  | stop=>
   simp -implicitDefEqProofs only[aP,hne.symm,aB,seval,AE]
   exact⟨by rw[←bA,Tm.soft],hD _ _⟩
 simp only[bM] at h
 simp -implicitDefEqProofs only[aB,seval]
 refine wP [(0,1),(1,1),(2,1),(4,1),(3,2),(5,2),(6,2),(7,1),(8,1),(9,1),(10,0),(11,0),(12,1)] [0,1,2,4,3,5,6,7,8,9,12] mixed ?_
 have hl:=fun(st':aA) (hm:st' m=some (AO.map (mapOf σ)))=>aY0 (P:=prog) (n:=n) hm AJ a7 a4C
 simp -implicitDefEqProofs only[hne.symm,hS.cells,aW1.symm,aW2.symm,aB,seval,AE]
 rw[hl _ (hS' _ _).map]
 cases hw with
 | stop hs=>
  rw[show σ n=none from hs h]
  simp -implicitDefEqProofs only[found,aP,aB,seval,AE]
  intro b5 h5
  have h53:b5≠b3:=by rintro rfl;simp [aA.aF,aA.aJ,hne.symm] at h5
  have h54:b5≠b4:=by rintro rfl;simp [aA.aJ] at h5
  have hn5:st b5=none:=by rw[aA.aF _ _ h54,aA.aF _ _ h53] at h5;exact h5
  simp -implicitDefEqProofs only[aP,hne.symm,h53.symm,h54.symm,aB,seval,AE]
  exact⟨by rw[←bA,Tm.soft],((((aM.refl _).aC h3).aC hn4).aC hn5).aC hn4⟩
 | go _ h2 h3'=>
  rw[show σ n=some _ from h2]
  simp -implicitDefEqProofs only[found,aP,aB,seval,AE]
  intro b5 h5
  have h53:b5≠b3:=by rintro rfl;simp [aA.aF,aA.aJ,hne.symm] at h5
  have h54:b5≠b4:=by rintro rfl;simp [aA.aJ] at h5
  have hn5:st b5=none:=by rw[aA.aF _ _ h54,aA.aF _ _ h53] at h5;exact h5
  simp -implicitDefEqProofs only[hne.symm,h53.symm,aB,seval]
  refine⟨(_,_),Nat.lt_succ_self _,h3',aN.drop (fun x=>?_) (by simp -implicitDefEqProofs only[aB,seval])⟩
  by_cases e3:x=b3<;>by_cases e4:x=b4<;>by_cases e5:x=b5<;>simp_all [aA.aC]
abbrev aMR:=zi tI_3 (zi zI_3 (zi a7 (zi tI_31 (zi zI_31 (zi aR (zi bO (zi bP (zi cF (zi tI_66 (zi zI_66 (zi b9 (zi cA (zi cB (zi cC bZ))))))))))))))
theorem aQF(l:List Tm)(g:FuncId)(cY:List AV)(p:Tm→Bool)(J E:aA→Prop)(hc:∀x∈l,∀s,J s→aD prog g ([Tm.av x]++cY) s (fun r s'=>r=.bool (p x)∧(p x=true→E s')∧(p x=false→J s')))(st:aA)(h0:J st) :
 aD prog 218 [.slice (l.map Tm.av),.func g cY] st (fun r st'=>r=.int .i64 (nS p l 0)∧(l.any p=true→E st')∧(l.any p=false→J st')):=by
 refine wF [1000000] 2 func218 ntmps218 rfl rfl ?_
 simp only[dK,AV.fits,dT,aE]
 intro ⟨hl,_⟩
 simp -implicitDefEqProofs only[aE,aB,seval,aMR]
 refine dL (σ:=aA) [1000000] [0,1,7] l (fun i s=>J s∧nS p (l.drop i) i=nS p l 0∧(l.drop i).any p=l.any p) (fun i _=>[(8,.int .i64 i)]) (fun _ s=>s) (by decide +kernel) ⟨st,⟨h0,rfl,rfl⟩,aN.mk (by simp -implicitDefEqProofs only[aB,↓aY,seval])⟩ (fun i x s hx hlt bB hdr hinv=>?_) (fun s hge hinv=>?_)
 case refine_2=>
  obtain⟨i1,i2,i3⟩:=hinv
  rw[gT] at i2 i3
  simp -implicitDefEqProofs only[hge,aB,seval]
  exact⟨by rw[←i2];try rfl,fun h=>(by rw[←i3] at h;cases h),fun _=>i1⟩
 obtain⟨i1,i2,i3⟩:=hinv
 rw[hdr,nS] at i2
 rw[hdr,yA] at i3
 have hw:=bG (n:=(i:Int)+1)
 simp -implicitDefEqProofs only[bB,bH (av:=Tm.av) aR hx (aO x),cE,aO,aB,seval,aMR]
 refine(hc x (cG hx) s i1).mono ?_
 rintro _ s2 ⟨rfl,hE,hJ⟩
 simp -implicitDefEqProofs only[aB,seval]
 refine aT (fun h=>?_) (fun h=>?_)
 · rw[aH h] at i2
   rw[h,AX] at i3
   simp -implicitDefEqProofs only[aB,seval]
   exact⟨by rw[i2],fun _=>hE h,fun h'=>(by rw[←i3] at h';cases h')⟩
 · rw[aG (by simp [h])] at i2
   rw[h,qL] at i3
   simp -implicitDefEqProofs only[aB,seval]
   exact⟨s2,⟨hJ h,i2,i3⟩,aN.mk (by simp -implicitDefEqProofs only[hw,aB,seval])⟩
theorem aP6(l:List Tm)(g:FuncId)(cY:List AV)(p:Tm→Bool)(J E:aA→Prop)(hc:∀x∈l,∀s,J s→aD prog g ([Tm.av x]++cY) s (fun r s'=>r=.bool (p x)∧(p x=true→E s')∧(p x=false→J s')))(st:aA)(h0:J st) :
 aD prog 147 [.slice (l.map Tm.av),.func g cY] st (fun r st'=>r=.bool (l.any p)∧(l.any p=true→E st')∧(l.any p=false→J st')):=by
 refine wF [1000000] 2 func147 ntmps147 rfl rfl ?_
 intro _
 simp -implicitDefEqProofs only[aB,seval]
 refine(aQF l g cY p J E hc st h0).mono ?_
 rintro _ s2 ⟨rfl,hE,hJ⟩
 simp -implicitDefEqProofs only[aX5,aB,seval]
 exact⟨hE,hJ⟩
def Occ(R:Int→Tm)(n:Int)(t:Tm)(st:aA)(mm:Nat)(M:List Int)(r:AV)(st':aA):Prop:=
 r=.bool (decide (n∈(t.aK R).vl))∧∃M',st'=st.aC mm (.map (lO M'))∧(n∉(t.aK R).vl→∀v∈M',v∈M∨n∉(R v).vl)
abbrev a2Y:=zi tI_3 (zi zI_3 (zi a7 (zi tI_4 (zi zI_4 (zi cL (zi tI_66 (zi zI_66 (zi b9 (zi cA (zi cB (zi cC (zi bZ (zi tI_227 (zi zI_227 (zi tI_390 (zi zI_390 HD))))))))))))))))
theorem aSK{c mm:Nat}{n:Int}{t:Tm}{st:aA}{Q:AV→aA→Prop}(hc:aD prog 398 [.ptr c 0,.int .i64 n,t.av,.map mm] st Q) :
 aD prog 406 [t.av,.pptr (.ptr c 0),.pptr (.int .i64 n),.pptr (.map mm)] st Q:=by
 refine wF [1000000] 4 func406 ntmps406 rfl rfl ?_
 intro _
 simp -implicitDefEqProofs only[aB,seval,a2Y]
 refine hc.mono ?_
 intro r s h
 simp -implicitDefEqProofs only[aB,seval]
 exact h
abbrev xS:=zi tI_3 (zi zI_3 (zi a7 (zi tI_4 (zi zI_4 (zi cL (zi tI_31 (zi zI_31 (zi aR (zi bO (zi bP (zi cF (zi tI_66 (zi zI_66 (zi b9 (zi cA (zi cB (zi cC (zi bZ (zi tI_227 (zi zI_227 (zi tI_390 (zi zI_390 (zi HD (zi tI_406 (zi zI_406 a3I)))))))))))))))))))))))))
theorem NY{σ:Sub}{R:Int→Tm}{rk:Int→Nat}{B:Nat}(G:Good σ R rk B){n:Int}(hn:σ n=none)(c m mm:Nat)(q:AV)(hmm:mm≠c∧mm≠m) :
 ∀(K:Nat) (t:Tm) (M:List Int) (st:aA),iG st c m q σ→st mm=some (.map (lO M))→(∀w∈t.vl,rk w<K)→(∀v∈M,n∉(R v).vl∨∀w∈t.vl,rk w<rk v) →
 aD prog 398 [.ptr c 0,.int .i64 n,t.av,.map mm] st (Occ R n t st mm M)
 | K,.mk k x s ts,M,st,hS,hM,hK,J7=>by
  have IH1:=fun(K':Nat) (hK':K'<K) t M st=>NY G hn c m mm q hmm K' t M st
  have IH2:=fun(y:Tm) (hy:y∈ts) M st=>NY G hn c m mm q hmm K y M st
  have hlk:=aYZ (P:=prog) (n:=x) hM HD a7 a4B
  simp only[bA]
  refine wF [1000000] 4 func398 ntmps398 rfl rfl ?_
  intro _
  simp -implicitDefEqProofs only[aB,seval,xS]
  refine aT (fun h=>?_) (fun h=>?_)
  · simp only[bM] at h
    have hvl:(Tm.mk k x s ts).vl= [x]:=Tm.mV h
    have hmv:(Tm.mk k x s ts).aK R=R x:=Tm.mK R h
    have hKx:rk x<K:=hK x (by rw[hvl];simp)
    simp -implicitDefEqProofs only[hlk,aB,seval,xS]
    refine aT (fun h2=>?_) (fun h2=>?_)
    · simp only[bM] at h2
      simp -implicitDefEqProofs only[aB,seval]
      have hno:n∉(R x).vl:=by
       rcases J7 x h2 with h | h
       · exact h
       · exact absurd (h x (by rw[hvl];simp)) (Nat.lt_irrefl _)
      refine⟨by rw[hmv];simp [hno],M,?_,fun _ v hv=>.inl hv⟩
      funext y
      simp only[aA.aC]
      split
      · rename_i e;rw[e,hM]
      · rfl
    · simp only[cM] at h2
      simp -implicitDefEqProofs only[aB,seval,xS]
      refine a3V hM HD a7 ?_
      simp -implicitDefEqProofs only[aB,seval,xS]
      obtain⟨f,hwk⟩:=G.wk (Tm.mk k x s ts)
      generalize hu:wk σ (Tm.mk k x s ts)=u at *
      have hS':=hS.MG (o:=.map (lO (x::M))) hmm.1 hmm.2
      have hcw:=IN hwk c m q _ hS'
      rw[bA] at hcw
      refine hcw.to ?_
      have PQ:u.aK R=R x:=by rw[hwk.aK G.vL,hmv]
      have tW:=hwk.end
      have hrk:=hwk.GK G
      obtain⟨k',x',s',ts'⟩:=u
      simp only[bA]
      simp -implicitDefEqProofs only[aB,↓aY,seval,xS]
      refine aT (fun h3=>?_) (fun h3=>?_)
      · simp only[bM] at h3
        simp -implicitDefEqProofs only[aB,seval,xS]
        have pZ:R x'=vr x':=G.free (tW h3)
        rw[Tm.mK R h3,pZ] at PQ
        refine⟨?_,x::M,rfl,fun hno v hv=>?_⟩
        · rw[hmv,←PQ,xY]
          simp [eq_comm]
        · rcases cQ.1 hv with rfl | hv
          · exact .inr (by rw[hmv] at hno;exact hno)
          · exact .inl hv
      · simp only[cM] at h3
        simp -implicitDefEqProofs only[aB,seval,xS]
        have hf0:f≠0:=by
         rintro rfl
         cases hwk with
         | stop _=>exact h3 h
        have hr':∀w∈(Tm.mk k' x' s' ts').vl,rk w<rk x:=fun w hw=>by
         obtain⟨v,hv,_,hlt⟩:=hrk w hw
         rw[hvl] at hv
         simp only[cQ,dD,dN] at hv
         subst hv
         exact hlt hf0
        have:=IH1 (rk x) hKx (Tm.mk k' x' s' ts') (x::M) _ hS' (aA.aJ _ _ _) hr' (fun v hv=>by
         rcases cQ.1 hv with rfl | hv
         · exact .inr hr'
         · rcases J7 v hv with h5 | h5
           · exact .inl h5
           · refine .inr fun w hw=>Nat.lt_trans (hr' w hw) ?_
             exact h5 x (by rw[hvl];simp))
        rw[bA] at this
        refine this.mono ?_
        rintro _ _ ⟨rfl,M',rfl,hM'⟩
        simp -implicitDefEqProofs only[aB,seval]
        rw[PQ] at hM' ⊢
        refine⟨by rw[hmv],M',rfl,fun hno v hv=>?_⟩
        rw[hmv] at hno
        rcases hM' hno v hv with h5 | h5
        · rcases cQ.1 h5 with rfl | h5
          · exact .inr hno
          · exact .inl h5
        · exact .inr h5
  · simp only[cM] at h
    simp -implicitDefEqProofs only[aB,seval,xS]
    have hmv:=Tm.lN R (n:=x) (s:=s) (ts:=ts) h
    have aVP:ts.any (fun y=>decide (n∈(y.aK R).vl))=decide (n∈((Tm.mk k x s ts).aK R).vl):=by
     rw[hmv,x9]
     simp only[yB,bM]
     rw[Tm.lH h]
     constructor
     · rintro⟨y,hy,h2⟩;exact⟨_,bY.2 ⟨y,hy,rfl⟩,h2⟩
     · rintro⟨z,hz,h2⟩
       obtain⟨y,hy,rfl⟩:=bY.1 hz
       exact⟨y,hy,h2⟩
    refine(aP6 ts _ _ (fun y=>decide (n∈(y.aK R).vl)) (fun s1=>∃M',s1=st.aC mm (.map (lO M'))∧∀v∈M',v∈M∨n∉(R v).vl) (fun s1=>∃M',s1=st.aC mm (.map (lO M'))) ?_ st ⟨M,?_,fun v hv=>.inl hv⟩).mono ?_
    · rintro y hy s1 ⟨M',rfl,hM'⟩
      simp only[gH,eU]
      have hc:=IH2 y hy M' (st.aC mm (.map (lO M'))) (hS.MG hmm.1 hmm.2) (aA.aJ _ _ _) (fun w hw=>hK w ((Tm.lH h).2 ⟨y,hy,hw⟩)) (fun v hv=>by
       rcases hM' v hv with h5 | h5
       · rcases J7 v h5 with h6 | h6
         · exact .inl h6
         · exact .inr fun w hw=>h6 w ((Tm.lH h).2 ⟨y,hy,hw⟩)
       · exact .inl h5)
      refine(aSK hc).mono ?_
      rintro _ _ ⟨rfl,M2,rfl,hM2⟩
      rw[eA]
      refine⟨rfl,fun _=>⟨M2,rfl⟩,fun hno=>⟨M2,rfl,fun v hv=>?_⟩⟩
      simp only[cM] at hno
      rcases hM2 hno v hv with h5 | h5
      · exact hM' v h5
      · exact .inr h5
    · funext y
      simp only[aA.aC]
      split
      · rename_i e;rw[e,hM]
      · rfl
    · rintro _ s2 ⟨rfl,hE,hJ⟩
      rw[aVP] at hE hJ ⊢
      simp -implicitDefEqProofs only[aB,seval]
      by_cases hno:n∈((Tm.mk k x s ts).aK R).vl
      · obtain⟨M2,rfl⟩:=hE (by simp [hno])
        exact⟨rfl,M2,rfl,fun h=>absurd hno h⟩
      · obtain⟨M2,rfl,h5⟩:=hJ (by simp [hno])
        exact⟨rfl,M2,rfl,fun _=>h5⟩
termination_by K t=>(K,SizeOf.sizeOf t)
decreasing_by
 · exact Prod.Lex.left _ _ hK'
 · have:=List.sizeOf_lt_of_mem hy
   exact Prod.Lex.right _ (by simp only[Tm.mk.sizeOf_spec];omega)
abbrev LI:=zi tI_3 (zi zI_3 (zi a7 (zi tI_4 (zi zI_4 (zi cL (zi tI_46 (zi zI_46 (zi cW (zi eJ (zi eF (zi eY (zi tI_66 (zi zI_66 (zi b9 (zi cA (zi cB (zi cC (zi bZ (zi tI_141 (zi zI_141 (zi AJ (zi tI_227 (zi zI_227 (zi tI_304 (zi zI_304 (zi B9 (zi CA (zi BR (zi tI_390 (zi zI_390 HD))))))))))))))))))))))))))))))
theorem U8{σ:Sub}(hg:cJ σ){n:Int}(hn:σ n=none){t:Tm}{r:Bool}{σ':Sub}{add:List Int}(hb:jO σ n t=(r,σ',add))(c m:Nat)(q:AV)(tr:List Int)(st:aA)(hS:fR st c m q σ tr)(hl:tr.length+add.length≤1099511627776) :
 aD prog 382 [.ptr c 0,.int .i64 n,t.av] st (fun r' st'=>r'=.bool r∧uO c m st q σ' (tr++add) st'):=by
 obtain⟨rk,B,G⟩:=hg.rs
 refine wF [1000000] 3 func382 ntmps382 rfl rfl ?_
 intro _
 simp -implicitDefEqProofs only[aB,seval,LI]
 intro mm hmm
 obtain⟨hmc,aWY⟩:=hS.sub.ne hmm
 rw[←aZC]
 have hS1:=hS.DT (o:=.map (lO [])) hmm
 refine(NY G hn c m mm q ⟨hmc,aWY⟩ B t [] _ hS1.sub (aA.aJ _ _ _) (fun w _=>G.bd w) (fun v hv=>absurd hv (dD))).mono ?_
 rintro _ _ ⟨rfl,M',rfl,_⟩
 have hS2:=hS.DT (o:=.map (lO M')) hmm
 have hQ2:lW c m st q (st.aC mm (.map (lO M'))) q:=lW.DT hmm
 rw[eA]
 generalize st.aC mm (.map (lO M'))=s2 at *
 obtain⟨hqa,hqw,hqj,hqc,hqs⟩:=hS2.shape
 simp -implicitDefEqProofs only[aB,seval]
 unfold jO at hb
 refine aT (fun h=>?_) (fun h=>?_)
 · simp only[bM] at h
   rw[aH h] at hb
   obtain⟨rfl,rfl,rfl⟩:false=r∧σ=σ'∧[]=add:=by simpa using hb
   simp -implicitDefEqProofs only[aB,seval]
   exact⟨q,hS2,hQ2⟩
 · simp only[cM] at h
   rw[aG h] at hb
   obtain⟨rfl,rfl,rfl⟩:true=r∧σ.set n t=σ'∧[n]=add:=by simpa using hb
   simp -implicitDefEqProofs only[aB,seval]
   refine wP [(0,1),(1,1),(2,1),(4,1),(3,2),(5,2),(6,0)] [0,1,2,4,3,5] mixed ?_
   simp -implicitDefEqProofs only[hS2.sub.cells,aB,seval,LI]
   refine a3X hS2.sub.map AJ a7 ?_
   have hcm:=hS2.sub.cm
   have hS3:fR (s2.aC m (.map (mapOf (σ.set n t)))) c m q (σ.set n t) tr:=by
    refine⟨⟨by rw[aA.aF _ _ hcm];exact hS2.sub.cells,aA.aJ _ _ _⟩,?_,hS2.apart⟩
    rcases hS2.eT with h4 | ⟨b',cs,e1,e2,e3⟩
    · exact .inl h4
    · refine .inr ⟨b',cs,e1,?_,e3⟩
      rw[aA.aF _ _ (by rintro rfl;exact hS2.KG (by rw[e1];simp [dE]))]
      exact e2
   have hQ3:lW c m st q (s2.aC m (.map (mapOf (σ.set n t)))) q:=⟨fun b o h h1 h2 h3=>by rw[aA.aF _ _ h2];exact hQ2.frame b o h h1 h2 h3,fun _ h=>.inl h⟩
   generalize s2.aC m (.map (mapOf (σ.set n t)))=s3 at *
   simp -implicitDefEqProofs only[hS3.sub.cells,hqa,aB,seval,LI]
   refine a3A cW eJ eF rfl (by omega) hS3 (by simpa using hl) (fun q' s4 ht hc' hm' hk hf=>?_)
   have h4c:s4 c=some (.cells [.map m,q]):=by rw[hk c hS3.apart hc'];exact hS3.sub.cells
   have h4m:s4 m=some (.map (mapOf (σ.set n t))):=by rw[hk m hS3.KG hm'];exact hS3.sub.map
   have aI5:q'.cells= [q']∧q'.storable=true:=by
    rcases ht with ⟨rfl,_⟩ | ⟨b',cs,rfl,_⟩<;>exact⟨rfl,rfl⟩
   simp -implicitDefEqProofs only[aP,h4c,aI5.1,aI5.2,aB,seval,LI]
   refine⟨q',⟨⟨aA.aJ _ _ _,by rw[aA.aF _ _ (dF hcm)];exact h4m⟩,?_,hc'⟩,⟨fun b o h h1 h2 h3=>?_,fun b hb=>?_⟩⟩
   · rcases ht with h4 | ⟨b',cs,e1,e2,e3⟩
     · exact .inl h4
     · refine .inr ⟨b',cs,e1,?_,e3⟩
       rw[aA.aF _ _ (by rintro rfl;exact hc' (by rw[e1];simp [dE]))]
       exact e2
   · rw[aA.aF _ _ h1,hk b h3 (fun h4=>?_)]
     · exact hQ3.frame b o h h1 h2 h3
     · rcases hf b h4 with h5 | h5
       · exact h3 h5
       · rw[hQ3.frame b o h h1 h2 h3] at h5;cases h5
   · rcases hf b hb with h5 | h5
     · exact .inl h5
     · by_cases h6:b∈dE q
       · exact .inl h6
       · refine .inr ?_
         cases hst:st b with
         | none=>rfl
         | some o=>
          exfalso
          have h1:b≠c:=by rintro rfl;rw[hS3.sub.cells] at h5;cases h5
          have h2:b≠m:=by rintro rfl;rw[hS3.sub.map] at h5;cases h5
          rw[hQ3.frame b o hst h1 h2 h6] at h5;cases h5
abbrev Sm (t:Tm):Prop:=t.small=true
theorem a1S:∀t:Tm,t.k≠1→Sm t→∀x∈t.ts,Sm x:=fun t _ h x hx=>by
 cases t
 exact(Tm.o9 h).2 x hx
abbrev qG:=zi tI_3 (zi zI_3 (zi a7 (zi tI_4 (zi zI_4 (zi cL (zi tI_9 (zi zI_9 (zi d9 (zi tI_31 (zi zI_31 (zi aR (zi bO (zi bP (zi cF (zi tI_66 (zi zI_66 (zi b9 (zi cA (zi cB (zi cC (zi bZ (zi tI_227 zI_227))))))))))))))))))))))
theorem WK:∀(g:Nat) (σ:Sub) (a b:Tm) (r:Bool) (σ':Sub) (add:List Int),cJ σ→cK Sm σ→Sm a→Sm b→c9 g σ a b=some (r,σ',add)→∀(c m:Nat) (q:AV) (tr:List Int) (st:aA),fR st c m q σ tr→tr.length+add.length≤1099511627776 →
 aD prog 360 [.ptr c 0,a.av,b.av] st (fun r' st'=>r'=.bool r∧uO c m st q σ' (tr++add) st')
 | 0,σ,a,b,r,σ',add,hg,hsm,ha0,hb0,h,c,m,q,tr,st,hS,hl=>by simp only[c9] at h;cases h
 | g+1,σ,a,b,r,σ',add,hg,hsm,ha0,hb0,h,c,m,q,tr,st,hS,hl=>by
  have IH:=WK g
  obtain⟨rk,B,G⟩:=hg.rs
  obtain⟨fa,wa⟩:=G.wk a
  obtain⟨fb,wb⟩:=G.wk b
  have hca:=fun st (hS:iG st c m q σ)=>IN wa c m q st hS
  have hcb:=fun st (hS:iG st c m q σ)=>IN wb c m q st hS
  have ea:=wa.end
  have eb:=wb.end
  have hsa:=wa.all (p:=Sm) hsm ha0
  have hsb:=wb.all (p:=Sm) hsm hb0
  replace h:=MD h
  generalize wk σ a=a1 at *
  generalize wk σ b=b1 at *
  clear wa wb
  refine wF [1000000,4,5] 3 func360 ntmps360 rfl rfl ?_
  intro eL
  simp -implicitDefEqProofs only[aB,seval]
  intro b4 h4 b5 h5
  have h54:b5≠b4:=by rintro rfl;rw[aA.aJ] at h5;cases h5
  have hn5:st b5=none:=by rw[aA.aF st _ h54] at h5;exact h5
  have hS':∀o o',fR ((st.aC b4 o).aC b5 o') c m q σ tr:=fun o o'=>(hS.DT h4).DT (by rw[aA.aF _ _ h54];exact hn5)
  refine wP [(0,1),(3,1),(1,2),(2,2),(4,2),(5,2),(6,0),(7,0)] [0,3,1,2,4,5] mixed ?_
  simp -implicitDefEqProofs only[h54.symm,aB,seval,qG]
  refine kC (hca _ (hS' _ _).sub) ?_
  simp -implicitDefEqProofs only[aB,seval,qG]
  refine kC (hcb _ (hS' _ _).sub) ?_
  obtain⟨ka,na,sa,tsa⟩:=a1
  obtain⟨kb,nb,sb',tsb⟩:=b1
  obtain⟨hla,aIS⟩:=Tm.o9 hsa
  obtain⟨hlb,aIT⟩:=Tm.o9 hsb
  simp only[bA]
  simp only[Tm.k,Tm.n,Tm.ts] at h ea eb
  have hl4:∀q',q'=q→b4∉dE q:=fun _ _ hb=>by obtain⟨cs,e⟩:=hS.GY b4 hb;rw[h4] at e;cases e
  have hl5:b5∉dE q:=fun hb=>by obtain⟨cs,e⟩:=hS.GY b5 hb;rw[hn5] at e;cases e
  obtain⟨h4c,h4m⟩:=hS.sub.ne h4
  obtain⟨h5c,h5m⟩:=hS.sub.ne hn5
  have hQ:∀o o',lW c m st q ((st.aC b4 o).aC b5 o') q:=fun o o'=>⟨fun x p h _ _ _=>by
   rw[aA.aF _ _ (by rintro rfl;rw[hn5] at h;cases h),aA.aF _ _ (by rintro rfl;rw[h4] at h;cases h)];exact h,fun _ h=>.inl h⟩
  simp -implicitDefEqProofs only[aP,h54,h54.symm,aB,seval,qG]
  rw[aA.xW h54,aA.xW h54.symm]
  have gD:∀o o',uO c m st q σ tr ((st.aC b4 o).aC b5 o'):=fun o o'=>⟨q,hS' _ _,hQ _ _⟩
  rcases h with ⟨h1,h2,h3,rfl,rfl,rfl⟩ | ⟨h1,h2,h3⟩ | ⟨h1,h2,h3⟩ | ⟨h1,h2,h3,h4⟩ | ⟨h1,h2,h3,rfl,rfl,rfl⟩
  · subst h1 h2 h3
    simp -implicitDefEqProofs only[f6,h54.symm,aB,seval,qG]
    exact gD _ _
  · subst h1
    have hcb:=U8 hg (ea rfl) h3 c m q tr _ (hS' (.cells [.int .i64 1,.int .i64 na,.str sa,.slice (tsa.map Tm.av)]) (.cells [.int .i64 kb,.int .i64 nb,.str sb',.slice (tsb.map Tm.av)])) hl
    rw[bA] at hcb
    by_cases h5:kb=1
    · subst h5
      have h6:¬na=nb:=fun e=>h2 ⟨rfl,e⟩
      simp -implicitDefEqProofs only[f6,h6,gB,h54.symm,aB,seval,qG]
      refine hcb.mono ?_
      rintro _ s2 ⟨rfl,hp⟩
      simp -implicitDefEqProofs only[aB,seval]
      exact hp.from (hQ _ _) (hS' _ _)
    · simp -implicitDefEqProofs only[f6,h5,gB,h54.symm,aB,seval,qG]
      refine hcb.mono ?_
      rintro _ s2 ⟨rfl,hp⟩
      simp -implicitDefEqProofs only[aB,seval]
      exact hp.from (hQ _ _) (hS' _ _)
  · subst h2
    have hcb:=U8 hg (eb rfl) h3 c m q tr _ (hS' (.cells [.int .i64 ka,.int .i64 na,.str sa,.slice (tsa.map Tm.av)]) (.cells [.int .i64 1,.int .i64 nb,.str sb',.slice (tsb.map Tm.av)])) hl
    rw[bA] at hcb
    simp -implicitDefEqProofs only[f6,h1,gB,h54.symm,aB,seval,qG]
    refine hcb.mono ?_
    rintro _ s2 ⟨rfl,hp⟩
    simp -implicitDefEqProofs only[aB,seval]
    exact hp.from (hQ _ _) (hS' _ _)
  · rw[sR] at h3
    simp only[Tm.k,Tm.n,Tm.s,Tm.ts] at h3
    obtain⟨rfl,rfl,rfl,hlen⟩:=h3
    have c7:decide ((tsa.length:Int)=(tsb.length:Int))=true:=by simp [hlen]
    simp -implicitDefEqProofs only[f6,gB,c7,h54.symm,aE,h1,aB,seval,qG]
    have hS0:=hS' (.cells [.int .i64 ka,.int .i64 na,.str sa,.slice (tsa.map Tm.av)]) (.cells [.int .i64 ka,.int .i64 na,.str sa,.slice (tsb.map Tm.av)])
    have hQ0:=hQ (.cells [.int .i64 ka,.int .i64 na,.str sa,.slice (tsa.map Tm.av)]) (.cells [.int .i64 ka,.int .i64 na,.str sa,.slice (tsb.map Tm.av)])
    have e4:((st.aC b4 (.cells [.int .i64 ka,.int .i64 na,.str sa,.slice (tsa.map Tm.av)])).aC b5 (.cells [.int .i64 ka,.int .i64 na,.str sa,.slice (tsb.map Tm.av)])) b4=some (.cells [.int .i64 ka,.int .i64 na,.str sa,.slice (tsa.map Tm.av)]):=by rw[aA.aF _ _ h54.symm,aA.aJ]
    have e5:((st.aC b4 (.cells [.int .i64 ka,.int .i64 na,.str sa,.slice (tsa.map Tm.av)])).aC b5 (.cells [.int .i64 ka,.int .i64 na,.str sa,.slice (tsb.map Tm.av)])) b5=some (.cells [.int .i64 ka,.int .i64 na,.str sa,.slice (tsb.map Tm.av)]):=aA.aJ _ _ _
    generalize (st.aC b4 (.cells [.int .i64 ka,.int .i64 na,.str sa,.slice (tsa.map Tm.av)])).aC b5 (.cells [.int .i64 ka,.int .i64 na,.str sa,.slice (tsb.map Tm.av)])=s0 at *
    refine dL (σ:=Sub×List Int×List Int×AV×aA) [1000000,4,5] [0,4,5,79] tsa
     (fun i p=>cJ p.1∧cK Sm p.1∧fR p.2.2.2.2 c m p.2.2.2.1 p.1 (tr++p.2.1)∧lW c m s0 q p.2.2.2.2 p.2.2.2.1∧dR g p.1 (tsa.drop i) (tsb.drop i)=some (r,σ',p.2.2.1)∧p.2.1++p.2.2.1=add)
     (fun i _=>[(6,.bool false),(80,.int .i64 i)]) (fun _ p=>p.2.2.2.2) (by decide +kernel)
     ⟨(σ,[],add,q,s0),⟨hg,hsm,by rw[fA];exact hS0,lW.refl _ _ _ _,h4,rfl⟩,aN.mk (by simp -implicitDefEqProofs only[aB,↓aY,seval])⟩ (fun i x p hx hlt bB hdr hinv=>?_) (fun p hge hinv=>?_)
    case refine_2=>
     obtain⟨σi,ai,rest,qi,si⟩:=p
     obtain⟨i1,i2,i3,i4,i5,i6⟩:=hinv
     simp only at i1 i2 i3 i4 i5 i6
     rw[gT,hlen,gT] at i5
     simp only[dR,Option.some.injEq,Prod.mk.injEq] at i5
     obtain⟨rfl,rfl,rfl⟩:=i5
     rw[fA] at i6
     subst i6
     simp -implicitDefEqProofs only[hge,aB,seval]
     exact⟨qi,i3,hQ0.trans hS0 i4⟩
    obtain⟨σi,ai,rest,qi,si⟩:=p
    obtain⟨i1,i2,i3,i4,i5,i6⟩:=hinv
    simp only at i1 i2 i3 i4 i5 i6
    obtain⟨y,hy⟩:∃y,tsb[i]?=some y:=⟨_,dZ (by omega)⟩
    have xE:tsb.drop i=y::tsb.drop (i+1):=by
     obtain⟨h1,h2⟩:=eE.1 hy
     rw[pE h1,h2]
    rw[hdr,xE,dR] at i5
    have f4:=i4.frame b4 _ e4 h4c h4m (hl4 q rfl)
    have f5:=i4.frame b5 _ e5 h5c h5m hl5
    have hw:=bG (n:=(i:Int)+1)
    simp -implicitDefEqProofs only[bB,aB,seval]
    refine wP [(0,1),(1,1),(3,1),(6,1),(8,1),(2,2),(4,1),(5,2),(7,2),(9,1),(10,2),(11,0),(12,1)] [0,1,3,6,8,2,4,5,7,9,10,12] mixed ?_
    simp -implicitDefEqProofs only[f4,f5,bH (av:=Tm.av) aR hx (aO x),bH (av:=Tm.av) aR hy (aO y),aB,seval,qG]
    cases hu:c9 g σi x y with
    | none=>rw[hu] at i5;cases i5
    | some p1=>
     obtain⟨r1,σ1,tr1⟩:=p1
     rw[hu] at i5
     have hx1:Sm x:=aIS x (cG hx)
     have hy1:Sm y:=aIT y (cG hy)
     have hU:=wA i1 hu
     have hA:=(MF a1S g).1 σi x y r1 σ1 tr1 i1 hu i2 hx1 hy1
     have jR:tr1.length≤rest.length:=by
      cases r1 with
      | false=>simp only[Option.some.injEq,Prod.mk.injEq] at i5;rw[i5.2.2];exact cO _
      | true=>
       simp only at i5
       cases hu2:dR g σ1 (tsa.drop (i+1)) (tsb.drop (i+1)) with
       | none=>rw[hu2] at i5;cases i5
       | some p2=>
        obtain⟨r2,σ2,tr2⟩:=p2
        rw[hu2] at i5
        simp only[Option.some.injEq,Prod.mk.injEq] at i5
        rw[←i5.2.2,dP];omega
     have aVO:add.length=ai.length+rest.length:=by rw[←i6,dP]
     refine(IH σi x y r1 σ1 tr1 i1 i2 hx1 hy1 hu c m qi (tr++ai) si i3 (by rw[dP];omega)).mono ?_
     rintro _ s2 ⟨rfl,q2,hS2,hQ2⟩
     cases r1 with
     | false=>
      simp only[Option.some.injEq,Prod.mk.injEq] at i5
      obtain⟨rfl,rfl,rfl⟩:=i5
      simp -implicitDefEqProofs only[aB,seval]
      rw[←i6,←kK]
      exact⟨q2,hS2,hQ0.trans hS0 (i4.trans i3 hQ2)⟩
     | true=>
      simp only at i5
      cases hu2:dR g σ1 (tsa.drop (i+1)) (tsb.drop (i+1)) with
      | none=>rw[hu2] at i5;cases i5
      | some p2=>
       obtain⟨r2,σ2,tr2⟩:=p2
       rw[hu2] at i5
       simp only[Option.some.injEq,Prod.mk.injEq] at i5
       obtain⟨rfl,rfl,rfl⟩:=i5
       simp -implicitDefEqProofs only[aB,seval]
       exact⟨(σ1,ai++tr1,tr2,q2,s2),⟨hU.gJ,hA,by rw[←kK];exact hS2,i4.trans i3 hQ2,hu2,by rw[kK];exact i6⟩,aN.mk (by simp -implicitDefEqProofs only[hw,aB,seval])⟩
  · have hd:ka=kb→na=nb→sa=sb'→¬(tsa.length:Int)=(tsb.length:Int):=by
     intro e1 e2 e3 e4
     have:tV (Tm.mk ka na sa tsa) (Tm.mk kb nb sb' tsb)=true:=sR.2 ⟨e1,e2,e3,by simp only[Tm.ts];omega⟩
     rw[h3] at this;cases this
    by_cases e1:ka=kb
    · by_cases e2:na=nb
      · by_cases e3:sa=sb'
        · have e4:=hd e1 e2 e3
          subst e1 e2 e3
          simp -implicitDefEqProofs only[gB,f6,h54.symm,h1,aE,e4,aB,seval,qG]
          exact gD _ _
        · subst e1 e2
          simp -implicitDefEqProofs only[gB,f6,h54.symm,h1,e3,aB,seval,qG]
          exact gD _ _
      · subst e1
        simp -implicitDefEqProofs only[gB,f6,h54.symm,h1,e2,aB,seval,qG]
        exact gD _ _
    · clear hd
      simp -implicitDefEqProofs only[gB,h54.symm,h1,h2,e1,aB,seval,qG]
      exact gD _ _
theorem aY7(σ:Sub)(l:List Int)(n:Int):nD (mapOf (σ.out l)) n none=mapOf (σ.out (l++ [n])):=by
 funext x
 unfold nD mapOf Sub.out
 by_cases h:x=n
 · simp [h]
 · simp only[h,cS,dS,List.mem_singleton,dN]
theorem aTV{P:Program}{st:aA}{m:Nat}{σ:Sub}{l:List Int}{t kt et:TypeId}{n:Int}{K:AV→aA→Prop}(hm:st m=some (.map (mapOf (σ.out l))))(hu:P.underlying t=some (.map kt et))(hk:P.underlying kt=some (.int .i64))
 (h:K (.tup []) (st.aC m (.map (mapOf (σ.out (l++ [n])))))):yN P t st (.map m) (.int .i64 n) K:=by
 unfold yN
 simp only[hu,hm,hk]
 rw[aY7]
 exact h
theorem Sub.QN(σ:Sub):σ.out []=σ:=by funext n;simp [Sub.out]
theorem a1M{φ:AF}{d b n k:Nat}(h:φ d=.int .i64 (k:Int))(hk:k=0∨k<n):fD prog φ 46 (.mslice b 0 n 1) (some (.tmp d)) none none=some (.mslice b k (n - k) 1):=by
 have h1:dB φ none n n=some n:=rfl
 have h2:dB φ (some (.tmp d)) 0 n=some k:=by
  unfold dB
  simp only[show φ.eval (.tmp d)=φ d from rfl,h]
  rw[aH (by omega)]
  simp
 unfold fD mF
 rw[aG (by simp [nT])]
 simp only[cW,h1,h2]
 by_cases h3:k=0
 · subst h3;simp
 · have h4:k<n:=by omega
   simp [h3,h4]
theorem a1P{φ:AF}{d b n:Nat}(h:φ d=.int .i64 (n:Int))(hn:n≠0):fD prog φ 46 (.mslice b 0 n 1) (some (.tmp d)) none none=some .eslice:=by
 have h1:dB φ none n n=some n:=rfl
 have h2:dB φ (some (.tmp d)) 0 n=some n:=by
  unfold dB
  simp only[show φ.eval (.tmp d)=φ d from rfl,h]
  rw[aH (by omega)]
  simp
 unfold fD mF
 rw[aG (by simp [nT])]
 simp only[cW,h1,h2]
 simp [hn]
theorem RH{φ:AF}{t:TypeId}{ag:Bool}{w d b n k:Nat}(hI:eI prog t=some (ag,w))(h:φ d=.int .i64 (k:Int))(hk:k≤n):fD prog φ t (.mslice b 0 n w) none (some (.tmp d)) none=some (.mslice b 0 k w):=by
 have h1:dB φ (some (.tmp d)) n n=some k:=by
  unfold dB
  simp only[show φ.eval (.tmp d)=φ d from rfl,h]
  rw[aH (by omega)]
  simp
 have h2:dB φ none 0 k=some 0:=rfl
 unfold fD mF
 rw[aG (by simp [nT])]
 simp only[hI,h1,h2]
 simp
theorem aLM{φ:AF}{t:TypeId}{ag:Bool}{w d:Nat}(hI:eI prog t=some (ag,w))(h:φ d=.int .i64 0):fD prog φ t (.fslice []) none (some (.tmp d)) none=some (.fslice []):=by
 have h1:dB φ (some (.tmp d)) 0 0=some 0:=by
  unfold dB
  simp only[show φ.eval (.tmp d)=φ d from rfl,h]
  simp
 have h2:dB φ none 0 0=some 0:=rfl
 unfold fD
 rw[aH ⟨rfl,rfl⟩]
 simp only[hI,h1,h2]
theorem a1N{φ:AF}{d:Nat}(h:φ d=.int .i64 0):fD prog φ 46 (.fslice []) (some (.tmp d)) none none=some (.fslice []):=by
 have h1:dB φ none 0 0=some 0:=rfl
 have h2:dB φ (some (.tmp d)) 0 0=some 0:=by
  unfold dB
  simp only[show φ.eval (.tmp d)=φ d from rfl,h]
  simp
 unfold fD
 rw[aH ⟨rfl,rfl⟩]
 simp only[cW,h1,h2]
theorem aWF{P:Program}{t:TypeId}{ag:Bool}{b o len w i:Nat}(hI:eI P t=some (ag,w))(hi:i<len):dM P t (.mslice b o len w) (.int .i64 (i:Int))=some (.ptr b (o+i*w)):=by
 unfold dM
 simp only[hI]
 rw[aH ⟨by omega,by omega,trivial⟩]
 simp
abbrev AC:=zi tI_3 (zi zI_3 (zi a7 (zi tI_46 (zi zI_46 (zi cW (zi eJ (zi eF (zi eY (zi tI_141 (zi zI_141 (zi AJ (zi tI_227 (zi zI_227 (zi tI_304 (zi zI_304 (zi B9 (zi CA BR)))))))))))))))))
theorem N4(σ:Sub)(tr:List Int)(mark:Nat)(hm:mark≤tr.length)(c m:Nat)(q:AV)(st:aA)(hS:fR st c m q σ tr)(hl:tr.length≤1099511627776) :
 aD prog 299 [.ptr c 0,.int .i64 (mark:Int)] st (fun r st'=>r=.tup []∧∃q',fR st' c m q' (σ.out (tr.drop mark)) (tr.take mark)∧(∀b∈dE q',b∈dE q)∧∀x o,st x=some o→x≠c→x≠m→st' x=some o):=by
 have hcm:=hS.sub.cm
 rcases hS.eT with ⟨rfl,rfl⟩ | ⟨b,cs,rfl,hb,hcs⟩
 · obtain rfl:mark=0:=by simpa using hm
   have e1:=hS.sub.cells
   have hsl:=fun(φ:AF) (d:Nat) (h:φ d=.int .i64 0)=>a1N h
   have hsh:=fun(φ:AF) (d:Nat) (h:φ d=.int .i64 0)=>aLM cW h
   simp only[Int.ofNat_zero]
   refine wF [1000000] 2 func299 ntmps299 rfl rfl ?_
   intro _
   simp -implicitDefEqProofs only[e1,hsl,aB,seval,AC]
   refine dL (σ:=Unit) [1000000] [0,1,11,12] ([]:List Int) (fun i _=>True) (fun i _=>[(13,.int .i64 i)]) (fun _ _=>st) (by decide +kernel) ⟨(),trivial,aN.mk (by simp -implicitDefEqProofs only[aB,↓aY,seval])⟩ (fun i x _ hx hlt bB hdr hinv=>?_) (fun _ hge hinv=>?_)
   · simp at hlt
   · simp -implicitDefEqProofs only[bL,aP,e1,hsh,aB,seval,AC]
     rw[Sub.QN]
     refine⟨.fslice [],⟨⟨aA.aJ _ _ _,?_⟩,.inl ⟨rfl,rfl⟩,by simp [dE]⟩,fun _ h=>h,fun x o h h1 h2=>by rw[aA.aF _ _ h1];exact h⟩
     rw[aA.aF _ _ hcm.symm,hS.sub.map]
 · have e1:=hS.sub.cells
   have hbc:b≠c:=fun e=>hS.apart (by simp [dE,e])
   have hbm:b≠m:=fun e=>hS.KG (by simp [dE,e])
   have hc':∀o,(st.aC m o) c=some (.cells [.map m,.mslice b 0 tr.length 1]):=fun o=>by rw[aA.aF _ _ hcm];exact e1
   have hb':∀o,(st.aC m o) b=some (.cells cs):=fun o=>by rw[aA.aF _ _ hbm];exact hb
   have hm0:st.aC m (.map (mapOf σ))=st:=by
    funext x
    unfold aA.aC
    split
    · rename_i h;rw[h,hS.sub.map]
    · rfl
   have gD:∀st',st'=(st.aC m (.map (mapOf (σ.out (tr.drop mark))))).aC c (.cells [.map m,.mslice b 0 mark 1])→∃q',fR st' c m q' (σ.out (tr.drop mark)) (tr.take mark)∧(∀x∈dE q',x∈dE (.mslice b 0 tr.length 1))∧∀x o,st x=some o→x≠c→x≠m→st' x=some o:=by
    rintro _ rfl
    have hlt:(tr.take mark).length=mark:=by rw[dI];omega
    refine⟨.mslice b 0 mark 1,⟨⟨aA.aJ _ _ _,by rw[aA.aF _ _ hcm.symm,aA.aJ]⟩,.inr ⟨b,cs,by rw[hlt],by rw[aA.aF _ _ hbc];exact hb' _,?_⟩,by simpa [dE] using dF hbc⟩,fun x h=>h,fun x o h h1 h2=>by rw[aA.aF _ _ h1,aA.aF _ _ h2];exact h⟩
    rw[hlt,D3,←hcs,yG,jX hm]
   have hsh:=fun(φ:AF) (d:Nat) (h:φ d=.int .i64 (mark:Int))=>RH (b:=b) cW h hm
   by_cases hk:mark=0∨mark<tr.length
   · have hsl:=fun(φ:AF) (d:Nat) (h:φ d=.int .i64 (mark:Int))=>a1M (b:=b) h hk
     refine wF [1000000] 2 func299 ntmps299 rfl rfl ?_
     intro _
     simp -implicitDefEqProofs only[e1,hsl,aB,seval,AC]
     refine dL (σ:=Unit) [1000000] [0,1,11,12] (tr.drop mark) (fun i _=>True) (fun i _=>[(13,.int .i64 i)]) (fun i _=>st.aC m (.map (mapOf (σ.out ((tr.drop mark).take i))))) (by decide +kernel) ⟨(),trivial,by rw[jJ,Sub.QN,hm0];exact aN.mk (by simp -implicitDefEqProofs only[aB,↓aY,seval])⟩ (fun i x _ hx hlt bB hdr hinv=>?_) (fun _ hge hinv=>?_)
     · have hw:=wrap64 (n:=(i:Int)+1) (by omega) (by rw[nH] at hlt;omega)
       have htk:(tr.drop mark).take (i+1)=(tr.drop mark).take i++ [x]:=by rw[eH,hx];simp
       rw[nH] at hlt bB
       have a6D:decide ((i:Int)<((tr.length - mark:Nat):Int))=true:=by simp;omega
       have hxt:tr[mark+i]?=some x:=by rw[List.getElem?_drop] at hx;exact hx
       have aV6:cs=(tr.take (mark+i)).map iv++ [iv x]++((tr.drop (mark+i+1)).map iv++cs.drop tr.length):=by
        have h1:cs=tr.map iv++cs.drop tr.length:=by rw[←hcs];exact(n9 _ _).symm
        have h2:tr.map iv=(tr.take (mark+i)).map iv++iv x::(tr.drop (mark+i+1)).map iv:=by
         have h3:tr.drop (mark+i)=x::tr.drop (mark+i+1):=by
          obtain⟨g1,g2⟩:=eE.1 hxt
          rw[pE g1,g2]
         rw[←bR (f:=iv),←h3,←mX,n9]
        rw[h2] at h1
        exact h1.trans (by simp)
       have hA:((tr.take (mark+i)).map iv).length=mark+i:=by simp only[aE,dI];omega
       have hat:=aWF (P:=prog) (b:=b) (o:=mark) (len:=tr.length - mark) (w:=1) (i:=i) cW hlt
       have hcb:=hb' (.map (mapOf (σ.out ((tr.drop mark).take i))))
       rw[aV6] at hcb
       have PE:=hc' (.map (mapOf (σ.out ((tr.drop mark).take i))))
       obtain⟨e1',e2,e3,e4,e5,e6⟩:=xK (B:=(tr.drop (mark+i+1)).map iv++cs.drop tr.length) hA
       simp -implicitDefEqProofs only[e6,hat,hcb,PE,bB,uM,aB,seval,AC]
       refine aTV (aA.aJ _ _ _) AJ a7 ?_
       rw[eA,←htk]
       simp -implicitDefEqProofs only[hw,aB,seval]
       exact⟨(),aN.mk (by simp -implicitDefEqProofs only[aB,seval])⟩
     · rw[dQ]
       rw[nH] at hge
       have PE:=hc' (.map (mapOf (σ.out (tr.drop mark))))
       have a6B:decide (((tr.length - mark:Nat):Int)<((tr.length - mark:Nat):Int))=false:=by simp
       simp -implicitDefEqProofs only[PE,hge,nH,aP,hsh,aB,seval,AC]
       exact gD _ rfl
   · obtain rfl:mark=tr.length:=by omega
     have hn0:tr.length≠0:=by omega
     have hsl:=fun(φ:AF) (d:Nat) (h:φ d=.int .i64 (tr.length:Int))=>a1P (b:=b) h hn0
     refine wF [1000000] 2 func299 ntmps299 rfl rfl ?_
     intro _
     simp -implicitDefEqProofs only[e1,hsl,jZ,eY,aB,↓aY,seval,AC]
     refine dL (σ:=Unit) [1000000] [0,1,11,12] ([]:List Int) (fun i _=>True) (fun i _=>[(13,.int .i64 i)]) (fun _ _=>st) (by decide +kernel) ⟨(),trivial,aN.mk (by simp -implicitDefEqProofs only[aB,↓aY,seval])⟩ (fun i x _ hx hlt bB hdr hinv=>?_) (fun _ hge hinv=>?_)
     · simp at hlt
     · simp -implicitDefEqProofs only[bL,aP,e1,hsh,aB,seval,AC]
       refine gD _ ?_
       rw[gT,Sub.QN,hm0]
def TM(v:Tm)(D:Nat)(cnt cb:Nat)(st:aA)(r:AV)(st':aA):Prop:=
 ∃m8:Nat,m8≤121∧st'=st.aC cb (.cells [.int .i64 m8]) ∧
  if v.flat D=true∧cnt+v.nodes≤120 then r=.tup [v.av,.bool true]∧m8=cnt+v.nodes else r=.tup [Tm.zero.av,.bool false]
theorem DG{α:Type}(f:α→Nat):∀l m:List α,aL f (l++m)=aL f l+aL f m
 | [],m=>by simp [aL]
 | x::l,m=>by simp only[gH,aL,DG f l m];omega
abbrev Cv (t:Tm):Prop:=t.cv=true
theorem aH0{σ:Sub}{R:Int→Tm}{rk:Int→Nat}{B f:Nat}(G:Good σ R rk B){t:Tm}{k n:Int}{s:ByteArray}{ts:List Tm}(hw:fM σ f t (.mk k n s ts))(hc:Cv (.mk k n s ts)):t.aK R=.mk k n s (ts.map (Tm.aK R)):=by
 rw[←hw.aK G.vL]
 by_cases hk:k=1
 · rw[Tm.mK R hk,G.free (show σ n=none from hw.end hk)]
   obtain⟨h1,_⟩:=Tm.pP.1 hc
   obtain⟨rfl,rfl⟩:=h1 hk
   rw[hk];try rfl
 · rw[Tm.lN R hk]
abbrev tB:=zi tI_3 (zi zI_3 (zi a7 (zi tI_4 (zi zI_4 (zi cL (zi tI_9 (zi zI_9 (zi d9 (zi tI_31 (zi zI_31 (zi aR (zi bO (zi bP (zi cF (zi tI_66 (zi zI_66 (zi b9 (zi cA (zi cB (zi cC (zi bZ (zi tI_202 (zi zI_202 (zi tI_227 zI_227))))))))))))))))))))))))
theorem WC{σ:Sub}{R:Int→Tm}{rk:Int→Nat}{B:Nat}(G:Good σ R rk B)(hcv:cK Cv σ)(hsm:cK Sm σ)(c m cb:Nat)(q:AV)(hcb:cb≠c∧cb≠m) :
 ∀(D:Nat) (t:Tm) (cnt:Nat) (st:aA),D≤31→Cv t→Sm t→cnt≤120→iG st c m q σ→st cb=some (.cells [.int .i64 cnt]) →
 aD prog 356 [.ptr c 0,t.av,.int .i64 (31 - D:Int),.ptr cb 0] st (TM (t.aK R) D cnt cb st)
 | D,t,cnt,st,hD,hct,hst,a57,hS,hC=>by
  have IH:=fun(D':Nat) (hlt:D'<D) (x:Tm) cnt st=>WC G hcv hsm c m cb q hcb D' x cnt st
  obtain⟨f,hw⟩:=G.wk t
  generalize wk σ t=u at *
  have hcu:=hw.all (p:=Cv) hcv hct
  have hsu:=hw.all (p:=Sm) hsm hst
  have hcw:=fun st (hS:iG st c m q σ)=>IN hw c m q st hS
  obtain⟨k,n,s,ts⟩:=u
  have hv:=aH0 G hw hcu
  rw[hv]
  obtain⟨hlen,oQ⟩:=Tm.o9 hsu
  obtain⟨_,aV8⟩:=Tm.pP.1 hcu
  refine aD.oJ (aD.fin ?_)
  refine wF [1000000,5,10] 4 func356 ntmps356 rfl rfl ?_
  intro _
  simp -implicitDefEqProofs only[aB,seval,tB]
  intro b5 h5 b8 h8
  have h85:b8≠b5:=by rintro rfl;rw[aA.aJ] at h8;cases h8
  have hn8:st b8=none:=by rw[aA.aF st _ h85] at h8;exact h8
  have hS':∀o o',iG ((st.aC b5 o).aC b8 o') c m q σ:=fun o o'=>(hS.aC h5).aC (by rw[aA.aF _ _ h85];exact hn8)
  have hb5:cb≠b5:=by rintro rfl;rw[hC] at h5;cases h5
  have hb8:cb≠b8:=by rintro rfl;rw[hC] at hn8;cases hn8
  have hwc:IntKind.i64.wrap ((cnt:Int)+1)=(cnt:Int)+1:=wrap64 (by omega) (by omega)
  simp -implicitDefEqProofs only[h85.symm,aB,seval]
  refine(hcw _ (hS' _ _)).to ?_
  simp only[bA]
  simp -implicitDefEqProofs only[aP,h85.symm,hb5,hb8,hC,hwc,aB,seval,tB]
  have PJ:∀(st':aA) (m8:Nat),m8≤121→aM st' (st.aC cb (.cells [.int .i64 m8]))→¬((Tm.mk k n s (ts.map (Tm.aK R))).flat D=true∧cnt+(Tm.mk k n s (ts.map (Tm.aK R))).nodes≤120) →
   ∃b l s0,st'=bV s0 b l∧(l≠[]→s0 b=none)∧(∀e∈l,e.cD=false)∧jG l∧∃s2,aM s0 s2∧TM (Tm.mk k n s (ts.map (Tm.aK R))) D cnt cb st (AV.fin b l (.tup [.agg [.int .i64 0,.int .i64 0,.str ⟨#[]⟩,.fslice []],.bool false])) s2:=fun st' m8 h1 h2 h3=>by
   refine⟨0,[],st',rfl,by simp,by simp,⟨4,by simp⟩,_,h2,m8,h1,rfl,?_⟩
   rw[aG h3]
   simp only[Tm.zero,bA,iK,mH,f7,vC,oL,pR,bR,bQ]
  have hdr:∀o5 o8 o5' o8' m8,aM (((((st.aC b5 o5).aC b8 o8).aC b5 o5').aC cb (.cells [.int .i64 m8])).aC b8 o8') (st.aC cb (.cells [.int .i64 m8])):=fun o5 o8 o5' o8' m8 x=>by
   by_cases e5:x=b5<;>by_cases e8:x=b8<;>by_cases ec:x=cb<;>simp_all [aA.aC]
  refine cU (fun h=>?_) (fun h=>?_)
  case refine_2=>
   simp -implicitDefEqProofs only[h,aP,h85,hb8.symm,aB,seval,tB]
   refine PJ _ (cnt+1) (by omega) (hdr _ _ _ _ _) ?_
   simp at h
   rw[Tm.kG]
   omega
  simp -implicitDefEqProofs only[h,aB,seval]
  simp at h
  refine aT (fun h2=>?_) (fun h2=>?_)
  · simp only[bM] at h2
    obtain rfl:D=0:=by omega
    simp -implicitDefEqProofs only[aP,h85,hb8.symm,aB,↓aY,seval,tB]
    exact PJ _ (cnt+1) (by omega) (hdr _ _ _ _ _) (by rw[Tm.FM];simp)
  simp only[cM] at h2
  obtain⟨D',rfl⟩:∃D',D=D'+1:=⟨D - 1,by omega⟩
  have aV9:IntKind.i64.wrap (31 - ((D':Int)+1)+1)=31 - (D':Int):=by rw[wrap64 (by omega) (by omega)];omega
  simp -implicitDefEqProofs only[aP,hb5.symm,aB,↓aY,seval,tB]
  intro b10 h10
  have OS:b10≠b5:=by rintro rfl;simp [aA.aC,hb5.symm] at h10
  have CE:b10≠b8:=by rintro rfl;simp [aA.aC,h85,hb8.symm] at h10
  have OT:b10≠cb:=by rintro rfl;simp [aA.aC] at h10
  have aWZ:st b10=none:=by rw[aA.aF _ _ OT,aA.aF _ _ OS,aA.aF _ _ CE,aA.aF _ _ OS] at h10;exact h10
  simp -implicitDefEqProofs only[hb5.symm,OS.symm,aE,aB,seval,tB]
  rw[aA.xW h85]
  have hWS:iG ((st.aC b8 (.cells [.int .i64 0,.int .i64 0,.str ⟨#[]⟩,.fslice []])).aC b5 (.cells [.int .i64 k,.int .i64 n,.str s,.slice (ts.map Tm.av)])) c m q σ:=(hS.aC hn8).aC (by rw[aA.aF _ _ h85.symm];exact h5)
  have hW8:((st.aC b8 (.cells [.int .i64 0,.int .i64 0,.str ⟨#[]⟩,.fslice []])).aC b5 (.cells [.int .i64 k,.int .i64 n,.str s,.slice (ts.map Tm.av)])) b8=some (.cells [.int .i64 0,.int .i64 0,.str ⟨#[]⟩,.fslice []]):=by rw[aA.aF _ _ h85,aA.aJ]
  have hWd:∀X Y Z,aM (((((st.aC b8 (.cells [.int .i64 0,.int .i64 0,.str ⟨#[]⟩,.fslice []])).aC b5 (.cells [.int .i64 k,.int .i64 n,.str s,.slice (ts.map Tm.av)])).aC cb X).aC b8 Y).aC b10 Z) (st.aC cb X):=fun X Y Z x=>by
   by_cases e5:x=b5<;>by_cases e8:x=b8<;>by_cases ec:x=cb<;>by_cases e10:x=b10<;>simp_all [aA.aC]
  generalize ((st.aC b8 (.cells [.int .i64 0,.int .i64 0,.str ⟨#[]⟩,.fslice []])).aC b5 (.cells [.int .i64 k,.int .i64 n,.str s,.slice (ts.map Tm.av)]))=W at *
  obtain⟨aVI,aVJ⟩:=hS.ne aWZ
  refine dL (σ:=Nat) [1000000,5,10] [0,2,3,8,10,40,41] ts
   (fun i b=>(((ts.take i).map (Tm.aK R)).map Tm.av≠[]→(aA.aC (W.aC cb (.cells [.int .i64 ((cnt+1+aL Tm.nodes ((ts.take i).map (Tm.aK R)):Nat):Int)])) b10 (.cells ([.int .i64 k,.int .i64 n,.str s]++ [bS 4 b (((ts.take i).map (Tm.aK R)).map Tm.av)]))) b=none) ∧
    cnt+1+aL Tm.nodes ((ts.take i).map (Tm.aK R))≤120∧((ts.take i).map (Tm.aK R)).all (fun x=>x.flat D')=true)
   (fun i b=>[(9,.bool false),(42,.int .i64 i)])
   (fun i b=>kO (W.aC cb (.cells [.int .i64 ((cnt+1+aL Tm.nodes ((ts.take i).map (Tm.aK R)):Nat):Int)])) b10 b [.int .i64 k,.int .i64 n,.str s] (((ts.take i).map (Tm.aK R)).map Tm.av)) (by decide +kernel)
   ⟨0,⟨fun h=>absurd rfl h,by simp [aL];omega,by simp⟩,aN.mk (by simp -implicitDefEqProofs only[aB,↓aY,seval])⟩ (fun i x b hx hlt bB xE hinv=>?_) (fun b hge hinv=>?_)
  · obtain⟨i1,i2,i3⟩:=hinv
    have htk:(ts.take (i+1)).map (Tm.aK R)=(ts.take i).map (Tm.aK R)++ [x.aK R]:=by rw[eH,hx];simp
    have c7:(((ts.take i).map (Tm.aK R)).map Tm.av).length=i:=by simp only[aE,dI];omega
    have hw:=bG (n:=(i:Int)+1)
    have eX:=cG hx
    generalize hl0:(ts.take i).map (Tm.aK R)=l0 at *
    generalize hc0:cnt+1+aL Tm.nodes l0=c0 at *
    have hWc:(W.aC cb (.cells [.int .i64 (c0:Int)])) cb≠none:=by rw[aA.aJ];simp
    have hs1:=nC i1 hWc OT.symm
    have hsS:iG (kO (W.aC cb (.cells [.int .i64 (c0:Int)])) b10 b [.int .i64 k,.int .i64 n,.str s] (l0.map Tm.av)) c m q σ:=by
     have h1:=(hWS.MG (o:=.cells [.int .i64 (c0:Int)]) hcb.1 hcb.2)
     exact⟨by rw[nC i1 (by rw[h1.cells];simp) aVI.symm];exact h1.cells,by rw[nC i1 (by rw[h1.map];simp) aVJ.symm];exact h1.map⟩
    rw[aA.aJ] at hs1
    simp -implicitDefEqProofs only[bB,aV9,bH (av:=Tm.av) aR hx (aO x),cE,aO,aB,↓aY,seval,tB]
    refine(IH D' (Nat.lt_succ_self _) x c0 _ (by omega) (aV8 x eX) (oQ x eX) i2 hsS hs1).mono ?_
    rintro r s2 ⟨m8,aV2,rfl,hr⟩
    obtain⟨e1,i1'⟩:=aJP (o:=.cells [.int .i64 (m8:Int)]) i1 hWc OT.symm
    rw[e1,eA]
    rw[eA] at i1'
    have sT:(ts.map (Tm.aK R))=l0++(x.aK R)::(ts.drop (i+1)).map (Tm.aK R):=by rw[←hl0,←bR,←xE,←mX,n9]
    by_cases hok:(x.aK R).flat D'=true∧c0+(x.aK R).nodes≤120
    · rw[aH hok] at hr
      obtain⟨rfl,rfl⟩:=hr
      have hbo:=lM i1'
      simp -implicitDefEqProofs only[cE,aO,Tm.d5,Tm.eN,hbo,qR,aB,↓aY,seval,tB]
      refine f9 aR bO bP rfl rfl (g9 (aO _) (Tm.d5 _)) (iP _) i1' (by simp only[c7,a8,bL];omega) (by simp only[c7,a8,bL];omega) (fun b' hb'=>?_)
      rw[show l0.map Tm.av++ [(x.aK R).av]=((ts.take (i+1)).map (Tm.aK R)).map Tm.av by rw[htk];simp] at hb' ⊢
      obtain⟨g1,g2,g3⟩:=vM hb'
      simp only[gH,eU] at g1 g3
      have hcc:cnt+1+aL Tm.nodes ((ts.take (i+1)).map (Tm.aK R))=c0+(x.aK R).nodes:=by rw[htk,DG,aL,aL,←hc0];omega
      simp -implicitDefEqProofs only[g3,qS,j5,g1,hw,aP,aB,seval,tB]
      rw[hcc]
      exact⟨b',⟨g2,hok.2,by rw[htk,A0,i3];simp [hok.1]⟩,aN.mk (by simp -implicitDefEqProofs only[aB,seval])⟩
    · rw[aG hok] at hr
      subst hr
      obtain⟨e2,i2'⟩:=aJP (x:=b8) (o:=.cells [.int .i64 0,.int .i64 0,.str ⟨#[]⟩,.fslice []]) i1' (by rw[aA.aF _ _ hb8.symm,hW8];simp) CE.symm
      have h8o:=nC i1' (x:=b8) (by rw[aA.aF _ _ hb8.symm,hW8];simp) CE.symm
      rw[aA.aF _ _ hb8.symm,hW8] at h8o
      simp -implicitDefEqProofs only[aP,h8o,Tm.zero,bA,bQ,aB,↓aY,seval,tB]
      rw[e2]
      refine PJ _ m8 aV2 (aYK (hWd _ _ _) i2') ?_
      rw[Tm.kG,Tm.vD,sT,A0,jI,DG,aL]
      rintro⟨h3,h4⟩
      simp only[cT] at h3
      exact hok ⟨h3.2.1,by omega⟩
  · obtain⟨i1,i2,i3⟩:=hinv
    rw[dQ] at i1 i2 i3 ⊢
    have hbo:=lM i1
    have hx8:(W.aC cb (.cells [.int .i64 ((cnt+1+aL Tm.nodes (ts.map (Tm.aK R)):Nat):Int)])) b8≠none:=by rw[aA.aF _ _ hb8.symm,hW8];simp
    have h8o:=nC i1 (x:=b8) hx8 CE.symm
    rw[aA.aF _ _ hb8.symm,hW8] at h8o
    simp -implicitDefEqProofs only[aP,hge,hbo,h8o,j5,aB,seval,tB]
    obtain⟨h5,h6⟩:=t7 (o:=.cells [.int .i64 k,.int .i64 n,.str s,bS 4 b ((ts.map (Tm.aK R)).map Tm.av)]) i1 hx8 CE.symm
    have xH:cnt+(Tm.mk k n s (ts.map (Tm.aK R))).nodes=cnt+1+aL Tm.nodes (ts.map (Tm.aK R)):=by rw[Tm.kG];omega
    refine⟨b,_,_,h5,h6,rT _,⟨4,iP _⟩,_,?_,_,Nat.le_succ_of_le i2,rfl,?_⟩
    · rw[aA.nZ _ _ _ CE]
      exact hWd _ _ _
    · rw[aH ⟨by rw[Tm.vD];exact i3,by rw[xH];exact i2⟩,xH]
      refine⟨?_,rfl⟩
      simp only[mH,iK,bR,bQ,f7,oL,vC,nL,bA]
termination_by D=>D
decreasing_by exact hlt
def KN(v:Tm):AV:=if v.flat 30=true∧v.nodes≤120 then .tup [v.av,.bool true] else .tup [Tm.zero.av,.bool false]
abbrev SJ:=zi tI_3 (zi zI_3 (zi a7 (zi tI_4 (zi zI_4 (zi cL (zi tI_66 (zi zI_66 (zi b9 (zi cA (zi cB (zi cC (zi bZ (zi tI_202 (zi zI_202 (zi tI_227 zI_227)))))))))))))))
theorem WB{σ:Sub}{R:Int→Tm}{rk:Int→Nat}{B:Nat}(G:Good σ R rk B)(hcv:cK Cv σ)(hsm:cK Sm σ)(c m:Nat)(q:AV)(t:Tm)(hct:Cv t)(hst:Sm t)(st:aA)(hS:iG st c m q σ) :
 aD prog 307 [.ptr c 0,t.av] st (fun r st'=>r=KN (t.aK R)∧st'=st):=by
 refine aD.done ?_
 refine wF [1000000,6] 2 func307 ntmps307 rfl rfl ?_
 intro _
 simp -implicitDefEqProofs only[aP,aB,↓aY,seval,SJ]
 intro b4 h4 b6 h6
 have hne:b6≠b4:=by rintro rfl;rw[aA.aJ] at h6;cases h6
 have hn6:st b6=none:=by rw[aA.aF st _ hne] at h6;exact h6
 have hS':∀o o',iG ((st.aC b4 o).aC b6 o') c m q σ:=fun o o'=>(hS.aC h4).aC (by rw[aA.aF _ _ hne];exact hn6)
 obtain⟨h6c,h6m⟩:=hS.ne hn6
 have hc:=WC G hcv hsm c m b6 q ⟨h6c,h6m⟩ 30 t 0 _ (by omega) hct hst (by omega) (hS' (.cells [.int .i64 0,.int .i64 0,.str ⟨#[]⟩,.fslice []]) (.cells [.int .i64 0])) (aA.aJ _ _ _)
 rw[show(31 - ((30:Nat):Int))=1 from rfl] at hc
 refine hc.mono ?_
 rintro r s2 ⟨m8,_,rfl,hr⟩
 unfold KN
 rw[gU] at hr
 split at hr
 · rename_i hok
   obtain⟨rfl,_⟩:=hr
   rw[aH hok]
   simp -implicitDefEqProofs only[Tm.fN,Tm.d5,aP,hne.symm,aB,seval,SJ]
   exact⟨by simp only[sZ,vV,Tm.soft,bR,bQ],(((aM.refl _).aC h4).aC hn6).aC h4⟩
 · rename_i hok
   subst hr
   rw[aG hok]
   simp -implicitDefEqProofs only[Tm.zero,bA,bQ,aP,hne.symm,aB,seval,SJ]
   exact⟨by simp only[rM,sZ,uB,vV,AA,DE,bR,bQ],(((aM.refl _).aC h4).aC hn6).aC h4⟩
abbrev a2Z:=zi tI_141 (zi zI_141 (zi AJ (zi tI_227 (zi zI_227 (zi tI_304 (zi zI_304 (zi B9 (zi CA BR))))))))
theorem aSI(st:aA):aD prog 225 [] st (fun r st'=>∃c m,r=.ptr c 0∧fR st' c m (.fslice []) Sub.none []∧lW c m st (.fslice []) st' (.fslice [])∧st c=none∧st m=none):=by
 refine wF [1000000,3] 0 func225 ntmps225 rfl rfl ?_
 intro _
 simp -implicitDefEqProofs only[aB,seval,a2Z]
 intro m hm c hc
 have hne:c≠m:=by rintro rfl;rw[aA.aJ] at hc;cases hc
 have hnc:st c=none:=by rw[aA.aF st _ hne] at hc;exact hc
 refine⟨c,m,rfl,⟨⟨aA.aJ _ _ _,by rw[aA.aF _ _ hne.symm,aA.aJ];try rfl⟩,.inl ⟨rfl,rfl⟩,by simp [dE]⟩,⟨fun x o h h1 h2 _=>by rw[aA.aF _ _ h1,aA.aF _ _ h2];exact h,by simp [dE]⟩,hnc,hm⟩
theorem iG.acc{st:aA}{c m b:Nat}{q:AV}{σ:Sub}{l:List AV}(h:iG st c m q σ)(hb:l≠[]→st b=none):iG (bV st b l) c m q σ:=by
 cases l with
 | nil=>exact h
 | cons x l=>exact h.aC (hb (by simp))
abbrev a6P:=zi tI_3 (zi zI_3 (zi a7 (zi tI_23 (zi zI_23 (zi rD (zi tP (zi tQ (zi rU (zi tI_31 (zi zI_31 (zi aR (zi bO (zi bP (zi cF (zi tI_66 (zi zI_66 (zi b9 (zi cA (zi cB (zi cC (zi bZ (zi tI_90 (zi zI_90 (zi w6 (zi w7 (zi w8 (zi w9 wR)))))))))))))))))))))))))))
abbrev SO:=zi tI_3 (zi zI_3 (zi a7 (zi tI_4 (zi zI_4 (zi cL (zi tI_31 (zi zI_31 (zi aR (zi bO (zi bP (zi cF (zi tI_66 (zi zI_66 (zi b9 (zi cA (zi cB (zi cC bZ)))))))))))))))))
theorem aQA(l l':List Tm)(g:FuncId)(st:aA)(hc:∀x∈l,∀(y:Tm) (st:aA),aD prog g [Tm.av x,Tm.av y] st (fun r st'=>r=.bool (Tm.same x y)∧st'=st)) :
 aD prog 165 [.slice (l.map Tm.av),.slice (l'.map Tm.av),.func g []] st (fun r st'=>r=.bool (g7 Tm.same l l')∧st'=st):=by
 refine wF [1000000] 3 func165 ntmps165 rfl rfl ?_
 simp only[dK,AV.fits,dT,aE]
 intro ⟨⟨hl,_⟩,⟨hl',_⟩⟩
 simp -implicitDefEqProofs only[aE,aB,seval,SO]
 refine⟨fun h4=>?_,fun h4=>?_⟩
 · simp -implicitDefEqProofs only[aB,seval]
   simp only[gW,cM] at h4
   rw[B8 _ (show l.length≠l'.length by omega)]
 simp only[kJ,bM] at h4
 have h4':l.length=l'.length:=by omega
 simp -implicitDefEqProofs only[aE,aB,seval,SO]
 refine dL (σ:=Unit) [1000000] [1,2,15,16] l (fun i _=>∀(j:Nat) (x y:Tm),j<i→l[j]?=some x→l'[j]?=some y→Tm.same x y=true) (fun i _=>[(17,.int .i64 i)]) (fun _ _=>st) (by decide +kernel) ⟨(),by intro j x y h;omega,aN.mk (by simp -implicitDefEqProofs only[aB,↓aY,seval])⟩ (fun i x _ hx hlt bB hdr dC=>?_) (fun _ hge dC=>?_)
 case refine_2=>
  simp -implicitDefEqProofs only[hge,aB,seval]
  rw[B5 _ h4' (fun j x y h6 h7=>dC j x y (by have:=(eE.1 h6).1;omega) h6 h7)]
 obtain⟨y,hy⟩:∃y,l'[i]?=some y:=⟨_,dZ (h4'▸hlt)⟩
 have hw:=bG (n:=(i:Int)+1)
 simp -implicitDefEqProofs only[bB,cE,aO,Tm.d5,Tm.eN,bH (av:=Tm.av) aR hx (aO x),bH (av:=Tm.av) aR hy (aO y),aB,↓aY,seval,SO]
 refine(hc x (cG hx) y _).to ?_
 simp -implicitDefEqProofs only[aB,seval]
 refine⟨fun h6=>?_,fun h6=>?_⟩
 · simp -implicitDefEqProofs only[aB,seval]
   have h7:Tm.same x y=false:=by simpa using h6
   rw[B6 _ i x y hx hy h7]
 have h7:Tm.same x y=true:=by simpa using h6
 simp -implicitDefEqProofs only[aB,seval]
 refine⟨(),fun j u v hj hu hv=>?_,aN.mk (by simp -implicitDefEqProofs only[hw,aB,seval])⟩
 rcases lI j i with h8 | h8
 · exact dC j u v h8 hu hv
 · obtain rfl:j=i:=by omega
   rw[hx] at hu;rw[hy] at hv;cases hu;cases hv;exact h7
abbrev a6Q:=zi tI_3 (zi zI_3 (zi a7 (zi tI_9 (zi zI_9 (zi d9 (zi tI_23 (zi zI_23 (zi rD (zi tP (zi tQ (zi rU (zi tI_31 (zi zI_31 (zi aR (zi bO (zi bP (zi cF (zi tI_66 (zi zI_66 (zi b9 (zi cA (zi cB (zi cC (zi bZ (zi tI_90 (zi zI_90 (zi w6 (zi w7 (zi w8 (zi w9 wR))))))))))))))))))))))))))))))
abbrev LM:=zi tI_3 (zi zI_3 (zi a7 (zi tI_4 (zi zI_4 (zi cL (zi tI_9 (zi zI_9 (zi d9 (zi tI_31 (zi zI_31 (zi aR (zi bO (zi bP (zi cF (zi tI_66 (zi zI_66 (zi b9 (zi cA (zi cB (zi cC bZ))))))))))))))))))))
theorem VJ:∀(a b:Tm) (st:aA),aD prog 133 [a.av,b.av] st (fun r st'=>r=.bool (a.same b)∧st'=st)
 | .mk k n s ts,.mk k' n' s' ts',st=>by
  have hc:=aQA ts ts' 133 st fun x hx y st=>VJ x y st
  refine wF [] 2 func133 ntmps133 rfl rfl ?_
  intro _
  simp only[bA,Tm.KZ]
  simp -implicitDefEqProofs only[aB,seval,LM]
  refine cU (fun h1=>?_) (fun h1=>?_)
  case refine_2=>
   simp -implicitDefEqProofs only[h1,aB,seval]
   simp at h1
   simp []
  simp -implicitDefEqProofs only[h1,aB,seval,LM]
  refine cU (fun h2=>?_) (fun h2=>?_)
  case refine_2=>
   simp -implicitDefEqProofs only[h2,aB,seval]
   simp at h2
   simp []
  simp -implicitDefEqProofs only[h2,aB,seval,LM]
  refine cU (fun h3=>?_) (fun h3=>?_)
  case refine_2=>
   simp -implicitDefEqProofs only[h3,aB,seval]
   simp at h3
   simp []
  simp -implicitDefEqProofs only[h3,aB,seval,LM]
  refine hc.to ?_
  simp -implicitDefEqProofs only[aB,seval]
termination_by a=>SizeOf.sizeOf a
decreasing_by have:=List.sizeOf_lt_of_mem hx;simp only[Tm.mk.sizeOf_spec];omega
abbrev DN:=zi tI_3 (zi zI_3 (zi a7 (zi tI_4 (zi zI_4 (zi cL (zi tI_9 (zi zI_9 (zi d9 (zi tI_31 (zi zI_31 (zi aR (zi bO (zi bP (zi cF (zi tI_66 (zi zI_66 (zi b9 (zi cA (zi cB (zi cC bZ))))))))))))))))))))
theorem WF:∀(a b:Tm) (st:aA),aD prog 326 [a.av,b.av] st (fun r st'=>r=.bool (a.same b)∧st'=st)
 | .mk k n s ts,.mk k' n' s' ts',st=>by
  have hc:=fun(x:Tm) (hx:x∈ts) y st=>WF x y st
  refine wF [] 2 func326 ntmps326 rfl rfl ?_
  simp only[bA,dK,AV.fits,dT,aE,Tm.KZ]
  intro ⟨⟨_,_,_,hl,_⟩,⟨_,_,_,hl',_⟩⟩
  simp -implicitDefEqProofs only[aB,seval,DN]
  refine cU (fun h1=>?_) (fun h1=>?_)
  case refine_2=>
   simp -implicitDefEqProofs only[h1,aB,seval]
   simp at h1
   simp [h1]
  simp -implicitDefEqProofs only[h1,aB,seval,DN]
  refine cU (fun h2=>?_) (fun h2=>?_)
  case refine_2=>
   simp -implicitDefEqProofs only[h2,aB,seval]
   simp at h2
   simp [h2]
  simp -implicitDefEqProofs only[h2,aB,seval,DN]
  refine cU (fun h3=>?_) (fun h3=>?_)
  case refine_2=>
   simp -implicitDefEqProofs only[h3,aB,seval]
   simp at h3
   simp [h3]
  simp -implicitDefEqProofs only[h3,aE,aB,seval,DN]
  refine⟨fun h4=>?_,fun h4=>?_⟩
  · simp -implicitDefEqProofs only[aB,seval]
    simp only[gW,cM] at h4
    rw[B8 _ (show ts.length≠ts'.length by omega)]
    simp
  simp -implicitDefEqProofs only[aB,seval]
  simp only[kJ,bM] at h1 h2 h3 h4
  have h4':ts.length=ts'.length:=by omega
  subst h1 h2 h3
  simp only[f6,iY]
  refine n6 (α:=Nat) [] (fun i=>i≤ts.length∧∀(j:Nat) (x y:Tm),j<i→ts[j]?=some x→ts'[j]?=some y→Tm.same x y=true)
   (fun i=>[(2,.pptr (.agg [.int .i64 k,.int .i64 n,.str s,.slice (ts.map Tm.av)])),(3,.pptr (.agg [.int .i64 k,.int .i64 n,.str s,.slice (ts'.map Tm.av)])),(5,.int .i64 i)]) (fun _=>st) (fun i=>ts.length - i) (by decide +kernel)
   ⟨0,⟨by omega,by intro j x y h;omega⟩,aN.mk (by simp -implicitDefEqProofs only[aB,↓aY,seval])⟩ ?_
  intro i ⟨hi,dC⟩
  simp -implicitDefEqProofs only[aE,aB,seval,DN]
  refine⟨fun h5=>?_,fun h5=>?_⟩
  case refine_2=>
   simp -implicitDefEqProofs only[aB,seval]
   simp only[cM,gX] at h5
   rw[B5 _ h4' (fun j x y h6 h7=>dC j x y (by have:=(eE.1 h6).1;omega) h6 h7)]
  simp only[bM,gX] at h5
  obtain⟨x,hx⟩:∃x,ts[i]?=some x:=⟨_,dZ h5⟩
  obtain⟨y,hy⟩:∃y,ts'[i]?=some y:=⟨_,dZ (h4'▸h5)⟩
  simp -implicitDefEqProofs only[aB,seval]
  refine EN mixed (by decide +kernel) (by decide +kernel) ?_
  simp -implicitDefEqProofs only[bH (av:=Tm.av) aR hx (aO x),bH (av:=Tm.av) aR hy (aO y),cE,aO,aB,seval,DN]
  refine(hc x (cG hx) y st).to ?_
  simp -implicitDefEqProofs only[aB,seval]
  refine⟨fun h6=>?_,fun h6=>?_⟩
  · simp -implicitDefEqProofs only[aB,seval]
    have h7:Tm.same x y=false:=by simpa using h6
    rw[B6 _ i x y hx hy h7]
  have h7:Tm.same x y=true:=by simpa using h6
  simp -implicitDefEqProofs only[aB,seval]
  refine⟨i+1,by omega,⟨by omega,fun j u v hj hu hv=>?_⟩,aN.mk ?_⟩
  · rcases lI j i with h8 | h8
    · exact dC j u v h8 hu hv
    · obtain rfl:j=i:=by omega
      rw[hx] at hu;rw[hy] at hv;cases hu;cases hv;exact h7
  · have:=bG (n:=(i:Int)+1)
    simp -implicitDefEqProofs only[this,aB,seval]
termination_by a=>SizeOf.sizeOf a
decreasing_by have:=List.sizeOf_lt_of_mem hx;simp only[Tm.mk.sizeOf_spec];omega
end Go.AW
