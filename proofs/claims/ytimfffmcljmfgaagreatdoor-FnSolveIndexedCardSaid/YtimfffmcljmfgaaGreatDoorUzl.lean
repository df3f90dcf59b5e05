/- Searches as data: the reference's, and the program's. -/
import Derived.Test.YtimfffmcljmfgaaGreatDoorUzk
import Derived.Test.YtimfffmcljmfgaaGreatDoorUzj
import Derived.Test.YtimfffmcljmfgaaGreatDoorUzg
import Derived.Test.YtimfffmcljmfgaaGreatDoorUzi
set_option linter.unusedSimpArgs false
set_option linter.unusedVariables false
set_option maxRecDepth 100000
namespace Go.AW
def H4(c:Cl):Int:=(cD (c.1::c.2) []).foldl (fun n v=>if n≤v then v+1 else n) 0
def nF(c:Cl):Nat:=(H4 c).toNat
def cZ(N:Nat)(t:Tm):Tm:=b7 (fun v=>v+(N:Int)) t
def eQ(t:Tm):Bool:=t.flat 30&&decide (t.nodes≤120)
def lX(t:Tm):Bool:=decide (t.k=3)&&decide (t.s=⟨#[33]⟩)&&decide ((t.ts.length:Int)=0)
def ID(c:Cl)(t:Tm):Bool:=decide (c.1.s=t.s)&&decide ((c.1.ts.length:Int)=(t.ts.length:Int))
def dG(p:List Cl)(t:Tm):List Nat:=(List.range p.length).filter fun i=>match p[i]? with
 | some c=>ID c t
 | none=>false
def sK(c:Int):Int:=if c=2 then 4 else if c=3 then 5 else if c=4 then 6 else 7
noncomputable def kC(σ:Sub)(vars:List Int):Option (List Tm):=
 if((vars.map (rs σ)).all eQ=true)∧(cD (vars.map (rs σ)) []).length≤26 then some (qN (vars.map (rs σ))) else none
structure RG where
 t:Tm
 aV:Nat
structure RC where
 goal:Tm
 rest:List RG
 left:List Nat
 σ:Sub
 N:Nat
structure RS where
 goals:List RG
 σ:Sub
 N:Nat
 chs:List RC
inductive RO where
 | go (s:RS)
 | fail
 | stop (e:Int)
noncomputable def fK(p:List Cl)(chs:List RC)(goal:Tm)(rest:List RG)(σ:Sub)(N:Nat):List Nat→Option RS
 | []=>none
 | i::l=>match p[i]? with
  | none=>none
  | some x=>if(iD σ goal (cZ N x.1)).1=true then
   some ⟨x.2.map (fun t=>⟨cZ N t,chs.length⟩)++rest,(iD σ goal (cZ N x.1)).2.1,N+nF x,if l= [] then chs else chs++ [⟨goal,rest,l,σ,N⟩]⟩
   else fK p chs goal rest σ N l
noncomputable def gC(p:List Cl):Nat→List RC→Option RS
 | 0,_=>none
 | n+1,chs=>match chs.getLast? with
  | none=>none
  | some c=>match fK p chs.dropLast c.goal c.rest c.σ c.N c.left with
   | some s=>some s
   | none=>gC p n chs.dropLast
noncomputable def iB(p:List Cl)(cnd:Tm→List Nat→List Nat)(s:RS)(g:RG)(rest:List RG):RO:=
 if eQ (g.t.aM (rs s.σ))=false then .stop 3
 else if lX (g.t.aM (rs s.σ))=true then .go ⟨rest,s.σ,s.N,s.chs.take g.aV⟩
 else if isBuiltin (g.t.aM (rs s.σ)).s ((g.t.aM (rs s.σ)).ts.length:Int)=true then
  if(dH s.σ (g.t.aM (rs s.σ)).s (g.t.aM (rs s.σ)).ts).1=0 then .go ⟨rest,(dH s.σ (g.t.aM (rs s.σ)).s (g.t.aM (rs s.σ)).ts).2.1,s.N,s.chs⟩
  else if(dH s.σ (g.t.aM (rs s.σ)).s (g.t.aM (rs s.σ)).ts).1=1 then .fail
  else .stop (sK (dH s.σ (g.t.aM (rs s.σ)).s (g.t.aM (rs s.σ)).ts).1)
 else if dG p (g.t.aM (rs s.σ))= [] then .stop 8
 else match fK p s.chs (g.t.aM (rs s.σ)) rest s.σ s.N (cnd (g.t.aM (rs s.σ)) (dG p (g.t.aM (rs s.σ)))) with
  | some s'=>.go s'
  | none=>.fail
noncomputable def kL(p:List Cl)(cnd:Tm→List Nat→List Nat)(vars:List Int)(most fuel:Nat)(s:RS):List (List Tm)×Int:=
 match s.goals with
 | []=>if h:most=0 then([],1) else match kC s.σ vars with
  | none=>([],3)
  | some a=>match gC p s.chs.length s.chs with
   | none=>([a],0)
   | some s'=>(a::(kL p cnd vars (most - 1) fuel s').1,(kL p cnd vars (most - 1) fuel s').2)
 | g::rest=>if h:fuel=0 then([],2) else match iB p cnd s g rest with
  | .stop e=>([],e)
  | .go s'=>kL p cnd vars most (fuel - 1) s'
  | .fail=>match gC p s.chs.length s.chs with
   | none=>([],0)
   | some s'=>kL p cnd vars most (fuel - 1) s'
termination_by most+fuel
decreasing_by all_goals omega
def mQ(q:List Tm):RS:=⟨q.map fun t=>⟨t,0⟩,Sub.none,26,[]⟩
noncomputable def AQ(p:List Cl)(cnd:Tm→List Nat→List Nat)(q:List Tm)(most fuel:Nat):List (List Tm)×Int:=kL p cnd (cD q []) most fuel (mQ q)
structure IG where
 t:Tm
 cut:Nat
 up:Int
structure IC where
 goal:Tm
 node:Nat
 rest:List IG
 list:List Nat
 fW:Nat
 taken:Nat
structure IS where
 goals:List IG
 σ:Sub
 tr:List Int
 chs:List IC
 fresh:Nat
 nn:Nat
inductive yO where
 | go (s:IS)
 | fail (s:IS)
 | stop (e:Int)
noncomputable def gK(p:List Cl)(goal:Tm)(at':Nat)(rest:List IG):List Nat→IS→Bool×IS
 | [],s=>(false,s)
 | i::l,s=>match p[i]? with
  | none=>(false,s)
  | some x=>if(iD s.σ goal (cZ s.fresh x.1)).1=true then
   (true,⟨x.2.map (fun t=>⟨cZ s.fresh t,s.chs.length,at'⟩)++rest,(iD s.σ goal (cZ s.fresh x.1)).2.1,s.tr++(iD s.σ goal (cZ s.fresh x.1)).2.2,if l= [] then s.chs else s.chs++ [⟨goal,at',rest,l,s.tr.length,s.nn⟩],s.fresh+26,s.nn⟩)
   else gK p goal at' rest l { s with fresh:=s.fresh+26 }
def IS.pop(s:IS)(c:IC):IS:={ s with chs:=s.chs.dropLast,σ:=s.σ.out (s.tr.drop c.fW),tr:=s.tr.take c.fW,nn:=c.taken }
noncomputable def hH(p:List Cl):Nat→IS→Option IS
 | 0,_=>none
 | n+1,s=>match s.chs.getLast? with
  | none=>none
  | some c=>if(gK p c.goal c.node c.rest c.list (s.pop c)).1=true then some (gK p c.goal c.node c.rest c.list (s.pop c)).2 else hH p n (gK p c.goal c.node c.rest c.list (s.pop c)).2
noncomputable def mK(p:List Cl)(cnd:Tm→List Nat→List Nat)(s:IS)(g:IG)(rest:List IG):yO:=
 if eQ (g.t.aM (rs s.σ))=false then .stop 3
 else if lX (g.t.aM (rs s.σ))=true then .go { s with goals:=rest,chs:=s.chs.take g.cut,nn:=s.nn+1 }
 else if isBuiltin (g.t.aM (rs s.σ)).s ((g.t.aM (rs s.σ)).ts.length:Int)=true then
  if(dH s.σ (g.t.aM (rs s.σ)).s (g.t.aM (rs s.σ)).ts).1=0 then .go { s with goals:=rest,σ:=(dH s.σ (g.t.aM (rs s.σ)).s (g.t.aM (rs s.σ)).ts).2.1,tr:=s.tr++(dH s.σ (g.t.aM (rs s.σ)).s (g.t.aM (rs s.σ)).ts).2.2,nn:=s.nn+1 }
  else if(dH s.σ (g.t.aM (rs s.σ)).s (g.t.aM (rs s.σ)).ts).1=1 then .fail { s with σ:=(dH s.σ (g.t.aM (rs s.σ)).s (g.t.aM (rs s.σ)).ts).2.1,tr:=s.tr++(dH s.σ (g.t.aM (rs s.σ)).s (g.t.aM (rs s.σ)).ts).2.2,nn:=s.nn+1 }
  else .stop (sK (dH s.σ (g.t.aM (rs s.σ)).s (g.t.aM (rs s.σ)).ts).1)
 else if dG p (g.t.aM (rs s.σ))= [] then .stop 8
 else if(gK p (g.t.aM (rs s.σ)) s.nn rest (cnd (g.t.aM (rs s.σ)) (dG p (g.t.aM (rs s.σ)))) { s with nn:=s.nn+1 }).1=true then .go (gK p (g.t.aM (rs s.σ)) s.nn rest (cnd (g.t.aM (rs s.σ)) (dG p (g.t.aM (rs s.σ)))) { s with nn:=s.nn+1 }).2
 else .fail (gK p (g.t.aM (rs s.σ)) s.nn rest (cnd (g.t.aM (rs s.σ)) (dG p (g.t.aM (rs s.σ)))) { s with nn:=s.nn+1 }).2
noncomputable def j3(p:List Cl)(cnd:Tm→List Nat→List Nat)(vars:List Int)(most fuel:Nat)(s:IS):List (List Tm)×Int:=
 match s.goals with
 | []=>if h:most=0 then([],1) else match kC s.σ vars with
  | none=>([],3)
  | some a=>match hH p s.chs.length s with
   | none=>([a],0)
   | some s'=>(a::(j3 p cnd vars (most - 1) fuel s').1,(j3 p cnd vars (most - 1) fuel s').2)
 | g::rest=>if h:fuel=0 then([],2) else match mK p cnd s g rest with
  | .stop e=>([],e)
  | .go s'=>j3 p cnd vars most (fuel - 1) s'
  | .fail s'=>match hH p s'.chs.length s' with
   | none=>([],0)
   | some s''=>j3 p cnd vars most (fuel - 1) s''
termination_by most+fuel
decreasing_by all_goals omega
def pC(q:List Tm):IS:=⟨q.map fun t=>⟨t,0,-1⟩,Sub.none,[],[],26,0⟩
structure oW (ρ:Int→Int) (N F:Nat) (σ τ:Sub):Prop where
 sim:gF ρ N σ τ
 rng:∀v,0≤v→v<(N:Int)→0≤ρ v∧ρ v<(F:Int)
 g1:cT σ
 o1:cW (bF N) σ
 g2:cT τ
 o2:cW (bF F) τ
 d1:∀n,¬(0≤n∧n<(N:Int))→σ n=none
 d2:∀n,¬(0≤n∧n<(F:Int))→τ n=none
 h26:26≤N
 idn:∀v,0≤v→v<26→ρ v=v
theorem oW.mono{ρ:Int→Int}{N F F':Nat}{σ τ:Sub}(S:oW ρ N F σ τ)(h:F≤F'):oW ρ N F' σ τ:=
 ⟨S.sim,fun v h0 h1=>⟨(S.rng v h0 h1).1,by have:=(S.rng v h0 h1).2;omega⟩,S.g1,S.o1,S.g2,S.o2.imp fun t ht=>ht.mono (by omega),S.d1,fun n hn=>S.d2 n fun h'=>hn ⟨h'.1,by omega⟩,S.h26,S.idn⟩
def uA(ρ:Int→Int)(N F:Nat):Int→Int:=fun v=>if v<(N:Int) then ρ v else v - N+F
theorem vT{ρ:Int→Int}{N F:Nat}{v:Int}(h:v<(N:Int)):uA ρ N F v=ρ v:=aH h
theorem oW.ext{ρ:Int→Int}{N F:Nat}{σ τ:Sub}(S:oW ρ N F σ τ){k:Nat}(hk:k≤26):oW (uA ρ N F) (N+k) (F+26) σ τ:=by
 have nG:∀v:Int,¬v<(N:Int)→uA ρ N F v=v - N+F:=fun v h=>aE h
 refine⟨⟨fun v w hv0 hv1 hw0 hw1 e=>?_,fun v h0 h1=>?_⟩,fun v h0 h1=>?_,S.g1,S.o1.imp fun t ht=>ht.mono (by omega),S.g2,S.o2.imp fun t ht=>ht.mono (by omega),fun n hn=>S.d1 n fun h=>hn ⟨h.1,by omega⟩,fun n hn=>S.d2 n fun h=>hn ⟨h.1,by omega⟩,by have:=S.h26;omega,fun v h0 h1=>by rw[vT (by have:=S.h26;omega)];exact S.idn v h0 h1⟩
 · by_cases hv:v<(N:Int)<;>by_cases hw:w<(N:Int)
   · rw[vT hv,vT hw] at e;exact S.sim.inj v w hv0 hv hw0 hw e
   · rw[vT hv,nG w hw] at e
     have:=S.rng v hv0 hv
     omega
   · rw[vT hw,nG v hv] at e
     have:=S.rng w hw0 hw
     omega
   · rw[nG v hv,nG w hw] at e
     omega
 · by_cases hv:v<(N:Int)
   · rw[vT hv,S.sim.map v h0 hv]
     cases hs:σ v with
     | none=>rfl
     | some u=>
      simp only[oD,Option.some.injEq]
      refine VS fun w hw=>?_
      rw[vT ((S.o1 v u hs).1.2.2 w hw).2]
   · rw[nG v hv,S.d1 v (fun h=>hv h.2),S.d2 _ (fun h=>by omega)]
     try rfl
 · by_cases hv:v<(N:Int)
   · rw[vT hv]
     have:=S.rng v h0 hv
     omega
   · rw[nG v hv];omega
theorem aM5(l:List Int):∀n:Int,n≤l.foldl (fun n v=>if n≤v then v+1 else n) n∧(∀v∈l,v<l.foldl (fun n v=>if n≤v then v+1 else n) n)∧∀m:Int,n≤m→(∀v∈l,v<m)→l.foldl (fun n v=>if n≤v then v+1 else n) n≤m:=by
 induction l with
 | nil=>intro n;exact⟨Int.le_refl _,by simp,fun m h _=>h⟩
 | cons x l ih=>
  intro n
  simp only[BD]
  obtain⟨h1,h2,h3⟩:=ih (if n≤x then x+1 else n)
  refine⟨?_,fun v hv=>?_,fun m hm hl=>h3 m ?_ fun v hv=>hl v (by simp [hv])⟩
  · split at h1<;>rename_i h<;>split<;>omega
  · rcases c8.1 hv with rfl | hv
    · split at h1<;>rename_i h<;>split<;>omega
    · exact h2 v hv
  · have:=hl x (by simp)
    split<;>omega
structure fL (c:Cl):Prop where
 head:bF 26 c.1
 body:∀t∈c.2,bF 26 t∧t.k=3
theorem fL.vars{c:Cl}(h:fL c){v:Int}:v∈cD (c.1::c.2) []↔∃t∈c.1::c.2,v∈t.vl:=by
 rw[A3]
 · simp
 · intro t ht
   rcases c8.1 ht with rfl | ht
   · exact h.head.1.2.1
   · exact(h.body t ht).1.1.2.1
theorem fL.FJ{c:Cl}(h:fL c):∀t∈c.1::c.2,bF 26 t:=fun t ht=>by
 rcases c8.1 ht with rfl | ht
 · exact h.head
 · exact(h.body t ht).1
theorem fL.fr{c:Cl}(h:fL c):nF c≤26∧∀t∈c.1::c.2,∀v∈t.vl,v<(nF c:Int):=by
 obtain⟨h1,h2,h3⟩:=aM5 (cD (c.1::c.2) []) 0
 have hle:=h3 26 (by omega) fun v hv=>by
  obtain⟨t,ht,hv⟩:=h.vars.1 hv
  exact((h.FJ t ht).1.2.2 v hv).2
 unfold nF H4
 refine⟨by omega,fun t ht v hv=>?_⟩
 have:=h2 v (h.vars.2 ⟨t,ht,hv⟩)
 omega
theorem fL.cZ{c:Cl}(h:fL c)(N:Nat):∀t∈c.1::c.2,bF ((N+nF c:Nat):Int) (cZ N t):=fun t ht=>by
 refine(h.FJ t ht).b7 fun v hv=>?_
 have h1:=((h.FJ t ht).1.2.2 v hv).1
 have h2:=h.fr.2 t ht v hv
 omega
theorem VX{ρ:Int→Int}{N F:Nat}{c:Cl}(h:fL c):∀t∈c.1::c.2,b7 (uA ρ N F) (cZ N t)=cZ F t:=fun t ht=>by
 unfold AW.cZ
 rw[show b7 (uA ρ N F) (b7 (fun v=>v+(N:Int)) t)=t.aM fun v=>vr (uA ρ N F (v+N)) from JH _ _ t]
 refine rJ t fun v hv=>?_
 have h1:=((h.FJ t ht).1.2.2 v hv).1
 show vr (uA ρ N F (v+(N:Int)))=vr (v+(F:Int))
 unfold uA
 rw[aE (by omega)]
 congr 1
 omega
theorem aQO{N:Nat}(t:Tm):(cZ N t).k=t.k:=wD _ t
def GL(ρ:Int→Int)(N:Nat)(gs:List RG)(hs:List IG):Prop:=hs.map (fun h=>(h.t,h.cut))=gs.map (fun g=>(b7 ρ g.t,g.aV))∧∀g∈gs,bF N g.t∧g.t.k=3
theorem GL.ext{ρ ρ':Int→Int}{N N':Nat}{gs:List RG}{hs:List IG}(h:GL ρ N gs hs)(hN:N≤N')(hr:∀v,0≤v→v<(N:Int)→ρ' v=ρ v):GL ρ' N' gs hs:=by
 refine⟨h.1.trans (mV fun g hg=>?_),fun g hg=>⟨(h.2 g hg).1.mono (by omega),(h.2 g hg).2⟩⟩
 rw[VS (ρ:=ρ) (ρ':=ρ') fun v hv=>(hr v ((h.2 g hg).1.1.2.2 v hv).1 ((h.2 g hg).1.1.2.2 v hv).2).symm]
theorem GL.app{ρ:Int→Int}{N:Nat}{gs gs':List RG}{hs hs':List IG}(h:GL ρ N gs hs)(h':GL ρ N gs' hs'):GL ρ N (gs++gs') (hs++hs'):=by
 refine⟨by rw[oC,oC,h.1,h'.1],fun g hg=>?_⟩
 rcases fF.1 hg with hg | hg
 · exact h.2 g hg
 · exact h'.2 g hg
def C1(F:Nat)(c:RC)(d:IC)(τ:Sub):Prop:=∃ρ,oW ρ c.N F c.σ τ∧d.goal=b7 ρ c.goal∧bF c.N c.goal∧GL ρ c.N c.rest d.rest∧d.list=c.left
inductive jD (F:Nat):List RC→List IC→Sub→List Int→Prop
 | nil {τ:Sub} {tr:List Int}:jD F [] [] τ tr
 | snoc {cs:List RC} {ds:List IC} {c:RC} {d:IC} {τ:Sub} {tr:List Int} (h:jD F cs ds (τ.out (tr.drop d.fW)) (tr.take d.fW)) (h1:C1 F c d (τ.out (tr.drop d.fW))) (h2:d.fW≤tr.length):jD F (cs++ [c]) (ds++ [d]) τ tr
theorem jD.len{F:Nat}{cs:List RC}{ds:List IC}{τ:Sub}{tr:List Int}(h:jD F cs ds τ tr):ds.length=cs.length:=by
 induction h with
 | nil=>rfl
 | snoc _ _ _ ih=>simp [ih]
theorem jD.mono{F F':Nat}(hF:F≤F'){cs:List RC}{ds:List IC}{τ:Sub}{tr:List Int}(h:jD F cs ds τ tr):jD F' cs ds τ tr:=by
 induction h with
 | nil=>exact .nil
 | snoc _ h1 h2 ih=>exact .snoc ih (by obtain⟨ρ,h3,h4⟩:=h1;exact⟨ρ,h3.mono hF,h4⟩) h2
theorem aZJ(tr:List Int){a m:Nat}(h:a≤m)(n:Int):n∈tr.drop m++(tr.take m).drop a↔n∈tr.drop a:=by
 have e:tr.drop a=(tr.take m).drop a++tr.drop m:=by
  conv=>lhs;rw[←rX m tr]
  rw[KL]
  by_cases hm:m≤tr.length
  · rw[dQ,kN hm,show a - m=0 by omega,rV]
  · rw[List.drop_of_length_le (show tr.length≤m by omega)]
    simp
 rw[e,fF,fF,or_comm]
theorem jD.lift{F:Nat}{cs:List RC}{ds:List IC}{τ:Sub}{tr:List Int}{m:Nat}(h:jD F cs ds (τ.out (tr.drop m)) (tr.take m))(hm:m≤tr.length):jD F cs ds τ tr:=by
 generalize hτ:τ.out (tr.drop m)=τ' at h
 generalize htr:tr.take m=tr' at h
 cases h with
 | nil=>exact .nil
 | @snoc cs ds c d _ _ h h1 h2=>
  subst hτ htr
  have hd:d.fW≤m:=by rw[dQ] at h2;omega
  have e1:(τ.out (tr.drop m)).out ((tr.take m).drop d.fW)=τ.out (tr.drop d.fW):=by
   rw[Sub.a5D]
   exact Sub.a5E τ (aZJ tr hd)
  have e2:(tr.take m).take d.fW=tr.take d.fW:=by rw[wS,kN hd]
  rw[e1,e2] at h
  rw[e1] at h1
  exact .snoc h h1 (by omega)
theorem jD.more{F:Nat}{cs:List RC}{ds:List IC}{τ τ':Sub}{tr add:List Int}(h:jD F cs ds τ tr)(e:τ'.out add=τ):jD F cs ds τ' (tr++add):=by
 refine jD.lift (m:=tr.length) ?_ (by simp)
 rw[GH,DR,e]
 exact h
theorem jD.take{F:Nat}{cs:List RC}{ds:List IC}{τ:Sub}{tr:List Int}(h:jD F cs ds τ tr)(k:Nat):jD F (cs.take k) (ds.take k) τ tr:=by
 induction h with
 | nil=>simp;exact .nil
 | @snoc cs ds c d τ tr h h1 h2 ih=>
  have hl:=h.len
  by_cases hk:k≤cs.length
  · rw[DQ hk,DQ (by omega)]
    exact ih.lift h2
  · rw[lT (by simp;omega),lT (by simp;omega)]
    exact .snoc h h1 h2
def Rl(s:RS)(i:IS):Prop:=∃ρ,oW ρ s.N i.fresh s.σ i.σ∧GL ρ s.N s.goals i.goals∧jD i.fresh s.chs i.chs i.σ i.tr
theorem BG.CT{N:Int}{σ:Sub}{a b:Tm}{r:Bool}{σ':Sub}{tr:List Int}(h:BG N σ a b r σ' tr):σ'.out tr=σ:=funext fun n=>h.out n
theorem nP.CT{N:Int}{σ σ':Sub}{add:List Int}(h:nP N σ σ' add):σ'.out add=σ:=by
 funext n
 unfold Sub.out
 split
 · rename_i hn;exact((h.new n hn).1).symm
 · rename_i hn;exact h.aV n hn
theorem nP.xG{N:Nat}{σ σ':Sub}{add:List Int}(h:nP N σ σ' add)(hd:∀n,¬(0≤n∧n<(N:Int))→σ n=none):∀n,¬(0≤n∧n<(N:Int))→σ' n=none:=fun n hn=>by
 rw[h.aV n fun h'=>hn (h.gQ n h')]
 exact hd n hn
theorem oW.grow{ρ:Int→Int}{N F:Nat}{σ τ σ' τ':Sub}{add aT9:List Int}(S:oW ρ N F σ τ)(h:nP N σ σ' add)(h':nP F τ τ' aT9)(s:gF ρ N σ' τ'):oW ρ N F σ' τ':=
 ⟨s,S.rng,h.gW,h.ok,h'.gW,h'.ok,h.xG S.d1,h'.xG S.d2,S.h26,S.idn⟩
theorem oW.C0{ρ:Int→Int}{N F:Nat}{σ τ:Sub}(S:oW ρ N F σ τ){t:Tm}(h:bF N t):bF F (b7 ρ t):=h.b7 fun v hv=>S.rng v (h.1.2.2 v hv).1 (h.1.2.2 v hv).2
section
variable {p:List Cl} (hp:∀c∈p,fL c)
include hp
theorem PF{cs:List RC}{goal:Tm}{rest:List RG}{σ:Sub}{N:Nat}{ρ:Int→Int}{VU:List IG}{τ:Sub}{tr:List Int}{ds:List IC}{nn at':Nat}(hg:bF N goal)(hr:GL ρ N rest VU) :
 ∀(l:List Nat) (F:Nat) (gl:List IG),oW ρ N F σ τ→jD F cs ds τ tr →
 match fK p cs goal rest σ N l with
 | none=>∃F',F≤F'∧gK p (b7 ρ goal) at' VU l ⟨gl,τ,tr,ds,F,nn⟩=(false,⟨gl,τ,tr,ds,F',nn⟩)
 | some s=>∃i,gK p (b7 ρ goal) at' VU l ⟨gl,τ,tr,ds,F,nn⟩=(true,i)∧Rl s i:=by
 intro l
 induction l with
 | nil=>intro F gl S C;exact⟨F,dB _,rfl⟩
 | cons j l ih=>
  intro F gl S C
  unfold fK gK
  cases hj:p[j]? with
  | none=>exact⟨F,dB _,rfl⟩
  | some x=>
   have hx:=hp x (cJ hj)
   have S2:=S.ext hx.fr.1
   have hgo:b7 (uA ρ N F) goal=b7 ρ goal:=VS fun v hv=>vT (hg.1.2.2 v hv).2
   have hhd:=hx.cZ N x.1 (by simp)
   have hgN:bF ((N+nF x:Nat):Int) goal:=hg.mono (by omega)
   obtain⟨r,σ',add,U⟩:=tC S2.g1 S2.o1 hgN hhd
   obtain⟨g,mJ⟩:=U.run
   obtain⟨τ',e,S',_⟩:=S2.sim.iD S2.g1 S2.g2 S2.o1.mN hgN.1 hhd.1 mJ
   rw[hgo,VX hx x.1 (by simp)] at e
   have hF1:bF ((F+26:Nat):Int) (b7 ρ goal):=by rw[←hgo];exact S2.C0 hgN
   have hF2:bF ((F+26:Nat):Int) (cZ F x.1):=by rw[←VX (ρ:=ρ) (N:=N) (F:=F) hx x.1 (by simp)];exact S2.C0 hhd
   obtain⟨r2,τ2,aUA,U2⟩:=tC S2.g2 S2.o2 hF1 hF2
   have e2:=U2.eq
   rw[e] at e2
   obtain⟨rfl,rfl,rfl⟩:r=r2∧τ'=τ2∧add.map (uA ρ N F)=aUA:=by simpa using e2
   simp only[U.eq,e]
   cases r with
   | false=>
    simp only[jC,dI]
    have:=ih (F+26) gl (S.mono (by omega)) (C.mono (by omega))
    cases hq:fK p cs goal rest σ N l with
    | none=>
     rw[hq] at this
     obtain⟨F',h1,h2⟩:=this
     exact⟨F',by omega,h2⟩
    | some s=>
     rw[hq] at this
     exact this
   | true=>
    simp only[gB]
    refine⟨_,rfl,uA ρ N F,S2.grow U.yD U2.yD S',?_,?_⟩
    · refine GL.app ⟨?_,fun g hg=>?_⟩ (hr.ext (show N≤N+nF x by omega) fun v _ hv=>vT hv)
      · simp only[rW]
        refine mV fun t ht=>?_
        simp only[BB]
        rw[VX hx t (by simp [ht]),C.len]
      · obtain⟨t,ht,rfl⟩:=cU.1 hg
        exact⟨hx.cZ N t (by simp [ht]),by rw[aQO];exact(hx.body t ht).2⟩
    · have C2:=(C.mono (show F≤F+26 by omega)).more U2.CT
      by_cases hl:l= []
      · simp only[aH hl]
        exact C2
      · simp only[aE hl]
        refine .snoc ?_ ?_ (by simp)
        · simp only[GH,DR,U2.CT]
          exact C.mono (by omega)
        · simp only[GH,U2.CT]
          exact⟨ρ,S.mono (by omega),rfl,hg,hr,rfl⟩
theorem Q2:∀(n:Nat) (cs:List RC) (i:IS),jD i.fresh cs i.chs i.σ i.tr →
 match gC p n cs with
 | none=>hH p n i=none
 | some s=>∃i',hH p n i=some i'∧Rl s i':=by
 intro n
 induction n with
 | zero=>intro cs i C;simp only[gC,hH]
 | succ n ih=>
  intro cs i C
  obtain⟨gl,τ,tr,ds,F,nn⟩:=i
  simp only at C
  cases C with
  | nil=>simp only[gC,hH,List.getLast?_nil]
  | @snoc cs ds c d _ _ h h1 h2=>
   obtain⟨ρ,S,e1,hok,hG,e2⟩:=h1
   have key:=PF hp (cs:=cs) (nn:=d.taken) (at':=d.node) (tr:=tr.take d.fW) hok hG c.left F gl S h
   simp only[gC,hH,KQ,KR,KY,GF]
   have e3:(IS.pop ⟨gl,τ,tr,ds++ [d],F,nn⟩ d)=⟨gl,τ.out (tr.drop d.fW),tr.take d.fW,ds,F,d.taken⟩:=by simp only[IS.pop,GF]
   rw[e1,e2,e3]
   cases ht:fK p cs c.goal c.rest c.σ c.N c.left with
   | none=>
    rw[ht] at key
    obtain⟨F',hF,e⟩:=key
    simp only[e,jC,dI]
    exact ih cs _ (h.mono hF)
   | some s=>
    rw[ht] at key
    obtain⟨i',e,hR⟩:=key
    simp only[e,gB]
    exact⟨i',rfl,hR⟩
variable {cnd:Tm→List Nat→List Nat} (hc:∀(ρ:Int→Int) (t:Tm) (l:List Nat),cnd (b7 ρ t) l=cnd t l)
omit hp in
theorem aP7{ρ:Int→Int}{t:Tm}(h:t.k=3):(b7 ρ t).s=t.s∧(b7 ρ t).ts=t.ts.map (b7 ρ)∧(b7 ρ t).k=3:=by
 rw[C3 ρ (by omega)]
 exact⟨rfl,rfl,h⟩
omit hp in
theorem a0R{ρ:Int→Int}{t:Tm}(h:t.k=3):dG p (b7 ρ t)=dG p t:=by
 obtain⟨h1,h2,_⟩:=aP7 (ρ:=ρ) h
 unfold dG ID
 simp only[h1,h2,aF]
include hc
theorem aQ2{s:RS}{i:IS}{g:RG}{gs:List RG}(hR:Rl s i)(hgs:s.goals=g::gs) :
 ∃h hs,i.goals=h::hs∧match iB p cnd s g gs with
 | .stop e=>mK p cnd i h hs=.stop e
 | .go s'=>∃i',mK p cnd i h hs=.go i'∧Rl s' i'
 | .fail=>∃i',mK p cnd i h hs=.fail i'∧jD i'.fresh s.chs i'.chs i'.σ i'.tr:=by
 obtain⟨ρ,S,hG,C⟩:=hR
 rw[hgs] at hG
 obtain⟨gl,τ,tr,ds,F,nn⟩:=i
 simp only at S hG C ⊢
 cases gl with
 | nil=>exact absurd hG.1 (by simp)
 | cons h hs=>
  refine⟨h,hs,rfl,?_⟩
  have hGt:GL ρ s.N gs hs:=⟨(yQ hG.1).2,fun x hx=>hG.2 x (by simp [hx])⟩
  have he:=(yQ hG.1).1
  simp only[Prod.mk.injEq] at he
  obtain⟨e1,e2⟩:=he
  obtain⟨hgX,hg3⟩:=hG.2 g (by simp)
  have hT:=S.sim.rsT S.g1 S.g2 S.o1.mN hgX.1
  obtain⟨rk,B,G⟩:=S.g1.rs
  have hV:=G.U4 S.o1.mN hgX.1
  unfold iB mK
  simp only[e1,hT]
  have ht3:(g.t.aM (rs s.σ)).k=3:=by rw[Tm.rK _ (by omega)];exact hg3
  generalize g.t.aM (rs s.σ)=t at *
  obtain⟨r1,r2,r3⟩:=aP7 (ρ:=ρ) ht3
  have fD:eQ (b7 ρ t)=eQ t:=by unfold eQ;rw[VT ρ hV.2.1,N4 ρ hV.2.1]
  have uG:lX (b7 ρ t)=lX t:=by unfold lX;rw[r1,r2,r3,ht3,aF]
  simp only[fD,uG,a0R (p:=p) (ρ:=ρ) ht3,hc,r1,r2,aF]
  by_cases c1:eQ t=false
  · rw[aH c1,aH c1]
  rw[aE c1,aE c1]
  have hX:bF s.N t:=⟨hV,by
   have:eQ t=true:=by simpa using c1
   unfold eQ at this
   simp only[cK,bL] at this
   exact this.2⟩
  by_cases c2:lX t=true
  · rw[aH c2,aH c2]
    refine⟨_,rfl,ρ,S,hGt,?_⟩
    simp only[e2]
    exact C.take g.aV
  rw[aE c2,aE c2]
  by_cases c3:isBuiltin t.s (t.ts.length:Int)=true
  · rw[aH c3,aH c3]
    have hk:∀x∈t.ts,bF s.N x:=rL _ t (by omega) hX
    obtain⟨q1,q2,q3⟩:=S.sim.dH S.g1 S.g2 S.o1 t.s t.ts hk
    have q4:=N8 S.g1 S.o1 t.s t.ts hk
    have q5:=N8 S.g2 S.o2 t.s (t.ts.map (b7 ρ)) (fun x hx=>by
     obtain⟨y,hy,rfl⟩:=cU.1 hx
     exact S.C0 (hk y hy))
    rw[q1]
    by_cases c4:(dH s.σ t.s t.ts).1=0
    · rw[aH c4,aH c4]
      exact⟨_,rfl,ρ,S.grow q4 q5 q3,hGt,C.more q5.CT⟩
    rw[aE c4,aE c4]
    by_cases c5:(dH s.σ t.s t.ts).1=1
    · rw[aH c5,aH c5]
      exact⟨_,rfl,C.more q5.CT⟩
    rw[aE c5,aE c5]
  rw[aE c3,aE c3]
  by_cases c6:dG p t= []
  · rw[aH c6,aH c6]
  rw[aE c6,aE c6]
  have key:=PF hp (at':=nn) (nn:=nn+1) hX hGt (cnd t (dG p t)) F (h::hs) S C
  cases hq:fK p s.chs t gs s.σ s.N (cnd t (dG p t)) with
  | none=>
   rw[hq] at key
   obtain⟨F',hF,e⟩:=key
   simp only[e,jC,dI]
   exact⟨_,rfl,C.mono hF⟩
  | some s'=>
   rw[hq] at key
   obtain⟨i',e,hR⟩:=key
   simp only[e,gB]
   exact⟨i',rfl,hR⟩
end
theorem aSQ{ρ:Int→Int}{N:Int}{σ τ:Sub}(S:gF ρ N σ τ):∀(l:List Tm) (acc:List Int),(∀t∈l,cL N t)→(∀v∈acc,0≤v∧v<N)→cD (l.map (b7 ρ)) (acc.map ρ)=(cD l acc).map ρ∧∀v∈cD l acc,0≤v∧v<N
 | [],acc,_,ha=>⟨rfl,ha⟩
 | t::l,acc,h,ha=>by
  obtain⟨e1,e2⟩:=a9C (D:=fun v=>0≤v∧v<N) (h:=ρ) (fun v w hv hw e=>S.inj v w hv.1 hv.2 hw.1 hw.2 e) (f:=fun v=>vr (ρ v)) (fun _ _=>rfl) t (Tm.vP t (h t (by simp)).2.1) (h t (by simp)).2.2 acc ha
  simp only[aW,cD]
  rw[show(b7 ρ t).vars (acc.map ρ)=(t.vars acc).map ρ from e1]
  exact aSQ S l _ (fun x hx=>h x (by simp [hx])) e2
theorem a6C{ρ:Int→Int}{N:Int}{σ τ:Sub}(S:gF ρ N σ τ){l:List Tm}(h:∀t∈l,cL N t):qN (l.map (b7 ρ))=qN l∧(cD (l.map (b7 ρ)) []).length=(cD l []).length:=by
 obtain⟨e1,e2⟩:=aSQ S l [] h (by simp)
 rw[aU] at e1
 refine⟨?_,by rw[e1,aF]⟩
 unfold qN
 rw[e1,rW]
 refine mV fun t ht=>?_
 simp only[BB]
 rw[JH]
 refine rJ t fun v hv=>?_
 rw[aOI (D:=fun v=>0≤v∧v<N) (fun v w hv hw e=>S.inj v w hv.1 hv.2 hw.1 hw.2 e) v ((h t ht).2.2 v hv) _ _ e2]
theorem aUC{ρ:Int→Int}{N F:Nat}{σ τ:Sub}(S:oW ρ N F σ τ){vars:List Int}(hv:∀v∈vars,0≤v∧v<26):kC τ vars=kC σ vars:=by
 obtain⟨rk,B,G⟩:=S.g1.rs
 have hid:=S.idn
 have h26:=S.h26
 have e:vars.map (rs τ)=(vars.map (rs σ)).map (b7 ρ):=by
  rw[rW]
  refine mV fun v h=>?_
  obtain⟨h0,h1⟩:=hv v h
  have:=S.sim.rs S.g1 S.g2 S.o1.mN v h0 (by omega)
  rw[hid v h0 h1] at this
  exact this
 have hok:∀t∈vars.map (rs σ),cL N t:=fun t ht=>by
  obtain⟨v,h,rfl⟩:=cU.1 ht
  obtain⟨h0,h1⟩:=hv v h
  exact G.mN S.o1.mN v h0 (by omega)
 obtain⟨e1,e2⟩:=a6C S.sim hok
 have e3:((vars.map (rs σ)).map (b7 ρ)).all eQ=(vars.map (rs σ)).all eQ:=by
  rw[List.all_map,wQ,eW,eW]
  have:∀t∈vars.map (rs σ),eQ (b7 ρ t)=eQ t:=fun t ht=>by unfold eQ;rw[VT ρ (hok t ht).2.1,N4 ρ (hok t ht).2.1]
  constructor
  · intro h t ht;rw[←this t ht];exact h t ht
  · intro h t ht;simp only[BB];rw[this t ht];exact h t ht
 unfold kC
 rw[e,e1,e2,e3]
section
variable {p:List Cl} (hp:∀c∈p,fL c) {cnd:Tm→List Nat→List Nat} (hc:∀(ρ:Int→Int) (t:Tm) (l:List Nat),cnd (b7 ρ t) l=cnd t l)
include hp hc
theorem a6L{vars:List Int}(hv:∀v∈vars,0≤v∧v<26):∀(n most fuel:Nat) (s:RS) (i:IS),most+fuel≤n→Rl s i→j3 p cnd vars most fuel i=kL p cnd vars most fuel s:=by
 intro n
 induction n with
 | zero=>
  intro most fuel s i hn hR
  obtain⟨rfl,rfl⟩:most=0∧fuel=0:=by omega
  obtain⟨ρ,S,hG,C⟩:=hR
  rw[j3,kL]
  cases hgs:s.goals with
  | nil=>
   rw[hgs] at hG
   have hi:i.goals= []:=List.map_eq_nil_iff.1 hG.1
   simp [hi]
  | cons g gs=>
   rw[hgs] at hG
   cases hi:i.goals with
   | nil=>rw[hi] at hG;exact absurd hG.1 (by simp)
   | cons h hs=>simp
 | succ n ih=>
  intro most fuel s i hn hR
  cases hgs:s.goals with
  | nil=>
   obtain⟨ρ,S,hG,C⟩:=hR
   rw[hgs] at hG
   have hi:i.goals= []:=List.map_eq_nil_iff.1 hG.1
   rw[j3,kL]
   simp only[hgs,hi]
   by_cases hm:most=0
   · simp [hm]
   simp only[hm,dif_neg,I4]
   rw[aUC S hv]
   cases kC s.σ vars with
   | none=>rfl
   | some a=>
    simp only
    have key:=Q2 hp s.chs.length s.chs i C
    rw[C.len]
    cases hb:gC p s.chs.length s.chs with
    | none=>rw[hb] at key;simp only[key]
    | some s'=>
     rw[hb] at key
     obtain⟨i',e,hR'⟩:=key
     simp only[e]
     rw[ih (most - 1) fuel s' i' (by omega) hR']
  | cons g gs=>
   obtain⟨h,hs,hi,key⟩:=aQ2 hp hc hR hgs
   rw[j3,kL]
   simp only[hgs,hi]
   by_cases hf:fuel=0
   · simp [hf]
   simp only[hf,dif_neg,I4]
   cases hq:iB p cnd s g gs with
   | stop e=>
    rw[hq] at key
    simp only[key]
   | go s'=>
    rw[hq] at key
    obtain⟨i',e,hR'⟩:=key
    simp only[e]
    exact ih most (fuel - 1) s' i' (by omega) hR'
   | fail=>
    rw[hq] at key
    obtain⟨i',e,C'⟩:=key
    simp only[e]
    have NL:=Q2 hp s.chs.length s.chs i' C'
    rw[C'.len]
    cases hb:gC p s.chs.length s.chs with
    | none=>rw[hb] at NL;simp only[NL]
    | some s'=>
     rw[hb] at NL
     obtain⟨i'',e2,hR'⟩:=NL
     simp only[e2]
     exact ih most (fuel - 1) s' i'' (by omega) hR'
omit hp hc in
theorem aQ1{q:List Tm}(hq:∀t∈q,bF 26 t∧t.k=3):Rl (mQ q) (pC q):=by
 refine⟨fun v=>v,⟨⟨fun v w _ _ _ _ e=>e,fun v _ _=>rfl⟩,fun v h0 h1=>⟨h0,h1⟩,cT.none,fun n u h=>(by cases h),cT.none,fun n u h=>(by cases h),fun _ _=>rfl,fun _ _=>rfl,dB _,fun _ _ _=>rfl⟩,⟨?_,fun g hg=>?_⟩,.nil⟩
 · simp only[pC,mQ,rW]
   refine mV fun t ht=>?_
   simp only[BB]
   rw[show b7 (fun v=>v) t=t from UQ t (hq t ht).1.1.2.1]
 · simp only[mQ] at hg
   obtain⟨t,ht,rfl⟩:=cU.1 hg
   exact hq t ht
theorem a69{q:List Tm}(hq:∀t∈q,bF 26 t∧t.k=3)(most fuel:Nat):j3 p cnd (cD q []) most fuel (pC q)=AQ p cnd q most fuel:=by
 refine a6L hp hc (fun v hv=>?_) _ most fuel _ _ (dB _) (aQ1 hq)
 rw[A3 _ _ fun t ht=>(hq t ht).1.1.2.1] at hv
 rcases hv with hv | ⟨t,ht,hv⟩
 · cases hv
 · exact(hq t ht).1.1.2.2 v hv
end
theorem aY3{c:Cl}(h:mG c=true):fL c:=by
 simp only[mG,cK,bL,eW] at h
 refine⟨⟨Tm.KE h.1.1,Tm.KD h.1.1⟩,fun t ht=>?_⟩
 have hg:=h.2.2 t ht
 have hk:t.valid=true∧t.k=3:=by
  obtain⟨k,n,s,ts⟩:=t
  simp only[Tm.goal,cK] at hg
  refine⟨hg.1,?_⟩
  have:=hg.2
  simp only[zY,rN,rU,cK,bL] at this
  simp only[Tm.k]
  rcases this with (h | h) | h<;>first | exact h.1 | exact h.1.1 | exact h.1.1.1
 exact⟨⟨Tm.KE hk.1,Tm.KD hk.1⟩,hk.2⟩
def qK(l:List IC):Nat:=(l.map fun c=>c.list.length).sum
theorem UN(l m:List IC):qK (l++m)=qK l+qK m:=by simp [qK]
theorem aOT(c:IC):qK [c]=c.list.length:=by simp [qK]
theorem aOU(l:List IC)(k:Nat):qK (l.take k)≤qK l:=by
 have:=UN (l.take k) (l.drop k)
 rw[rX] at this
 omega
structure IX (p:List Cl) (M:Nat) (i:IS):Prop where
 tnd:i.tr.Nodup
 tin:∀n∈i.tr,(0≤n∧n<(i.fresh:Int))∧i.σ n≠none
 phi:i.fresh+26*qK i.chs≤M
 ch:∀c∈i.chs,c.node<c.taken∧c.taken≤i.nn∧c.fW≤i.tr.length∧∀x∈c.list,x<p.length
 mono:i.chs.Pairwise (fun c d=>c.taken≤d.taken∧c.fW≤d.fW)
theorem IX.up{p:List Cl}{M M':Nat}{i:IS}(h:IX p M i)(hM:M≤M'):IX p M' i:=⟨h.tnd,h.tin,lF h.phi hM,h.ch,h.mono⟩
theorem IX.W9{p:List Cl}{M:Nat}{i:IS}(h:IX p M i):i.tr.length≤i.fresh:=FG h.tnd fun n hn=>(h.tin n hn).1
theorem NH{p:List Cl}(hp:∀c∈p,fL c){M:Nat}{goal:Tm}{at':Nat}{rest:List IG}:∀(l:List Nat) (s:IS),(∀x∈l,x<p.length)→at'<s.nn→s.fresh+26*qK s.chs+26*l.length≤M→IX p M s→cT s.σ→cW (bF s.fresh) s.σ→bF s.fresh goal →
 IX p M (gK p goal at' rest l s).2
 | [],s,_,_,_,h,_,_,_=>by unfold gK;exact h
 | j::l,s,hl,ha,hM,h,hg,ho,hgo=>by
  obtain⟨x,hx⟩:∃x,p[j]?=some x:=⟨_,dZ (hl j (by simp))⟩
  have hX:=hp x (cJ hx)
  have hl':∀x∈l,x<p.length:=fun x h=>hl x (by simp [h])
  simp only[aQ] at hM
  unfold gK
  simp only[hx]
  split
  · have hhd:bF ((s.fresh+26:Nat):Int) (cZ s.fresh x.1):=(hX.cZ s.fresh x.1 (by simp)).mono (by have:=hX.fr.1;omega)
    obtain⟨r,σ',add,U⟩:=tC (N:=s.fresh+26) hg (fun n u e=>(ho n u e).mono (by omega)) (hgo.mono (by omega)) hhd
    rw[U.eq]
    have S:=U.yD
    refine⟨?_,?_,?_,?_,?_⟩
    · simp only
      refine oV.2 ⟨h.tnd,S.nodup,fun a ha b hb e=>?_⟩
      subst e
      exact(h.tin a ha).2 (S.new a hb).1
    · intro n hn
      simp only[fF] at hn ⊢
      rcases hn with hn | hn
      · have h1:=h.tin n hn
        have hna:n∉add:=fun ha=>h1.2 (S.new n ha).1
        exact⟨⟨h1.1.1,by have:=h1.1.2;omega⟩,by rw[S.aV n hna];exact h1.2⟩
      · have:=S.gQ n hn
        exact⟨⟨this.1,by omega⟩,(S.new n hn).2⟩
    · simp only
      split
      · omega
      · rw[UN,aOT];simp only;omega
    · intro c hc
      have key:∀c∈s.chs,c.node<c.taken∧c.taken≤s.nn∧c.fW≤(s.tr++add).length∧∀x∈c.list,x<p.length:=fun c hc=>by
       obtain⟨h1,h2,h3,h4⟩:=h.ch c hc
       exact⟨h1,h2,by rw[dL];omega,h4⟩
      simp only at hc ⊢
      split at hc
      · exact key c hc
      · rcases fF.1 hc with hc | hc
        · exact key c hc
        · simp only[c8,dX,eC] at hc
          subst hc
          exact⟨ha,dB _,by rw[dL];simp only;omega,hl'⟩
    · simp only
      split
      · exact h.mono
      · refine List.pairwise_append.2 ⟨h.mono,List.pairwise_singleton _ _,fun a ha b hb=>?_⟩
        simp only[c8,dX,eC] at hb
        subst hb
        obtain⟨h1,h2,h3,h4⟩:=h.ch a ha
        exact⟨h2,h3⟩
  · refine NH hp l { s with fresh:=s.fresh+26 } hl' ha (by simp only;omega) ⟨h.tnd,fun n hn=>?_,by simp only;omega,h.ch,h.mono⟩ hg (fun n u e=>(ho n u e).mono (by simp only;omega)) (hgo.mono (by simp only;omega))
    have:=h.tin n hn
    exact⟨⟨this.1.1,by simp only;omega⟩,this.2⟩
theorem IX.pop{p:List Cl}{M:Nat}{gl:List IG}{τ:Sub}{tr:List Int}{ds:List IC}{d:IC}{F nn:Nat}(h:IX p M ⟨gl,τ,tr,ds++ [d],F,nn⟩) :
 IX p M ⟨gl,τ.out (tr.drop d.fW),tr.take d.fW,ds,F,d.taken⟩∧F+26*qK ds+26*d.list.length≤M∧d.node<d.taken∧d.taken≤nn∧d.fW≤tr.length∧∀x∈d.list,x<p.length:=by
 obtain⟨h1,h2,h3,h4⟩:=h.ch d (by simp)
 have a2S:=h.phi
 simp only[UN,aOT] at a2S
 have hm:=List.pairwise_append.1 h.mono
 have hnd:=h.tnd
 simp only at hnd h2 h3
 have hsp:tr.take d.fW++tr.drop d.fW=tr:=rX _ _
 rw[←hsp,oV] at hnd
 refine⟨⟨hnd.1,fun n hn=>?_,by simp only;omega,fun c hc=>?_,hm.1⟩,by omega,h1,h2,h3,h4⟩
 · have:=h.tin n (lS hn)
   refine⟨this.1,?_⟩
   simp only
   unfold Sub.out
   rw[aE (fun hd=>hnd.2.2 n hn n hd rfl)]
   exact this.2
 · obtain⟨g1,g2,g3,g4⟩:=h.ch c (by simp [hc])
   have:=hm.2.2 c hc d (by simp)
   exact⟨g1,this.1,by simp only[dQ];simp only at g3;omega,g4⟩
theorem aOD{p:List Cl}(hp:∀c∈p,fL c){M:Nat}:∀(n:Nat) (cs:List RC) (i:IS),jD i.fresh cs i.chs i.σ i.tr→IX p M i→∀i',hH p n i=some i'→IX p M i'
 | 0,_,_,_,_,i',h=>by simp [hH] at h
 | n+1,cs,i,C,h,i',e=>by
  obtain⟨gl,τ,tr,ds,F,nn⟩:=i
  simp only at C
  cases C with
  | nil=>simp only[hH,List.getLast?_nil] at e;cases e
  | @snoc cs ds c d _ _ C h1 h2=>
   obtain⟨hP,hM,hnt,htn,htr,hli⟩:=h.pop
   have e3:(IS.pop ⟨gl,τ,tr,ds++ [d],F,nn⟩ d)=⟨gl,τ.out (tr.drop d.fW),tr.take d.fW,ds,F,d.taken⟩:=by simp only[IS.pop,GF]
   simp only[hH,KQ,KR,KY,e3] at e
   obtain⟨ρ,S,e1,hok,hG,e2⟩:=h1
   have hX:=NH hp (rest:=d.rest) d.list _ hli (at':=d.node) (by simp only;exact hnt) (by simp only;exact hM) hP S.g2 S.o2 (e1▸S.C0 hok)
   split at e
   · cases e
     exact hX
   · rename_i hf
     have key:=PF hp (cs:=cs) (nn:=d.taken) (at':=d.node) (tr:=tr.take d.fW) hok hG c.left F gl S C
     rw[←e1,←e2] at key
     cases ht:fK p cs c.goal c.rest c.σ c.N c.left with
     | some s=>
      rw[e2,ht] at key
      obtain⟨i2,k1,_⟩:=key
      rw[←e2] at k1
      rw[k1] at hf
      simp at hf
     | none=>
      rw[e2,ht] at key
      obtain⟨F',hF,k1⟩:=key
      rw[←e2] at k1
      rw[k1] at e hX
      exact aOD hp n cs _ (C.mono hF) hX i' e
def dR:AV→List Nat
 | .mslice b _ _ _=>[b]
 | _=>[]
def Trail(st:aB)(q:AV)(tr:List Int):Prop:=
 (q=.fslice []∧tr= [])∨∃b cs,q=.mslice b 0 tr.length 1∧st b=some (.cells cs)∧cs.take tr.length=tr.map iv
structure gS (st:aB) (c m:Nat) (q:AV) (σ:Sub) (tr:List Int):Prop where
 sub:jN st c m q σ
 fW:Trail st q tr
 apart:c∉dR q
structure m6 (c m:Nat) (st:aB) (q:AV) (st':aB) (q':AV):Prop where
 frame:∀b o,st b=some o→b≠c→b≠m→b∉dR q→st' b=some o
 fresh:∀b∈dR q',b∈dR q∨st b=none
def wV(c m:Nat)(st:aB)(q:AV)(σ':Sub)(tr':List Int)(st':aB):Prop:=∃q',gS st' c m q' σ' tr'∧m6 c m st q st' q'
theorem m6.refl(c m:Nat)(st:aB)(q:AV):m6 c m st q st q:=⟨fun _ _ h _ _ _=>h,fun _ h=>.inl h⟩
theorem m6.trans{c m:Nat}{st st' AR:aB}{q q' q'':AV}{σ:Sub}{tr:List Int}(x:m6 c m st q st' q')(hS:gS st' c m q' σ tr)(y:m6 c m st' q' AR q''):m6 c m st q AR q'':=by
 refine⟨fun b o h h1 h2 h3=>?_,fun b hb=>?_⟩
 · refine y.frame b o (x.frame b o h h1 h2 h3) h1 h2 fun h4=>?_
   rcases x.fresh b h4 with h5 | h5
   · exact h3 h5
   · rw[h5] at h;cases h
 · rcases y.fresh b hb with h | h
   · exact x.fresh b h
   · by_cases h1:b∈dR q
     · exact .inl h1
     · refine .inr ?_
       cases hst:st b with
       | none=>rfl
       | some o=>
        exfalso
        by_cases hc:b=c
        · subst hc;rw[hS.sub.cells] at h;cases h
        · by_cases hm:b=m
          · subst hm;rw[hS.sub.map] at h;cases h
          · rw[x.frame b o hst hc hm h1] at h;cases h
theorem gS.JP{st:aB}{c m:Nat}{q:AV}{σ:Sub}{tr:List Int}(h:gS st c m q σ tr):∀b∈dR q,∃cs,st b=some (.cells cs):=by
 intro b hb
 rcases h.fW with ⟨rfl,_⟩ | ⟨b',cs,rfl,hb',_⟩
 · simp [dR] at hb
 · simp only[dR,c8,dX,eC] at hb;subst hb;exact⟨cs,hb'⟩
theorem gS.NO{st:aB}{c m:Nat}{q:AV}{σ:Sub}{tr:List Int}(h:gS st c m q σ tr):m∉dR q:=fun hb=>by
 obtain⟨cs,e⟩:=h.JP m hb
 rw[h.sub.map] at e;cases e
theorem gS.aC{st:aB}{c m b:Nat}{q:AV}{σ:Sub}{tr:List Int}{o:AO}(h:gS st c m q σ tr)(h1:b≠c)(h2:b≠m)(h3:b∉dR q):gS (st.aC b o) c m q σ tr:=by
 refine⟨h.sub.PN h1 h2,?_,h.apart⟩
 rcases h.fW with h4 | ⟨b',cs,e1,e2,e3⟩
 · exact .inl h4
 · refine .inr ⟨b',cs,e1,?_,e3⟩
   rw[aB.aJ _ _ (by rintro rfl;exact h3 (by rw[e1];simp [dR]))]
   exact e2
theorem gS.GA{st:aB}{c m b:Nat}{q:AV}{σ:Sub}{tr:List Int}{o:AO}(h:gS st c m q σ tr)(hb:st b=none):gS (st.aC b o) c m q σ tr:=
 h.aC (h.sub.ne hb).1 (h.sub.ne hb).2 fun h3=>by obtain⟨cs,e⟩:=h.JP b h3;rw[hb] at e;cases e
theorem m6.GA{c m b:Nat}{st:aB}{q:AV}{o:AO}(hb:st b=none):m6 c m st q (st.aC b o) q:=
 ⟨fun x p h _ _ _=>by rw[aB.aJ _ _ (by rintro rfl;rw[hb] at h;cases h)];exact h,fun _ h=>.inl h⟩
theorem gS.shape{st:aB}{c m:Nat}{q:AV}{σ:Sub}{tr:List Int}(h:gS st c m q σ tr):q.isAgg=false∧q.width=1∧q.cH=false∧q.cells= [q]∧q.storable=true:=by
 rcases h.fW with ⟨rfl,_⟩ | ⟨b',cs,rfl,_⟩<;>exact⟨rfl,rfl,rfl,rfl,rfl⟩
theorem wV.from{c m:Nat}{st s0 st':aB}{q q0:AV}{σ σ':Sub}{tr tr':List Int}(h:wV c m s0 q0 σ' tr' st')(x:m6 c m st q s0 q0)(hS:gS s0 c m q0 σ tr):wV c m st q σ' tr' st':=by
 obtain⟨q',h1,h2⟩:=h
 exact⟨q',h1,x.trans hS h2⟩
theorem a8M{P:Program}{t:TypeId}{ag:Bool}{bytes:Nat}{zs:List AV}{st:aB}{c m:Nat}{q:AV}{σ:Sub}{tr:List Int}{n:Int}{K:AV→aB→Prop}(hI:eI P t=some (ag,1))(hB:eB P t=some bytes)(hZ:eZ P t=some zs)(hz:zs.length=1)(hb8:bytes≤16)
 (h:gS st c m q σ tr) (hl:tr.length+1≤1099511627776)
 (hK:∀q' st',Trail st' q' (tr++ [n])→c∉dR q'→m∉dR q'→(∀x,x∉dR q→x∉dR q'→st' x=st x)→(∀x∈dR q',x∈dR q∨st x=none)→K q' st'):kY P t st q (.fslice [.int .i64 n]) K:=by
 have fD:w8 1 [AV.int .i64 n]:=by intro e he;simp only[c8,dX,eC] at he;subst he;exact⟨rfl,rfl⟩
 have H9:(tr.length+1)*bytes≤140737488355328:=by
  have:=Nat.mul_le_mul hl hb8
  omega
 unfold kY
 simp only[hI,hB,hZ,BL]
 refine⟨hz,fD,?_⟩
 have hcm:∀x,st x=none→x≠c∧x≠m:=fun x hx=>h.sub.ne hx
 rcases h.fW with ⟨rfl,rfl⟩ | ⟨b,cs,rfl,hb,hcs⟩
 · simp only[bA,aQ,iJ] at H9 ⊢
   refine⟨by omega,by omega,by simp,fun h=>by simp at h,fun _ b hb=>?_⟩
   refine hK _ _ (.inr ⟨b,[.int .i64 n],rfl,aB.aP _ _ _,rfl⟩) (by simp only[dR,c8,dX,eC];exact c9 (hcm b hb).1) (by simp only[dR,c8,dX,eC];exact c9 (hcm b hb).2) (fun x _ hx=>?_) (fun x hx=>?_)
   · simp only[dR,c8,dX,eC] at hx
     rw[aB.aJ _ _ hx]
   · simp only[dR,c8,dX,eC] at hx
     subst hx;exact .inr hb
 · simp only[aQ,bA,iJ,hb]
   have hlen:tr.length≤cs.length:=by
    have:=jG List.length hcs
    simp only[dQ,aF] at this
    omega
   have hca:c≠b:=fun e=>h.apart (by simp [dR,e])
   have hma:m≠b:=fun e=>h.NO (by simp [dR,e])
   have nG:cs.take (tr.length*1)++ [AV.int .i64 n].flatMap AV.cells=(tr++ [n]).map iv:=by rw[wU,hcs];simp [AV.cells]
   refine⟨trivial,H9,by omega,by omega,?_,fun b' hb'=>?_⟩
   · rw[nG]
     refine hK _ _ (.inr ⟨b,_,by simp,aB.aP _ _ _,by rw[lT (by simp)]⟩) (by simpa [dR] using hca) (by simpa [dR] using hma) (fun x hx _=>?_) (fun x hx=>.inl hx)
     simp only[dR,c8,dX,eC] at hx
     rw[aB.aJ _ _ hx]
   · rw[nG]
     obtain⟨hc',hm'⟩:=hcm b' hb'
     refine hK _ _ (.inr ⟨b',_,by simp,aB.aP _ _ _,by rw[lT (by simp)]⟩) (by simpa [dR] using c9 hc') (by simpa [dR] using c9 hm') (fun x hx hx'=>?_) (fun x hx=>?_)
     · simp only[dR,c8,dX,eC] at hx hx'
       rw[aB.aJ _ _ hx']
       simp [aB.erase,hx]
     · simp only[dR,c8,dX,eC] at hx
       subst hx;exact .inr hb'
end Go.AW
namespace Go.AW
open Go.Proofs.Tryz
abbrev C9:=zi tI_3 (zi zI_3 (zi aZ (zi tI_4 (zi zI_4 (zi cG (zi tI_66 (zi zI_66 (zi bS (zi bT (zi bU (zi bV (zi bR (zi tI_141 (zi zI_141 (zi DF (zi tI_227 (zi zI_227 (zi tI_304 (zi zI_304 (zi ER (zi ES D8)))))))))))))))))))))
theorem LZ{σ:Sub}{f:Nat}{t u:Tm}(hw:gN σ f t u)(c m:Nat)(q:AV)(st:aB)(hS:jN st c m q σ):aD prog 380 [.ptr c 0,t.av] st (fun r st'=>r=u.av∧st'=st):=by
 refine aD.done ?_
 refine wF [1000000,3] 2 func380 ntmps380 rfl rfl ?_
 intro _
 simp -implicitDefEqProofs only[aA,seval,C9]
 intro b3 h3 b4 h4
 have hne:b4≠b3:=by rintro rfl;rw[aB.aP] at h4;cases h4
 have hn4:st b4=none:=by rw[aB.aJ st _ hne] at h4;exact h4
 have hD:∀o o',aL ((st.aC b3 o).aC b4 o') st:=fun o o'=>((aL.refl _).aC h3).aC hn4
 have hS':∀o o',jN ((st.aC b3 o).aC b4 o') c m q σ:=fun o o'=>(hS.aC h3).aC (by rw[aB.aJ _ _ hne];exact hn4)
 obtain⟨a2J,bBE⟩:=hS.ne h3
 obtain⟨a2K,bBF⟩:=hS.ne hn4
 refine iN (σ:=Nat×Tm) [1000000,3] [0,3,4] (fun p=>gN σ p.1 p.2 u) (fun p=>[]) (fun p=>(st.aC b3 (.cells p.2.av.cells)).aC b4 (.cells [.int .i64 0,.int .i64 0,.str ⟨#[]⟩,.fslice []])) (fun p=>p.1) (by decide +kernel) ⟨(f,t),hw,aN.mk (by simp -implicitDefEqProofs only[aA,seval])⟩ ?_
 rintro⟨g,t⟩ hw
 obtain⟨k,n,s,ts⟩:=t
 simp only at hw
 simp only[aY]
 simp -implicitDefEqProofs only[hne.symm,aA,seval,C9]
 refine aS (fun h=>?_) (fun h=>?_)
 case refine_2=>
  simp only[cP] at h
  cases hw with
  | go h1=>exact absurd h1 h
  | stop=>
   simp -implicitDefEqProofs only[aG,hne.symm,aA,seval,C9]
   exact⟨by rw[←aY,Tm.soft],hD _ _⟩
 simp only[bL] at h
 simp -implicitDefEqProofs only[aA,seval]
 refine wP [(0,1),(1,1),(2,1),(4,1),(3,2),(5,2),(6,2),(7,1),(8,1),(9,1),(10,0),(11,0),(12,1)] [0,1,2,4,3,5,6,7,8,9,12] mixed ?_
 have hl:=fun(st':aB) (hm:st' m=some (AO.map (mapOf σ)))=>a4J (P:=prog) (n:=n) hm DF aZ a9I
 simp -implicitDefEqProofs only[hne.symm,hS.cells,a2J.symm,a2K.symm,aA,seval,C9]
 rw[hl _ (hS' _ _).map]
 cases hw with
 | stop hs=>
  rw[show σ n=none from hs h]
  simp -implicitDefEqProofs only[found,aG,aA,seval,C9]
  intro b5 h5
  have h53:b5≠b3:=by rintro rfl;simp [aB.aJ,aB.aP,hne.symm] at h5
  have h54:b5≠b4:=by rintro rfl;simp [aB.aP] at h5
  have hn5:st b5=none:=by rw[aB.aJ _ _ h54,aB.aJ _ _ h53] at h5;exact h5
  simp -implicitDefEqProofs only[aG,hne.symm,h53.symm,h54.symm,aA,seval,C9]
  exact⟨by rw[←aY,Tm.soft],((((aL.refl _).aC h3).aC hn4).aC hn5).aC hn4⟩
 | go _ h2 h3'=>
  rw[show σ n=some _ from h2]
  simp -implicitDefEqProofs only[found,aG,aA,seval,C9]
  intro b5 h5
  have h53:b5≠b3:=by rintro rfl;simp [aB.aJ,aB.aP,hne.symm] at h5
  have h54:b5≠b4:=by rintro rfl;simp [aB.aP] at h5
  have hn5:st b5=none:=by rw[aB.aJ _ _ h54,aB.aJ _ _ h53] at h5;exact h5
  simp -implicitDefEqProofs only[hne.symm,h53.symm,aA,seval]
  refine⟨(_,_),KV _,h3',aN.drop (fun x=>?_) (by simp -implicitDefEqProofs only[aA,seval])⟩
  by_cases e3:x=b3<;>by_cases e4:x=b4<;>by_cases e5:x=b5<;>simp_all [aB.aC]
abbrev aRX:=zi tI_3 (zi zI_3 (zi aZ (zi tI_31 (zi zI_31 (zi aO (zi bH (zi bJ (zi bZ (zi tI_66 (zi zI_66 (zi bS (zi bT (zi bU (zi bV bR))))))))))))))
theorem aVM(l:List Tm)(g:FuncId)(dT:List AV)(p:Tm→Bool)(J E:aB→Prop)(hc:∀x∈l,∀s,J s→aD prog g ([Tm.av x]++dT) s (fun r s'=>r=.bool (p x)∧(p x=true→E s')∧(p x=false→J s')))(st:aB)(h0:J st) :
 aD prog 218 [.slice (l.map Tm.av),.func g dT] st (fun r st'=>r=.int .i64 (pD p l 0)∧(l.any p=true→E st')∧(l.any p=false→J st')):=by
 refine wF [1000000] 2 func218 ntmps218 rfl rfl ?_
 simp only[d5,AV.fits,d9,aF]
 intro ⟨hl,_⟩
 simp -implicitDefEqProofs only[aF,aA,seval,aRX]
 refine eH (σ:=aB) [1000000] [0,1,7] l (fun i s=>J s∧pD p (l.drop i) i=pD p l 0∧(l.drop i).any p=l.any p) (fun i _=>[(8,.int .i64 i)]) (fun _ s=>s) (by decide +kernel) ⟨st,⟨h0,rfl,rfl⟩,aN.mk (by simp -implicitDefEqProofs only[aA,↓aX,seval])⟩ (fun i x s hx hlt bQ hdr hinv=>?_) (fun s hge hinv=>?_)
 case refine_2=>
  obtain⟨i1,i2,i3⟩:=hinv
  rw[j8] at i2 i3
  simp -implicitDefEqProofs only[hge,aA,seval]
  exact⟨by rw[←i2];try rfl,fun h=>(by rw[←i3] at h;cases h),fun _=>i1⟩
 obtain⟨i1,i2,i3⟩:=hinv
 rw[hdr,pD] at i2
 rw[hdr,DP] at i3
 have hw:=bE (n:=(i:Int)+1)
 simp -implicitDefEqProofs only[bQ,bO (av:=Tm.av) aO hx (aK x),a7,aK,aA,seval,aRX]
 refine(hc x (cJ hx) s i1).mono ?_
 rintro _ s2 ⟨rfl,hE,hJ⟩
 simp -implicitDefEqProofs only[aA,seval]
 refine aS (fun h=>?_) (fun h=>?_)
 · rw[aH h] at i2
   rw[h,yN] at i3
   simp -implicitDefEqProofs only[aA,seval]
   exact⟨by rw[i2],fun _=>hE h,fun h'=>(by rw[←i3] at h';cases h')⟩
 · rw[aE (by simp [h])] at i2
   rw[h,rT] at i3
   simp -implicitDefEqProofs only[aA,seval]
   exact⟨s2,⟨hJ h,i2,i3⟩,aN.mk (by simp -implicitDefEqProofs only[hw,aA,seval])⟩
theorem aVC(l:List Tm)(g:FuncId)(dT:List AV)(p:Tm→Bool)(J E:aB→Prop)(hc:∀x∈l,∀s,J s→aD prog g ([Tm.av x]++dT) s (fun r s'=>r=.bool (p x)∧(p x=true→E s')∧(p x=false→J s')))(st:aB)(h0:J st) :
 aD prog 147 [.slice (l.map Tm.av),.func g dT] st (fun r st'=>r=.bool (l.any p)∧(l.any p=true→E st')∧(l.any p=false→J st')):=by
 refine wF [1000000] 2 func147 ntmps147 rfl rfl ?_
 intro _
 simp -implicitDefEqProofs only[aA,seval]
 refine(aVM l g dT p J E hc st h0).mono ?_
 rintro _ s2 ⟨rfl,hE,hJ⟩
 simp -implicitDefEqProofs only[a3N,aA,seval]
 exact⟨hE,hJ⟩
def Occ(R:Int→Tm)(n:Int)(t:Tm)(st:aB)(mm:Nat)(M:List Int)(r:AV)(st':aB):Prop:=
 r=.bool (decide (n∈(t.aM R).vl))∧∃M',st'=st.aC mm (.map (mM M'))∧(n∉(t.aM R).vl→∀v∈M',v∈M∨n∉(R v).vl)
abbrev a76:=zi tI_3 (zi zI_3 (zi aZ (zi tI_4 (zi zI_4 (zi cG (zi tI_66 (zi zI_66 (zi bS (zi bT (zi bU (zi bV (zi bR (zi tI_227 (zi zI_227 (zi tI_390 (zi zI_390 KB))))))))))))))))
theorem aYA{c mm:Nat}{n:Int}{t:Tm}{st:aB}{Q:AV→aB→Prop}(hc:aD prog 398 [.ptr c 0,.int .i64 n,t.av,.map mm] st Q) :
 aD prog 406 [t.av,.pptr (.ptr c 0),.pptr (.int .i64 n),.pptr (.map mm)] st Q:=by
 refine wF [1000000] 4 func406 ntmps406 rfl rfl ?_
 intro _
 simp -implicitDefEqProofs only[aA,seval,a76]
 refine hc.mono ?_
 intro r s h
 simp -implicitDefEqProofs only[aA,seval]
 exact h
abbrev AX:=zi tI_3 (zi zI_3 (zi aZ (zi tI_4 (zi zI_4 (zi cG (zi tI_31 (zi zI_31 (zi aO (zi bH (zi bJ (zi bZ (zi tI_66 (zi zI_66 (zi bS (zi bT (zi bU (zi bV (zi bR (zi tI_227 (zi zI_227 (zi tI_390 (zi zI_390 (zi KB (zi tI_406 (zi zI_406 a8U)))))))))))))))))))))))))
theorem RR{σ:Sub}{R:Int→Tm}{rk:Int→Nat}{B:Nat}(G:Good σ R rk B){n:Int}(hn:σ n=none)(c m mm:Nat)(q:AV)(hmm:mm≠c∧mm≠m) :
 ∀(K:Nat) (t:Tm) (M:List Int) (st:aB),jN st c m q σ→st mm=some (.map (mM M))→(∀w∈t.vl,rk w<K)→(∀v∈M,n∉(R v).vl∨∀w∈t.vl,rk w<rk v) →
 aD prog 398 [.ptr c 0,.int .i64 n,t.av,.map mm] st (Occ R n t st mm M)
 | K,.mk k x s ts,M,st,hS,hM,hK,T7=>by
  have IH1:=fun(K':Nat) (hK':K'<K) t M st=>RR G hn c m mm q hmm K' t M st
  have IH2:=fun(y:Tm) (hy:y∈ts) M st=>RR G hn c m mm q hmm K y M st
  have hlk:=a4I (P:=prog) (n:=x) hM KB aZ a9H
  simp only[aY]
  refine wF [1000000] 4 func398 ntmps398 rfl rfl ?_
  intro _
  simp -implicitDefEqProofs only[aA,seval,AX]
  refine aS (fun h=>?_) (fun h=>?_)
  · simp only[bL] at h
    have hvl:(Tm.mk k x s ts).vl= [x]:=Tm.oA h
    have hmv:(Tm.mk k x s ts).aM R=R x:=Tm.nS R h
    have hKx:rk x<K:=hK x (by rw[hvl];simp)
    simp -implicitDefEqProofs only[hlk,aA,seval,AX]
    refine aS (fun h2=>?_) (fun h2=>?_)
    · simp only[bL] at h2
      simp -implicitDefEqProofs only[aA,seval]
      have hno:n∉(R x).vl:=by
       rcases T7 x h2 with h | h
       · exact h
       · exact absurd (h x (by rw[hvl];simp)) (Nat.lt_irrefl _)
      refine⟨by rw[hmv];simp [hno],M,?_,fun _ v hv=>.inl hv⟩
      funext y
      simp only[aB.aC]
      split
      · rename_i e;rw[e,hM]
      · rfl
    · simp only[cP] at h2
      simp -implicitDefEqProofs only[aA,seval,AX]
      refine a87 hM KB aZ ?_
      simp -implicitDefEqProofs only[aA,seval,AX]
      obtain⟨f,hwk⟩:=G.wk (Tm.mk k x s ts)
      generalize hu:wk σ (Tm.mk k x s ts)=u at *
      have hS':=hS.PN (o:=.map (mM (x::M))) hmm.1 hmm.2
      have hcw:=LZ hwk c m q _ hS'
      rw[aY] at hcw
      refine hcw.to ?_
      have TW:u.aM R=R x:=by rw[hwk.aM G.x6,hmv]
      have kT:=hwk.end
      have hrk:=hwk.JB G
      obtain⟨k',x',s',ts'⟩:=u
      simp only[aY]
      simp -implicitDefEqProofs only[aA,↓aX,seval,AX]
      refine aS (fun h3=>?_) (fun h3=>?_)
      · simp only[bL] at h3
        simp -implicitDefEqProofs only[aA,seval,AX]
        have rE:R x'=vr x':=G.free (kT h3)
        rw[Tm.nS R h3,rE] at TW
        refine⟨?_,x::M,rfl,fun hno v hv=>?_⟩
        · rw[hmv,←TW,A5]
          simp [eq_comm]
        · rcases c8.1 hv with rfl | hv
          · exact .inr (by rw[hmv] at hno;exact hno)
          · exact .inl hv
      · simp only[cP] at h3
        simp -implicitDefEqProofs only[aA,seval,AX]
        have hf0:f≠0:=by
         rintro rfl
         cases hwk with
         | stop _=>exact h3 h
        have hr':∀w∈(Tm.mk k' x' s' ts').vl,rk w<rk x:=fun w hw=>by
         obtain⟨v,hv,_,hlt⟩:=hrk w hw
         rw[hvl] at hv
         simp only[c8,dX,eC] at hv
         subst hv
         exact hlt hf0
        have:=IH1 (rk x) hKx (Tm.mk k' x' s' ts') (x::M) _ hS' (aB.aP _ _ _) hr' (fun v hv=>by
         rcases c8.1 hv with rfl | hv
         · exact .inr hr'
         · rcases T7 v hv with h5 | h5
           · exact .inl h5
           · refine .inr fun w hw=>Nat.lt_trans (hr' w hw) ?_
             exact h5 x (by rw[hvl];simp))
        rw[aY] at this
        refine this.mono ?_
        rintro _ _ ⟨rfl,M',rfl,hM'⟩
        simp -implicitDefEqProofs only[aA,seval]
        rw[TW] at hM' ⊢
        refine⟨by rw[hmv],M',rfl,fun hno v hv=>?_⟩
        rw[hmv] at hno
        rcases hM' hno v hv with h5 | h5
        · rcases c8.1 h5 with rfl | h5
          · exact .inr hno
          · exact .inl h5
        · exact .inr h5
  · simp only[cP] at h
    simp -implicitDefEqProofs only[aA,seval,AX]
    have hmv:=Tm.mL R (n:=x) (s:=s) (ts:=ts) h
    have a06:ts.any (fun y=>decide (n∈(y.aM R).vl))=decide (n∈((Tm.mk k x s ts).aM R).vl):=by
     rw[hmv,wQ]
     simp only[List.any_eq_true,bL]
     rw[Tm.mC h]
     constructor
     · rintro⟨y,hy,h2⟩;exact⟨_,cU.2 ⟨y,hy,rfl⟩,h2⟩
     · rintro⟨z,hz,h2⟩
       obtain⟨y,hy,rfl⟩:=cU.1 hz
       exact⟨y,hy,h2⟩
    refine(aVC ts _ _ (fun y=>decide (n∈(y.aM R).vl)) (fun s1=>∃M',s1=st.aC mm (.map (mM M'))∧∀v∈M',v∈M∨n∉(R v).vl) (fun s1=>∃M',s1=st.aC mm (.map (mM M'))) ?_ st ⟨M,?_,fun v hv=>.inl hv⟩).mono ?_
    · rintro y hy s1 ⟨M',rfl,hM'⟩
      simp only[fQ,eS]
      have hc:=IH2 y hy M' (st.aC mm (.map (mM M'))) (hS.PN hmm.1 hmm.2) (aB.aP _ _ _) (fun w hw=>hK w ((Tm.mC h).2 ⟨y,hy,hw⟩)) (fun v hv=>by
       rcases hM' v hv with h5 | h5
       · rcases T7 v h5 with h6 | h6
         · exact .inl h6
         · exact .inr fun w hw=>h6 w ((Tm.mC h).2 ⟨y,hy,hw⟩)
       · exact .inl h5)
      refine(aYA hc).mono ?_
      rintro _ _ ⟨rfl,M2,rfl,hM2⟩
      rw[c7]
      refine⟨rfl,fun _=>⟨M2,rfl⟩,fun hno=>⟨M2,rfl,fun v hv=>?_⟩⟩
      simp only[cP] at hno
      rcases hM2 hno v hv with h5 | h5
      · exact hM' v h5
      · exact .inr h5
    · funext y
      simp only[aB.aC]
      split
      · rename_i e;rw[e,hM]
      · rfl
    · rintro _ s2 ⟨rfl,hE,hJ⟩
      rw[a06] at hE hJ ⊢
      simp -implicitDefEqProofs only[aA,seval]
      by_cases hno:n∈((Tm.mk k x s ts).aM R).vl
      · obtain⟨M2,rfl⟩:=hE (by simp [hno])
        exact⟨rfl,M2,rfl,fun h=>absurd hno h⟩
      · obtain⟨M2,rfl,h5⟩:=hJ (by simp [hno])
        exact⟨rfl,M2,rfl,fun _=>h5⟩
termination_by K t=>(K,SizeOf.sizeOf t)
decreasing_by
 · exact Prod.Lex.left _ _ hK'
 · have:=List.sizeOf_lt_of_mem hy
   exact Prod.Lex.right _ (by simp only[Tm.mk.sizeOf_spec];omega)
abbrev OL:=zi tI_3 (zi zI_3 (zi aZ (zi tI_4 (zi zI_4 (zi cG (zi tI_46 (zi zI_46 (zi dK (zi fM (zi fJ (zi fX (zi tI_66 (zi zI_66 (zi bS (zi bT (zi bU (zi bV (zi bR (zi tI_141 (zi zI_141 (zi DF (zi tI_227 (zi zI_227 (zi tI_304 (zi zI_304 (zi ER (zi ES (zi D8 (zi tI_390 (zi zI_390 KB))))))))))))))))))))))))))))))
theorem ZZ{σ:Sub}(hg:cT σ){n:Int}(hn:σ n=none){t:Tm}{r:Bool}{σ':Sub}{add:List Int}(hb:kQ σ n t=(r,σ',add))(c m:Nat)(q:AV)(tr:List Int)(st:aB)(hS:gS st c m q σ tr)(hl:tr.length+add.length≤1099511627776) :
 aD prog 382 [.ptr c 0,.int .i64 n,t.av] st (fun r' st'=>r'=.bool r∧wV c m st q σ' (tr++add) st'):=by
 obtain⟨rk,B,G⟩:=hg.rs
 refine wF [1000000] 3 func382 ntmps382 rfl rfl ?_
 intro _
 simp -implicitDefEqProofs only[aA,seval,OL]
 intro mm hmm
 obtain⟨hmc,a2H⟩:=hS.sub.ne hmm
 rw[←a4U]
 have hS1:=hS.GA (o:=.map (mM [])) hmm
 refine(RR G hn c m mm q ⟨hmc,a2H⟩ B t [] _ hS1.sub (aB.aP _ _ _) (fun w _=>G.bd w) (fun v hv=>absurd hv (dX))).mono ?_
 rintro _ _ ⟨rfl,M',rfl,_⟩
 have hS2:=hS.GA (o:=.map (mM M')) hmm
 have hQ2:m6 c m st q (st.aC mm (.map (mM M'))) q:=m6.GA hmm
 rw[c7]
 generalize st.aC mm (.map (mM M'))=s2 at *
 obtain⟨hqa,hqw,hqj,hqc,hqs⟩:=hS2.shape
 simp -implicitDefEqProofs only[aA,seval]
 unfold kQ at hb
 refine aS (fun h=>?_) (fun h=>?_)
 · simp only[bL] at h
   rw[aH h] at hb
   obtain⟨rfl,rfl,rfl⟩:false=r∧σ=σ'∧[]=add:=by simpa using hb
   simp -implicitDefEqProofs only[aA,seval]
   exact⟨q,hS2,hQ2⟩
 · simp only[cP] at h
   rw[aE h] at hb
   obtain⟨rfl,rfl,rfl⟩:true=r∧σ.set n t=σ'∧[n]=add:=by simpa using hb
   simp -implicitDefEqProofs only[aA,seval]
   refine wP [(0,1),(1,1),(2,1),(4,1),(3,2),(5,2),(6,0)] [0,1,2,4,3,5] mixed ?_
   simp -implicitDefEqProofs only[hS2.sub.cells,aA,seval,OL]
   refine a88 hS2.sub.map DF aZ ?_
   have hcm:=hS2.sub.cm
   have hS3:gS (s2.aC m (.map (mapOf (σ.set n t)))) c m q (σ.set n t) tr:=by
    refine⟨⟨by rw[aB.aJ _ _ hcm];exact hS2.sub.cells,aB.aP _ _ _⟩,?_,hS2.apart⟩
    rcases hS2.fW with h4 | ⟨b',cs,e1,e2,e3⟩
    · exact .inl h4
    · refine .inr ⟨b',cs,e1,?_,e3⟩
      rw[aB.aJ _ _ (by rintro rfl;exact hS2.NO (by rw[e1];simp [dR]))]
      exact e2
   have hQ3:m6 c m st q (s2.aC m (.map (mapOf (σ.set n t)))) q:=⟨fun b o h h1 h2 h3=>by rw[aB.aJ _ _ h2];exact hQ2.frame b o h h1 h2 h3,fun _ h=>.inl h⟩
   generalize s2.aC m (.map (mapOf (σ.set n t)))=s3 at *
   simp -implicitDefEqProofs only[hS3.sub.cells,hqa,aA,seval,OL]
   refine a8M dK fM fJ rfl (by omega) hS3 (by simpa using hl) (fun q' s4 ht hc' hm' hk hf=>?_)
   have h4c:s4 c=some (.cells [.map m,q]):=by rw[hk c hS3.apart hc'];exact hS3.sub.cells
   have h4m:s4 m=some (.map (mapOf (σ.set n t))):=by rw[hk m hS3.NO hm'];exact hS3.sub.map
   have aN6:q'.cells= [q']∧q'.storable=true:=by
    rcases ht with ⟨rfl,_⟩ | ⟨b',cs,rfl,_⟩<;>exact⟨rfl,rfl⟩
   simp -implicitDefEqProofs only[aG,h4c,aN6.1,aN6.2,aA,seval,OL]
   refine⟨q',⟨⟨aB.aP _ _ _,by rw[aB.aJ _ _ (c9 hcm)];exact h4m⟩,?_,hc'⟩,⟨fun b o h h1 h2 h3=>?_,fun b hb=>?_⟩⟩
   · rcases ht with h4 | ⟨b',cs,e1,e2,e3⟩
     · exact .inl h4
     · refine .inr ⟨b',cs,e1,?_,e3⟩
       rw[aB.aJ _ _ (by rintro rfl;exact hc' (by rw[e1];simp [dR]))]
       exact e2
   · rw[aB.aJ _ _ h1,hk b h3 (fun h4=>?_)]
     · exact hQ3.frame b o h h1 h2 h3
     · rcases hf b h4 with h5 | h5
       · exact h3 h5
       · rw[hQ3.frame b o h h1 h2 h3] at h5;cases h5
   · rcases hf b hb with h5 | h5
     · exact .inl h5
     · by_cases h6:b∈dR q
       · exact .inl h6
       · refine .inr ?_
         cases hst:st b with
         | none=>rfl
         | some o=>
          exfalso
          have h1:b≠c:=by rintro rfl;rw[hS3.sub.cells] at h5;cases h5
          have h2:b≠m:=by rintro rfl;rw[hS3.sub.map] at h5;cases h5
          rw[hQ3.frame b o hst h1 h2 h6] at h5;cases h5
abbrev Sm (t:Tm):Prop:=t.small=true
theorem a62:∀t:Tm,t.k≠1→Sm t→∀x∈t.ts,Sm x:=fun t _ h x hx=>by
 cases t
 exact(Tm.qO h).2 x hx
abbrev rO:=zi tI_3 (zi zI_3 (zi aZ (zi tI_4 (zi zI_4 (zi cG (zi tI_9 (zi zI_9 (zi cF (zi tI_31 (zi zI_31 (zi aO (zi bH (zi bJ (zi bZ (zi tI_66 (zi zI_66 (zi bS (zi bT (zi bU (zi bV (zi bR (zi tI_227 zI_227))))))))))))))))))))))
theorem aBE:∀(g:Nat) (σ:Sub) (a b:Tm) (r:Bool) (σ':Sub) (add:List Int),cT σ→cW Sm σ→Sm a→Sm b→dD g σ a b=some (r,σ',add)→∀(c m:Nat) (q:AV) (tr:List Int) (st:aB),gS st c m q σ tr→tr.length+add.length≤1099511627776 →
 aD prog 360 [.ptr c 0,a.av,b.av] st (fun r' st'=>r'=.bool r∧wV c m st q σ' (tr++add) st')
 | 0,σ,a,b,r,σ',add,hg,hsm,ha0,hb0,h,c,m,q,tr,st,hS,hl=>by simp only[dD] at h;cases h
 | g+1,σ,a,b,r,σ',add,hg,hsm,ha0,hb0,h,c,m,q,tr,st,hS,hl=>by
  have IH:=aBE g
  obtain⟨rk,B,G⟩:=hg.rs
  obtain⟨fa,wa⟩:=G.wk a
  obtain⟨fb,wb⟩:=G.wk b
  have hca:=fun st (hS:jN st c m q σ)=>LZ wa c m q st hS
  have hcb:=fun st (hS:jN st c m q σ)=>LZ wb c m q st hS
  have ea:=wa.end
  have eb:=wb.end
  have hsa:=wa.all (p:=Sm) hsm ha0
  have hsb:=wb.all (p:=Sm) hsm hb0
  replace h:=KC h
  generalize wk σ a=a1 at *
  generalize wk σ b=b1 at *
  clear wa wb
  refine wF [1000000,4,5] 3 func360 ntmps360 rfl rfl ?_
  intro fD
  simp -implicitDefEqProofs only[aA,seval]
  intro b4 h4 b5 h5
  have h54:b5≠b4:=by rintro rfl;rw[aB.aP] at h5;cases h5
  have hn5:st b5=none:=by rw[aB.aJ st _ h54] at h5;exact h5
  have hS':∀o o',gS ((st.aC b4 o).aC b5 o') c m q σ tr:=fun o o'=>(hS.GA h4).GA (by rw[aB.aJ _ _ h54];exact hn5)
  refine wP [(0,1),(3,1),(1,2),(2,2),(4,2),(5,2),(6,0),(7,0)] [0,3,1,2,4,5] mixed ?_
  simp -implicitDefEqProofs only[h54.symm,aA,seval,rO]
  refine iE (hca _ (hS' _ _).sub) ?_
  simp -implicitDefEqProofs only[aA,seval,rO]
  refine iE (hcb _ (hS' _ _).sub) ?_
  obtain⟨ka,na,sa,tsa⟩:=a1
  obtain⟨kb,nb,sb',tsb⟩:=b1
  obtain⟨hla,aNW⟩:=Tm.qO hsa
  obtain⟨hlb,aNX⟩:=Tm.qO hsb
  simp only[aY]
  simp only[Tm.k,Tm.n,Tm.ts] at h ea eb
  have hl4:∀q',q'=q→b4∉dR q:=fun _ _ hb=>by obtain⟨cs,e⟩:=hS.JP b4 hb;rw[h4] at e;cases e
  have hl5:b5∉dR q:=fun hb=>by obtain⟨cs,e⟩:=hS.JP b5 hb;rw[hn5] at e;cases e
  obtain⟨h4c,h4m⟩:=hS.sub.ne h4
  obtain⟨h5c,h5m⟩:=hS.sub.ne hn5
  have hQ:∀o o',m6 c m st q ((st.aC b4 o).aC b5 o') q:=fun o o'=>⟨fun x p h _ _ _=>by
   rw[aB.aJ _ _ (by rintro rfl;rw[hn5] at h;cases h),aB.aJ _ _ (by rintro rfl;rw[h4] at h;cases h)];exact h,fun _ h=>.inl h⟩
  simp -implicitDefEqProofs only[aG,h54,h54.symm,aA,seval,rO]
  rw[aB.yK h54,aB.yK h54.symm]
  have iP:∀o o',wV c m st q σ tr ((st.aC b4 o).aC b5 o'):=fun o o'=>⟨q,hS' _ _,hQ _ _⟩
  rcases h with ⟨h1,h2,h3,rfl,rfl,rfl⟩ | ⟨h1,h2,h3⟩ | ⟨h1,h2,h3⟩ | ⟨h1,h2,h3,h4⟩ | ⟨h1,h2,h3,rfl,rfl,rfl⟩
  · subst h1 h2 h3
    simp -implicitDefEqProofs only[bX,h54.symm,aA,seval,rO]
    exact iP _ _
  · subst h1
    have hcb:=ZZ hg (ea rfl) h3 c m q tr _ (hS' (.cells [.int .i64 1,.int .i64 na,.str sa,.slice (tsa.map Tm.av)]) (.cells [.int .i64 kb,.int .i64 nb,.str sb',.slice (tsb.map Tm.av)])) hl
    rw[aY] at hcb
    by_cases h5:kb=1
    · subst h5
      have h6:¬na=nb:=fun e=>h2 ⟨rfl,e⟩
      simp -implicitDefEqProofs only[bX,h6,b9,h54.symm,aA,seval,rO]
      refine hcb.mono ?_
      rintro _ s2 ⟨rfl,hp⟩
      simp -implicitDefEqProofs only[aA,seval]
      exact hp.from (hQ _ _) (hS' _ _)
    · simp -implicitDefEqProofs only[bX,h5,b9,h54.symm,aA,seval,rO]
      refine hcb.mono ?_
      rintro _ s2 ⟨rfl,hp⟩
      simp -implicitDefEqProofs only[aA,seval]
      exact hp.from (hQ _ _) (hS' _ _)
  · subst h2
    have hcb:=ZZ hg (eb rfl) h3 c m q tr _ (hS' (.cells [.int .i64 ka,.int .i64 na,.str sa,.slice (tsa.map Tm.av)]) (.cells [.int .i64 1,.int .i64 nb,.str sb',.slice (tsb.map Tm.av)])) hl
    rw[aY] at hcb
    simp -implicitDefEqProofs only[bX,h1,b9,h54.symm,aA,seval,rO]
    refine hcb.mono ?_
    rintro _ s2 ⟨rfl,hp⟩
    simp -implicitDefEqProofs only[aA,seval]
    exact hp.from (hQ _ _) (hS' _ _)
  · rw[uH] at h3
    simp only[Tm.k,Tm.n,Tm.s,Tm.ts] at h3
    obtain⟨rfl,rfl,rfl,hlen⟩:=h3
    have dA:decide ((tsa.length:Int)=(tsb.length:Int))=true:=by simp [hlen]
    simp -implicitDefEqProofs only[bX,b9,dA,h54.symm,aF,h1,aA,seval,rO]
    have hS0:=hS' (.cells [.int .i64 ka,.int .i64 na,.str sa,.slice (tsa.map Tm.av)]) (.cells [.int .i64 ka,.int .i64 na,.str sa,.slice (tsb.map Tm.av)])
    have hQ0:=hQ (.cells [.int .i64 ka,.int .i64 na,.str sa,.slice (tsa.map Tm.av)]) (.cells [.int .i64 ka,.int .i64 na,.str sa,.slice (tsb.map Tm.av)])
    have e4:((st.aC b4 (.cells [.int .i64 ka,.int .i64 na,.str sa,.slice (tsa.map Tm.av)])).aC b5 (.cells [.int .i64 ka,.int .i64 na,.str sa,.slice (tsb.map Tm.av)])) b4=some (.cells [.int .i64 ka,.int .i64 na,.str sa,.slice (tsa.map Tm.av)]):=by rw[aB.aJ _ _ h54.symm,aB.aP]
    have e5:((st.aC b4 (.cells [.int .i64 ka,.int .i64 na,.str sa,.slice (tsa.map Tm.av)])).aC b5 (.cells [.int .i64 ka,.int .i64 na,.str sa,.slice (tsb.map Tm.av)])) b5=some (.cells [.int .i64 ka,.int .i64 na,.str sa,.slice (tsb.map Tm.av)]):=aB.aP _ _ _
    generalize (st.aC b4 (.cells [.int .i64 ka,.int .i64 na,.str sa,.slice (tsa.map Tm.av)])).aC b5 (.cells [.int .i64 ka,.int .i64 na,.str sa,.slice (tsb.map Tm.av)])=s0 at *
    refine eH (σ:=Sub×List Int×List Int×AV×aB) [1000000,4,5] [0,4,5,79] tsa
     (fun i p=>cT p.1∧cW Sm p.1∧gS p.2.2.2.2 c m p.2.2.2.1 p.1 (tr++p.2.1)∧m6 c m s0 q p.2.2.2.2 p.2.2.2.1∧eE g p.1 (tsa.drop i) (tsb.drop i)=some (r,σ',p.2.2.1)∧p.2.1++p.2.2.1=add)
     (fun i _=>[(6,.bool false),(80,.int .i64 i)]) (fun _ p=>p.2.2.2.2) (by decide +kernel)
     ⟨(σ,[],add,q,s0),⟨hg,hsm,by rw[gI];exact hS0,m6.refl _ _ _ _,h4,rfl⟩,aN.mk (by simp -implicitDefEqProofs only[aA,↓aX,seval])⟩ (fun i x p hx hlt bQ hdr hinv=>?_) (fun p hge hinv=>?_)
    case refine_2=>
     obtain⟨σi,ai,rest,qi,si⟩:=p
     obtain⟨i1,i2,i3,i4,i5,i6⟩:=hinv
     simp only at i1 i2 i3 i4 i5 i6
     rw[j8,hlen,j8] at i5
     simp only[eE,Option.some.injEq,Prod.mk.injEq] at i5
     obtain⟨rfl,rfl,rfl⟩:=i5
     rw[gI] at i6
     subst i6
     simp -implicitDefEqProofs only[hge,aA,seval]
     exact⟨qi,i3,hQ0.trans hS0 i4⟩
    obtain⟨σi,ai,rest,qi,si⟩:=p
    obtain⟨i1,i2,i3,i4,i5,i6⟩:=hinv
    simp only at i1 i2 i3 i4 i5 i6
    obtain⟨y,hy⟩:∃y,tsb[i]?=some y:=⟨_,dZ (by omega)⟩
    have CD:tsb.drop i=y::tsb.drop (i+1):=by
     obtain⟨h1,h2⟩:=fR.1 hy
     rw[pQ h1,h2]
    rw[hdr,CD,eE] at i5
    have f4:=i4.frame b4 _ e4 h4c h4m (hl4 q rfl)
    have f5:=i4.frame b5 _ e5 h5c h5m hl5
    have hw:=bE (n:=(i:Int)+1)
    simp -implicitDefEqProofs only[bQ,aA,seval]
    refine wP [(0,1),(1,1),(3,1),(6,1),(8,1),(2,2),(4,1),(5,2),(7,2),(9,1),(10,2),(11,0),(12,1)] [0,1,3,6,8,2,4,5,7,9,10,12] mixed ?_
    simp -implicitDefEqProofs only[f4,f5,bO (av:=Tm.av) aO hx (aK x),bO (av:=Tm.av) aO hy (aK y),aA,seval,rO]
    cases hu:dD g σi x y with
    | none=>rw[hu] at i5;cases i5
    | some p1=>
     obtain⟨r1,σ1,tr1⟩:=p1
     rw[hu] at i5
     have hx1:Sm x:=aNW x (cJ hx)
     have hy1:Sm y:=aNX y (cJ hy)
     have hU:=yJ i1 hu
     have hA:=(PM a62 g).1 σi x y r1 σ1 tr1 i1 hu i2 hx1 hy1
     have qF:tr1.length≤rest.length:=by
      cases r1 with
      | false=>simp only[Option.some.injEq,Prod.mk.injEq] at i5;rw[i5.2.2];exact dB _
      | true=>
       simp only at i5
       cases hu2:eE g σ1 (tsa.drop (i+1)) (tsb.drop (i+1)) with
       | none=>rw[hu2] at i5;cases i5
       | some p2=>
        obtain⟨r2,σ2,tr2⟩:=p2
        rw[hu2] at i5
        simp only[Option.some.injEq,Prod.mk.injEq] at i5
        rw[←i5.2.2,dL];omega
     have a05:add.length=ai.length+rest.length:=by rw[←i6,dL]
     refine(IH σi x y r1 σ1 tr1 i1 i2 hx1 hy1 hu c m qi (tr++ai) si i3 (by rw[dL];omega)).mono ?_
     rintro _ s2 ⟨rfl,q2,hS2,hQ2⟩
     cases r1 with
     | false=>
      simp only[Option.some.injEq,Prod.mk.injEq] at i5
      obtain⟨rfl,rfl,rfl⟩:=i5
      simp -implicitDefEqProofs only[aA,seval]
      rw[←i6,←mU]
      exact⟨q2,hS2,hQ0.trans hS0 (i4.trans i3 hQ2)⟩
     | true=>
      simp only at i5
      cases hu2:eE g σ1 (tsa.drop (i+1)) (tsb.drop (i+1)) with
      | none=>rw[hu2] at i5;cases i5
      | some p2=>
       obtain⟨r2,σ2,tr2⟩:=p2
       rw[hu2] at i5
       simp only[Option.some.injEq,Prod.mk.injEq] at i5
       obtain⟨rfl,rfl,rfl⟩:=i5
       simp -implicitDefEqProofs only[aA,seval]
       exact⟨(σ1,ai++tr1,tr2,q2,s2),⟨hU.gW,hA,by rw[←mU];exact hS2,i4.trans i3 hQ2,hu2,by rw[mU];exact i6⟩,aN.mk (by simp -implicitDefEqProofs only[hw,aA,seval])⟩
  · have hd:ka=kb→na=nb→sa=sb'→¬(tsa.length:Int)=(tsb.length:Int):=by
     intro e1 e2 e3 e4
     have:qA (Tm.mk ka na sa tsa) (Tm.mk kb nb sb' tsb)=true:=uH.2 ⟨e1,e2,e3,by simp only[Tm.ts];omega⟩
     rw[h3] at this;cases this
    by_cases e1:ka=kb
    · by_cases e2:na=nb
      · by_cases e3:sa=sb'
        · have e4:=hd e1 e2 e3
          subst e1 e2 e3
          simp -implicitDefEqProofs only[b9,bX,h54.symm,h1,aF,e4,aA,seval,rO]
          exact iP _ _
        · subst e1 e2
          simp -implicitDefEqProofs only[b9,bX,h54.symm,h1,e3,aA,seval,rO]
          exact iP _ _
      · subst e1
        simp -implicitDefEqProofs only[b9,bX,h54.symm,h1,e2,aA,seval,rO]
        exact iP _ _
    · clear hd
      simp -implicitDefEqProofs only[b9,h54.symm,h1,h2,e1,aA,seval,rO]
      exact iP _ _
theorem a4Q(σ:Sub)(l:List Int)(n:Int):oQ (mapOf (σ.out l)) n none=mapOf (σ.out (l++ [n])):=by
 funext x
 unfold oQ mapOf Sub.out
 by_cases h:x=n
 · simp [h]
 · simp only[h,dI,fF,GM,eC]
theorem aZG{P:Program}{st:aB}{m:Nat}{σ:Sub}{l:List Int}{t kt et:TypeId}{n:Int}{K:AV→aB→Prop}(hm:st m=some (.map (mapOf (σ.out l))))(hu:P.underlying t=some (.map kt et))(hk:P.underlying kt=some (.int .i64))
 (h:K (.tup []) (st.aC m (.map (mapOf (σ.out (l++ [n])))))):BK P t st (.map m) (.int .i64 n) K:=by
 unfold BK
 simp only[hu,hm,hk]
 rw[a4Q]
 exact h
theorem Sub.U6(σ:Sub):σ.out []=σ:=by funext n;simp [Sub.out]
theorem a6X{φ:AF}{d b n k:Nat}(h:φ d=.int .i64 (k:Int))(hk:k=0∨k<n):iK prog φ 46 (.mslice b 0 n 1) (some (.tmp d)) none none=some (.mslice b k (n - k) 1):=by
 have h1:d8 φ none n n=some n:=rfl
 have h2:d8 φ (some (.tmp d)) 0 n=some k:=by
  unfold d8
  simp only[show φ.eval (.tmp d)=φ d from rfl,h]
  rw[aH (by omega)]
  simp
 unfold iK oY
 rw[aE (by simp [rH])]
 simp only[dK,h1,h2]
 by_cases h3:k=0
 · subst h3;simp
 · have h4:k<n:=by omega
   simp [h3,h4]
theorem a6Z{φ:AF}{d b n:Nat}(h:φ d=.int .i64 (n:Int))(hn:n≠0):iK prog φ 46 (.mslice b 0 n 1) (some (.tmp d)) none none=some .eslice:=by
 have h1:d8 φ none n n=some n:=rfl
 have h2:d8 φ (some (.tmp d)) 0 n=some n:=by
  unfold d8
  simp only[show φ.eval (.tmp d)=φ d from rfl,h]
  rw[aH (by omega)]
  simp
 unfold iK oY
 rw[aE (by simp [rH])]
 simp only[dK,h1,h2]
 simp [hn]
theorem VZ{φ:AF}{t:TypeId}{ag:Bool}{w d b n k:Nat}(hI:eI prog t=some (ag,w))(h:φ d=.int .i64 (k:Int))(hk:k≤n):iK prog φ t (.mslice b 0 n w) none (some (.tmp d)) none=some (.mslice b 0 k w):=by
 have h1:d8 φ (some (.tmp d)) n n=some k:=by
  unfold d8
  simp only[show φ.eval (.tmp d)=φ d from rfl,h]
  rw[aH (by omega)]
  simp
 have h2:d8 φ none 0 k=some 0:=rfl
 unfold iK oY
 rw[aE (by simp [rH])]
 simp only[hI,h1,h2]
 simp
theorem aQS{φ:AF}{t:TypeId}{ag:Bool}{w d:Nat}(hI:eI prog t=some (ag,w))(h:φ d=.int .i64 0):iK prog φ t (.fslice []) none (some (.tmp d)) none=some (.fslice []):=by
 have h1:d8 φ (some (.tmp d)) 0 0=some 0:=by
  unfold d8
  simp only[show φ.eval (.tmp d)=φ d from rfl,h]
  simp
 have h2:d8 φ none 0 0=some 0:=rfl
 unfold iK
 rw[aH ⟨rfl,rfl⟩]
 simp only[hI,h1,h2]
theorem a6Y{φ:AF}{d:Nat}(h:φ d=.int .i64 0):iK prog φ 46 (.fslice []) (some (.tmp d)) none none=some (.fslice []):=by
 have h1:d8 φ none 0 0=some 0:=rfl
 have h2:d8 φ (some (.tmp d)) 0 0=some 0:=by
  unfold d8
  simp only[show φ.eval (.tmp d)=φ d from rfl,h]
  simp
 unfold iK
 rw[aH ⟨rfl,rfl⟩]
 simp only[dK,h1,h2]
theorem a1W{P:Program}{t:TypeId}{ag:Bool}{b o len w i:Nat}(hI:eI P t=some (ag,w))(hi:i<len):dM P t (.mslice b o len w) (.int .i64 (i:Int))=some (.ptr b (o+i*w)):=by
 unfold dM
 simp only[hI]
 rw[aH ⟨by omega,by omega,trivial⟩]
 simp
abbrev C7:=zi tI_3 (zi zI_3 (zi aZ (zi tI_46 (zi zI_46 (zi dK (zi fM (zi fJ (zi fX (zi tI_141 (zi zI_141 (zi DF (zi tI_227 (zi zI_227 (zi tI_304 (zi zI_304 (zi ER (zi ES D8)))))))))))))))))
theorem RZ(σ:Sub)(tr:List Int)(mark:Nat)(hm:mark≤tr.length)(c m:Nat)(q:AV)(st:aB)(hS:gS st c m q σ tr)(hl:tr.length≤1099511627776) :
 aD prog 299 [.ptr c 0,.int .i64 (mark:Int)] st (fun r st'=>r=.tup []∧∃q',gS st' c m q' (σ.out (tr.drop mark)) (tr.take mark)∧(∀b∈dR q',b∈dR q)∧∀x o,st x=some o→x≠c→x≠m→st' x=some o):=by
 have hcm:=hS.sub.cm
 rcases hS.fW with ⟨rfl,rfl⟩ | ⟨b,cs,rfl,hb,hcs⟩
 · obtain rfl:mark=0:=by simpa using hm
   have e1:=hS.sub.cells
   have hsl:=fun(φ:AF) (d:Nat) (h:φ d=.int .i64 0)=>a6Y h
   have hsh:=fun(φ:AF) (d:Nat) (h:φ d=.int .i64 0)=>aQS dK h
   simp only[Int.ofNat_zero]
   refine wF [1000000] 2 func299 ntmps299 rfl rfl ?_
   intro _
   simp -implicitDefEqProofs only[e1,hsl,aA,seval,C7]
   refine eH (σ:=Unit) [1000000] [0,1,11,12] ([]:List Int) (fun i _=>True) (fun i _=>[(13,.int .i64 i)]) (fun _ _=>st) (by decide +kernel) ⟨(),trivial,aN.mk (by simp -implicitDefEqProofs only[aA,↓aX,seval])⟩ (fun i x _ hx hlt bQ hdr hinv=>?_) (fun _ hge hinv=>?_)
   · simp at hlt
   · simp -implicitDefEqProofs only[bA,aG,e1,hsh,aA,seval,C7]
     rw[Sub.U6]
     refine⟨.fslice [],⟨⟨aB.aP _ _ _,?_⟩,.inl ⟨rfl,rfl⟩,by simp [dR]⟩,fun _ h=>h,fun x o h h1 h2=>by rw[aB.aJ _ _ h1];exact h⟩
     rw[aB.aJ _ _ hcm.symm,hS.sub.map]
 · have e1:=hS.sub.cells
   have hbc:b≠c:=fun e=>hS.apart (by simp [dR,e])
   have hbm:b≠m:=fun e=>hS.NO (by simp [dR,e])
   have hc':∀o,(st.aC m o) c=some (.cells [.map m,.mslice b 0 tr.length 1]):=fun o=>by rw[aB.aJ _ _ hcm];exact e1
   have hb':∀o,(st.aC m o) b=some (.cells cs):=fun o=>by rw[aB.aJ _ _ hbm];exact hb
   have hm0:st.aC m (.map (mapOf σ))=st:=by
    funext x
    unfold aB.aC
    split
    · rename_i h;rw[h,hS.sub.map]
    · rfl
   have iP:∀st',st'=(st.aC m (.map (mapOf (σ.out (tr.drop mark))))).aC c (.cells [.map m,.mslice b 0 mark 1])→∃q',gS st' c m q' (σ.out (tr.drop mark)) (tr.take mark)∧(∀x∈dR q',x∈dR (.mslice b 0 tr.length 1))∧∀x o,st x=some o→x≠c→x≠m→st' x=some o:=by
    rintro _ rfl
    have hlt:(tr.take mark).length=mark:=by rw[dQ];omega
    refine⟨.mslice b 0 mark 1,⟨⟨aB.aP _ _ _,by rw[aB.aJ _ _ hcm.symm,aB.aP]⟩,.inr ⟨b,cs,by rw[hlt],by rw[aB.aJ _ _ hbc];exact hb' _,?_⟩,by simpa [dR] using c9 hbc⟩,fun x h=>h,fun x o h h1 h2=>by rw[aB.aJ _ _ h1,aB.aJ _ _ h2];exact h⟩
    rw[hlt,GK,←hcs,wS,kN hm]
   have hsh:=fun(φ:AF) (d:Nat) (h:φ d=.int .i64 (mark:Int))=>VZ (b:=b) dK h hm
   by_cases hk:mark=0∨mark<tr.length
   · have hsl:=fun(φ:AF) (d:Nat) (h:φ d=.int .i64 (mark:Int))=>a6X (b:=b) h hk
     refine wF [1000000] 2 func299 ntmps299 rfl rfl ?_
     intro _
     simp -implicitDefEqProofs only[e1,hsl,aA,seval,C7]
     refine eH (σ:=Unit) [1000000] [0,1,11,12] (tr.drop mark) (fun i _=>True) (fun i _=>[(13,.int .i64 i)]) (fun i _=>st.aC m (.map (mapOf (σ.out ((tr.drop mark).take i))))) (by decide +kernel) ⟨(),trivial,by rw[j9,Sub.U6,hm0];exact aN.mk (by simp -implicitDefEqProofs only[aA,↓aX,seval])⟩ (fun i x _ hx hlt bQ hdr hinv=>?_) (fun _ hge hinv=>?_)
     · have hw:=wrap64 (n:=(i:Int)+1) (by omega) (by rw[lR] at hlt;omega)
       have htk:(tr.drop mark).take (i+1)=(tr.drop mark).take i++ [x]:=by rw[fS,hx];simp
       rw[lR] at hlt bQ
       have bBC:decide ((i:Int)<((tr.length - mark:Nat):Int))=true:=by simp;omega
       have hxt:tr[mark+i]?=some x:=by rw[P1] at hx;exact hx
       have a1M:cs=(tr.take (mark+i)).map iv++ [iv x]++((tr.drop (mark+i+1)).map iv++cs.drop tr.length):=by
        have h1:cs=tr.map iv++cs.drop tr.length:=by rw[←hcs];exact(rX _ _).symm
        have h2:tr.map iv=(tr.take (mark+i)).map iv++iv x::(tr.drop (mark+i+1)).map iv:=by
         have h3:tr.drop (mark+i)=x::tr.drop (mark+i+1):=by
          obtain⟨g1,g2⟩:=fR.1 hxt
          rw[pQ g1,g2]
         rw[←aW (f:=iv),←h3,←oC,rX]
        rw[h2] at h1
        exact h1.trans (by simp)
       have hA:((tr.take (mark+i)).map iv).length=mark+i:=by simp only[aF,dQ];omega
       have hat:=a1W (P:=prog) (b:=b) (o:=mark) (len:=tr.length - mark) (w:=1) (i:=i) dK hlt
       have hcb:=hb' (.map (mapOf (σ.out ((tr.drop mark).take i))))
       rw[a1M] at hcb
       have TI:=hc' (.map (mapOf (σ.out ((tr.drop mark).take i))))
       obtain⟨e1',e2,e3,e4,e5,e6⟩:=FE (B:=(tr.drop (mark+i+1)).map iv++cs.drop tr.length) hA
       simp -implicitDefEqProofs only[e6,hat,hcb,TI,bQ,wU,aA,seval,C7]
       refine aZG (aB.aP _ _ _) DF aZ ?_
       rw[c7,←htk]
       simp -implicitDefEqProofs only[hw,aA,seval]
       exact⟨(),aN.mk (by simp -implicitDefEqProofs only[aA,seval])⟩
     · rw[eN]
       rw[lR] at hge
       have TI:=hc' (.map (mapOf (σ.out (tr.drop mark))))
       have a12:decide (((tr.length - mark:Nat):Int)<((tr.length - mark:Nat):Int))=false:=by simp
       simp -implicitDefEqProofs only[TI,hge,lR,aG,hsh,aA,seval,C7]
       exact iP _ rfl
   · obtain rfl:mark=tr.length:=by omega
     have hn0:tr.length≠0:=by omega
     have hsl:=fun(φ:AF) (d:Nat) (h:φ d=.int .i64 (tr.length:Int))=>a6Z (b:=b) h hn0
     refine wF [1000000] 2 func299 ntmps299 rfl rfl ?_
     intro _
     simp -implicitDefEqProofs only[e1,hsl,m8,fX,aA,↓aX,seval,C7]
     refine eH (σ:=Unit) [1000000] [0,1,11,12] ([]:List Int) (fun i _=>True) (fun i _=>[(13,.int .i64 i)]) (fun _ _=>st) (by decide +kernel) ⟨(),trivial,aN.mk (by simp -implicitDefEqProofs only[aA,↓aX,seval])⟩ (fun i x _ hx hlt bQ hdr hinv=>?_) (fun _ hge hinv=>?_)
     · simp at hlt
     · simp -implicitDefEqProofs only[bA,aG,e1,hsh,aA,seval,C7]
       refine iP _ ?_
       rw[j8,Sub.U6,hm0]
def X1(v:Tm)(D:Nat)(cnt cb:Nat)(st:aB)(r:AV)(st':aB):Prop:=
 ∃oI:Nat,oI≤121∧st'=st.aC cb (.cells [.int .i64 oI]) ∧
  if v.flat D=true∧cnt+v.nodes≤120 then r=.tup [v.av,.bool true]∧oI=cnt+v.nodes else r=.tup [Tm.zero.av,.bool false]
theorem FW{α:Type}(f:α→Nat):∀l m:List α,aR f (l++m)=aR f l+aR f m
 | [],m=>by simp [aR]
 | x::l,m=>by simp only[fQ,aR,FW f l m];omega
abbrev Cv (t:Tm):Prop:=t.cv=true
theorem aNB{σ:Sub}{R:Int→Tm}{rk:Int→Nat}{B f:Nat}(G:Good σ R rk B){t:Tm}{k n:Int}{s:ByteArray}{ts:List Tm}(hw:gN σ f t (.mk k n s ts))(hc:Cv (.mk k n s ts)):t.aM R=.mk k n s (ts.map (Tm.aM R)):=by
 rw[←hw.aM G.x6]
 by_cases hk:k=1
 · rw[Tm.nS R hk,G.free (show σ n=none from hw.end hk)]
   obtain⟨h1,_⟩:=Tm.oZ.1 hc
   obtain⟨rfl,rfl⟩:=h1 hk
   rw[hk];try rfl
 · rw[Tm.mL R hk]
abbrev uS:=zi tI_3 (zi zI_3 (zi aZ (zi tI_4 (zi zI_4 (zi cG (zi tI_9 (zi zI_9 (zi cF (zi tI_31 (zi zI_31 (zi aO (zi bH (zi bJ (zi bZ (zi tI_66 (zi zI_66 (zi bS (zi bT (zi bU (zi bV (zi bR (zi tI_202 (zi zI_202 (zi tI_227 zI_227))))))))))))))))))))))))
theorem aA1{σ:Sub}{R:Int→Tm}{rk:Int→Nat}{B:Nat}(G:Good σ R rk B)(hcv:cW Cv σ)(hsm:cW Sm σ)(c m cb:Nat)(q:AV)(hcb:cb≠c∧cb≠m) :
 ∀(D:Nat) (t:Tm) (cnt:Nat) (st:aB),D≤31→Cv t→Sm t→cnt≤120→jN st c m q σ→st cb=some (.cells [.int .i64 cnt]) →
 aD prog 356 [.ptr c 0,t.av,.int .i64 (31 - D:Int),.ptr cb 0] st (X1 (t.aM R) D cnt cb st)
 | D,t,cnt,st,hD,hct,hst,bA8,hS,hC=>by
  have IH:=fun(D':Nat) (hlt:D'<D) (x:Tm) cnt st=>aA1 G hcv hsm c m cb q hcb D' x cnt st
  obtain⟨f,hw⟩:=G.wk t
  generalize wk σ t=u at *
  have hcu:=hw.all (p:=Cv) hcv hct
  have hsu:=hw.all (p:=Sm) hsm hst
  have hcw:=fun st (hS:jN st c m q σ)=>LZ hw c m q st hS
  obtain⟨k,n,s,ts⟩:=u
  have hv:=aNB G hw hcu
  rw[hv]
  obtain⟨hlen,qE⟩:=Tm.qO hsu
  obtain⟨_,a1O⟩:=Tm.oZ.1 hcu
  refine aD.nB (aD.fin ?_)
  refine wF [1000000,5,10] 4 func356 ntmps356 rfl rfl ?_
  intro _
  simp -implicitDefEqProofs only[aA,seval,uS]
  intro b5 h5 b8 h8
  have h85:b8≠b5:=by rintro rfl;rw[aB.aP] at h8;cases h8
  have hn8:st b8=none:=by rw[aB.aJ st _ h85] at h8;exact h8
  have hS':∀o o',jN ((st.aC b5 o).aC b8 o') c m q σ:=fun o o'=>(hS.aC h5).aC (by rw[aB.aJ _ _ h85];exact hn8)
  have hb5:cb≠b5:=by rintro rfl;rw[hC] at h5;cases h5
  have hb8:cb≠b8:=by rintro rfl;rw[hC] at hn8;cases hn8
  have hwc:IntKind.i64.wrap ((cnt:Int)+1)=(cnt:Int)+1:=wrap64 (by omega) (by omega)
  simp -implicitDefEqProofs only[h85.symm,aA,seval]
  refine(hcw _ (hS' _ _)).to ?_
  simp only[aY]
  simp -implicitDefEqProofs only[aG,h85.symm,hb5,hb8,hC,hwc,aA,seval,uS]
  have TM:∀(st':aB) (oI:Nat),oI≤121→aL st' (st.aC cb (.cells [.int .i64 oI]))→¬((Tm.mk k n s (ts.map (Tm.aM R))).flat D=true∧cnt+(Tm.mk k n s (ts.map (Tm.aM R))).nodes≤120) →
   ∃b l s0,st'=a8 s0 b l∧(l≠[]→s0 b=none)∧(∀e∈l,e.cH=false)∧iR l∧∃s2,aL s0 s2∧X1 (Tm.mk k n s (ts.map (Tm.aM R))) D cnt cb st (AV.fin b l (.tup [.agg [.int .i64 0,.int .i64 0,.str ⟨#[]⟩,.fslice []],.bool false])) s2:=fun st' oI h1 h2 h3=>by
   refine⟨0,[],st',rfl,by simp,by simp,⟨4,by simp⟩,_,h2,oI,h1,rfl,?_⟩
   rw[aE h3]
   simp only[Tm.zero,aY,gJ,kS,eT,q7,jP,o7,aW,aU]
  have hdr:∀o5 o8 o5' o8' oI,aL (((((st.aC b5 o5).aC b8 o8).aC b5 o5').aC cb (.cells [.int .i64 oI])).aC b8 o8') (st.aC cb (.cells [.int .i64 oI])):=fun o5 o8 o5' o8' oI x=>by
   by_cases e5:x=b5<;>by_cases e8:x=b8<;>by_cases ec:x=cb<;>simp_all [aB.aC]
  refine cS (fun h=>?_) (fun h=>?_)
  case refine_2=>
   simp -implicitDefEqProofs only[h,aG,h85,hb8.symm,aA,seval,uS]
   refine TM _ (cnt+1) (by omega) (hdr _ _ _ _ _) ?_
   simp at h
   rw[Tm.iI]
   omega
  simp -implicitDefEqProofs only[h,aA,seval]
  simp at h
  refine aS (fun h2=>?_) (fun h2=>?_)
  · simp only[bL] at h2
    obtain rfl:D=0:=by omega
    simp -implicitDefEqProofs only[aG,h85,hb8.symm,aA,↓aX,seval,uS]
    exact TM _ (cnt+1) (by omega) (hdr _ _ _ _ _) (by rw[Tm.H3];simp)
  simp only[cP] at h2
  obtain⟨D',rfl⟩:∃D',D=D'+1:=⟨D - 1,by omega⟩
  have a1P:IntKind.i64.wrap (31 - ((D':Int)+1)+1)=31 - (D':Int):=by rw[wrap64 (by omega) (by omega)];omega
  simp -implicitDefEqProofs only[aG,hb5.symm,aA,↓aX,seval,uS]
  intro b10 h10
  have S3:b10≠b5:=by rintro rfl;simp [aB.aC,hb5.symm] at h10
  have EV:b10≠b8:=by rintro rfl;simp [aB.aC,h85,hb8.symm] at h10
  have S4:b10≠cb:=by rintro rfl;simp [aB.aC] at h10
  have a2I:st b10=none:=by rw[aB.aJ _ _ S4,aB.aJ _ _ S3,aB.aJ _ _ EV,aB.aJ _ _ S3] at h10;exact h10
  simp -implicitDefEqProofs only[hb5.symm,S3.symm,aF,aA,seval,uS]
  rw[aB.yK h85]
  have hWS:jN ((st.aC b8 (.cells [.int .i64 0,.int .i64 0,.str ⟨#[]⟩,.fslice []])).aC b5 (.cells [.int .i64 k,.int .i64 n,.str s,.slice (ts.map Tm.av)])) c m q σ:=(hS.aC hn8).aC (by rw[aB.aJ _ _ h85.symm];exact h5)
  have hW8:((st.aC b8 (.cells [.int .i64 0,.int .i64 0,.str ⟨#[]⟩,.fslice []])).aC b5 (.cells [.int .i64 k,.int .i64 n,.str s,.slice (ts.map Tm.av)])) b8=some (.cells [.int .i64 0,.int .i64 0,.str ⟨#[]⟩,.fslice []]):=by rw[aB.aJ _ _ h85,aB.aP]
  have hWd:∀X Y Z,aL (((((st.aC b8 (.cells [.int .i64 0,.int .i64 0,.str ⟨#[]⟩,.fslice []])).aC b5 (.cells [.int .i64 k,.int .i64 n,.str s,.slice (ts.map Tm.av)])).aC cb X).aC b8 Y).aC b10 Z) (st.aC cb X):=fun X Y Z x=>by
   by_cases e5:x=b5<;>by_cases e8:x=b8<;>by_cases ec:x=cb<;>by_cases e10:x=b10<;>simp_all [aB.aC]
  generalize ((st.aC b8 (.cells [.int .i64 0,.int .i64 0,.str ⟨#[]⟩,.fslice []])).aC b5 (.cells [.int .i64 k,.int .i64 n,.str s,.slice (ts.map Tm.av)]))=W at *
  obtain⟨a00,a01⟩:=hS.ne a2I
  refine eH (σ:=Nat) [1000000,5,10] [0,2,3,8,10,40,41] ts
   (fun i b=>(((ts.take i).map (Tm.aM R)).map Tm.av≠[]→(aB.aC (W.aC cb (.cells [.int .i64 ((cnt+1+aR Tm.nodes ((ts.take i).map (Tm.aM R)):Nat):Int)])) b10 (.cells ([.int .i64 k,.int .i64 n,.str s]++ [bM 4 b (((ts.take i).map (Tm.aM R)).map Tm.av)]))) b=none) ∧
    cnt+1+aR Tm.nodes ((ts.take i).map (Tm.aM R))≤120∧((ts.take i).map (Tm.aM R)).all (fun x=>x.flat D')=true)
   (fun i b=>[(9,.bool false),(42,.int .i64 i)])
   (fun i b=>f9 (W.aC cb (.cells [.int .i64 ((cnt+1+aR Tm.nodes ((ts.take i).map (Tm.aM R)):Nat):Int)])) b10 b [.int .i64 k,.int .i64 n,.str s] (((ts.take i).map (Tm.aM R)).map Tm.av)) (by decide +kernel)
   ⟨0,⟨fun h=>absurd rfl h,by simp [aR];omega,by simp⟩,aN.mk (by simp -implicitDefEqProofs only[aA,↓aX,seval])⟩ (fun i x b hx hlt bQ CD hinv=>?_) (fun b hge hinv=>?_)
  · obtain⟨i1,i2,i3⟩:=hinv
    have htk:(ts.take (i+1)).map (Tm.aM R)=(ts.take i).map (Tm.aM R)++ [x.aM R]:=by rw[fS,hx];simp
    have dA:(((ts.take i).map (Tm.aM R)).map Tm.av).length=i:=by simp only[aF,dQ];omega
    have hw:=bE (n:=(i:Int)+1)
    have iG:=cJ hx
    generalize hl0:(ts.take i).map (Tm.aM R)=l0 at *
    generalize hc0:cnt+1+aR Tm.nodes l0=c0 at *
    have hWc:(W.aC cb (.cells [.int .i64 (c0:Int)])) cb≠none:=by rw[aB.aP];simp
    have hs1:=iA i1 hWc S4.symm
    have hsS:jN (f9 (W.aC cb (.cells [.int .i64 (c0:Int)])) b10 b [.int .i64 k,.int .i64 n,.str s] (l0.map Tm.av)) c m q σ:=by
     have h1:=(hWS.PN (o:=.cells [.int .i64 (c0:Int)]) hcb.1 hcb.2)
     exact⟨by rw[iA i1 (by rw[h1.cells];simp) a00.symm];exact h1.cells,by rw[iA i1 (by rw[h1.map];simp) a01.symm];exact h1.map⟩
    rw[aB.aP] at hs1
    simp -implicitDefEqProofs only[bQ,a1P,bO (av:=Tm.av) aO hx (aK x),a7,aK,aA,↓aX,seval,uS]
    refine(IH D' (KV _) x c0 _ (by omega) (a1O x iG) (qE x iG) i2 hsS hs1).mono ?_
    rintro r s2 ⟨oI,a1J,rfl,hr⟩
    obtain⟨e1,i1'⟩:=rI (o:=.cells [.int .i64 (oI:Int)]) i1 hWc S4.symm
    rw[e1,c7]
    rw[c7] at i1'
    have uJ:(ts.map (Tm.aM R))=l0++(x.aM R)::(ts.drop (i+1)).map (Tm.aM R):=by rw[←hl0,←aW,←CD,←oC,rX]
    by_cases hok:(x.aM R).flat D'=true∧c0+(x.aM R).nodes≤120
    · rw[aH hok] at hr
      obtain⟨rfl,rfl⟩:=hr
      have hbo:=fA i1'
      simp -implicitDefEqProofs only[a7,aK,cB,cM,hbo,mE,aA,↓aX,seval,uS]
      refine fG aO bH bJ rfl rfl (gA (aK _) (cB _)) (eD _) i1' (by simp only[dA,aQ,bA];omega) (by simp only[dA,aQ,bA];omega) (fun b' hb'=>?_)
      rw[show l0.map Tm.av++ [(x.aM R).av]=((ts.take (i+1)).map (Tm.aM R)).map Tm.av by rw[htk];simp] at hb' ⊢
      obtain⟨g1,g2,g3⟩:=pG hb'
      simp only[fQ,eS] at g1 g3
      have hcc:cnt+1+aR Tm.nodes ((ts.take (i+1)).map (Tm.aM R))=c0+(x.aM R).nodes:=by rw[htk,FW,aR,aR,←hc0];omega
      simp -implicitDefEqProofs only[g3,m9,eP,g1,hw,aG,aA,seval,uS]
      rw[hcc]
      exact⟨b',⟨g2,hok.2,by rw[htk,DO,i3];simp [hok.1]⟩,aN.mk (by simp -implicitDefEqProofs only[aA,seval])⟩
    · rw[aE hok] at hr
      subst hr
      obtain⟨e2,i2'⟩:=rI (x:=b8) (o:=.cells [.int .i64 0,.int .i64 0,.str ⟨#[]⟩,.fslice []]) i1' (by rw[aB.aJ _ _ hb8.symm,hW8];simp) EV.symm
      have h8o:=iA i1' (x:=b8) (by rw[aB.aJ _ _ hb8.symm,hW8];simp) EV.symm
      rw[aB.aJ _ _ hb8.symm,hW8] at h8o
      simp -implicitDefEqProofs only[aG,h8o,Tm.zero,aY,aU,aA,↓aX,seval,uS]
      rw[e2]
      refine TM _ oI a1J (a36 (hWd _ _ _) i2') ?_
      rw[Tm.iI,Tm.xN,uJ,DO,lE,FW,aR]
      rintro⟨h3,h4⟩
      simp only[cK] at h3
      exact hok ⟨h3.2.1,by omega⟩
  · obtain⟨i1,i2,i3⟩:=hinv
    rw[eN] at i1 i2 i3 ⊢
    have hbo:=fA i1
    have hx8:(W.aC cb (.cells [.int .i64 ((cnt+1+aR Tm.nodes (ts.map (Tm.aM R)):Nat):Int)])) b8≠none:=by rw[aB.aJ _ _ hb8.symm,hW8];simp
    have h8o:=iA i1 (x:=b8) hx8 EV.symm
    rw[aB.aJ _ _ hb8.symm,hW8] at h8o
    simp -implicitDefEqProofs only[aG,hge,hbo,h8o,eP,aA,seval,uS]
    obtain⟨h5,h6⟩:=lB (o:=.cells [.int .i64 k,.int .i64 n,.str s,bM 4 b ((ts.map (Tm.aM R)).map Tm.av)]) i1 hx8 EV.symm
    have z8:cnt+(Tm.mk k n s (ts.map (Tm.aM R))).nodes=cnt+1+aR Tm.nodes (ts.map (Tm.aM R)):=by rw[Tm.iI];omega
    refine⟨b,_,_,h5,h6,jJ _,⟨4,eD _⟩,_,?_,_,Nat.le_succ_of_le i2,rfl,?_⟩
    · rw[aB.nL _ _ _ EV]
      exact hWd _ _ _
    · rw[aH ⟨by rw[Tm.xN];exact i3,by rw[z8];exact i2⟩,z8]
      refine⟨?_,rfl⟩
      simp only[kS,gJ,aW,aU,eT,jP,q7,jE,aY]
termination_by D=>D
decreasing_by exact hlt
def NW(v:Tm):AV:=if v.flat 30=true∧v.nodes≤120 then .tup [v.av,.bool true] else .tup [Tm.zero.av,.bool false]
abbrev WM:=zi tI_3 (zi zI_3 (zi aZ (zi tI_4 (zi zI_4 (zi cG (zi tI_66 (zi zI_66 (zi bS (zi bT (zi bU (zi bV (zi bR (zi tI_202 (zi zI_202 (zi tI_227 zI_227)))))))))))))))
theorem aA0{σ:Sub}{R:Int→Tm}{rk:Int→Nat}{B:Nat}(G:Good σ R rk B)(hcv:cW Cv σ)(hsm:cW Sm σ)(c m:Nat)(q:AV)(t:Tm)(hct:Cv t)(hst:Sm t)(st:aB)(hS:jN st c m q σ) :
 aD prog 307 [.ptr c 0,t.av] st (fun r st'=>r=NW (t.aM R)∧st'=st):=by
 refine aD.done ?_
 refine wF [1000000,6] 2 func307 ntmps307 rfl rfl ?_
 intro _
 simp -implicitDefEqProofs only[aG,aA,↓aX,seval,WM]
 intro b4 h4 b6 h6
 have hne:b6≠b4:=by rintro rfl;rw[aB.aP] at h6;cases h6
 have hn6:st b6=none:=by rw[aB.aJ st _ hne] at h6;exact h6
 have hS':∀o o',jN ((st.aC b4 o).aC b6 o') c m q σ:=fun o o'=>(hS.aC h4).aC (by rw[aB.aJ _ _ hne];exact hn6)
 obtain⟨h6c,h6m⟩:=hS.ne hn6
 have hc:=aA1 G hcv hsm c m b6 q ⟨h6c,h6m⟩ 30 t 0 _ (by omega) hct hst (by omega) (hS' (.cells [.int .i64 0,.int .i64 0,.str ⟨#[]⟩,.fslice []]) (.cells [.int .i64 0])) (aB.aP _ _ _)
 rw[show(31 - ((30:Nat):Int))=1 from rfl] at hc
 refine hc.mono ?_
 rintro r s2 ⟨oI,_,rfl,hr⟩
 unfold NW
 rw[iJ] at hr
 split at hr
 · rename_i hok
   obtain⟨rfl,_⟩:=hr
   rw[aH hok]
   simp -implicitDefEqProofs only[bY,cB,aG,hne.symm,aA,seval,WM]
   exact⟨by simp only[eJ,uP,Tm.soft,aW,aU],(((aL.refl _).aC h4).aC hn6).aC h4⟩
 · rename_i hok
   subst hr
   rw[aE hok]
   simp -implicitDefEqProofs only[Tm.zero,aY,aU,aG,hne.symm,aA,seval,WM]
   exact⟨by simp only[eG,eJ,d7,uP,mR,fV,aW,aU],(((aL.refl _).aC h4).aC hn6).aC h4⟩
abbrev a77:=zi tI_141 (zi zI_141 (zi DF (zi tI_227 (zi zI_227 (zi tI_304 (zi zI_304 (zi ER (zi ES D8))))))))
theorem aX7(st:aB):aD prog 225 [] st (fun r st'=>∃c m,r=.ptr c 0∧gS st' c m (.fslice []) Sub.none []∧m6 c m st (.fslice []) st' (.fslice [])∧st c=none∧st m=none):=by
 refine wF [1000000,3] 0 func225 ntmps225 rfl rfl ?_
 intro _
 simp -implicitDefEqProofs only[aA,seval,a77]
 intro m hm c hc
 have hne:c≠m:=by rintro rfl;rw[aB.aP] at hc;cases hc
 have hnc:st c=none:=by rw[aB.aJ st _ hne] at hc;exact hc
 refine⟨c,m,rfl,⟨⟨aB.aP _ _ _,by rw[aB.aJ _ _ hne.symm,aB.aP];try rfl⟩,.inl ⟨rfl,rfl⟩,by simp [dR]⟩,⟨fun x o h h1 h2 _=>by rw[aB.aJ _ _ h1,aB.aJ _ _ h2];exact h,by simp [dR]⟩,hnc,hm⟩
theorem jN.acc{st:aB}{c m b:Nat}{q:AV}{σ:Sub}{l:List AV}(h:jN st c m q σ)(hb:l≠[]→st b=none):jN (a8 st b l) c m q σ:=by
 cases l with
 | nil=>exact h
 | cons x l=>exact h.aC (hb (by simp))
abbrev OP:=zi tI_3 (zi zI_3 (zi aZ (zi tI_23 (zi zI_23 (zi t8 (zi zJ (zi zN (zi wM (zi tI_31 (zi zI_31 (zi aO (zi bH (zi bJ (zi bZ (zi tI_66 (zi zI_66 (zi bS (zi bT (zi bU (zi bV (zi bR (zi tI_90 (zi zI_90 (zi zT (zi zU (zi zW (zi zX y6)))))))))))))))))))))))))))
theorem aBB(l:List Tm)(st:aB)(hb:l.length≤1048576)(hc:∀x∈l,∀(st:aB),aD prog 74 [Tm.av x] st (fun r st'=>r=Tm.av x∧st'=st)) :
 aD prog 19 [.slice (l.map Tm.av)] st (fun r st'=>r=.slice (l.map Tm.av)∧st'=st):=by
 refine aD.freeze ?_
 refine wF [] 1 func19 ntmps19 rfl rfl ?_
 intro _
 simp -implicitDefEqProofs only[aF,tQ,aA,↓aX,seval,OP]
 refine⟨by omega,by omega,by omega,?_⟩
 intro b hn
 rw[jU,a0M Tm.av _ (by simp) l]
 have hlen:=fun(i:Nat) (hi:i≤l.length)=>a0K (av:=Tm.av) (zs:=[.int .i64 0,.int .i64 0,.str ⟨#[]⟩,.fslice []]) bY rfl l hi
 refine pP (α:=Nat) [] (fun i=>i≤l.length)
  (fun i=>[(0,.slice (l.map Tm.av)),(3,.mslice b 0 l.length 4),(4,.int .i64 i)]) (fun i=>st.aC b (.cells (filled Tm.av [.int .i64 0,.int .i64 0,.str ⟨#[]⟩,.fslice []] l i))) (fun i=>l.length - i) (by decide +kernel)
  ⟨0,by omega,aN.mk (by simp -implicitDefEqProofs only[aA,↓aX,seval])⟩ ?_
 intro i hi
 simp -implicitDefEqProofs only[aF,aA,seval,OP]
 refine⟨fun h5=>?_,fun h5=>?_⟩
 case refine_2=>
  simp -implicitDefEqProofs only[aA,seval]
  simp only[cP,iY] at h5
  obtain rfl:i=l.length:=by omega
  refine⟨b,l.map Tm.av,by rw[aB.aP,a0J],a34 cM l,aMD aK l,?_,aB.vR st b _ hn⟩
  simp [AV.fz]
 simp only[bL,iY] at h5
 obtain⟨x,hx⟩:∃x,l[i]?=some x:=⟨_,dZ h5⟩
 simp -implicitDefEqProofs only[bO (av:=Tm.av) t8 hx (aK x),a7,aK,aA,seval,OP]
 refine(hc x (cJ hx) _).to ?_
 simp -implicitDefEqProofs only[dM,aO,jU,show((0:Int)≤(i:Int)∧(i:Int)<(l.length:Int))=True from dF ⟨by omega,by omega⟩,bY,cB,a0L bY (zs:=[.int .i64 0,.int .i64 0,.str ⟨#[]⟩,.fslice []]) rfl hx,c7,aA,seval,OP]
 refine⟨by rw[hlen i hi];have:=rZ 4 h5;rw[pS] at this;omega,?_⟩
 refine⟨i+1,by omega,by omega,aN.mk ?_⟩
 have:=bE (n:=(i:Int)+1)
 simp -implicitDefEqProofs only[this,aA,seval]
abbrev WQ:=zi tI_3 (zi zI_3 (zi aZ (zi tI_4 (zi zI_4 (zi cG (zi tI_31 (zi zI_31 (zi aO (zi bH (zi bJ (zi bZ (zi tI_66 (zi zI_66 (zi bS (zi bT (zi bU (zi bV bR)))))))))))))))))
theorem ZV(l l':List Tm)(g:FuncId)(st:aB)(hc:∀x∈l,∀(y:Tm) (st:aB),aD prog g [Tm.av x,Tm.av y] st (fun r st'=>r=.bool (Tm.same x y)∧st'=st)) :
 aD prog 165 [.slice (l.map Tm.av),.slice (l'.map Tm.av),.func g []] st (fun r st'=>r=.bool (iO Tm.same l l')∧st'=st):=by
 refine wF [1000000] 3 func165 ntmps165 rfl rfl ?_
 simp only[d5,AV.fits,d9,aF]
 intro ⟨⟨hl,_⟩,⟨hl',_⟩⟩
 simp -implicitDefEqProofs only[aF,aA,seval,WQ]
 refine⟨fun h4=>?_,fun h4=>?_⟩
 · simp -implicitDefEqProofs only[aA,seval]
   simp only[iX,cP] at h4
   rw[EQ _ (show l.length≠l'.length by omega)]
 simp only[mD,bL] at h4
 have h4':l.length=l'.length:=by omega
 simp -implicitDefEqProofs only[aF,aA,seval,WQ]
 refine eH (σ:=Unit) [1000000] [1,2,15,16] l (fun i _=>∀(j:Nat) (x y:Tm),j<i→l[j]?=some x→l'[j]?=some y→Tm.same x y=true) (fun i _=>[(17,.int .i64 i)]) (fun _ _=>st) (by decide +kernel) ⟨(),by intro j x y h;omega,aN.mk (by simp -implicitDefEqProofs only[aA,↓aX,seval])⟩ (fun i x _ hx hlt bQ hdr dN=>?_) (fun _ hge dN=>?_)
 case refine_2=>
  simp -implicitDefEqProofs only[hge,aA,seval]
  rw[EO _ h4' (fun j x y h6 h7=>dN j x y (by have:=(fR.1 h6).1;omega) h6 h7)]
 obtain⟨y,hy⟩:∃y,l'[i]?=some y:=⟨_,dZ (h4'▸hlt)⟩
 have hw:=bE (n:=(i:Int)+1)
 simp -implicitDefEqProofs only[bQ,a7,aK,cB,cM,bO (av:=Tm.av) aO hx (aK x),bO (av:=Tm.av) aO hy (aK y),aA,↓aX,seval,WQ]
 refine(hc x (cJ hx) y _).to ?_
 simp -implicitDefEqProofs only[aA,seval]
 refine⟨fun h6=>?_,fun h6=>?_⟩
 · simp -implicitDefEqProofs only[aA,seval]
   have h7:Tm.same x y=false:=by simpa using h6
   rw[EP _ i x y hx hy h7]
 have h7:Tm.same x y=true:=by simpa using h6
 simp -implicitDefEqProofs only[aA,seval]
 refine⟨(),fun j u v hj hu hv=>?_,aN.mk (by simp -implicitDefEqProofs only[hw,aA,seval])⟩
 rcases kX j i with h8 | h8
 · exact dN j u v h8 hu hv
 · obtain rfl:j=i:=by omega
   rw[hx] at hu;rw[hy] at hv;cases hu;cases hv;exact h7
abbrev aR4:=zi tI_3 (zi zI_3 (zi aZ (zi tI_9 (zi zI_9 (zi cF (zi tI_23 (zi zI_23 (zi t8 (zi zJ (zi zN (zi wM (zi tI_31 (zi zI_31 (zi aO (zi bH (zi bJ (zi bZ (zi tI_66 (zi zI_66 (zi bS (zi bT (zi bU (zi bV (zi bR (zi tI_90 (zi zI_90 (zi zT (zi zU (zi zW (zi zX y6))))))))))))))))))))))))))))))
theorem aBA:∀(a:Tm) (st:aB),a.sz≤1048576→aD prog 74 [a.av] st (fun r st'=>r=a.av∧st'=st)
 | .mk k n s ts,st,hb=>by
  rw[Tm.OA] at hb
  have hc:=fun st=>aBB ts st (by omega) fun x hx st=>aBA x st (by have:=yF (f:=Tm.sz) hx;omega)
  have hd:aD prog 74 [(Tm.mk k n s ts).av] st (fun r st'=>aL st' st∧r=(Tm.mk k n s ts).av):=by
   refine wF [] 1 func74 ntmps74 rfl rfl ?_
   intro _
   simp only[aY]
   simp -implicitDefEqProofs only[aA,seval,aR4]
   intro b hb1 b2 hb2
   have hne:b2≠b:=by rintro rfl;rw[aB.aP] at hb2;cases hb2
   have hn2:st b2=none:=by rw[aB.aJ st _ hne] at hb2;exact hb2
   simp -implicitDefEqProofs only[aG,aA,seval]
   refine(hc _).to ?_
   simp -implicitDefEqProofs only[gZ,hne.symm,aG,c7,aA,seval,aR4]
   exact(((aL.refl _).aC hb1).aC hn2).aC hb1
  exact hd.drop
termination_by a=>SizeOf.sizeOf a
decreasing_by have:=List.sizeOf_lt_of_mem hx;simp only[Tm.mk.sizeOf_spec];omega
abbrev OO:=zi tI_3 (zi zI_3 (zi aZ (zi tI_4 (zi zI_4 (zi cG (zi tI_9 (zi zI_9 (zi cF (zi tI_31 (zi zI_31 (zi aO (zi bH (zi bJ (zi bZ (zi tI_66 (zi zI_66 (zi bS (zi bT (zi bU (zi bV bR))))))))))))))))))))
theorem RA:∀(a b:Tm) (st:aB),aD prog 133 [a.av,b.av] st (fun r st'=>r=.bool (a.same b)∧st'=st)
 | .mk k n s ts,.mk k' n' s' ts',st=>by
  have hc:=ZV ts ts' 133 st fun x hx y st=>RA x y st
  refine wF [] 2 func133 ntmps133 rfl rfl ?_
  intro _
  simp only[aY,Tm.N6]
  simp -implicitDefEqProofs only[aA,seval,OO]
  refine cS (fun h1=>?_) (fun h1=>?_)
  case refine_2=>
   simp -implicitDefEqProofs only[h1,aA,seval]
   simp at h1
   simp []
  simp -implicitDefEqProofs only[h1,aA,seval,OO]
  refine cS (fun h2=>?_) (fun h2=>?_)
  case refine_2=>
   simp -implicitDefEqProofs only[h2,aA,seval]
   simp at h2
   simp []
  simp -implicitDefEqProofs only[h2,aA,seval,OO]
  refine cS (fun h3=>?_) (fun h3=>?_)
  case refine_2=>
   simp -implicitDefEqProofs only[h3,aA,seval]
   simp at h3
   simp []
  simp -implicitDefEqProofs only[h3,aA,seval,OO]
  refine hc.to ?_
  simp -implicitDefEqProofs only[aA,seval]
termination_by a=>SizeOf.sizeOf a
decreasing_by have:=List.sizeOf_lt_of_mem hx;simp only[Tm.mk.sizeOf_spec];omega
abbrev F4:=zi tI_3 (zi zI_3 (zi aZ (zi tI_4 (zi zI_4 (zi cG (zi tI_9 (zi zI_9 (zi cF (zi tI_31 (zi zI_31 (zi aO (zi bH (zi bJ (zi bZ (zi tI_66 (zi zI_66 (zi bS (zi bT (zi bU (zi bV bR))))))))))))))))))))
theorem aA7:∀(a b:Tm) (st:aB),aD prog 326 [a.av,b.av] st (fun r st'=>r=.bool (a.same b)∧st'=st)
 | .mk k n s ts,.mk k' n' s' ts',st=>by
  have hc:=fun(x:Tm) (hx:x∈ts) y st=>aA7 x y st
  refine wF [] 2 func326 ntmps326 rfl rfl ?_
  simp only[aY,d5,AV.fits,d9,aF,Tm.N6]
  intro ⟨⟨_,_,_,hl,_⟩,⟨_,_,_,hl',_⟩⟩
  simp -implicitDefEqProofs only[aA,seval,F4]
  refine cS (fun h1=>?_) (fun h1=>?_)
  case refine_2=>
   simp -implicitDefEqProofs only[h1,aA,seval]
   simp at h1
   simp [h1]
  simp -implicitDefEqProofs only[h1,aA,seval,F4]
  refine cS (fun h2=>?_) (fun h2=>?_)
  case refine_2=>
   simp -implicitDefEqProofs only[h2,aA,seval]
   simp at h2
   simp [h2]
  simp -implicitDefEqProofs only[h2,aA,seval,F4]
  refine cS (fun h3=>?_) (fun h3=>?_)
  case refine_2=>
   simp -implicitDefEqProofs only[h3,aA,seval]
   simp at h3
   simp [h3]
  simp -implicitDefEqProofs only[h3,aF,aA,seval,F4]
  refine⟨fun h4=>?_,fun h4=>?_⟩
  · simp -implicitDefEqProofs only[aA,seval]
    simp only[iX,cP] at h4
    rw[EQ _ (show ts.length≠ts'.length by omega)]
    simp
  simp -implicitDefEqProofs only[aA,seval]
  simp only[mD,bL] at h1 h2 h3 h4
  have h4':ts.length=ts'.length:=by omega
  subst h1 h2 h3
  simp only[bX,fP]
  refine pP (α:=Nat) [] (fun i=>i≤ts.length∧∀(j:Nat) (x y:Tm),j<i→ts[j]?=some x→ts'[j]?=some y→Tm.same x y=true)
   (fun i=>[(2,.pptr (.agg [.int .i64 k,.int .i64 n,.str s,.slice (ts.map Tm.av)])),(3,.pptr (.agg [.int .i64 k,.int .i64 n,.str s,.slice (ts'.map Tm.av)])),(5,.int .i64 i)]) (fun _=>st) (fun i=>ts.length - i) (by decide +kernel)
   ⟨0,⟨by omega,by intro j x y h;omega⟩,aN.mk (by simp -implicitDefEqProofs only[aA,↓aX,seval])⟩ ?_
  intro i ⟨hi,dN⟩
  simp -implicitDefEqProofs only[aF,aA,seval,F4]
  refine⟨fun h5=>?_,fun h5=>?_⟩
  case refine_2=>
   simp -implicitDefEqProofs only[aA,seval]
   simp only[cP,iY] at h5
   rw[EO _ h4' (fun j x y h6 h7=>dN j x y (by have:=(fR.1 h6).1;omega) h6 h7)]
  simp only[bL,iY] at h5
  obtain⟨x,hx⟩:∃x,ts[i]?=some x:=⟨_,dZ h5⟩
  obtain⟨y,hy⟩:∃y,ts'[i]?=some y:=⟨_,dZ (h4'▸h5)⟩
  simp -implicitDefEqProofs only[aA,seval]
  refine LJ mixed (by decide +kernel) (by decide +kernel) ?_
  simp -implicitDefEqProofs only[bO (av:=Tm.av) aO hx (aK x),bO (av:=Tm.av) aO hy (aK y),a7,aK,aA,seval,F4]
  refine(hc x (cJ hx) y st).to ?_
  simp -implicitDefEqProofs only[aA,seval]
  refine⟨fun h6=>?_,fun h6=>?_⟩
  · simp -implicitDefEqProofs only[aA,seval]
    have h7:Tm.same x y=false:=by simpa using h6
    rw[EP _ i x y hx hy h7]
  have h7:Tm.same x y=true:=by simpa using h6
  simp -implicitDefEqProofs only[aA,seval]
  refine⟨i+1,by omega,⟨by omega,fun j u v hj hu hv=>?_⟩,aN.mk ?_⟩
  · rcases kX j i with h8 | h8
    · exact dN j u v h8 hu hv
    · obtain rfl:j=i:=by omega
      rw[hx] at hu;rw[hy] at hv;cases hu;cases hv;exact h7
  · have:=bE (n:=(i:Int)+1)
    simp -implicitDefEqProofs only[this,aA,seval]
termination_by a=>SizeOf.sizeOf a
decreasing_by have:=List.sizeOf_lt_of_mem hx;simp only[Tm.mk.sizeOf_spec];omega
end Go.AW
