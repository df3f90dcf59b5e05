/- Searches as data: the reference's, and the program's. -/
import Derived.Test.YthigelfjekcbmaaGreatDoorDrsk
import Derived.Test.YthigelfjekcbmaaGreatDoorDrsj
import Derived.Test.YthigelfjekcbmaaGreatDoorDrsg
import Derived.Test.YthigelfjekcbmaaGreatDoorDrsi
set_option linter.unusedSimpArgs false
set_option linter.unusedVariables false
set_option maxRecDepth 100000
namespace Go.AW
def D6(c:Cl):Int:=(bR (c.1::c.2) []).foldl (fun n v=>if n≤v then v+1 else n) 0
def nD(c:Cl):Nat:=(D6 c).toNat
def cU(N:Nat)(t:Tm):Tm:=bP (fun v=>v+(N:Int)) t
def eA(t:Tm):Bool:=t.flat 30&&decide (t.nodes≤120)
def pY(t:Tm):Bool:=decide (t.k=3)&&decide (t.s=⟨#[33]⟩)&&decide ((t.ts.length:Int)=0)
def EE(c:Cl)(t:Tm):Bool:=decide (c.1.s=t.s)&&decide ((c.1.ts.length:Int)=(t.ts.length:Int))
def eU(p:List Cl)(t:Tm):List Nat:=(List.range p.length).filter fun i=>match p[i]? with
 | some c=>EE c t
 | none=>false
def nV(c:Int):Int:=if c=2 then 4 else if c=3 then 5 else if c=4 then 6 else 7
noncomputable def gW(σ:Sub)(vars:List Int):Option (List Tm):=
 if((vars.map (rs σ)).all eA=true)∧(bR (vars.map (rs σ)) []).length≤26 then some (oE (vars.map (rs σ))) else none
structure RG where
 t:Tm
 aV:Nat
structure RC where
 goal:Tm
 rest:List RG
 left:List Nat
 σ:Sub
 N:Nat
structure RS where
 goals:List RG
 σ:Sub
 N:Nat
 chs:List RC
inductive RO where
 | go (s:RS)
 | fail
 | stop (e:Int)
noncomputable def gR(p:List Cl)(chs:List RC)(goal:Tm)(rest:List RG)(σ:Sub)(N:Nat):List Nat→Option RS
 | []=>none
 | i::l=>match p[i]? with
  | none=>none
  | some x=>if(iE σ goal (cU N x.1)).1=true then
   some ⟨x.2.map (fun t=>⟨cU N t,chs.length⟩)++rest,(iE σ goal (cU N x.1)).2.1,N+nD x,if l= [] then chs else chs++ [⟨goal,rest,l,σ,N⟩]⟩
   else gR p chs goal rest σ N l
noncomputable def eV(p:List Cl):Nat→List RC→Option RS
 | 0,_=>none
 | n+1,chs=>match chs.getLast? with
  | none=>none
  | some c=>match gR p chs.dropLast c.goal c.rest c.σ c.N c.left with
   | some s=>some s
   | none=>eV p n chs.dropLast
noncomputable def gQ(p:List Cl)(cnd:Tm→List Nat→List Nat)(s:RS)(g:RG)(rest:List RG):RO:=
 if eA (g.t.aJ (rs s.σ))=false then .stop 3
 else if pY (g.t.aJ (rs s.σ))=true then .go ⟨rest,s.σ,s.N,s.chs.take g.aV⟩
 else if isBuiltin (g.t.aJ (rs s.σ)).s ((g.t.aJ (rs s.σ)).ts.length:Int)=true then
  if(cS s.σ (g.t.aJ (rs s.σ)).s (g.t.aJ (rs s.σ)).ts).1=0 then .go ⟨rest,(cS s.σ (g.t.aJ (rs s.σ)).s (g.t.aJ (rs s.σ)).ts).2.1,s.N,s.chs⟩
  else if(cS s.σ (g.t.aJ (rs s.σ)).s (g.t.aJ (rs s.σ)).ts).1=1 then .fail
  else .stop (nV (cS s.σ (g.t.aJ (rs s.σ)).s (g.t.aJ (rs s.σ)).ts).1)
 else if eU p (g.t.aJ (rs s.σ))= [] then .stop 8
 else match gR p s.chs (g.t.aJ (rs s.σ)) rest s.σ s.N (cnd (g.t.aJ (rs s.σ)) (eU p (g.t.aJ (rs s.σ)))) with
  | some s'=>.go s'
  | none=>.fail
noncomputable def gL(p:List Cl)(cnd:Tm→List Nat→List Nat)(vars:List Int)(most fuel:Nat)(s:RS):List (List Tm)×Int:=
 match s.goals with
 | []=>if h:most=0 then([],1) else match gW s.σ vars with
  | none=>([],3)
  | some a=>match eV p s.chs.length s.chs with
   | none=>([a],0)
   | some s'=>(a::(gL p cnd vars (most - 1) fuel s').1,(gL p cnd vars (most - 1) fuel s').2)
 | g::rest=>if h:fuel=0 then([],2) else match gQ p cnd s g rest with
  | .stop e=>([],e)
  | .go s'=>gL p cnd vars most (fuel - 1) s'
  | .fail=>match eV p s.chs.length s.chs with
   | none=>([],0)
   | some s'=>gL p cnd vars most (fuel - 1) s'
termination_by most+fuel
decreasing_by all_goals omega
def k8(q:List Tm):RS:=⟨q.map fun t=>⟨t,0⟩,Sub.none,26,[]⟩
noncomputable def tC(p:List Cl)(cnd:Tm→List Nat→List Nat)(q:List Tm)(most fuel:Nat):List (List Tm)×Int:=gL p cnd (bR q []) most fuel (k8 q)
structure IG where
 t:Tm
 cut:Nat
 up:Int
structure IC where
 goal:Tm
 node:Nat
 rest:List IG
 list:List Nat
 eJ:Nat
 taken:Nat
structure IS where
 goals:List IG
 σ:Sub
 tr:List Int
 chs:List IC
 fresh:Nat
 nn:Nat
inductive vC where
 | go (s:IS)
 | fail (s:IS)
 | stop (e:Int)
noncomputable def fZ(p:List Cl)(goal:Tm)(at':Nat)(rest:List IG):List Nat→IS→Bool×IS
 | [],s=>(false,s)
 | i::l,s=>match p[i]? with
  | none=>(false,s)
  | some x=>if(iE s.σ goal (cU s.fresh x.1)).1=true then
   (true,⟨x.2.map (fun t=>⟨cU s.fresh t,s.chs.length,at'⟩)++rest,(iE s.σ goal (cU s.fresh x.1)).2.1,s.tr++(iE s.σ goal (cU s.fresh x.1)).2.2,if l= [] then s.chs else s.chs++ [⟨goal,at',rest,l,s.tr.length,s.nn⟩],s.fresh+26,s.nn⟩)
   else fZ p goal at' rest l { s with fresh:=s.fresh+26 }
def IS.pop(s:IS)(c:IC):IS:={ s with chs:=s.chs.dropLast,σ:=s.σ.out (s.tr.drop c.eJ),tr:=s.tr.take c.eJ,nn:=c.taken }
noncomputable def gC(p:List Cl):Nat→IS→Option IS
 | 0,_=>none
 | n+1,s=>match s.chs.getLast? with
  | none=>none
  | some c=>if(fZ p c.goal c.node c.rest c.list (s.pop c)).1=true then some (fZ p c.goal c.node c.rest c.list (s.pop c)).2 else gC p n (fZ p c.goal c.node c.rest c.list (s.pop c)).2
noncomputable def kV(p:List Cl)(cnd:Tm→List Nat→List Nat)(s:IS)(g:IG)(rest:List IG):vC:=
 if eA (g.t.aJ (rs s.σ))=false then .stop 3
 else if pY (g.t.aJ (rs s.σ))=true then .go { s with goals:=rest,chs:=s.chs.take g.cut,nn:=s.nn+1 }
 else if isBuiltin (g.t.aJ (rs s.σ)).s ((g.t.aJ (rs s.σ)).ts.length:Int)=true then
  if(cS s.σ (g.t.aJ (rs s.σ)).s (g.t.aJ (rs s.σ)).ts).1=0 then .go { s with goals:=rest,σ:=(cS s.σ (g.t.aJ (rs s.σ)).s (g.t.aJ (rs s.σ)).ts).2.1,tr:=s.tr++(cS s.σ (g.t.aJ (rs s.σ)).s (g.t.aJ (rs s.σ)).ts).2.2,nn:=s.nn+1 }
  else if(cS s.σ (g.t.aJ (rs s.σ)).s (g.t.aJ (rs s.σ)).ts).1=1 then .fail { s with σ:=(cS s.σ (g.t.aJ (rs s.σ)).s (g.t.aJ (rs s.σ)).ts).2.1,tr:=s.tr++(cS s.σ (g.t.aJ (rs s.σ)).s (g.t.aJ (rs s.σ)).ts).2.2,nn:=s.nn+1 }
  else .stop (nV (cS s.σ (g.t.aJ (rs s.σ)).s (g.t.aJ (rs s.σ)).ts).1)
 else if eU p (g.t.aJ (rs s.σ))= [] then .stop 8
 else if(fZ p (g.t.aJ (rs s.σ)) s.nn rest (cnd (g.t.aJ (rs s.σ)) (eU p (g.t.aJ (rs s.σ)))) { s with nn:=s.nn+1 }).1=true then .go (fZ p (g.t.aJ (rs s.σ)) s.nn rest (cnd (g.t.aJ (rs s.σ)) (eU p (g.t.aJ (rs s.σ)))) { s with nn:=s.nn+1 }).2
 else .fail (fZ p (g.t.aJ (rs s.σ)) s.nn rest (cnd (g.t.aJ (rs s.σ)) (eU p (g.t.aJ (rs s.σ)))) { s with nn:=s.nn+1 }).2
noncomputable def iJ(p:List Cl)(cnd:Tm→List Nat→List Nat)(vars:List Int)(most fuel:Nat)(s:IS):List (List Tm)×Int:=
 match s.goals with
 | []=>if h:most=0 then([],1) else match gW s.σ vars with
  | none=>([],3)
  | some a=>match gC p s.chs.length s with
   | none=>([a],0)
   | some s'=>(a::(iJ p cnd vars (most - 1) fuel s').1,(iJ p cnd vars (most - 1) fuel s').2)
 | g::rest=>if h:fuel=0 then([],2) else match kV p cnd s g rest with
  | .stop e=>([],e)
  | .go s'=>iJ p cnd vars most (fuel - 1) s'
  | .fail s'=>match gC p s'.chs.length s' with
   | none=>([],0)
   | some s''=>iJ p cnd vars most (fuel - 1) s''
termination_by most+fuel
decreasing_by all_goals omega
def nH(q:List Tm):IS:=⟨q.map fun t=>⟨t,0,-1⟩,Sub.none,[],[],26,0⟩
structure m6 (ρ:Int→Int) (N F:Nat) (σ τ:Sub):Prop where
 sim:eR ρ N σ τ
 rng:∀v,0≤v→v<(N:Int)→0≤ρ v∧ρ v<(F:Int)
 g1:cD σ
 o1:cF (a9 N) σ
 g2:cD τ
 o2:cF (a9 F) τ
 d1:∀n,¬(0≤n∧n<(N:Int))→σ n=none
 d2:∀n,¬(0≤n∧n<(F:Int))→τ n=none
 h26:26≤N
 idn:∀v,0≤v→v<26→ρ v=v
theorem m6.mono{ρ:Int→Int}{N F F':Nat}{σ τ:Sub}(S:m6 ρ N F σ τ)(h:F≤F'):m6 ρ N F' σ τ:=
 ⟨S.sim,fun v h0 h1=>⟨(S.rng v h0 h1).1,by have:=(S.rng v h0 h1).2;omega⟩,S.g1,S.o1,S.g2,S.o2.imp fun t ht=>ht.mono (by omega),S.d1,fun n hn=>S.d2 n fun h'=>hn ⟨h'.1,by omega⟩,S.h26,S.idn⟩
def rI(ρ:Int→Int)(N F:Nat):Int→Int:=fun v=>if v<(N:Int) then ρ v else v - N+F
theorem sR{ρ:Int→Int}{N F:Nat}{v:Int}(h:v<(N:Int)):rI ρ N F v=ρ v:=aK h
theorem m6.ext{ρ:Int→Int}{N F:Nat}{σ τ:Sub}(S:m6 ρ N F σ τ){k:Nat}(hk:k≤26):m6 (rI ρ N F) (N+k) (F+26) σ τ:=by
 have iN:∀v:Int,¬v<(N:Int)→rI ρ N F v=v - N+F:=fun v h=>aG h
 refine⟨⟨fun v w hv0 hv1 hw0 hw1 e=>?_,fun v h0 h1=>?_⟩,fun v h0 h1=>?_,S.g1,S.o1.imp fun t ht=>ht.mono (by omega),S.g2,S.o2.imp fun t ht=>ht.mono (by omega),fun n hn=>S.d1 n fun h=>hn ⟨h.1,by omega⟩,fun n hn=>S.d2 n fun h=>hn ⟨h.1,by omega⟩,by have:=S.h26;omega,fun v h0 h1=>by rw[sR (by have:=S.h26;omega)];exact S.idn v h0 h1⟩
 · by_cases hv:v<(N:Int)<;>by_cases hw:w<(N:Int)
   · rw[sR hv,sR hw] at e;exact S.sim.inj v w hv0 hv hw0 hw e
   · rw[sR hv,iN w hw] at e
     have:=S.rng v hv0 hv
     omega
   · rw[sR hw,iN v hv] at e
     have:=S.rng w hw0 hw
     omega
   · rw[iN v hv,iN w hw] at e
     omega
 · by_cases hv:v<(N:Int)
   · rw[sR hv,S.sim.map v h0 hv]
     cases hs:σ v with
     | none=>rfl
     | some u=>
      simp only[pP,Option.some.injEq]
      refine OV fun w hw=>?_
      rw[sR ((S.o1 v u hs).1.2.2 w hw).2]
   · rw[iN v hv,S.d1 v (fun h=>hv h.2),S.d2 _ (fun h=>by omega)]
     try rfl
 · by_cases hv:v<(N:Int)
   · rw[sR hv]
     have:=S.rng v h0 hv
     omega
   · rw[iN v hv];omega
theorem aFF(l:List Int):∀n:Int,n≤l.foldl (fun n v=>if n≤v then v+1 else n) n∧(∀v∈l,v<l.foldl (fun n v=>if n≤v then v+1 else n) n)∧∀m:Int,n≤m→(∀v∈l,v<m)→l.foldl (fun n v=>if n≤v then v+1 else n) n≤m:=by
 induction l with
 | nil=>intro n;exact⟨Int.le_refl _,by simp,fun m h _=>h⟩
 | cons x l ih=>
  intro n
  simp only[List.foldl_cons]
  obtain⟨h1,h2,h3⟩:=ih (if n≤x then x+1 else n)
  refine⟨?_,fun v hv=>?_,fun m hm hl=>h3 m ?_ fun v hv=>hl v (by simp [hv])⟩
  · split at h1<;>rename_i h<;>split<;>omega
  · rcases cP.1 hv with rfl | hv
    · split at h1<;>rename_i h<;>split<;>omega
    · exact h2 v hv
  · have:=hl x (by simp)
    split<;>omega
structure fX (c:Cl):Prop where
 head:a9 26 c.1
 body:∀t∈c.2,a9 26 t∧t.k=3
theorem fX.vars{c:Cl}(h:fX c){v:Int}:v∈bR (c.1::c.2) []↔∃t∈c.1::c.2,v∈t.vl:=by
 rw[wR]
 · simp
 · intro t ht
   rcases cP.1 ht with rfl | ht
   · exact h.head.1.2.1
   · exact(h.body t ht).1.1.2.1
theorem fX.BO{c:Cl}(h:fX c):∀t∈c.1::c.2,a9 26 t:=fun t ht=>by
 rcases cP.1 ht with rfl | ht
 · exact h.head
 · exact(h.body t ht).1
theorem fX.fr{c:Cl}(h:fX c):nD c≤26∧∀t∈c.1::c.2,∀v∈t.vl,v<(nD c:Int):=by
 obtain⟨h1,h2,h3⟩:=aFF (bR (c.1::c.2) []) 0
 have hle:=h3 26 (by omega) fun v hv=>by
  obtain⟨t,ht,hv⟩:=h.vars.1 hv
  exact((h.BO t ht).1.2.2 v hv).2
 unfold nD D6
 refine⟨by omega,fun t ht v hv=>?_⟩
 have:=h2 v (h.vars.2 ⟨t,ht,hv⟩)
 omega
theorem fX.cU{c:Cl}(h:fX c)(N:Nat):∀t∈c.1::c.2,a9 ((N+nD c:Nat):Int) (cU N t):=fun t ht=>by
 refine(h.BO t ht).bP fun v hv=>?_
 have h1:=((h.BO t ht).1.2.2 v hv).1
 have h2:=h.fr.2 t ht v hv
 omega
theorem O2{ρ:Int→Int}{N F:Nat}{c:Cl}(h:fX c):∀t∈c.1::c.2,bP (rI ρ N F) (cU N t)=cU F t:=fun t ht=>by
 unfold AW.cU
 rw[show bP (rI ρ N F) (bP (fun v=>v+(N:Int)) t)=t.aJ fun v=>vr (rI ρ N F (v+N)) from E7 _ _ t]
 refine pE t fun v hv=>?_
 have h1:=((h.BO t ht).1.2.2 v hv).1
 show vr (rI ρ N F (v+(N:Int)))=vr (v+(F:Int))
 unfold rI
 rw[aG (by omega)]
 congr 1
 omega
theorem aIN{N:Nat}(t:Tm):(cU N t).k=t.k:=wE _ t
def GL(ρ:Int→Int)(N:Nat)(gs:List RG)(hs:List IG):Prop:=hs.map (fun h=>(h.t,h.cut))=gs.map (fun g=>(bP ρ g.t,g.aV))∧∀g∈gs,a9 N g.t∧g.t.k=3
theorem GL.ext{ρ ρ':Int→Int}{N N':Nat}{gs:List RG}{hs:List IG}(h:GL ρ N gs hs)(hN:N≤N')(hr:∀v,0≤v→v<(N:Int)→ρ' v=ρ v):GL ρ' N' gs hs:=by
 refine⟨h.1.trans (pO fun g hg=>?_),fun g hg=>⟨(h.2 g hg).1.mono (by omega),(h.2 g hg).2⟩⟩
 rw[OV (ρ:=ρ) (ρ':=ρ') fun v hv=>(hr v ((h.2 g hg).1.1.2.2 v hv).1 ((h.2 g hg).1.1.2.2 v hv).2).symm]
theorem GL.app{ρ:Int→Int}{N:Nat}{gs gs':List RG}{hs hs':List IG}(h:GL ρ N gs hs)(h':GL ρ N gs' hs'):GL ρ N (gs++gs') (hs++hs'):=by
 refine⟨by rw[lB,lB,h.1,h'.1],fun g hg=>?_⟩
 rcases dQ.1 hg with hg | hg
 · exact h.2 g hg
 · exact h'.2 g hg
def C1(F:Nat)(c:RC)(d:IC)(τ:Sub):Prop:=∃ρ,m6 ρ c.N F c.σ τ∧d.goal=bP ρ c.goal∧a9 c.N c.goal∧GL ρ c.N c.rest d.rest∧d.list=c.left
inductive gM (F:Nat):List RC→List IC→Sub→List Int→Prop
 | nil {τ:Sub} {tr:List Int}:gM F [] [] τ tr
 | snoc {cs:List RC} {ds:List IC} {c:RC} {d:IC} {τ:Sub} {tr:List Int} (h:gM F cs ds (τ.out (tr.drop d.eJ)) (tr.take d.eJ)) (h1:C1 F c d (τ.out (tr.drop d.eJ))) (h2:d.eJ≤tr.length):gM F (cs++ [c]) (ds++ [d]) τ tr
theorem gM.len{F:Nat}{cs:List RC}{ds:List IC}{τ:Sub}{tr:List Int}(h:gM F cs ds τ tr):ds.length=cs.length:=by
 induction h with
 | nil=>rfl
 | snoc _ _ _ ih=>simp [ih]
theorem gM.mono{F F':Nat}(hF:F≤F'){cs:List RC}{ds:List IC}{τ:Sub}{tr:List Int}(h:gM F cs ds τ tr):gM F' cs ds τ tr:=by
 induction h with
 | nil=>exact .nil
 | snoc _ h1 h2 ih=>exact .snoc ih (by obtain⟨ρ,h3,h4⟩:=h1;exact⟨ρ,h3.mono hF,h4⟩) h2
theorem aPR(tr:List Int){a m:Nat}(h:a≤m)(n:Int):n∈tr.drop m++(tr.take m).drop a↔n∈tr.drop a:=by
 have e:tr.drop a=(tr.take m).drop a++tr.drop m:=by
  conv=>lhs;rw[←qS m tr]
  rw[List.drop_append]
  by_cases hm:m≤tr.length
  · rw[dY,kC hm,show a - m=0 by omega,tO]
  · rw[List.drop_of_length_le (show tr.length≤m by omega)]
    simp
 rw[e,dQ,dQ,or_comm]
theorem gM.lift{F:Nat}{cs:List RC}{ds:List IC}{τ:Sub}{tr:List Int}{m:Nat}(h:gM F cs ds (τ.out (tr.drop m)) (tr.take m))(hm:m≤tr.length):gM F cs ds τ tr:=by
 generalize hτ:τ.out (tr.drop m)=τ' at h
 generalize htr:tr.take m=tr' at h
 cases h with
 | nil=>exact .nil
 | @snoc cs ds c d _ _ h h1 h2=>
  subst hτ htr
  have hd:d.eJ≤m:=by rw[dY] at h2;omega
  have e1:(τ.out (tr.drop m)).out ((tr.take m).drop d.eJ)=τ.out (tr.drop d.eJ):=by
   rw[Sub.aUR]
   exact Sub.aUS τ (aPR tr hd)
  have e2:(tr.take m).take d.eJ=tr.take d.eJ:=by rw[w8,kC hd]
  rw[e1,e2] at h
  rw[e1] at h1
  exact .snoc h h1 (by omega)
theorem gM.more{F:Nat}{cs:List RC}{ds:List IC}{τ τ':Sub}{tr add:List Int}(h:gM F cs ds τ tr)(e:τ'.out add=τ):gM F cs ds τ' (tr++add):=by
 refine gM.lift (m:=tr.length) ?_ (by simp)
 rw[zD,CK,e]
 exact h
theorem gM.take{F:Nat}{cs:List RC}{ds:List IC}{τ:Sub}{tr:List Int}(h:gM F cs ds τ tr)(k:Nat):gM F (cs.take k) (ds.take k) τ tr:=by
 induction h with
 | nil=>simp;exact .nil
 | @snoc cs ds c d τ tr h h1 h2 ih=>
  have hl:=h.len
  by_cases hk:k≤cs.length
  · rw[zE hk,zE (by omega)]
    exact ih.lift h2
  · rw[nQ (by simp;omega),nQ (by simp;omega)]
    exact .snoc h h1 h2
def Rl(s:RS)(i:IS):Prop:=∃ρ,m6 ρ s.N i.fresh s.σ i.σ∧GL ρ s.N s.goals i.goals∧gM i.fresh s.chs i.chs i.σ i.tr
theorem xC.yD{N:Int}{σ:Sub}{a b:Tm}{r:Bool}{σ':Sub}{tr:List Int}(h:xC N σ a b r σ' tr):σ'.out tr=σ:=funext fun n=>h.out n
theorem lZ.yD{N:Int}{σ σ':Sub}{add:List Int}(h:lZ N σ σ' add):σ'.out add=σ:=by
 funext n
 unfold Sub.out
 split
 · rename_i hn;exact((h.new n hn).1).symm
 · rename_i hn;exact h.aV n hn
theorem lZ.tX{N:Nat}{σ σ':Sub}{add:List Int}(h:lZ N σ σ' add)(hd:∀n,¬(0≤n∧n<(N:Int))→σ n=none):∀n,¬(0≤n∧n<(N:Int))→σ' n=none:=fun n hn=>by
 rw[h.aV n fun h'=>hn (h.fK n h')]
 exact hd n hn
theorem m6.grow{ρ:Int→Int}{N F:Nat}{σ τ σ' τ':Sub}{add aLQ:List Int}(S:m6 ρ N F σ τ)(h:lZ N σ σ' add)(h':lZ F τ τ' aLQ)(s:eR ρ N σ' τ'):m6 ρ N F σ' τ':=
 ⟨s,S.rng,h.gA,h.ok,h'.gA,h'.ok,h.tX S.d1,h'.tX S.d2,S.h26,S.idn⟩
theorem m6.yG{ρ:Int→Int}{N F:Nat}{σ τ:Sub}(S:m6 ρ N F σ τ){t:Tm}(h:a9 N t):a9 F (bP ρ t):=h.bP fun v hv=>S.rng v (h.1.2.2 v hv).1 (h.1.2.2 v hv).2
section
variable {p:List Cl} (hp:∀c∈p,fX c)
include hp
theorem KG{cs:List RC}{goal:Tm}{rest:List RG}{σ:Sub}{N:Nat}{ρ:Int→Int}{OX:List IG}{τ:Sub}{tr:List Int}{ds:List IC}{nn at':Nat}(hg:a9 N goal)(hr:GL ρ N rest OX) :
 ∀(l:List Nat) (F:Nat) (gl:List IG),m6 ρ N F σ τ→gM F cs ds τ tr →
 match gR p cs goal rest σ N l with
 | none=>∃F',F≤F'∧fZ p (bP ρ goal) at' OX l ⟨gl,τ,tr,ds,F,nn⟩=(false,⟨gl,τ,tr,ds,F',nn⟩)
 | some s=>∃i,fZ p (bP ρ goal) at' OX l ⟨gl,τ,tr,ds,F,nn⟩=(true,i)∧Rl s i:=by
 intro l
 induction l with
 | nil=>intro F gl S C;exact⟨F,cQ _,rfl⟩
 | cons j l ih=>
  intro F gl S C
  unfold gR fZ
  cases hj:p[j]? with
  | none=>exact⟨F,cQ _,rfl⟩
  | some x=>
   have hx:=hp x (cL hj)
   have S2:=S.ext hx.fr.1
   have hgo:bP (rI ρ N F) goal=bP ρ goal:=OV fun v hv=>sR (hg.1.2.2 v hv).2
   have hhd:=hx.cU N x.1 (by simp)
   have hgN:a9 ((N+nD x:Nat):Int) goal:=hg.mono (by omega)
   obtain⟨r,σ',add,U⟩:=sB S2.g1 S2.o1 hgN hhd
   obtain⟨g,mP⟩:=U.run
   obtain⟨τ',e,S',_⟩:=S2.sim.iE S2.g1 S2.g2 S2.o1.kZ hgN.1 hhd.1 mP
   rw[hgo,O2 hx x.1 (by simp)] at e
   have hF1:a9 ((F+26:Nat):Int) (bP ρ goal):=by rw[←hgo];exact S2.yG hgN
   have hF2:a9 ((F+26:Nat):Int) (cU F x.1):=by rw[←O2 (ρ:=ρ) (N:=N) (F:=F) hx x.1 (by simp)];exact S2.yG hhd
   obtain⟨r2,τ2,aLR,U2⟩:=sB S2.g2 S2.o2 hF1 hF2
   have e2:=U2.eq
   rw[e] at e2
   obtain⟨rfl,rfl,rfl⟩:r=r2∧τ'=τ2∧add.map (rI ρ N F)=aLR:=by simpa using e2
   simp only[U.eq,e]
   cases r with
   | false=>
    simp only[jX,cM]
    have:=ih (F+26) gl (S.mono (by omega)) (C.mono (by omega))
    cases hq:gR p cs goal rest σ N l with
    | none=>
     rw[hq] at this
     obtain⟨F',h1,h2⟩:=this
     exact⟨F',by omega,h2⟩
    | some s=>
     rw[hq] at this
     exact this
   | true=>
    simp only[d3]
    refine⟨_,rfl,rI ρ N F,S2.grow U.uR U2.uR S',?_,?_⟩
    · refine GL.app ⟨?_,fun g hg=>?_⟩ (hr.ext (show N≤N+nD x by omega) fun v _ hv=>sR hv)
      · simp only[vF]
        refine pO fun t ht=>?_
        simp only[CF]
        rw[O2 hx t (by simp [ht]),C.len]
      · obtain⟨t,ht,rfl⟩:=cE.1 hg
        exact⟨hx.cU N t (by simp [ht]),by rw[aIN];exact(hx.body t ht).2⟩
    · have C2:=(C.mono (show F≤F+26 by omega)).more U2.yD
      by_cases hl:l= []
      · simp only[aK hl]
        exact C2
      · simp only[aG hl]
        refine .snoc ?_ ?_ (by simp)
        · simp only[zD,CK,U2.yD]
          exact C.mono (by omega)
        · simp only[zD,U2.yD]
          exact⟨ρ,S.mono (by omega),rfl,hg,hr,rfl⟩
theorem LU:∀(n:Nat) (cs:List RC) (i:IS),gM i.fresh cs i.chs i.σ i.tr →
 match eV p n cs with
 | none=>gC p n i=none
 | some s=>∃i',gC p n i=some i'∧Rl s i':=by
 intro n
 induction n with
 | zero=>intro cs i C;simp only[eV,gC]
 | succ n ih=>
  intro cs i C
  obtain⟨gl,τ,tr,ds,F,nn⟩:=i
  simp only at C
  cases C with
  | nil=>simp only[eV,gC,List.getLast?_nil]
  | @snoc cs ds c d _ _ h h1 h2=>
   obtain⟨ρ,S,e1,hok,hG,e2⟩:=h1
   have key:=KG hp (cs:=cs) (nn:=d.taken) (at':=d.node) (tr:=tr.take d.eJ) hok hG c.left F gl S h
   simp only[eV,gC,List.getLast?_append,List.getLast?_singleton,Option.some_or,KV]
   have e3:(IS.pop ⟨gl,τ,tr,ds++ [d],F,nn⟩ d)=⟨gl,τ.out (tr.drop d.eJ),tr.take d.eJ,ds,F,d.taken⟩:=by simp only[IS.pop,KV]
   rw[e1,e2,e3]
   cases ht:gR p cs c.goal c.rest c.σ c.N c.left with
   | none=>
    rw[ht] at key
    obtain⟨F',hF,e⟩:=key
    simp only[e,jX,cM]
    exact ih cs _ (h.mono hF)
   | some s=>
    rw[ht] at key
    obtain⟨i',e,hR⟩:=key
    simp only[e,d3]
    exact⟨i',rfl,hR⟩
variable {cnd:Tm→List Nat→List Nat} (hc:∀(ρ:Int→Int) (t:Tm) (l:List Nat),cnd (bP ρ t) l=cnd t l)
omit hp in
theorem aH9{ρ:Int→Int}{t:Tm}(h:t.k=3):(bP ρ t).s=t.s∧(bP ρ t).ts=t.ts.map (bP ρ)∧(bP ρ t).k=3:=by
 rw[BW ρ (by omega)]
 exact⟨rfl,rfl,h⟩
omit hp in
theorem aQQ{ρ:Int→Int}{t:Tm}(h:t.k=3):eU p (bP ρ t)=eU p t:=by
 obtain⟨h1,h2,_⟩:=aH9 (ρ:=ρ) h
 unfold eU EE
 simp only[h1,h2,aE]
include hc
theorem aIW{s:RS}{i:IS}{g:RG}{gs:List RG}(hR:Rl s i)(hgs:s.goals=g::gs) :
 ∃h hs,i.goals=h::hs∧match gQ p cnd s g gs with
 | .stop e=>kV p cnd i h hs=.stop e
 | .go s'=>∃i',kV p cnd i h hs=.go i'∧Rl s' i'
 | .fail=>∃i',kV p cnd i h hs=.fail i'∧gM i'.fresh s.chs i'.chs i'.σ i'.tr:=by
 obtain⟨ρ,S,hG,C⟩:=hR
 rw[hgs] at hG
 obtain⟨gl,τ,tr,ds,F,nn⟩:=i
 simp only at S hG C ⊢
 cases gl with
 | nil=>exact absurd hG.1 (by simp)
 | cons h hs=>
  refine⟨h,hs,rfl,?_⟩
  have hGt:GL ρ s.N gs hs:=⟨(vE hG.1).2,fun x hx=>hG.2 x (by simp [hx])⟩
  have he:=(vE hG.1).1
  simp only[Prod.mk.injEq] at he
  obtain⟨e1,e2⟩:=he
  obtain⟨hgX,hg3⟩:=hG.2 g (by simp)
  have hT:=S.sim.rsT S.g1 S.g2 S.o1.kZ hgX.1
  obtain⟨rk,B,G⟩:=S.g1.rs
  have hV:=G.OD S.o1.kZ hgX.1
  unfold gQ kV
  simp only[e1,hT]
  have ht3:(g.t.aJ (rs s.σ)).k=3:=by rw[Tm.qA _ (by omega)];exact hg3
  generalize g.t.aJ (rs s.σ)=t at *
  obtain⟨r1,r2,r3⟩:=aH9 (ρ:=ρ) ht3
  have fY:eA (bP ρ t)=eA t:=by unfold eA;rw[OW ρ hV.2.1,JD ρ hV.2.1]
  have ED:pY (bP ρ t)=pY t:=by unfold pY;rw[r1,r2,r3,ht3,aE]
  simp only[fY,ED,aQQ (p:=p) (ρ:=ρ) ht3,hc,r1,r2,aE]
  by_cases c1:eA t=false
  · rw[aK c1,aK c1]
  rw[aG c1,aG c1]
  have hX:a9 s.N t:=⟨hV,by
   have:eA t=true:=by simpa using c1
   unfold eA at this
   simp only[cK,bL] at this
   exact this.2⟩
  by_cases c2:pY t=true
  · rw[aK c2,aK c2]
    refine⟨_,rfl,ρ,S,hGt,?_⟩
    simp only[e2]
    exact C.take g.aV
  rw[aG c2,aG c2]
  by_cases c3:isBuiltin t.s (t.ts.length:Int)=true
  · rw[aK c3,aK c3]
    have hk:∀x∈t.ts,a9 s.N x:=qD _ t (by omega) hX
    obtain⟨q1,q2,q3⟩:=S.sim.cS S.g1 S.g2 S.o1 t.s t.ts hk
    have q4:=JH S.g1 S.o1 t.s t.ts hk
    have q5:=JH S.g2 S.o2 t.s (t.ts.map (bP ρ)) (fun x hx=>by
     obtain⟨y,hy,rfl⟩:=cE.1 hx
     exact S.yG (hk y hy))
    rw[q1]
    by_cases c4:(cS s.σ t.s t.ts).1=0
    · rw[aK c4,aK c4]
      exact⟨_,rfl,ρ,S.grow q4 q5 q3,hGt,C.more q5.yD⟩
    rw[aG c4,aG c4]
    by_cases c5:(cS s.σ t.s t.ts).1=1
    · rw[aK c5,aK c5]
      exact⟨_,rfl,C.more q5.yD⟩
    rw[aG c5,aG c5]
  rw[aG c3,aG c3]
  by_cases c6:eU p t= []
  · rw[aK c6,aK c6]
  rw[aG c6,aG c6]
  have key:=KG hp (at':=nn) (nn:=nn+1) hX hGt (cnd t (eU p t)) F (h::hs) S C
  cases hq:gR p s.chs t gs s.σ s.N (cnd t (eU p t)) with
  | none=>
   rw[hq] at key
   obtain⟨F',hF,e⟩:=key
   simp only[e,jX,cM]
   exact⟨_,rfl,C.mono hF⟩
  | some s'=>
   rw[hq] at key
   obtain⟨i',e,hR⟩:=key
   simp only[e,d3]
   exact⟨i',rfl,hR⟩
end
theorem aJ9{ρ:Int→Int}{N:Int}{σ τ:Sub}(S:eR ρ N σ τ):∀(l:List Tm) (acc:List Int),(∀t∈l,cB N t)→(∀v∈acc,0≤v∧v<N)→bR (l.map (bP ρ)) (acc.map ρ)=(bR l acc).map ρ∧∀v∈bR l acc,0≤v∧v<N
 | [],acc,_,ha=>⟨rfl,ha⟩
 | t::l,acc,h,ha=>by
  obtain⟨e1,e2⟩:=aXY (D:=fun v=>0≤v∧v<N) (h:=ρ) (fun v w hv hw e=>S.inj v w hv.1 hv.2 hw.1 hw.2 e) (f:=fun v=>vr (ρ v)) (fun _ _=>rfl) t (Tm.sK t (h t (by simp)).2.1) (h t (by simp)).2.2 acc ha
  simp only[bH,bR]
  rw[show(bP ρ t).vars (acc.map ρ)=(t.vars acc).map ρ from e1]
  exact aJ9 S l _ (fun x hx=>h x (by simp [hx])) e2
theorem aVH{ρ:Int→Int}{N:Int}{σ τ:Sub}(S:eR ρ N σ τ){l:List Tm}(h:∀t∈l,cB N t):oE (l.map (bP ρ))=oE l∧(bR (l.map (bP ρ)) []).length=(bR l []).length:=by
 obtain⟨e1,e2⟩:=aJ9 S l [] h (by simp)
 rw[bG] at e1
 refine⟨?_,by rw[e1,aE]⟩
 unfold oE
 rw[e1,vF]
 refine pO fun t ht=>?_
 simp only[CF]
 rw[E7]
 refine pE t fun v hv=>?_
 rw[aGV (D:=fun v=>0≤v∧v<N) (fun v w hv hw e=>S.inj v w hv.1 hv.2 hw.1 hw.2 e) v ((h t ht).2.2 v hv) _ _ e2]
theorem aLT{ρ:Int→Int}{N F:Nat}{σ τ:Sub}(S:m6 ρ N F σ τ){vars:List Int}(hv:∀v∈vars,0≤v∧v<26):gW τ vars=gW σ vars:=by
 obtain⟨rk,B,G⟩:=S.g1.rs
 have hid:=S.idn
 have h26:=S.h26
 have e:vars.map (rs τ)=(vars.map (rs σ)).map (bP ρ):=by
  rw[vF]
  refine pO fun v h=>?_
  obtain⟨h0,h1⟩:=hv v h
  have:=S.sim.rs S.g1 S.g2 S.o1.kZ v h0 (by omega)
  rw[hid v h0 h1] at this
  exact this
 have hok:∀t∈vars.map (rs σ),cB N t:=fun t ht=>by
  obtain⟨v,h,rfl⟩:=cE.1 ht
  obtain⟨h0,h1⟩:=hv v h
  exact G.kZ S.o1.kZ v h0 (by omega)
 obtain⟨e1,e2⟩:=aVH S.sim hok
 have e3:((vars.map (rs σ)).map (bP ρ)).all eA=(vars.map (rs σ)).all eA:=by
  rw[List.all_map,wZ,eL,eL]
  have:∀t∈vars.map (rs σ),eA (bP ρ t)=eA t:=fun t ht=>by unfold eA;rw[OW ρ (hok t ht).2.1,JD ρ (hok t ht).2.1]
  constructor
  · intro h t ht;rw[←this t ht];exact h t ht
  · intro h t ht;simp only[CF];rw[this t ht];exact h t ht
 unfold gW
 rw[e,e1,e2,e3]
section
variable {p:List Cl} (hp:∀c∈p,fX c) {cnd:Tm→List Nat→List Nat} (hc:∀(ρ:Int→Int) (t:Tm) (l:List Nat),cnd (bP ρ t) l=cnd t l)
include hp hc
theorem aVO{vars:List Int}(hv:∀v∈vars,0≤v∧v<26):∀(n most fuel:Nat) (s:RS) (i:IS),most+fuel≤n→Rl s i→iJ p cnd vars most fuel i=gL p cnd vars most fuel s:=by
 intro n
 induction n with
 | zero=>
  intro most fuel s i hn hR
  obtain⟨rfl,rfl⟩:most=0∧fuel=0:=by omega
  obtain⟨ρ,S,hG,C⟩:=hR
  rw[iJ,gL]
  cases hgs:s.goals with
  | nil=>
   rw[hgs] at hG
   have hi:i.goals= []:=List.map_eq_nil_iff.1 hG.1
   simp [hi]
  | cons g gs=>
   rw[hgs] at hG
   cases hi:i.goals with
   | nil=>rw[hi] at hG;exact absurd hG.1 (by simp)
   | cons h hs=>simp
 | succ n ih=>
  intro most fuel s i hn hR
  cases hgs:s.goals with
  | nil=>
   obtain⟨ρ,S,hG,C⟩:=hR
   rw[hgs] at hG
   have hi:i.goals= []:=List.map_eq_nil_iff.1 hG.1
   rw[iJ,gL]
   simp only[hgs,hi]
   by_cases hm:most=0
   · simp [hm]
   simp only[hm,dif_neg,EY]
   rw[aLT S hv]
   cases gW s.σ vars with
   | none=>rfl
   | some a=>
    simp only
    have key:=LU hp s.chs.length s.chs i C
    rw[C.len]
    cases hb:eV p s.chs.length s.chs with
    | none=>rw[hb] at key;simp only[key]
    | some s'=>
     rw[hb] at key
     obtain⟨i',e,hR'⟩:=key
     simp only[e]
     rw[ih (most - 1) fuel s' i' (by omega) hR']
  | cons g gs=>
   obtain⟨h,hs,hi,key⟩:=aIW hp hc hR hgs
   rw[iJ,gL]
   simp only[hgs,hi]
   by_cases hf:fuel=0
   · simp [hf]
   simp only[hf,dif_neg,EY]
   cases hq:gQ p cnd s g gs with
   | stop e=>
    rw[hq] at key
    simp only[key]
   | go s'=>
    rw[hq] at key
    obtain⟨i',e,hR'⟩:=key
    simp only[e]
    exact ih most (fuel - 1) s' i' (by omega) hR'
   | fail=>
    rw[hq] at key
    obtain⟨i',e,C'⟩:=key
    simp only[e]
    have IQ:=LU hp s.chs.length s.chs i' C'
    rw[C'.len]
    cases hb:eV p s.chs.length s.chs with
    | none=>rw[hb] at IQ;simp only[IQ]
    | some s'=>
     rw[hb] at IQ
     obtain⟨i'',e2,hR'⟩:=IQ
     simp only[e2]
     exact ih most (fuel - 1) s' i'' (by omega) hR'
omit hp hc in
theorem aIV{q:List Tm}(hq:∀t∈q,a9 26 t∧t.k=3):Rl (k8 q) (nH q):=by
 refine⟨fun v=>v,⟨⟨fun v w _ _ _ _ e=>e,fun v _ _=>rfl⟩,fun v h0 h1=>⟨h0,h1⟩,cD.none,fun n u h=>(by cases h),cD.none,fun n u h=>(by cases h),fun _ _=>rfl,fun _ _=>rfl,cQ _,fun _ _ _=>rfl⟩,⟨?_,fun g hg=>?_⟩,.nil⟩
 · simp only[nH,k8,vF]
   refine pO fun t ht=>?_
   simp only[CF]
   rw[show bP (fun v=>v) t=t from N4 t (hq t ht).1.1.2.1]
 · simp only[k8] at hg
   obtain⟨t,ht,rfl⟩:=cE.1 hg
   exact hq t ht
theorem aV7{q:List Tm}(hq:∀t∈q,a9 26 t∧t.k=3)(most fuel:Nat):iJ p cnd (bR q []) most fuel (nH q)=tC p cnd q most fuel:=by
 refine aVO hp hc (fun v hv=>?_) _ most fuel _ _ (cQ _) (aIV hq)
 rw[wR _ _ fun t ht=>(hq t ht).1.1.2.1] at hv
 rcases hv with hv | ⟨t,ht,hv⟩
 · cases hv
 · exact(hq t ht).1.1.2.2 v hv
end
theorem aPH{c:Cl}(h:oT c=true):fX c:=by
 simp only[oT,cK,bL,eL] at h
 refine⟨⟨Tm.F0 h.1.1,Tm.FZ h.1.1⟩,fun t ht=>?_⟩
 have hg:=h.2.2 t ht
 have hk:t.valid=true∧t.k=3:=by
  obtain⟨k,n,s,ts⟩:=t
  simp only[Tm.goal,cK] at hg
  refine⟨hg.1,?_⟩
  have:=hg.2
  simp only[v8,pG,oJ,cK,bL] at this
  simp only[Tm.k]
  rcases this with (h | h) | h<;>first | exact h.1 | exact h.1.1 | exact h.1.1.1
 exact⟨⟨Tm.F0 hk.1,Tm.FZ hk.1⟩,hk.2⟩
def oB(l:List IC):Nat:=(l.map fun c=>c.list.length).sum
theorem N3(l m:List IC):oB (l++m)=oB l+oB m:=by simp [oB]
theorem aG6(c:IC):oB [c]=c.list.length:=by simp [oB]
theorem aG7(l:List IC)(k:Nat):oB (l.take k)≤oB l:=by
 have:=N3 (l.take k) (l.drop k)
 rw[qS] at this
 omega
structure IX (p:List Cl) (M:Nat) (i:IS):Prop where
 tnd:i.tr.Nodup
 tin:∀n∈i.tr,(0≤n∧n<(i.fresh:Int))∧i.σ n≠none
 phi:i.fresh+26*oB i.chs≤M
 ch:∀c∈i.chs,c.node<c.taken∧c.taken≤i.nn∧c.eJ≤i.tr.length∧∀x∈c.list,x<p.length
 mono:i.chs.Pairwise (fun c d=>c.taken≤d.taken∧c.eJ≤d.eJ)
theorem IX.up{p:List Cl}{M M':Nat}{i:IS}(h:IX p M i)(hM:M≤M'):IX p M' i:=⟨h.tnd,h.tin,w9 h.phi hM,h.ch,h.mono⟩
theorem IX.P8{p:List Cl}{M:Nat}{i:IS}(h:IX p M i):i.tr.length≤i.fresh:=BL h.tnd fun n hn=>(h.tin n hn).1
theorem IM{p:List Cl}(hp:∀c∈p,fX c){M:Nat}{goal:Tm}{at':Nat}{rest:List IG}:∀(l:List Nat) (s:IS),(∀x∈l,x<p.length)→at'<s.nn→s.fresh+26*oB s.chs+26*l.length≤M→IX p M s→cD s.σ→cF (a9 s.fresh) s.σ→a9 s.fresh goal →
 IX p M (fZ p goal at' rest l s).2
 | [],s,_,_,_,h,_,_,_=>by unfold fZ;exact h
 | j::l,s,hl,ha,hM,h,hg,ho,hgo=>by
  obtain⟨x,hx⟩:∃x,p[j]?=some x:=⟨_,eQ (hl j (by simp))⟩
  have hX:=hp x (cL hx)
  have hl':∀x∈l,x<p.length:=fun x h=>hl x (by simp [h])
  simp only[bA] at hM
  unfold fZ
  simp only[hx]
  split
  · have hhd:a9 ((s.fresh+26:Nat):Int) (cU s.fresh x.1):=(hX.cU s.fresh x.1 (by simp)).mono (by have:=hX.fr.1;omega)
    obtain⟨r,σ',add,U⟩:=sB (N:=s.fresh+26) hg (fun n u e=>(ho n u e).mono (by omega)) (hgo.mono (by omega)) hhd
    rw[U.eq]
    have S:=U.uR
    refine⟨?_,?_,?_,?_,?_⟩
    · simp only
      refine jN.2 ⟨h.tnd,S.nodup,fun a ha b hb e=>?_⟩
      subst e
      exact(h.tin a ha).2 (S.new a hb).1
    · intro n hn
      simp only[dQ] at hn ⊢
      rcases hn with hn | hn
      · have h1:=h.tin n hn
        have hna:n∉add:=fun ha=>h1.2 (S.new n ha).1
        exact⟨⟨h1.1.1,by have:=h1.1.2;omega⟩,by rw[S.aV n hna];exact h1.2⟩
      · have:=S.fK n hn
        exact⟨⟨this.1,by omega⟩,(S.new n hn).2⟩
    · simp only
      split
      · omega
      · rw[N3,aG6];simp only;omega
    · intro c hc
      have key:∀c∈s.chs,c.node<c.taken∧c.taken≤s.nn∧c.eJ≤(s.tr++add).length∧∀x∈c.list,x<p.length:=fun c hc=>by
       obtain⟨h1,h2,h3,h4⟩:=h.ch c hc
       exact⟨h1,h2,by rw[dX];omega,h4⟩
      simp only at hc ⊢
      split at hc
      · exact key c hc
      · rcases dQ.1 hc with hc | hc
        · exact key c hc
        · simp only[cP,dI,dN] at hc
          subst hc
          exact⟨ha,cQ _,by rw[dX];simp only;omega,hl'⟩
    · simp only
      split
      · exact h.mono
      · refine List.pairwise_append.2 ⟨h.mono,List.pairwise_singleton _ _,fun a ha b hb=>?_⟩
        simp only[cP,dI,dN] at hb
        subst hb
        obtain⟨h1,h2,h3,h4⟩:=h.ch a ha
        exact⟨h2,h3⟩
  · refine IM hp l { s with fresh:=s.fresh+26 } hl' ha (by simp only;omega) ⟨h.tnd,fun n hn=>?_,by simp only;omega,h.ch,h.mono⟩ hg (fun n u e=>(ho n u e).mono (by simp only;omega)) (hgo.mono (by simp only;omega))
    have:=h.tin n hn
    exact⟨⟨this.1.1,by simp only;omega⟩,this.2⟩
theorem IX.pop{p:List Cl}{M:Nat}{gl:List IG}{τ:Sub}{tr:List Int}{ds:List IC}{d:IC}{F nn:Nat}(h:IX p M ⟨gl,τ,tr,ds++ [d],F,nn⟩) :
 IX p M ⟨gl,τ.out (tr.drop d.eJ),tr.take d.eJ,ds,F,d.taken⟩∧F+26*oB ds+26*d.list.length≤M∧d.node<d.taken∧d.taken≤nn∧d.eJ≤tr.length∧∀x∈d.list,x<p.length:=by
 obtain⟨h1,h2,h3,h4⟩:=h.ch d (by simp)
 have aSN:=h.phi
 simp only[N3,aG6] at aSN
 have hm:=List.pairwise_append.1 h.mono
 have hnd:=h.tnd
 simp only at hnd h2 h3
 have hsp:tr.take d.eJ++tr.drop d.eJ=tr:=qS _ _
 rw[←hsp,jN] at hnd
 refine⟨⟨hnd.1,fun n hn=>?_,by simp only;omega,fun c hc=>?_,hm.1⟩,by omega,h1,h2,h3,h4⟩
 · have:=h.tin n (nP hn)
   refine⟨this.1,?_⟩
   simp only
   unfold Sub.out
   rw[aG (fun hd=>hnd.2.2 n hn n hd rfl)]
   exact this.2
 · obtain⟨g1,g2,g3,g4⟩:=h.ch c (by simp [hc])
   have:=hm.2.2 c hc d (by simp)
   exact⟨g1,this.1,by simp only[dY];simp only at g3;omega,g4⟩
theorem aGQ{p:List Cl}(hp:∀c∈p,fX c){M:Nat}:∀(n:Nat) (cs:List RC) (i:IS),gM i.fresh cs i.chs i.σ i.tr→IX p M i→∀i',gC p n i=some i'→IX p M i'
 | 0,_,_,_,_,i',h=>by simp [gC] at h
 | n+1,cs,i,C,h,i',e=>by
  obtain⟨gl,τ,tr,ds,F,nn⟩:=i
  simp only at C
  cases C with
  | nil=>simp only[gC,List.getLast?_nil] at e;cases e
  | @snoc cs ds c d _ _ C h1 h2=>
   obtain⟨hP,hM,hnt,htn,htr,hli⟩:=h.pop
   have e3:(IS.pop ⟨gl,τ,tr,ds++ [d],F,nn⟩ d)=⟨gl,τ.out (tr.drop d.eJ),tr.take d.eJ,ds,F,d.taken⟩:=by simp only[IS.pop,KV]
   simp only[gC,List.getLast?_append,List.getLast?_singleton,Option.some_or,e3] at e
   obtain⟨ρ,S,e1,hok,hG,e2⟩:=h1
   have hX:=IM hp (rest:=d.rest) d.list _ hli (at':=d.node) (by simp only;exact hnt) (by simp only;exact hM) hP S.g2 S.o2 (e1▸S.yG hok)
   split at e
   · cases e
     exact hX
   · rename_i hf
     have key:=KG hp (cs:=cs) (nn:=d.taken) (at':=d.node) (tr:=tr.take d.eJ) hok hG c.left F gl S C
     rw[←e1,←e2] at key
     cases ht:gR p cs c.goal c.rest c.σ c.N c.left with
     | some s=>
      rw[e2,ht] at key
      obtain⟨i2,k1,_⟩:=key
      rw[←e2] at k1
      rw[k1] at hf
      simp at hf
     | none=>
      rw[e2,ht] at key
      obtain⟨F',hF,k1⟩:=key
      rw[←e2] at k1
      rw[k1] at e hX
      exact aGQ hp n cs _ (C.mono hF) hX i' e
def c7:AV→List Nat
 | .mslice b _ _ _=>[b]
 | _=>[]
def Trail(st:aA)(q:AV)(tr:List Int):Prop:=
 (q=.fslice []∧tr= [])∨∃b cs,q=.mslice b 0 tr.length 1∧st b=some (.cells cs)∧cs.take tr.length=tr.map iv
structure fN (st:aA) (c m:Nat) (q:AV) (σ:Sub) (tr:List Int):Prop where
 sub:gV st c m q σ
 eJ:Trail st q tr
 apart:c∉c7 q
structure lI (c m:Nat) (st:aA) (q:AV) (st':aA) (q':AV):Prop where
 frame:∀b o,st b=some o→b≠c→b≠m→b∉c7 q→st' b=some o
 fresh:∀b∈c7 q',b∈c7 q∨st b=none
def tQ(c m:Nat)(st:aA)(q:AV)(σ':Sub)(tr':List Int)(st':aA):Prop:=∃q',fN st' c m q' σ' tr'∧lI c m st q st' q'
theorem lI.refl(c m:Nat)(st:aA)(q:AV):lI c m st q st q:=⟨fun _ _ h _ _ _=>h,fun _ h=>.inl h⟩
theorem lI.trans{c m:Nat}{st st' wK:aA}{q q' q'':AV}{σ:Sub}{tr:List Int}(x:lI c m st q st' q')(hS:fN st' c m q' σ tr)(y:lI c m st' q' wK q''):lI c m st q wK q'':=by
 refine⟨fun b o h h1 h2 h3=>?_,fun b hb=>?_⟩
 · refine y.frame b o (x.frame b o h h1 h2 h3) h1 h2 fun h4=>?_
   rcases x.fresh b h4 with h5 | h5
   · exact h3 h5
   · rw[h5] at h;cases h
 · rcases y.fresh b hb with h | h
   · exact x.fresh b h
   · by_cases h1:b∈c7 q
     · exact .inl h1
     · refine .inr ?_
       cases hst:st b with
       | none=>rfl
       | some o=>
        exfalso
        by_cases hc:b=c
        · subst hc;rw[hS.sub.cells] at h;cases h
        · by_cases hm:b=m
          · subst hm;rw[hS.sub.map] at h;cases h
          · rw[x.frame b o hst hc hm h1] at h;cases h
theorem fN.FJ{st:aA}{c m:Nat}{q:AV}{σ:Sub}{tr:List Int}(h:fN st c m q σ tr):∀b∈c7 q,∃cs,st b=some (.cells cs):=by
 intro b hb
 rcases h.eJ with ⟨rfl,_⟩ | ⟨b',cs,rfl,hb',_⟩
 · simp [c7] at hb
 · simp only[c7,cP,dI,dN] at hb;subst hb;exact⟨cs,hb'⟩
theorem fN.IU{st:aA}{c m:Nat}{q:AV}{σ:Sub}{tr:List Int}(h:fN st c m q σ tr):m∉c7 q:=fun hb=>by
 obtain⟨cs,e⟩:=h.FJ m hb
 rw[h.sub.map] at e;cases e
theorem fN.aC{st:aA}{c m b:Nat}{q:AV}{σ:Sub}{tr:List Int}{o:AO}(h:fN st c m q σ tr)(h1:b≠c)(h2:b≠m)(h3:b∉c7 q):fN (st.aC b o) c m q σ tr:=by
 refine⟨h.sub.KM h1 h2,?_,h.apart⟩
 rcases h.eJ with h4 | ⟨b',cs,e1,e2,e3⟩
 · exact .inl h4
 · refine .inr ⟨b',cs,e1,?_,e3⟩
   rw[aA.aF _ _ (by rintro rfl;exact h3 (by rw[e1];simp [c7]))]
   exact e2
theorem fN.CC{st:aA}{c m b:Nat}{q:AV}{σ:Sub}{tr:List Int}{o:AO}(h:fN st c m q σ tr)(hb:st b=none):fN (st.aC b o) c m q σ tr:=
 h.aC (h.sub.ne hb).1 (h.sub.ne hb).2 fun h3=>by obtain⟨cs,e⟩:=h.FJ b h3;rw[hb] at e;cases e
theorem lI.CC{c m b:Nat}{st:aA}{q:AV}{o:AO}(hb:st b=none):lI c m st q (st.aC b o) q:=
 ⟨fun x p h _ _ _=>by rw[aA.aF _ _ (by rintro rfl;rw[hb] at h;cases h)];exact h,fun _ h=>.inl h⟩
theorem fN.shape{st:aA}{c m:Nat}{q:AV}{σ:Sub}{tr:List Int}(h:fN st c m q σ tr):q.isAgg=false∧q.width=1∧q.b9=false∧q.cells= [q]∧q.storable=true:=by
 rcases h.eJ with ⟨rfl,_⟩ | ⟨b',cs,rfl,_⟩<;>exact⟨rfl,rfl,rfl,rfl,rfl⟩
theorem tQ.from{c m:Nat}{st s0 st':aA}{q q0:AV}{σ σ':Sub}{tr tr':List Int}(h:tQ c m s0 q0 σ' tr' st')(x:lI c m st q s0 q0)(hS:fN s0 c m q0 σ tr):tQ c m st q σ' tr' st':=by
 obtain⟨q',h1,h2⟩:=h
 exact⟨q',h1,x.trans hS h2⟩
theorem aXD{P:Program}{t:TypeId}{ag:Bool}{bytes:Nat}{zs:List AV}{st:aA}{c m:Nat}{q:AV}{σ:Sub}{tr:List Int}{n:Int}{K:AV→aA→Prop}(hI:eI P t=some (ag,1))(hB:eB P t=some bytes)(hZ:eZ P t=some zs)(hz:zs.length=1)(hb8:bytes≤16)
 (h:fN st c m q σ tr) (hl:tr.length+1≤1099511627776)
 (hK:∀q' st',Trail st' q' (tr++ [n])→c∉c7 q'→m∉c7 q'→(∀x,x∉c7 q→x∉c7 q'→st' x=st x)→(∀x∈c7 q',x∈c7 q∨st x=none)→K q' st'):kD P t st q (.fslice [.int .i64 n]) K:=by
 have fY:tU 1 [AV.int .i64 n]:=by intro e he;simp only[cP,dI,dN] at he;subst he;exact⟨rfl,rfl⟩
 have EA:(tr.length+1)*bytes≤140737488355328:=by
  have:=Nat.mul_le_mul hl hb8
  omega
 unfold kD
 simp only[hI,hB,hZ,xF]
 refine⟨hz,fY,?_⟩
 have hcm:∀x,st x=none→x≠c∧x≠m:=fun x hx=>h.sub.ne hx
 rcases h.eJ with ⟨rfl,rfl⟩ | ⟨b,cs,rfl,hb,hcs⟩
 · simp only[bS,bA,gN] at EA ⊢
   refine⟨by omega,by omega,by simp,fun h=>by simp at h,fun _ b hb=>?_⟩
   refine hK _ _ (.inr ⟨b,[.int .i64 n],rfl,aA.aH _ _ _,rfl⟩) (by simp only[c7,cP,dI,dN];exact dA (hcm b hb).1) (by simp only[c7,cP,dI,dN];exact dA (hcm b hb).2) (fun x _ hx=>?_) (fun x hx=>?_)
   · simp only[c7,cP,dI,dN] at hx
     rw[aA.aF _ _ hx]
   · simp only[c7,cP,dI,dN] at hx
     subst hx;exact .inr hb
 · simp only[bA,bS,gN,hb]
   have hlen:tr.length≤cs.length:=by
    have:=rF List.length hcs
    simp only[dY,aE] at this
    omega
   have hca:c≠b:=fun e=>h.apart (by simp [c7,e])
   have hma:m≠b:=fun e=>h.IU (by simp [c7,e])
   have iN:cs.take (tr.length*1)++ [AV.int .i64 n].flatMap AV.cells=(tr++ [n]).map iv:=by rw[xA,hcs];simp [AV.cells]
   refine⟨trivial,EA,by omega,by omega,?_,fun b' hb'=>?_⟩
   · rw[iN]
     refine hK _ _ (.inr ⟨b,_,by simp,aA.aH _ _ _,by rw[nQ (by simp)]⟩) (by simpa [c7] using hca) (by simpa [c7] using hma) (fun x hx _=>?_) (fun x hx=>.inl hx)
     simp only[c7,cP,dI,dN] at hx
     rw[aA.aF _ _ hx]
   · rw[iN]
     obtain⟨hc',hm'⟩:=hcm b' hb'
     refine hK _ _ (.inr ⟨b',_,by simp,aA.aH _ _ _,by rw[nQ (by simp)]⟩) (by simpa [c7] using dA hc') (by simpa [c7] using dA hm') (fun x hx hx'=>?_) (fun x hx=>?_)
     · simp only[c7,cP,dI,dN] at hx hx'
       rw[aA.aF _ _ hx']
       simp [aA.erase,hx]
     · simp only[c7,cP,dI,dN] at hx
       subst hx;exact .inr hb'
end Go.AW
namespace Go.AW
open Go.Proofs.Tryz
abbrev yP:=zi tI_3 (zi zI_3 (zi aZ (zi tI_4 (zi zI_4 (zi cG (zi tI_52 (zi zI_52 (zi bX (zi bY (zi bZ (zi b7 (zi bV (zi tI_178 (zi zI_178 (zi tI_207 (zi zI_207 (zi yS (zi tI_209 (zi zI_209 (zi AY (zi AZ AB)))))))))))))))))))))
theorem G1{σ:Sub}{f:Nat}{t u:Tm}(hw:fF σ f t u)(c m:Nat)(q:AV)(st:aA)(hS:gV st c m q σ):aD prog 257 [.ptr c 0,t.av] st (fun r st'=>r=u.av∧st'=st):=by
 refine aD.done ?_
 refine wF [1000000,3] 2 func257 ntmps257 rfl rfl ?_
 intro _
 simp -implicitDefEqProofs only[aB,seval,yP]
 intro b3 h3 b4 h4
 have hne:b4≠b3:=by rintro rfl;rw[aA.aH] at h4;cases h4
 have hn4:st b4=none:=by rw[aA.aF st _ hne] at h4;exact h4
 have hD:∀o o',aL ((st.aC b3 o).aC b4 o') st:=fun o o'=>((aL.refl _).aC h3).aC hn4
 have hS':∀o o',gV ((st.aC b3 o).aC b4 o') c m q σ:=fun o o'=>(hS.aC h3).aC (by rw[aA.aF _ _ hne];exact hn4)
 obtain⟨aSB,aZ3⟩:=hS.ne h3
 obtain⟨aSC,aZ4⟩:=hS.ne hn4
 refine mW (σ:=Nat×Tm) [1000000,3] [0,3,4] (fun p=>fF σ p.1 p.2 u) (fun p=>[]) (fun p=>(st.aC b3 (.cells p.2.av.cells)).aC b4 (.cells [.int .i64 0,.int .i64 0,.str ⟨#[]⟩,.fslice []])) (fun p=>p.1) (by decide +kernel) ⟨(f,t),hw,aP.mk (by simp -implicitDefEqProofs only[aB,seval])⟩ ?_
 rintro⟨g,t⟩ hw
 obtain⟨k,n,s,ts⟩:=t
 simp only at hw
 simp only[a7]
 simp -implicitDefEqProofs only[hne.symm,aB,seval,yP]
 refine aT (fun h=>?_) (fun h=>?_)
 case refine_2=>
  simp only[cI] at h
  cases hw with
  | go h1=>exact absurd h1 h
  | stop=>
   simp -implicitDefEqProofs only[aS,hne.symm,aB,seval,yP]
   exact⟨by rw[←a7,Tm.soft],hD _ _⟩
 simp only[bL] at h
 simp -implicitDefEqProofs only[aB,seval]
 refine wP [(0,1),(1,1),(2,1),(4,1),(3,2),(5,2),(6,2),(7,1),(8,1),(9,1),(10,0),(11,0),(12,1)] [0,1,2,4,3,5,6,7,8,9,12] mixed ?_
 have hl:=fun(st':aA) (hm:st' m=some (AO.map (mapOf σ)))=>aT1 (P:=prog) (n:=n) hm yS aZ aX5
 simp -implicitDefEqProofs only[hne.symm,hS.cells,aSB.symm,aSC.symm,aB,seval,yP]
 rw[hl _ (hS' _ _).map]
 cases hw with
 | stop hs=>
  rw[show σ n=none from hs h]
  simp -implicitDefEqProofs only[found,aS,aB,seval,yP]
  intro b5 h5
  have h53:b5≠b3:=by rintro rfl;simp [aA.aF,aA.aH,hne.symm] at h5
  have h54:b5≠b4:=by rintro rfl;simp [aA.aH] at h5
  have hn5:st b5=none:=by rw[aA.aF _ _ h54,aA.aF _ _ h53] at h5;exact h5
  simp -implicitDefEqProofs only[aS,hne.symm,h53.symm,h54.symm,aB,seval,yP]
  exact⟨by rw[←a7,Tm.soft],((((aL.refl _).aC h3).aC hn4).aC hn5).aC hn4⟩
 | go _ h2 h3'=>
  rw[show σ n=some _ from h2]
  simp -implicitDefEqProofs only[found,aS,aB,seval,yP]
  intro b5 h5
  have h53:b5≠b3:=by rintro rfl;simp [aA.aF,aA.aH,hne.symm] at h5
  have h54:b5≠b4:=by rintro rfl;simp [aA.aH] at h5
  have hn5:st b5=none:=by rw[aA.aF _ _ h54,aA.aF _ _ h53] at h5;exact h5
  simp -implicitDefEqProofs only[hne.symm,h53.symm,aB,seval]
  refine⟨(_,_),Nat.lt_succ_self _,h3',aP.drop (fun x=>?_) (by simp -implicitDefEqProofs only[aB,seval])⟩
  by_cases e3:x=b3<;>by_cases e4:x=b4<;>by_cases e5:x=b5<;>simp_all [aA.aC]
abbrev aJJ:=zi tI_3 (zi zI_3 (zi aZ (zi tI_28 (zi zI_28 (zi aQ (zi bM (zi bO (zi cA (zi tI_52 (zi zI_52 (zi bX (zi bY (zi bZ (zi b7 bV))))))))))))))
theorem aMS(l:List Tm)(g:FuncId)(dJ:List AV)(p:Tm→Bool)(J E:aA→Prop)(hc:∀x∈l,∀s,J s→aD prog g ([Tm.av x]++dJ) s (fun r s'=>r=.bool (p x)∧(p x=true→E s')∧(p x=false→J s')))(st:aA)(h0:J st) :
 aD prog 214 [.slice (l.map Tm.av),.func g dJ] st (fun r st'=>r=.int .i64 (rU p l 0)∧(l.any p=true→E st')∧(l.any p=false→J st')):=by
 refine wF [1000000] 2 func214 ntmps214 rfl rfl ?_
 simp only[dK,AV.fits,dZ,aE]
 intro ⟨hl,_⟩
 simp -implicitDefEqProofs only[aE,aB,seval,aJJ]
 refine dW (σ:=aA) [1000000] [0,1,7] l (fun i s=>J s∧rU p (l.drop i) i=rU p l 0∧(l.drop i).any p=l.any p) (fun i _=>[(8,.int .i64 i)]) (fun _ s=>s) (by decide +kernel) ⟨st,⟨h0,rfl,rfl⟩,aP.mk (by simp -implicitDefEqProofs only[aB,↓aX,seval])⟩ (fun i x s hx hlt bF hdr hinv=>?_) (fun s hge hinv=>?_)
 case refine_2=>
  obtain⟨i1,i2,i3⟩:=hinv
  rw[gU] at i2 i3
  simp -implicitDefEqProofs only[hge,aB,seval]
  exact⟨by rw[←i2];try rfl,fun h=>(by rw[←i3] at h;cases h),fun _=>i1⟩
 obtain⟨i1,i2,i3⟩:=hinv
 rw[hdr,rU] at i2
 rw[hdr,zC] at i3
 have hw:=bK (n:=(i:Int)+1)
 simp -implicitDefEqProofs only[bF,bJ (av:=Tm.av) aQ hx (aN x),bU,aN,aB,seval,aJJ]
 refine(hc x (cL hx) s i1).mono ?_
 rintro _ s2 ⟨rfl,hE,hJ⟩
 simp -implicitDefEqProofs only[aB,seval]
 refine aT (fun h=>?_) (fun h=>?_)
 · rw[aK h] at i2
   rw[h,y8] at i3
   simp -implicitDefEqProofs only[aB,seval]
   exact⟨by rw[i2],fun _=>hE h,fun h'=>(by rw[←i3] at h';cases h')⟩
 · rw[aG (by simp [h])] at i2
   rw[h,sC] at i3
   simp -implicitDefEqProofs only[aB,seval]
   exact⟨s2,⟨hJ h,i2,i3⟩,aP.mk (by simp -implicitDefEqProofs only[hw,aB,seval])⟩
theorem aMK(l:List Tm)(g:FuncId)(dJ:List AV)(p:Tm→Bool)(J E:aA→Prop)(hc:∀x∈l,∀s,J s→aD prog g ([Tm.av x]++dJ) s (fun r s'=>r=.bool (p x)∧(p x=true→E s')∧(p x=false→J s')))(st:aA)(h0:J st) :
 aD prog 172 [.slice (l.map Tm.av),.func g dJ] st (fun r st'=>r=.bool (l.any p)∧(l.any p=true→E st')∧(l.any p=false→J st')):=by
 refine wF [1000000] 2 func172 ntmps172 rfl rfl ?_
 intro _
 simp -implicitDefEqProofs only[aB,seval]
 refine(aMS l g dJ p J E hc st h0).mono ?_
 rintro _ s2 ⟨rfl,hE,hJ⟩
 simp -implicitDefEqProofs only[aTF,aB,seval]
 exact⟨hE,hJ⟩
def Occ(R:Int→Tm)(n:Int)(t:Tm)(st:aA)(mm:Nat)(M:List Int)(r:AV)(st':aA):Prop:=
 r=.bool (decide (n∈(t.aJ R).vl))∧∃M',st'=st.aC mm (.map (kY M'))∧(n∉(t.aJ R).vl→∀v∈M',v∈M∨n∉(R v).vl)
abbrev aW4:=zi tI_3 (zi zI_3 (zi aZ (zi tI_4 (zi zI_4 (zi cG (zi tI_52 (zi zI_52 (zi bX (zi bY (zi bZ (zi b7 (zi bV (zi tI_178 (zi zI_178 (zi tI_272 (zi zI_272 FY))))))))))))))))
theorem aOM{c mm:Nat}{n:Int}{t:Tm}{st:aA}{Q:AV→aA→Prop}(hc:aD prog 282 [.ptr c 0,.int .i64 n,t.av,.map mm] st Q) :
 aD prog 291 [t.av,.pptr (.ptr c 0),.pptr (.int .i64 n),.pptr (.map mm)] st Q:=by
 refine wF [1000000] 4 func291 ntmps291 rfl rfl ?_
 intro _
 simp -implicitDefEqProofs only[aB,seval,aW4]
 refine hc.mono ?_
 intro r s h
 simp -implicitDefEqProofs only[aB,seval]
 exact h
abbrev wN:=zi tI_3 (zi zI_3 (zi aZ (zi tI_4 (zi zI_4 (zi cG (zi tI_28 (zi zI_28 (zi aQ (zi bM (zi bO (zi cA (zi tI_52 (zi zI_52 (zi bX (zi bY (zi bZ (zi b7 (zi bV (zi tI_178 (zi zI_178 (zi tI_272 (zi zI_272 (zi FY (zi tI_291 (zi zI_291 aLB)))))))))))))))))))))))))
theorem L5{σ:Sub}{R:Int→Tm}{rk:Int→Nat}{B:Nat}(G:Good σ R rk B){n:Int}(hn:σ n=none)(c m mm:Nat)(q:AV)(hmm:mm≠c∧mm≠m) :
 ∀(K:Nat) (t:Tm) (M:List Int) (st:aA),gV st c m q σ→st mm=some (.map (kY M))→(∀w∈t.vl,rk w<K)→(∀v∈M,n∉(R v).vl∨∀w∈t.vl,rk w<rk v) →
 aD prog 282 [.ptr c 0,.int .i64 n,t.av,.map mm] st (Occ R n t st mm M)
 | K,.mk k x s ts,M,st,hS,hM,hK,II=>by
  have IH1:=fun(K':Nat) (hK':K'<K) t M st=>L5 G hn c m mm q hmm K' t M st
  have IH2:=fun(y:Tm) (hy:y∈ts) M st=>L5 G hn c m mm q hmm K y M st
  have hlk:=aT0 (P:=prog) (n:=x) hM FY aZ aX4
  simp only[a7]
  refine wF [1000000] 4 func282 ntmps282 rfl rfl ?_
  intro _
  simp -implicitDefEqProofs only[aB,seval,wN]
  refine aT (fun h=>?_) (fun h=>?_)
  · simp only[bL] at h
    have hvl:(Tm.mk k x s ts).vl= [x]:=Tm.mH h
    have hmv:(Tm.mk k x s ts).aJ R=R x:=Tm.l9 R h
    have hKx:rk x<K:=hK x (by rw[hvl];simp)
    simp -implicitDefEqProofs only[hlk,aB,seval,wN]
    refine aT (fun h2=>?_) (fun h2=>?_)
    · simp only[bL] at h2
      simp -implicitDefEqProofs only[aB,seval]
      have hno:n∉(R x).vl:=by
       rcases II x h2 with h | h
       · exact h
       · exact absurd (h x (by rw[hvl];simp)) (Nat.lt_irrefl _)
      refine⟨by rw[hmv];simp [hno],M,?_,fun _ v hv=>.inl hv⟩
      funext y
      simp only[aA.aC]
      split
      · rename_i e;rw[e,hM]
      · rfl
    · simp only[cI] at h2
      simp -implicitDefEqProofs only[aB,seval,wN]
      refine aXS hM FY aZ ?_
      simp -implicitDefEqProofs only[aB,seval,wN]
      obtain⟨f,hwk⟩:=G.wk (Tm.mk k x s ts)
      generalize hu:wk σ (Tm.mk k x s ts)=u at *
      have hS':=hS.KM (o:=.map (kY (x::M))) hmm.1 hmm.2
      have hcw:=G1 hwk c m q _ hS'
      rw[a7] at hcw
      refine hcw.to ?_
      have NR:u.aJ R=R x:=by rw[hwk.aJ G.uG,hmv]
      have sU:=hwk.end
      have hrk:=hwk.E4 G
      obtain⟨k',x',s',ts'⟩:=u
      simp only[a7]
      simp -implicitDefEqProofs only[aB,↓aX,seval,wN]
      refine aT (fun h3=>?_) (fun h3=>?_)
      · simp only[bL] at h3
        simp -implicitDefEqProofs only[aB,seval,wN]
        have pA:R x'=vr x':=G.free (sU h3)
        rw[Tm.l9 R h3,pA] at NR
        refine⟨?_,x::M,rfl,fun hno v hv=>?_⟩
        · rw[hmv,←NR,wU]
          simp [eq_comm]
        · rcases cP.1 hv with rfl | hv
          · exact .inr (by rw[hmv] at hno;exact hno)
          · exact .inl hv
      · simp only[cI] at h3
        simp -implicitDefEqProofs only[aB,seval,wN]
        have hf0:f≠0:=by
         rintro rfl
         cases hwk with
         | stop _=>exact h3 h
        have hr':∀w∈(Tm.mk k' x' s' ts').vl,rk w<rk x:=fun w hw=>by
         obtain⟨v,hv,_,hlt⟩:=hrk w hw
         rw[hvl] at hv
         simp only[cP,dI,dN] at hv
         subst hv
         exact hlt hf0
        have:=IH1 (rk x) hKx (Tm.mk k' x' s' ts') (x::M) _ hS' (aA.aH _ _ _) hr' (fun v hv=>by
         rcases cP.1 hv with rfl | hv
         · exact .inr hr'
         · rcases II v hv with h5 | h5
           · exact .inl h5
           · refine .inr fun w hw=>Nat.lt_trans (hr' w hw) ?_
             exact h5 x (by rw[hvl];simp))
        rw[a7] at this
        refine this.mono ?_
        rintro _ _ ⟨rfl,M',rfl,hM'⟩
        simp -implicitDefEqProofs only[aB,seval]
        rw[NR] at hM' ⊢
        refine⟨by rw[hmv],M',rfl,fun hno v hv=>?_⟩
        rw[hmv] at hno
        rcases hM' hno v hv with h5 | h5
        · rcases cP.1 h5 with rfl | h5
          · exact .inr hno
          · exact .inl h5
        · exact .inr h5
  · simp only[cI] at h
    simp -implicitDefEqProofs only[aB,seval,wN]
    have hmv:=Tm.kX R (n:=x) (s:=s) (ts:=ts) h
    have aQ6:ts.any (fun y=>decide (n∈(y.aJ R).vl))=decide (n∈((Tm.mk k x s ts).aJ R).vl):=by
     rw[hmv,wZ]
     simp only[List.any_eq_true,bL]
     rw[Tm.kL h]
     constructor
     · rintro⟨y,hy,h2⟩;exact⟨_,cE.2 ⟨y,hy,rfl⟩,h2⟩
     · rintro⟨z,hz,h2⟩
       obtain⟨y,hy,rfl⟩:=cE.1 hz
       exact⟨y,hy,h2⟩
    refine(aMK ts _ _ (fun y=>decide (n∈(y.aJ R).vl)) (fun s1=>∃M',s1=st.aC mm (.map (kY M'))∧∀v∈M',v∈M∨n∉(R v).vl) (fun s1=>∃M',s1=st.aC mm (.map (kY M'))) ?_ st ⟨M,?_,fun v hv=>.inl hv⟩).mono ?_
    · rintro y hy s1 ⟨M',rfl,hM'⟩
      simp only[gF,e9]
      have hc:=IH2 y hy M' (st.aC mm (.map (kY M'))) (hS.KM hmm.1 hmm.2) (aA.aH _ _ _) (fun w hw=>hK w ((Tm.kL h).2 ⟨y,hy,hw⟩)) (fun v hv=>by
       rcases hM' v hv with h5 | h5
       · rcases II v h5 with h6 | h6
         · exact .inl h6
         · exact .inr fun w hw=>h6 w ((Tm.kL h).2 ⟨y,hy,hw⟩)
       · exact .inl h5)
      refine(aOM hc).mono ?_
      rintro _ _ ⟨rfl,M2,rfl,hM2⟩
      rw[d4]
      refine⟨rfl,fun _=>⟨M2,rfl⟩,fun hno=>⟨M2,rfl,fun v hv=>?_⟩⟩
      simp only[cI] at hno
      rcases hM2 hno v hv with h5 | h5
      · exact hM' v h5
      · exact .inr h5
    · funext y
      simp only[aA.aC]
      split
      · rename_i e;rw[e,hM]
      · rfl
    · rintro _ s2 ⟨rfl,hE,hJ⟩
      rw[aQ6] at hE hJ ⊢
      simp -implicitDefEqProofs only[aB,seval]
      by_cases hno:n∈((Tm.mk k x s ts).aJ R).vl
      · obtain⟨M2,rfl⟩:=hE (by simp [hno])
        exact⟨rfl,M2,rfl,fun h=>absurd hno h⟩
      · obtain⟨M2,rfl,h5⟩:=hJ (by simp [hno])
        exact⟨rfl,M2,rfl,fun _=>h5⟩
termination_by K t=>(K,SizeOf.sizeOf t)
decreasing_by
 · exact Prod.Lex.left _ _ hK'
 · have:=List.sizeOf_lt_of_mem hy
   exact Prod.Lex.right _ (by simp only[Tm.mk.sizeOf_spec];omega)
abbrev JT:=zi tI_3 (zi zI_3 (zi aZ (zi tI_4 (zi zI_4 (zi cG (zi tI_40 (zi zI_40 (zi dC (zi fH (zi fJ (zi fL (zi tI_52 (zi zI_52 (zi bX (zi bY (zi bZ (zi b7 (zi bV (zi tI_178 (zi zI_178 (zi tI_207 (zi zI_207 (zi yS (zi tI_209 (zi zI_209 (zi AY (zi AZ (zi AB (zi tI_272 (zi zI_272 FY))))))))))))))))))))))))))))))
theorem SG{σ:Sub}(hg:cD σ){n:Int}(hn:σ n=none){t:Tm}{r:Bool}{σ':Sub}{add:List Int}(hb:iY σ n t=(r,σ',add))(c m:Nat)(q:AV)(tr:List Int)(st:aA)(hS:fN st c m q σ tr)(hl:tr.length+add.length≤1099511627776) :
 aD prog 259 [.ptr c 0,.int .i64 n,t.av] st (fun r' st'=>r'=.bool r∧tQ c m st q σ' (tr++add) st'):=by
 obtain⟨rk,B,G⟩:=hg.rs
 refine wF [1000000] 3 func259 ntmps259 rfl rfl ?_
 intro _
 simp -implicitDefEqProofs only[aB,seval,JT]
 intro mm hmm
 obtain⟨hmc,aR9⟩:=hS.sub.ne hmm
 rw[←aUD]
 have hS1:=hS.CC (o:=.map (kY [])) hmm
 refine(L5 G hn c m mm q ⟨hmc,aR9⟩ B t [] _ hS1.sub (aA.aH _ _ _) (fun w _=>G.bd w) (fun v hv=>absurd hv (dI))).mono ?_
 rintro _ _ ⟨rfl,M',rfl,_⟩
 have hS2:=hS.CC (o:=.map (kY M')) hmm
 have hQ2:lI c m st q (st.aC mm (.map (kY M'))) q:=lI.CC hmm
 rw[d4]
 generalize st.aC mm (.map (kY M'))=s2 at *
 obtain⟨hqa,hqw,hqj,hqc,hqs⟩:=hS2.shape
 simp -implicitDefEqProofs only[aB,seval]
 unfold iY at hb
 refine aT (fun h=>?_) (fun h=>?_)
 · simp only[bL] at h
   rw[aK h] at hb
   obtain⟨rfl,rfl,rfl⟩:false=r∧σ=σ'∧[]=add:=by simpa using hb
   simp -implicitDefEqProofs only[aB,seval]
   exact⟨q,hS2,hQ2⟩
 · simp only[cI] at h
   rw[aG h] at hb
   obtain⟨rfl,rfl,rfl⟩:true=r∧σ.set n t=σ'∧[n]=add:=by simpa using hb
   simp -implicitDefEqProofs only[aB,seval]
   refine wP [(0,1),(1,1),(2,1),(4,1),(3,2),(5,2),(6,0)] [0,1,2,4,3,5] mixed ?_
   simp -implicitDefEqProofs only[hS2.sub.cells,aB,seval,JT]
   refine aXU hS2.sub.map yS aZ ?_
   have hcm:=hS2.sub.cm
   have hS3:fN (s2.aC m (.map (mapOf (σ.set n t)))) c m q (σ.set n t) tr:=by
    refine⟨⟨by rw[aA.aF _ _ hcm];exact hS2.sub.cells,aA.aH _ _ _⟩,?_,hS2.apart⟩
    rcases hS2.eJ with h4 | ⟨b',cs,e1,e2,e3⟩
    · exact .inl h4
    · refine .inr ⟨b',cs,e1,?_,e3⟩
      rw[aA.aF _ _ (by rintro rfl;exact hS2.IU (by rw[e1];simp [c7]))]
      exact e2
   have hQ3:lI c m st q (s2.aC m (.map (mapOf (σ.set n t)))) q:=⟨fun b o h h1 h2 h3=>by rw[aA.aF _ _ h2];exact hQ2.frame b o h h1 h2 h3,fun _ h=>.inl h⟩
   generalize s2.aC m (.map (mapOf (σ.set n t)))=s3 at *
   simp -implicitDefEqProofs only[hS3.sub.cells,hqa,aB,seval,JT]
   refine aXD dC fH fJ rfl (by omega) hS3 (by simpa using hl) (fun q' s4 ht hc' hm' hk hf=>?_)
   have h4c:s4 c=some (.cells [.map m,q]):=by rw[hk c hS3.apart hc'];exact hS3.sub.cells
   have h4m:s4 m=some (.map (mapOf (σ.set n t))):=by rw[hk m hS3.IU hm'];exact hS3.sub.map
   have aGI:q'.cells= [q']∧q'.storable=true:=by
    rcases ht with ⟨rfl,_⟩ | ⟨b',cs,rfl,_⟩<;>exact⟨rfl,rfl⟩
   simp -implicitDefEqProofs only[aS,h4c,aGI.1,aGI.2,aB,seval,JT]
   refine⟨q',⟨⟨aA.aH _ _ _,by rw[aA.aF _ _ (dA hcm)];exact h4m⟩,?_,hc'⟩,⟨fun b o h h1 h2 h3=>?_,fun b hb=>?_⟩⟩
   · rcases ht with h4 | ⟨b',cs,e1,e2,e3⟩
     · exact .inl h4
     · refine .inr ⟨b',cs,e1,?_,e3⟩
       rw[aA.aF _ _ (by rintro rfl;exact hc' (by rw[e1];simp [c7]))]
       exact e2
   · rw[aA.aF _ _ h1,hk b h3 (fun h4=>?_)]
     · exact hQ3.frame b o h h1 h2 h3
     · rcases hf b h4 with h5 | h5
       · exact h3 h5
       · rw[hQ3.frame b o h h1 h2 h3] at h5;cases h5
   · rcases hf b hb with h5 | h5
     · exact .inl h5
     · by_cases h6:b∈c7 q
       · exact .inl h6
       · refine .inr ?_
         cases hst:st b with
         | none=>rfl
         | some o=>
          exfalso
          have h1:b≠c:=by rintro rfl;rw[hS3.sub.cells] at h5;cases h5
          have h2:b≠m:=by rintro rfl;rw[hS3.sub.map] at h5;cases h5
          rw[hQ3.frame b o hst h1 h2 h6] at h5;cases h5
abbrev Sm (t:Tm):Prop:=t.small=true
theorem aV2:∀t:Tm,t.k≠1→Sm t→∀x∈t.ts,Sm x:=fun t _ h x hx=>by
 cases t
 exact(Tm.pI h).2 x hx
abbrev pK:=zi tI_3 (zi zI_3 (zi aZ (zi tI_4 (zi zI_4 (zi cG (zi tI_9 (zi zI_9 (zi eF (zi tI_28 (zi zI_28 (zi aQ (zi bM (zi bO (zi cA (zi tI_52 (zi zI_52 (zi bX (zi bY (zi bZ (zi b7 (zi bV (zi tI_178 zI_178))))))))))))))))))))))
theorem TM:∀(g:Nat) (σ:Sub) (a b:Tm) (r:Bool) (σ':Sub) (add:List Int),cD σ→cF Sm σ→Sm a→Sm b→cV g σ a b=some (r,σ',add)→∀(c m:Nat) (q:AV) (tr:List Int) (st:aA),fN st c m q σ tr→tr.length+add.length≤1099511627776 →
 aD prog 228 [.ptr c 0,a.av,b.av] st (fun r' st'=>r'=.bool r∧tQ c m st q σ' (tr++add) st')
 | 0,σ,a,b,r,σ',add,hg,hsm,ha0,hb0,h,c,m,q,tr,st,hS,hl=>by simp only[cV] at h;cases h
 | g+1,σ,a,b,r,σ',add,hg,hsm,ha0,hb0,h,c,m,q,tr,st,hS,hl=>by
  have IH:=TM g
  obtain⟨rk,B,G⟩:=hg.rs
  obtain⟨fa,wa⟩:=G.wk a
  obtain⟨fb,wb⟩:=G.wk b
  have hca:=fun st (hS:gV st c m q σ)=>G1 wa c m q st hS
  have hcb:=fun st (hS:gV st c m q σ)=>G1 wb c m q st hS
  have ea:=wa.end
  have eb:=wb.end
  have hsa:=wa.all (p:=Sm) hsm ha0
  have hsb:=wb.all (p:=Sm) hsm hb0
  replace h:=KJ h
  generalize wk σ a=a1 at *
  generalize wk σ b=b1 at *
  clear wa wb
  refine wF [1000000,4,5] 3 func228 ntmps228 rfl rfl ?_
  intro fY
  simp -implicitDefEqProofs only[aB,seval]
  intro b4 h4 b5 h5
  have h54:b5≠b4:=by rintro rfl;rw[aA.aH] at h5;cases h5
  have hn5:st b5=none:=by rw[aA.aF st _ h54] at h5;exact h5
  have hS':∀o o',fN ((st.aC b4 o).aC b5 o') c m q σ tr:=fun o o'=>(hS.CC h4).CC (by rw[aA.aF _ _ h54];exact hn5)
  refine wP [(0,1),(3,1),(1,2),(2,2),(4,2),(5,2),(6,0),(7,0)] [0,3,1,2,4,5] mixed ?_
  simp -implicitDefEqProofs only[h54.symm,aB,seval,pK]
  refine jW (hca _ (hS' _ _).sub) ?_
  simp -implicitDefEqProofs only[aB,seval,pK]
  refine jW (hcb _ (hS' _ _).sub) ?_
  obtain⟨ka,na,sa,tsa⟩:=a1
  obtain⟨kb,nb,sb',tsb⟩:=b1
  obtain⟨hla,aF8⟩:=Tm.pI hsa
  obtain⟨hlb,aF9⟩:=Tm.pI hsb
  simp only[a7]
  simp only[Tm.k,Tm.n,Tm.ts] at h ea eb
  have hl4:∀q',q'=q→b4∉c7 q:=fun _ _ hb=>by obtain⟨cs,e⟩:=hS.FJ b4 hb;rw[h4] at e;cases e
  have hl5:b5∉c7 q:=fun hb=>by obtain⟨cs,e⟩:=hS.FJ b5 hb;rw[hn5] at e;cases e
  obtain⟨h4c,h4m⟩:=hS.sub.ne h4
  obtain⟨h5c,h5m⟩:=hS.sub.ne hn5
  have hQ:∀o o',lI c m st q ((st.aC b4 o).aC b5 o') q:=fun o o'=>⟨fun x p h _ _ _=>by
   rw[aA.aF _ _ (by rintro rfl;rw[hn5] at h;cases h),aA.aF _ _ (by rintro rfl;rw[h4] at h;cases h)];exact h,fun _ h=>.inl h⟩
  simp -implicitDefEqProofs only[aS,h54,h54.symm,aB,seval,pK]
  rw[aA.wS h54,aA.wS h54.symm]
  have dV:∀o o',tQ c m st q σ tr ((st.aC b4 o).aC b5 o'):=fun o o'=>⟨q,hS' _ _,hQ _ _⟩
  rcases h with ⟨h1,h2,h3,rfl,rfl,rfl⟩ | ⟨h1,h2,h3⟩ | ⟨h1,h2,h3⟩ | ⟨h1,h2,h3,h4⟩ | ⟨h1,h2,h3,rfl,rfl,rfl⟩
  · subst h1 h2 h3
    simp -implicitDefEqProofs only[dU,h54.symm,aB,seval,pK]
    exact dV _ _
  · subst h1
    have hcb:=SG hg (ea rfl) h3 c m q tr _ (hS' (.cells [.int .i64 1,.int .i64 na,.str sa,.slice (tsa.map Tm.av)]) (.cells [.int .i64 kb,.int .i64 nb,.str sb',.slice (tsb.map Tm.av)])) hl
    rw[a7] at hcb
    by_cases h5:kb=1
    · subst h5
      have h6:¬na=nb:=fun e=>h2 ⟨rfl,e⟩
      simp -implicitDefEqProofs only[dU,h6,eK,h54.symm,aB,seval,pK]
      refine hcb.mono ?_
      rintro _ s2 ⟨rfl,hp⟩
      simp -implicitDefEqProofs only[aB,seval]
      exact hp.from (hQ _ _) (hS' _ _)
    · simp -implicitDefEqProofs only[dU,h5,eK,h54.symm,aB,seval,pK]
      refine hcb.mono ?_
      rintro _ s2 ⟨rfl,hp⟩
      simp -implicitDefEqProofs only[aB,seval]
      exact hp.from (hQ _ _) (hS' _ _)
  · subst h2
    have hcb:=SG hg (eb rfl) h3 c m q tr _ (hS' (.cells [.int .i64 ka,.int .i64 na,.str sa,.slice (tsa.map Tm.av)]) (.cells [.int .i64 1,.int .i64 nb,.str sb',.slice (tsb.map Tm.av)])) hl
    rw[a7] at hcb
    simp -implicitDefEqProofs only[dU,h1,eK,h54.symm,aB,seval,pK]
    refine hcb.mono ?_
    rintro _ s2 ⟨rfl,hp⟩
    simp -implicitDefEqProofs only[aB,seval]
    exact hp.from (hQ _ _) (hS' _ _)
  · rw[rO] at h3
    simp only[Tm.k,Tm.n,Tm.s,Tm.ts] at h3
    obtain⟨rfl,rfl,rfl,hlen⟩:=h3
    have dH:decide ((tsa.length:Int)=(tsb.length:Int))=true:=by simp [hlen]
    simp -implicitDefEqProofs only[dU,eK,dH,h54.symm,aE,h1,aB,seval,pK]
    have hS0:=hS' (.cells [.int .i64 ka,.int .i64 na,.str sa,.slice (tsa.map Tm.av)]) (.cells [.int .i64 ka,.int .i64 na,.str sa,.slice (tsb.map Tm.av)])
    have hQ0:=hQ (.cells [.int .i64 ka,.int .i64 na,.str sa,.slice (tsa.map Tm.av)]) (.cells [.int .i64 ka,.int .i64 na,.str sa,.slice (tsb.map Tm.av)])
    have e4:((st.aC b4 (.cells [.int .i64 ka,.int .i64 na,.str sa,.slice (tsa.map Tm.av)])).aC b5 (.cells [.int .i64 ka,.int .i64 na,.str sa,.slice (tsb.map Tm.av)])) b4=some (.cells [.int .i64 ka,.int .i64 na,.str sa,.slice (tsa.map Tm.av)]):=by rw[aA.aF _ _ h54.symm,aA.aH]
    have e5:((st.aC b4 (.cells [.int .i64 ka,.int .i64 na,.str sa,.slice (tsa.map Tm.av)])).aC b5 (.cells [.int .i64 ka,.int .i64 na,.str sa,.slice (tsb.map Tm.av)])) b5=some (.cells [.int .i64 ka,.int .i64 na,.str sa,.slice (tsb.map Tm.av)]):=aA.aH _ _ _
    generalize (st.aC b4 (.cells [.int .i64 ka,.int .i64 na,.str sa,.slice (tsa.map Tm.av)])).aC b5 (.cells [.int .i64 ka,.int .i64 na,.str sa,.slice (tsb.map Tm.av)])=s0 at *
    refine dW (σ:=Sub×List Int×List Int×AV×aA) [1000000,4,5] [0,4,5,79] tsa
     (fun i p=>cD p.1∧cF Sm p.1∧fN p.2.2.2.2 c m p.2.2.2.1 p.1 (tr++p.2.1)∧lI c m s0 q p.2.2.2.2 p.2.2.2.1∧dM g p.1 (tsa.drop i) (tsb.drop i)=some (r,σ',p.2.2.1)∧p.2.1++p.2.2.1=add)
     (fun i _=>[(6,.bool false),(80,.int .i64 i)]) (fun _ p=>p.2.2.2.2) (by decide +kernel)
     ⟨(σ,[],add,q,s0),⟨hg,hsm,by rw[fM];exact hS0,lI.refl _ _ _ _,h4,rfl⟩,aP.mk (by simp -implicitDefEqProofs only[aB,↓aX,seval])⟩ (fun i x p hx hlt bF hdr hinv=>?_) (fun p hge hinv=>?_)
    case refine_2=>
     obtain⟨σi,ai,rest,qi,si⟩:=p
     obtain⟨i1,i2,i3,i4,i5,i6⟩:=hinv
     simp only at i1 i2 i3 i4 i5 i6
     rw[gU,hlen,gU] at i5
     simp only[dM,Option.some.injEq,Prod.mk.injEq] at i5
     obtain⟨rfl,rfl,rfl⟩:=i5
     rw[fM] at i6
     subst i6
     simp -implicitDefEqProofs only[hge,aB,seval]
     exact⟨qi,i3,hQ0.trans hS0 i4⟩
    obtain⟨σi,ai,rest,qi,si⟩:=p
    obtain⟨i1,i2,i3,i4,i5,i6⟩:=hinv
    simp only at i1 i2 i3 i4 i5 i6
    obtain⟨y,hy⟩:∃y,tsb[i]?=some y:=⟨_,eQ (by omega)⟩
    have v9:tsb.drop i=y::tsb.drop (i+1):=by
     obtain⟨h1,h2⟩:=fD.1 hy
     rw[nO h1,h2]
    rw[hdr,v9,dM] at i5
    have f4:=i4.frame b4 _ e4 h4c h4m (hl4 q rfl)
    have f5:=i4.frame b5 _ e5 h5c h5m hl5
    have hw:=bK (n:=(i:Int)+1)
    simp -implicitDefEqProofs only[bF,aB,seval]
    refine wP [(0,1),(1,1),(3,1),(6,1),(8,1),(2,2),(4,1),(5,2),(7,2),(9,1),(10,2),(11,0),(12,1)] [0,1,3,6,8,2,4,5,7,9,10,12] mixed ?_
    simp -implicitDefEqProofs only[f4,f5,bJ (av:=Tm.av) aQ hx (aN x),bJ (av:=Tm.av) aQ hy (aN y),aB,seval,pK]
    cases hu:cV g σi x y with
    | none=>rw[hu] at i5;cases i5
    | some p1=>
     obtain⟨r1,σ1,tr1⟩:=p1
     rw[hu] at i5
     have hx1:Sm x:=aF8 x (cL hx)
     have hy1:Sm y:=aF9 y (cL hy)
     have hU:=uY i1 hu
     have hA:=(KL aV2 g).1 σi x y r1 σ1 tr1 i1 hu i2 hx1 hy1
     have iO:tr1.length≤rest.length:=by
      cases r1 with
      | false=>simp only[Option.some.injEq,Prod.mk.injEq] at i5;rw[i5.2.2];exact cQ _
      | true=>
       simp only at i5
       cases hu2:dM g σ1 (tsa.drop (i+1)) (tsb.drop (i+1)) with
       | none=>rw[hu2] at i5;cases i5
       | some p2=>
        obtain⟨r2,σ2,tr2⟩:=p2
        rw[hu2] at i5
        simp only[Option.some.injEq,Prod.mk.injEq] at i5
        rw[←i5.2.2,dX];omega
     have aQ5:add.length=ai.length+rest.length:=by rw[←i6,dX]
     refine(IH σi x y r1 σ1 tr1 i1 i2 hx1 hy1 hu c m qi (tr++ai) si i3 (by rw[dX];omega)).mono ?_
     rintro _ s2 ⟨rfl,q2,hS2,hQ2⟩
     cases r1 with
     | false=>
      simp only[Option.some.injEq,Prod.mk.injEq] at i5
      obtain⟨rfl,rfl,rfl⟩:=i5
      simp -implicitDefEqProofs only[aB,seval]
      rw[←i6,←lA]
      exact⟨q2,hS2,hQ0.trans hS0 (i4.trans i3 hQ2)⟩
     | true=>
      simp only at i5
      cases hu2:dM g σ1 (tsa.drop (i+1)) (tsb.drop (i+1)) with
      | none=>rw[hu2] at i5;cases i5
      | some p2=>
       obtain⟨r2,σ2,tr2⟩:=p2
       rw[hu2] at i5
       simp only[Option.some.injEq,Prod.mk.injEq] at i5
       obtain⟨rfl,rfl,rfl⟩:=i5
       simp -implicitDefEqProofs only[aB,seval]
       exact⟨(σ1,ai++tr1,tr2,q2,s2),⟨hU.gA,hA,by rw[←lA];exact hS2,i4.trans i3 hQ2,hu2,by rw[lA];exact i6⟩,aP.mk (by simp -implicitDefEqProofs only[hw,aB,seval])⟩
  · have hd:ka=kb→na=nb→sa=sb'→¬(tsa.length:Int)=(tsb.length:Int):=by
     intro e1 e2 e3 e4
     have:sT (Tm.mk ka na sa tsa) (Tm.mk kb nb sb' tsb)=true:=rO.2 ⟨e1,e2,e3,by simp only[Tm.ts];omega⟩
     rw[h3] at this;cases this
    by_cases e1:ka=kb
    · by_cases e2:na=nb
      · by_cases e3:sa=sb'
        · have e4:=hd e1 e2 e3
          subst e1 e2 e3
          simp -implicitDefEqProofs only[eK,dU,h54.symm,h1,aE,e4,aB,seval,pK]
          exact dV _ _
        · subst e1 e2
          simp -implicitDefEqProofs only[eK,dU,h54.symm,h1,e3,aB,seval,pK]
          exact dV _ _
      · subst e1
        simp -implicitDefEqProofs only[eK,dU,h54.symm,h1,e2,aB,seval,pK]
        exact dV _ _
    · clear hd
      simp -implicitDefEqProofs only[eK,h54.symm,h1,h2,e1,aB,seval,pK]
      exact dV _ _
theorem aT9(σ:Sub)(l:List Int)(n:Int):mS (mapOf (σ.out l)) n none=mapOf (σ.out (l++ [n])):=by
 funext x
 unfold mS mapOf Sub.out
 by_cases h:x=n
 · simp [h]
 · simp only[h,cM,dQ,List.mem_singleton,dN]
theorem aPN{P:Program}{st:aA}{m:Nat}{σ:Sub}{l:List Int}{t kt et:TypeId}{n:Int}{K:AV→aA→Prop}(hm:st m=some (.map (mapOf (σ.out l))))(hu:P.underlying t=some (.map kt et))(hk:P.underlying kt=some (.int .i64))
 (h:K (.tup []) (st.aC m (.map (mapOf (σ.out (l++ [n])))))):xE P t st (.map m) (.int .i64 n) K:=by
 unfold xE
 simp only[hu,hm,hk]
 rw[aT9]
 exact h
theorem Sub.OE(σ:Sub):σ.out []=σ:=by funext n;simp [Sub.out]
theorem aVX{φ:AF}{d b n k:Nat}(h:φ d=.int .i64 (k:Int))(hk:k=0∨k<n):fS prog φ 40 (.mslice b 0 n 1) (some (.tmp d)) none none=some (.mslice b k (n - k) 1):=by
 have h1:c8 φ none n n=some n:=rfl
 have h2:c8 φ (some (.tmp d)) 0 n=some k:=by
  unfold c8
  simp only[show φ.eval (.tmp d)=φ d from rfl,h]
  rw[aK (by omega)]
  simp
 unfold fS m8
 rw[aG (by simp [pD])]
 simp only[dC,h1,h2]
 by_cases h3:k=0
 · subst h3;simp
 · have h4:k<n:=by omega
   simp [h3,h4]
theorem aV0{φ:AF}{d b n:Nat}(h:φ d=.int .i64 (n:Int))(hn:n≠0):fS prog φ 40 (.mslice b 0 n 1) (some (.tmp d)) none none=some .eslice:=by
 have h1:c8 φ none n n=some n:=rfl
 have h2:c8 φ (some (.tmp d)) 0 n=some n:=by
  unfold c8
  simp only[show φ.eval (.tmp d)=φ d from rfl,h]
  rw[aK (by omega)]
  simp
 unfold fS m8
 rw[aG (by simp [pD])]
 simp only[dC,h1,h2]
 simp [hn]
theorem O4{φ:AF}{t:TypeId}{ag:Bool}{w d b n k:Nat}(hI:eI prog t=some (ag,w))(h:φ d=.int .i64 (k:Int))(hk:k≤n):fS prog φ t (.mslice b 0 n w) none (some (.tmp d)) none=some (.mslice b 0 k w):=by
 have h1:c8 φ (some (.tmp d)) n n=some k:=by
  unfold c8
  simp only[show φ.eval (.tmp d)=φ d from rfl,h]
  rw[aK (by omega)]
  simp
 have h2:c8 φ none 0 k=some 0:=rfl
 unfold fS m8
 rw[aG (by simp [pD])]
 simp only[hI,h1,h2]
 simp
theorem aIQ{φ:AF}{t:TypeId}{ag:Bool}{w d:Nat}(hI:eI prog t=some (ag,w))(h:φ d=.int .i64 0):fS prog φ t (.fslice []) none (some (.tmp d)) none=some (.fslice []):=by
 have h1:c8 φ (some (.tmp d)) 0 0=some 0:=by
  unfold c8
  simp only[show φ.eval (.tmp d)=φ d from rfl,h]
  simp
 have h2:c8 φ none 0 0=some 0:=rfl
 unfold fS
 rw[aK ⟨rfl,rfl⟩]
 simp only[hI,h1,h2]
theorem aVY{φ:AF}{d:Nat}(h:φ d=.int .i64 0):fS prog φ 40 (.fslice []) (some (.tmp d)) none none=some (.fslice []):=by
 have h1:c8 φ none 0 0=some 0:=rfl
 have h2:c8 φ (some (.tmp d)) 0 0=some 0:=by
  unfold c8
  simp only[show φ.eval (.tmp d)=φ d from rfl,h]
  simp
 unfold fS
 rw[aK ⟨rfl,rfl⟩]
 simp only[dC,h1,h2]
theorem aRS{P:Program}{t:TypeId}{ag:Bool}{b o len w i:Nat}(hI:eI P t=some (ag,w))(hi:i<len):dG P t (.mslice b o len w) (.int .i64 (i:Int))=some (.ptr b (o+i*w)):=by
 unfold dG
 simp only[hI]
 rw[aK ⟨by omega,by omega,trivial⟩]
 simp
abbrev yO:=zi tI_3 (zi zI_3 (zi aZ (zi tI_40 (zi zI_40 (zi dC (zi fH (zi fJ (zi fL (zi tI_178 (zi zI_178 (zi tI_207 (zi zI_207 (zi yS (zi tI_209 (zi zI_209 (zi AY (zi AZ AB)))))))))))))))))
theorem MB(σ:Sub)(tr:List Int)(mark:Nat)(hm:mark≤tr.length)(c m:Nat)(q:AV)(st:aA)(hS:fN st c m q σ tr)(hl:tr.length≤1099511627776) :
 aD prog 194 [.ptr c 0,.int .i64 (mark:Int)] st (fun r st'=>r=.tup []∧∃q',fN st' c m q' (σ.out (tr.drop mark)) (tr.take mark)∧(∀b∈c7 q',b∈c7 q)∧∀x o,st x=some o→x≠c→x≠m→st' x=some o):=by
 have hcm:=hS.sub.cm
 rcases hS.eJ with ⟨rfl,rfl⟩ | ⟨b,cs,rfl,hb,hcs⟩
 · obtain rfl:mark=0:=by simpa using hm
   have e1:=hS.sub.cells
   have hsl:=fun(φ:AF) (d:Nat) (h:φ d=.int .i64 0)=>aVY h
   have hsh:=fun(φ:AF) (d:Nat) (h:φ d=.int .i64 0)=>aIQ dC h
   simp only[Int.ofNat_zero]
   refine wF [1000000] 2 func194 ntmps194 rfl rfl ?_
   intro _
   simp -implicitDefEqProofs only[e1,hsl,aB,seval,yO]
   refine dW (σ:=Unit) [1000000] [0,1,11,12] ([]:List Int) (fun i _=>True) (fun i _=>[(13,.int .i64 i)]) (fun _ _=>st) (by decide +kernel) ⟨(),trivial,aP.mk (by simp -implicitDefEqProofs only[aB,↓aX,seval])⟩ (fun i x _ hx hlt bF hdr hinv=>?_) (fun _ hge hinv=>?_)
   · simp at hlt
   · simp -implicitDefEqProofs only[bS,aS,e1,hsh,aB,seval,yO]
     rw[Sub.OE]
     refine⟨.fslice [],⟨⟨aA.aH _ _ _,?_⟩,.inl ⟨rfl,rfl⟩,by simp [c7]⟩,fun _ h=>h,fun x o h h1 h2=>by rw[aA.aF _ _ h1];exact h⟩
     rw[aA.aF _ _ hcm.symm,hS.sub.map]
 · have e1:=hS.sub.cells
   have hbc:b≠c:=fun e=>hS.apart (by simp [c7,e])
   have hbm:b≠m:=fun e=>hS.IU (by simp [c7,e])
   have hc':∀o,(st.aC m o) c=some (.cells [.map m,.mslice b 0 tr.length 1]):=fun o=>by rw[aA.aF _ _ hcm];exact e1
   have hb':∀o,(st.aC m o) b=some (.cells cs):=fun o=>by rw[aA.aF _ _ hbm];exact hb
   have hm0:st.aC m (.map (mapOf σ))=st:=by
    funext x
    unfold aA.aC
    split
    · rename_i h;rw[h,hS.sub.map]
    · rfl
   have dV:∀st',st'=(st.aC m (.map (mapOf (σ.out (tr.drop mark))))).aC c (.cells [.map m,.mslice b 0 mark 1])→∃q',fN st' c m q' (σ.out (tr.drop mark)) (tr.take mark)∧(∀x∈c7 q',x∈c7 (.mslice b 0 tr.length 1))∧∀x o,st x=some o→x≠c→x≠m→st' x=some o:=by
    rintro _ rfl
    have hlt:(tr.take mark).length=mark:=by rw[dY];omega
    refine⟨.mslice b 0 mark 1,⟨⟨aA.aH _ _ _,by rw[aA.aF _ _ hcm.symm,aA.aH]⟩,.inr ⟨b,cs,by rw[hlt],by rw[aA.aF _ _ hbc];exact hb' _,?_⟩,by simpa [c7] using dA hbc⟩,fun x h=>h,fun x o h h1 h2=>by rw[aA.aF _ _ h1,aA.aF _ _ h2];exact h⟩
    rw[hlt,List.map_take,←hcs,w8,kC hm]
   have hsh:=fun(φ:AF) (d:Nat) (h:φ d=.int .i64 (mark:Int))=>O4 (b:=b) dC h hm
   by_cases hk:mark=0∨mark<tr.length
   · have hsl:=fun(φ:AF) (d:Nat) (h:φ d=.int .i64 (mark:Int))=>aVX (b:=b) h hk
     refine wF [1000000] 2 func194 ntmps194 rfl rfl ?_
     intro _
     simp -implicitDefEqProofs only[e1,hsl,aB,seval,yO]
     refine dW (σ:=Unit) [1000000] [0,1,11,12] (tr.drop mark) (fun i _=>True) (fun i _=>[(13,.int .i64 i)]) (fun i _=>st.aC m (.map (mapOf (σ.out ((tr.drop mark).take i))))) (by decide +kernel) ⟨(),trivial,by rw[lC,Sub.OE,hm0];exact aP.mk (by simp -implicitDefEqProofs only[aB,↓aX,seval])⟩ (fun i x _ hx hlt bF hdr hinv=>?_) (fun _ hge hinv=>?_)
     · have hw:=wrap64 (n:=(i:Int)+1) (by omega) (by rw[pN] at hlt;omega)
       have htk:(tr.drop mark).take (i+1)=(tr.drop mark).take i++ [x]:=by rw[f8,hx];simp
       rw[pN] at hlt bF
       have aZ2:decide ((i:Int)<((tr.length - mark:Nat):Int))=true:=by simp;omega
       have hxt:tr[mark+i]?=some x:=by rw[List.getElem?_drop] at hx;exact hx
       have aRK:cs=(tr.take (mark+i)).map iv++ [iv x]++((tr.drop (mark+i+1)).map iv++cs.drop tr.length):=by
        have h1:cs=tr.map iv++cs.drop tr.length:=by rw[←hcs];exact(qS _ _).symm
        have h2:tr.map iv=(tr.take (mark+i)).map iv++iv x::(tr.drop (mark+i+1)).map iv:=by
         have h3:tr.drop (mark+i)=x::tr.drop (mark+i+1):=by
          obtain⟨g1,g2⟩:=fD.1 hxt
          rw[nO g1,g2]
         rw[←bH (f:=iv),←h3,←lB,qS]
        rw[h2] at h1
        exact h1.trans (by simp)
       have hA:((tr.take (mark+i)).map iv).length=mark+i:=by simp only[aE,dY];omega
       have hat:=aRS (P:=prog) (b:=b) (o:=mark) (len:=tr.length - mark) (w:=1) (i:=i) dC hlt
       have hcb:=hb' (.map (mapOf (σ.out ((tr.drop mark).take i))))
       rw[aRK] at hcb
       have ND:=hc' (.map (mapOf (σ.out ((tr.drop mark).take i))))
       obtain⟨e1',e2,e3,e4,e5,e6⟩:=wC (B:=(tr.drop (mark+i+1)).map iv++cs.drop tr.length) hA
       simp -implicitDefEqProofs only[e6,hat,hcb,ND,bF,xA,aB,seval,yO]
       refine aPN (aA.aH _ _ _) yS aZ ?_
       rw[d4,←htk]
       simp -implicitDefEqProofs only[hw,aB,seval]
       exact⟨(),aP.mk (by simp -implicitDefEqProofs only[aB,seval])⟩
     · rw[eM]
       rw[pN] at hge
       have ND:=hc' (.map (mapOf (σ.out (tr.drop mark))))
       have aZ0:decide (((tr.length - mark:Nat):Int)<((tr.length - mark:Nat):Int))=false:=by simp
       simp -implicitDefEqProofs only[ND,hge,pN,aS,hsh,aB,seval,yO]
       exact dV _ rfl
   · obtain rfl:mark=tr.length:=by omega
     have hn0:tr.length≠0:=by omega
     have hsl:=fun(φ:AF) (d:Nat) (h:φ d=.int .i64 (tr.length:Int))=>aV0 (b:=b) h hn0
     refine wF [1000000] 2 func194 ntmps194 rfl rfl ?_
     intro _
     simp -implicitDefEqProofs only[e1,hsl,jQ,fL,aB,↓aX,seval,yO]
     refine dW (σ:=Unit) [1000000] [0,1,11,12] ([]:List Int) (fun i _=>True) (fun i _=>[(13,.int .i64 i)]) (fun _ _=>st) (by decide +kernel) ⟨(),trivial,aP.mk (by simp -implicitDefEqProofs only[aB,↓aX,seval])⟩ (fun i x _ hx hlt bF hdr hinv=>?_) (fun _ hge hinv=>?_)
     · simp at hlt
     · simp -implicitDefEqProofs only[bS,aS,e1,hsh,aB,seval,yO]
       refine dV _ ?_
       rw[gU,Sub.OE,hm0]
def QS(v:Tm)(D:Nat)(cnt cb:Nat)(st:aA)(r:AV)(st':aA):Prop:=
 ∃mL:Nat,mL≤121∧st'=st.aC cb (.cells [.int .i64 mL]) ∧
  if v.flat D=true∧cnt+v.nodes≤120 then r=.tup [v.av,.bool true]∧mL=cnt+v.nodes else r=.tup [Tm.zero.av,.bool false]
theorem B3{α:Type}(f:α→Nat):∀l m:List α,aM f (l++m)=aM f l+aM f m
 | [],m=>by simp [aM]
 | x::l,m=>by simp only[gF,aM,B3 f l m];omega
abbrev Cv (t:Tm):Prop:=t.cv=true
theorem aFK{σ:Sub}{R:Int→Tm}{rk:Int→Nat}{B f:Nat}(G:Good σ R rk B){t:Tm}{k n:Int}{s:ByteArray}{ts:List Tm}(hw:fF σ f t (.mk k n s ts))(hc:Cv (.mk k n s ts)):t.aJ R=.mk k n s (ts.map (Tm.aJ R)):=by
 rw[←hw.aJ G.uG]
 by_cases hk:k=1
 · rw[Tm.l9 R hk,G.free (show σ n=none from hw.end hk)]
   obtain⟨h1,_⟩:=Tm.oU.1 hc
   obtain⟨rfl,rfl⟩:=h1 hk
   rw[hk];try rfl
 · rw[Tm.kX R hk]
abbrev r8:=zi tI_3 (zi zI_3 (zi aZ (zi tI_4 (zi zI_4 (zi cG (zi tI_9 (zi zI_9 (zi eF (zi tI_28 (zi zI_28 (zi aQ (zi bM (zi bO (zi cA (zi tI_52 (zi zI_52 (zi bX (zi bY (zi bZ (zi b7 (zi bV (zi tI_178 (zi zI_178 (zi tI_240 zI_240))))))))))))))))))))))))
theorem TE{σ:Sub}{R:Int→Tm}{rk:Int→Nat}{B:Nat}(G:Good σ R rk B)(hcv:cF Cv σ)(hsm:cF Sm σ)(c m cb:Nat)(q:AV)(hcb:cb≠c∧cb≠m) :
 ∀(D:Nat) (t:Tm) (cnt:Nat) (st:aA),D≤31→Cv t→Sm t→cnt≤120→gV st c m q σ→st cb=some (.cells [.int .i64 cnt]) →
 aD prog 222 [.ptr c 0,t.av,.int .i64 (31 - D:Int),.ptr cb 0] st (QS (t.aJ R) D cnt cb st)
 | D,t,cnt,st,hD,hct,hst,aZX,hS,hC=>by
  have IH:=fun(D':Nat) (hlt:D'<D) (x:Tm) cnt st=>TE G hcv hsm c m cb q hcb D' x cnt st
  obtain⟨f,hw⟩:=G.wk t
  generalize wk σ t=u at *
  have hcu:=hw.all (p:=Cv) hcv hct
  have hsu:=hw.all (p:=Sm) hsm hst
  have hcw:=fun st (hS:gV st c m q σ)=>G1 hw c m q st hS
  obtain⟨k,n,s,ts⟩:=u
  have hv:=aFK G hw hcu
  rw[hv]
  obtain⟨hlen,p8⟩:=Tm.pI hsu
  obtain⟨_,aRM⟩:=Tm.oU.1 hcu
  refine aD.nB (aD.fin ?_)
  refine wF [1000000,5,10] 4 func222 ntmps222 rfl rfl ?_
  intro _
  simp -implicitDefEqProofs only[aB,seval,r8]
  intro b5 h5 b8 h8
  have h85:b8≠b5:=by rintro rfl;rw[aA.aH] at h8;cases h8
  have hn8:st b8=none:=by rw[aA.aF st _ h85] at h8;exact h8
  have hS':∀o o',gV ((st.aC b5 o).aC b8 o') c m q σ:=fun o o'=>(hS.aC h5).aC (by rw[aA.aF _ _ h85];exact hn8)
  have hb5:cb≠b5:=by rintro rfl;rw[hC] at h5;cases h5
  have hb8:cb≠b8:=by rintro rfl;rw[hC] at hn8;cases hn8
  have hwc:IntKind.i64.wrap ((cnt:Int)+1)=(cnt:Int)+1:=wrap64 (by omega) (by omega)
  simp -implicitDefEqProofs only[h85.symm,aB,seval]
  refine(hcw _ (hS' _ _)).to ?_
  simp only[a7]
  simp -implicitDefEqProofs only[aS,h85.symm,hb5,hb8,hC,hwc,aB,seval,r8]
  have NI:∀(st':aA) (mL:Nat),mL≤121→aL st' (st.aC cb (.cells [.int .i64 mL]))→¬((Tm.mk k n s (ts.map (Tm.aJ R))).flat D=true∧cnt+(Tm.mk k n s (ts.map (Tm.aJ R))).nodes≤120) →
   ∃b l s0,st'=bE s0 b l∧(l≠[]→s0 b=none)∧(∀e∈l,e.b9=false)∧jD l∧∃s2,aL s0 s2∧QS (Tm.mk k n s (ts.map (Tm.aJ R))) D cnt cb st (AV.fin b l (.tup [.agg [.int .i64 0,.int .i64 0,.str ⟨#[]⟩,.fslice []],.bool false])) s2:=fun st' mL h1 h2 h3=>by
   refine⟨0,[],st',rfl,by simp,by simp,⟨4,by simp⟩,_,h2,mL,h1,rfl,?_⟩
   rw[aG h3]
   simp only[Tm.zero,a7,g7,jZ,fQ,t7,nW,rJ,bH,bG]
  have hdr:∀o5 o8 o5' o8' mL,aL (((((st.aC b5 o5).aC b8 o8).aC b5 o5').aC cb (.cells [.int .i64 mL])).aC b8 o8') (st.aC cb (.cells [.int .i64 mL])):=fun o5 o8 o5' o8' mL x=>by
   by_cases e5:x=b5<;>by_cases e8:x=b8<;>by_cases ec:x=cb<;>simp_all [aA.aC]
  refine cT (fun h=>?_) (fun h=>?_)
  case refine_2=>
   simp -implicitDefEqProofs only[h,aS,h85,hb8.symm,aB,seval,r8]
   refine NI _ (cnt+1) (by omega) (hdr _ _ _ _ _) ?_
   simp at h
   rw[Tm.jS]
   omega
  simp -implicitDefEqProofs only[h,aB,seval]
  simp at h
  refine aT (fun h2=>?_) (fun h2=>?_)
  · simp only[bL] at h2
    obtain rfl:D=0:=by omega
    simp -implicitDefEqProofs only[aS,h85,hb8.symm,aB,↓aX,seval,r8]
    exact NI _ (cnt+1) (by omega) (hdr _ _ _ _ _) (by rw[Tm.D5];simp)
  simp only[cI] at h2
  obtain⟨D',rfl⟩:∃D',D=D'+1:=⟨D - 1,by omega⟩
  have aRN:IntKind.i64.wrap (31 - ((D':Int)+1)+1)=31 - (D':Int):=by rw[wrap64 (by omega) (by omega)];omega
  simp -implicitDefEqProofs only[aS,hb5.symm,aB,↓aX,seval,r8]
  intro b10 h10
  have MZ:b10≠b5:=by rintro rfl;simp [aA.aC,hb5.symm] at h10
  have A3:b10≠b8:=by rintro rfl;simp [aA.aC,h85,hb8.symm] at h10
  have M0:b10≠cb:=by rintro rfl;simp [aA.aC] at h10
  have aSA:st b10=none:=by rw[aA.aF _ _ M0,aA.aF _ _ MZ,aA.aF _ _ A3,aA.aF _ _ MZ] at h10;exact h10
  simp -implicitDefEqProofs only[hb5.symm,MZ.symm,aE,aB,seval,r8]
  rw[aA.wS h85]
  have hWS:gV ((st.aC b8 (.cells [.int .i64 0,.int .i64 0,.str ⟨#[]⟩,.fslice []])).aC b5 (.cells [.int .i64 k,.int .i64 n,.str s,.slice (ts.map Tm.av)])) c m q σ:=(hS.aC hn8).aC (by rw[aA.aF _ _ h85.symm];exact h5)
  have hW8:((st.aC b8 (.cells [.int .i64 0,.int .i64 0,.str ⟨#[]⟩,.fslice []])).aC b5 (.cells [.int .i64 k,.int .i64 n,.str s,.slice (ts.map Tm.av)])) b8=some (.cells [.int .i64 0,.int .i64 0,.str ⟨#[]⟩,.fslice []]):=by rw[aA.aF _ _ h85,aA.aH]
  have hWd:∀X Y Z,aL (((((st.aC b8 (.cells [.int .i64 0,.int .i64 0,.str ⟨#[]⟩,.fslice []])).aC b5 (.cells [.int .i64 k,.int .i64 n,.str s,.slice (ts.map Tm.av)])).aC cb X).aC b8 Y).aC b10 Z) (st.aC cb X):=fun X Y Z x=>by
   by_cases e5:x=b5<;>by_cases e8:x=b8<;>by_cases ec:x=cb<;>by_cases e10:x=b10<;>simp_all [aA.aC]
  generalize ((st.aC b8 (.cells [.int .i64 0,.int .i64 0,.str ⟨#[]⟩,.fslice []])).aC b5 (.cells [.int .i64 k,.int .i64 n,.str s,.slice (ts.map Tm.av)]))=W at *
  obtain⟨aQZ,aQ0⟩:=hS.ne aSA
  refine dW (σ:=Nat) [1000000,5,10] [0,2,3,8,10,40,41] ts
   (fun i b=>(((ts.take i).map (Tm.aJ R)).map Tm.av≠[]→(aA.aC (W.aC cb (.cells [.int .i64 ((cnt+1+aM Tm.nodes ((ts.take i).map (Tm.aJ R)):Nat):Int)])) b10 (.cells ([.int .i64 k,.int .i64 n,.str s]++ [bQ 4 b (((ts.take i).map (Tm.aJ R)).map Tm.av)]))) b=none) ∧
    cnt+1+aM Tm.nodes ((ts.take i).map (Tm.aJ R))≤120∧((ts.take i).map (Tm.aJ R)).all (fun x=>x.flat D')=true)
   (fun i b=>[(9,.bool false),(42,.int .i64 i)])
   (fun i b=>j0 (W.aC cb (.cells [.int .i64 ((cnt+1+aM Tm.nodes ((ts.take i).map (Tm.aJ R)):Nat):Int)])) b10 b [.int .i64 k,.int .i64 n,.str s] (((ts.take i).map (Tm.aJ R)).map Tm.av)) (by decide +kernel)
   ⟨0,⟨fun h=>absurd rfl h,by simp [aM];omega,by simp⟩,aP.mk (by simp -implicitDefEqProofs only[aB,↓aX,seval])⟩ (fun i x b hx hlt bF v9 hinv=>?_) (fun b hge hinv=>?_)
  · obtain⟨i1,i2,i3⟩:=hinv
    have htk:(ts.take (i+1)).map (Tm.aJ R)=(ts.take i).map (Tm.aJ R)++ [x.aJ R]:=by rw[f8,hx];simp
    have dH:(((ts.take i).map (Tm.aJ R)).map Tm.av).length=i:=by simp only[aE,dY];omega
    have hw:=bK (n:=(i:Int)+1)
    have fV:=cL hx
    generalize hl0:(ts.take i).map (Tm.aJ R)=l0 at *
    generalize hc0:cnt+1+aM Tm.nodes l0=c0 at *
    have hWc:(W.aC cb (.cells [.int .i64 (c0:Int)])) cb≠none:=by rw[aA.aH];simp
    have hs1:=mR i1 hWc M0.symm
    have hsS:gV (j0 (W.aC cb (.cells [.int .i64 (c0:Int)])) b10 b [.int .i64 k,.int .i64 n,.str s] (l0.map Tm.av)) c m q σ:=by
     have h1:=(hWS.KM (o:=.cells [.int .i64 (c0:Int)]) hcb.1 hcb.2)
     exact⟨by rw[mR i1 (by rw[h1.cells];simp) aQZ.symm];exact h1.cells,by rw[mR i1 (by rw[h1.map];simp) aQ0.symm];exact h1.map⟩
    rw[aA.aH] at hs1
    simp -implicitDefEqProofs only[bF,aRN,bJ (av:=Tm.av) aQ hx (aN x),bU,aN,aB,↓aX,seval,r8]
    refine(IH D' (Nat.lt_succ_self _) x c0 _ (by omega) (aRM x fV) (p8 x fV) i2 hsS hs1).mono ?_
    rintro r s2 ⟨mL,aRH,rfl,hr⟩
    obtain⟨e1,i1'⟩:=aG1 (o:=.cells [.int .i64 (mL:Int)]) i1 hWc M0.symm
    rw[e1,d4]
    rw[d4] at i1'
    have rR:(ts.map (Tm.aJ R))=l0++(x.aJ R)::(ts.drop (i+1)).map (Tm.aJ R):=by rw[←hl0,←bH,←v9,←lB,qS]
    by_cases hok:(x.aJ R).flat D'=true∧c0+(x.aJ R).nodes≤120
    · rw[aK hok] at hr
      obtain⟨rfl,rfl⟩:=hr
      have hbo:=kW i1'
      simp -implicitDefEqProofs only[bU,aN,Tm.d8,Tm.eO,hbo,rA,aB,↓aX,seval,r8]
      refine fT aQ bM bO rfl rfl (g9 (aN _) (Tm.d8 _)) (iC _) i1' (by simp only[dH,bA,bS];omega) (by simp only[dH,bA,bS];omega) (fun b' hb'=>?_)
      rw[show l0.map Tm.av++ [(x.aJ R).av]=((ts.take (i+1)).map (Tm.aJ R)).map Tm.av by rw[htk];simp] at hb' ⊢
      obtain⟨g1,g2,g3⟩:=uH hb'
      simp only[gF,e9] at g1 g3
      have hcc:cnt+1+aM Tm.nodes ((ts.take (i+1)).map (Tm.aJ R))=c0+(x.aJ R).nodes:=by rw[htk,B3,aM,aM,←hc0];omega
      simp -implicitDefEqProofs only[g3,pS,jF,g1,hw,aS,aB,seval,r8]
      rw[hcc]
      exact⟨b',⟨g2,hok.2,by rw[htk,zB,i3];simp [hok.1]⟩,aP.mk (by simp -implicitDefEqProofs only[aB,seval])⟩
    · rw[aG hok] at hr
      subst hr
      obtain⟨e2,i2'⟩:=aG1 (x:=b8) (o:=.cells [.int .i64 0,.int .i64 0,.str ⟨#[]⟩,.fslice []]) i1' (by rw[aA.aF _ _ hb8.symm,hW8];simp) A3.symm
      have h8o:=mR i1' (x:=b8) (by rw[aA.aF _ _ hb8.symm,hW8];simp) A3.symm
      rw[aA.aF _ _ hb8.symm,hW8] at h8o
      simp -implicitDefEqProofs only[aS,h8o,Tm.zero,a7,bG,aB,↓aX,seval,r8]
      rw[e2]
      refine NI _ mL aRH (aTQ (hWd _ _ _) i2') ?_
      rw[Tm.jS,Tm.t8,rR,zB,iS,B3,aM]
      rintro⟨h3,h4⟩
      simp only[cK] at h3
      exact hok ⟨h3.2.1,by omega⟩
  · obtain⟨i1,i2,i3⟩:=hinv
    rw[eM] at i1 i2 i3 ⊢
    have hbo:=kW i1
    have hx8:(W.aC cb (.cells [.int .i64 ((cnt+1+aM Tm.nodes (ts.map (Tm.aJ R)):Nat):Int)])) b8≠none:=by rw[aA.aF _ _ hb8.symm,hW8];simp
    have h8o:=mR i1 (x:=b8) hx8 A3.symm
    rw[aA.aF _ _ hb8.symm,hW8] at h8o
    simp -implicitDefEqProofs only[aS,hge,hbo,h8o,jF,aB,seval,r8]
    obtain⟨h5,h6⟩:=sZ (o:=.cells [.int .i64 k,.int .i64 n,.str s,bQ 4 b ((ts.map (Tm.aJ R)).map Tm.av)]) i1 hx8 A3.symm
    have wA:cnt+(Tm.mk k n s (ts.map (Tm.aJ R))).nodes=cnt+1+aM Tm.nodes (ts.map (Tm.aJ R)):=by rw[Tm.jS];omega
    refine⟨b,_,_,h5,h6,qL _,⟨4,iC _⟩,_,?_,_,Nat.le_succ_of_le i2,rfl,?_⟩
    · rw[aA.nN _ _ _ A3]
      exact hWd _ _ _
    · rw[aK ⟨by rw[Tm.t8];exact i3,by rw[wA];exact i2⟩,wA]
      refine⟨?_,rfl⟩
      simp only[jZ,g7,bH,bG,fQ,nW,t7,m9,a7]
termination_by D=>D
decreasing_by exact hlt
def I4(v:Tm):AV:=if v.flat 30=true∧v.nodes≤120 then .tup [v.av,.bool true] else .tup [Tm.zero.av,.bool false]
abbrev PV:=zi tI_3 (zi zI_3 (zi aZ (zi tI_4 (zi zI_4 (zi cG (zi tI_52 (zi zI_52 (zi bX (zi bY (zi bZ (zi b7 (zi bV (zi tI_178 (zi zI_178 (zi tI_240 zI_240)))))))))))))))
theorem TD{σ:Sub}{R:Int→Tm}{rk:Int→Nat}{B:Nat}(G:Good σ R rk B)(hcv:cF Cv σ)(hsm:cF Sm σ)(c m:Nat)(q:AV)(t:Tm)(hct:Cv t)(hst:Sm t)(st:aA)(hS:gV st c m q σ) :
 aD prog 183 [.ptr c 0,t.av] st (fun r st'=>r=I4 (t.aJ R)∧st'=st):=by
 refine aD.done ?_
 refine wF [1000000,6] 2 func183 ntmps183 rfl rfl ?_
 intro _
 simp -implicitDefEqProofs only[aS,aB,↓aX,seval,PV]
 intro b4 h4 b6 h6
 have hne:b6≠b4:=by rintro rfl;rw[aA.aH] at h6;cases h6
 have hn6:st b6=none:=by rw[aA.aF st _ hne] at h6;exact h6
 have hS':∀o o',gV ((st.aC b4 o).aC b6 o') c m q σ:=fun o o'=>(hS.aC h4).aC (by rw[aA.aF _ _ hne];exact hn6)
 obtain⟨h6c,h6m⟩:=hS.ne hn6
 have hc:=TE G hcv hsm c m b6 q ⟨h6c,h6m⟩ 30 t 0 _ (by omega) hct hst (by omega) (hS' (.cells [.int .i64 0,.int .i64 0,.str ⟨#[]⟩,.fslice []]) (.cells [.int .i64 0])) (aA.aH _ _ _)
 rw[show(31 - ((30:Nat):Int))=1 from rfl] at hc
 refine hc.mono ?_
 rintro r s2 ⟨mL,_,rfl,hr⟩
 unfold I4
 rw[gN] at hr
 split at hr
 · rename_i hok
   obtain⟨rfl,_⟩:=hr
   rw[aK hok]
   simp -implicitDefEqProofs only[Tm.fG,Tm.d8,aS,hne.symm,aB,seval,PV]
   exact⟨by simp only[nK,uQ,Tm.soft,bH,bG],(((aL.refl _).aC h4).aC hn6).aC h4⟩
 · rename_i hok
   subst hr
   rw[aG hok]
   simp -implicitDefEqProofs only[Tm.zero,a7,bG,aS,hne.symm,aB,seval,PV]
   exact⟨by simp only[mU,nK,oF,uQ,yL,tB,bH,bG],(((aL.refl _).aC h4).aC hn6).aC h4⟩
abbrev aW5:=zi tI_178 (zi zI_178 (zi tI_207 (zi zI_207 (zi yS (zi tI_209 (zi zI_209 (zi AY (zi AZ AB))))))))
theorem aOK(st:aA):aD prog 148 [] st (fun r st'=>∃c m,r=.ptr c 0∧fN st' c m (.fslice []) Sub.none []∧lI c m st (.fslice []) st' (.fslice [])∧st c=none∧st m=none):=by
 refine wF [1000000,3] 0 func148 ntmps148 rfl rfl ?_
 intro _
 simp -implicitDefEqProofs only[aB,seval,aW5]
 intro m hm c hc
 have hne:c≠m:=by rintro rfl;rw[aA.aH] at hc;cases hc
 have hnc:st c=none:=by rw[aA.aF st _ hne] at hc;exact hc
 refine⟨c,m,rfl,⟨⟨aA.aH _ _ _,by rw[aA.aF _ _ hne.symm,aA.aH];try rfl⟩,.inl ⟨rfl,rfl⟩,by simp [c7]⟩,⟨fun x o h h1 h2 _=>by rw[aA.aF _ _ h1,aA.aF _ _ h2];exact h,by simp [c7]⟩,hnc,hm⟩
theorem gV.acc{st:aA}{c m b:Nat}{q:AV}{σ:Sub}{l:List AV}(h:gV st c m q σ)(hb:l≠[]→st b=none):gV (bE st b l) c m q σ:=by
 cases l with
 | nil=>exact h
 | cons x l=>exact h.aC (hb (by simp))
abbrev a0F:=zi tI_3 (zi zI_3 (zi aZ (zi tI_23 (zi zI_23 (zi pZ (zi sN (zi sP (zi qM (zi tI_28 (zi zI_28 (zi aQ (zi bM (zi bO (zi cA (zi tI_52 (zi zI_52 (zi bX (zi bY (zi bZ (zi b7 (zi bV (zi tI_118 (zi zI_118 (zi v3 (zi v4 (zi v5 (zi v6 vQ)))))))))))))))))))))))))))
abbrev P1:=zi tI_3 (zi zI_3 (zi aZ (zi tI_4 (zi zI_4 (zi cG (zi tI_28 (zi zI_28 (zi aQ (zi bM (zi bO (zi cA (zi tI_52 (zi zI_52 (zi bX (zi bY (zi bZ (zi b7 bV)))))))))))))))))
theorem aMO(l l':List Tm)(g:FuncId)(st:aA)(hc:∀x∈l,∀(y:Tm) (st:aA),aD prog g [Tm.av x,Tm.av y] st (fun r st'=>r=.bool (Tm.same x y)∧st'=st)) :
 aD prog 81 [.slice (l.map Tm.av),.slice (l'.map Tm.av),.func g []] st (fun r st'=>r=.bool (gK Tm.same l l')∧st'=st):=by
 refine wF [1000000] 3 func81 ntmps81 rfl rfl ?_
 simp only[dK,AV.fits,dZ,aE]
 intro ⟨⟨hl,_⟩,⟨hl',_⟩⟩
 simp -implicitDefEqProofs only[aE,aB,seval,P1]
 refine⟨fun h4=>?_,fun h4=>?_⟩
 · simp -implicitDefEqProofs only[aB,seval]
   simp only[gH,cI] at h4
   rw[AS _ (show l.length≠l'.length by omega)]
 simp only[jY,bL] at h4
 have h4':l.length=l'.length:=by omega
 simp -implicitDefEqProofs only[aE,aB,seval,P1]
 refine dW (σ:=Unit) [1000000] [1,2,15,16] l (fun i _=>∀(j:Nat) (x y:Tm),j<i→l[j]?=some x→l'[j]?=some y→Tm.same x y=true) (fun i _=>[(17,.int .i64 i)]) (fun _ _=>st) (by decide +kernel) ⟨(),by intro j x y h;omega,aP.mk (by simp -implicitDefEqProofs only[aB,↓aX,seval])⟩ (fun i x _ hx hlt bF hdr c9=>?_) (fun _ hge c9=>?_)
 case refine_2=>
  simp -implicitDefEqProofs only[hge,aB,seval]
  rw[AP _ h4' (fun j x y h6 h7=>c9 j x y (by have:=(fD.1 h6).1;omega) h6 h7)]
 obtain⟨y,hy⟩:∃y,l'[i]?=some y:=⟨_,eQ (h4'▸hlt)⟩
 have hw:=bK (n:=(i:Int)+1)
 simp -implicitDefEqProofs only[bF,bU,aN,Tm.d8,Tm.eO,bJ (av:=Tm.av) aQ hx (aN x),bJ (av:=Tm.av) aQ hy (aN y),aB,↓aX,seval,P1]
 refine(hc x (cL hx) y _).to ?_
 simp -implicitDefEqProofs only[aB,seval]
 refine⟨fun h6=>?_,fun h6=>?_⟩
 · simp -implicitDefEqProofs only[aB,seval]
   have h7:Tm.same x y=false:=by simpa using h6
   rw[AQ _ i x y hx hy h7]
 have h7:Tm.same x y=true:=by simpa using h6
 simp -implicitDefEqProofs only[aB,seval]
 refine⟨(),fun j u v hj hu hv=>?_,aP.mk (by simp -implicitDefEqProofs only[hw,aB,seval])⟩
 rcases kN j i with h8 | h8
 · exact c9 j u v h8 hu hv
 · obtain rfl:j=i:=by omega
   rw[hx] at hu;rw[hy] at hv;cases hu;cases hv;exact h7
abbrev a0E:=zi tI_3 (zi zI_3 (zi aZ (zi tI_9 (zi zI_9 (zi eF (zi tI_23 (zi zI_23 (zi pZ (zi sN (zi sP (zi qM (zi tI_28 (zi zI_28 (zi aQ (zi bM (zi bO (zi cA (zi tI_52 (zi zI_52 (zi bX (zi bY (zi bZ (zi b7 (zi bV (zi tI_118 (zi zI_118 (zi v3 (zi v4 (zi v5 (zi v6 vQ))))))))))))))))))))))))))))))
abbrev JX:=zi tI_3 (zi zI_3 (zi aZ (zi tI_4 (zi zI_4 (zi cG (zi tI_9 (zi zI_9 (zi eF (zi tI_28 (zi zI_28 (zi aQ (zi bM (zi bO (zi cA (zi tI_52 (zi zI_52 (zi bX (zi bY (zi bZ (zi b7 bV))))))))))))))))))))
theorem SO:∀(a b:Tm) (st:aA),aD prog 82 [a.av,b.av] st (fun r st'=>r=.bool (a.same b)∧st'=st)
 | .mk k n s ts,.mk k' n' s' ts',st=>by
  have hc:=aMO ts ts' 82 st fun x hx y st=>SO x y st
  refine wF [] 2 func82 ntmps82 rfl rfl ?_
  intro _
  simp only[a7,Tm.JF]
  simp -implicitDefEqProofs only[aB,seval,JX]
  refine cT (fun h1=>?_) (fun h1=>?_)
  case refine_2=>
   simp -implicitDefEqProofs only[h1,aB,seval]
   simp at h1
   simp []
  simp -implicitDefEqProofs only[h1,aB,seval,JX]
  refine cT (fun h2=>?_) (fun h2=>?_)
  case refine_2=>
   simp -implicitDefEqProofs only[h2,aB,seval]
   simp at h2
   simp []
  simp -implicitDefEqProofs only[h2,aB,seval,JX]
  refine cT (fun h3=>?_) (fun h3=>?_)
  case refine_2=>
   simp -implicitDefEqProofs only[h3,aB,seval]
   simp at h3
   simp []
  simp -implicitDefEqProofs only[h3,aB,seval,JX]
  refine hc.to ?_
  simp -implicitDefEqProofs only[aB,seval]
termination_by a=>SizeOf.sizeOf a
decreasing_by have:=List.sizeOf_lt_of_mem hx;simp only[Tm.mk.sizeOf_spec];omega
abbrev CA:=zi tI_3 (zi zI_3 (zi aZ (zi tI_4 (zi zI_4 (zi cG (zi tI_9 (zi zI_9 (zi eF (zi tI_28 (zi zI_28 (zi aQ (zi bM (zi bO (zi cA (zi tI_52 (zi zI_52 (zi bX (zi bY (zi bZ (zi b7 bV))))))))))))))))))))
theorem TI:∀(a b:Tm) (st:aA),aD prog 95 [a.av,b.av] st (fun r st'=>r=.bool (a.same b)∧st'=st)
 | .mk k n s ts,.mk k' n' s' ts',st=>by
  have hc:=fun(x:Tm) (hx:x∈ts) y st=>TI x y st
  refine wF [] 2 func95 ntmps95 rfl rfl ?_
  simp only[a7,dK,AV.fits,dZ,aE,Tm.JF]
  intro ⟨⟨_,_,_,hl,_⟩,⟨_,_,_,hl',_⟩⟩
  simp -implicitDefEqProofs only[aB,seval,CA]
  refine cT (fun h1=>?_) (fun h1=>?_)
  case refine_2=>
   simp -implicitDefEqProofs only[h1,aB,seval]
   simp at h1
   simp [h1]
  simp -implicitDefEqProofs only[h1,aB,seval,CA]
  refine cT (fun h2=>?_) (fun h2=>?_)
  case refine_2=>
   simp -implicitDefEqProofs only[h2,aB,seval]
   simp at h2
   simp [h2]
  simp -implicitDefEqProofs only[h2,aB,seval,CA]
  refine cT (fun h3=>?_) (fun h3=>?_)
  case refine_2=>
   simp -implicitDefEqProofs only[h3,aB,seval]
   simp at h3
   simp [h3]
  simp -implicitDefEqProofs only[h3,aE,aB,seval,CA]
  refine⟨fun h4=>?_,fun h4=>?_⟩
  · simp -implicitDefEqProofs only[aB,seval]
    simp only[gH,cI] at h4
    rw[AS _ (show ts.length≠ts'.length by omega)]
    simp
  simp -implicitDefEqProofs only[aB,seval]
  simp only[jY,bL] at h1 h2 h3 h4
  have h4':ts.length=ts'.length:=by omega
  subst h1 h2 h3
  simp only[dU,iL]
  refine oI (α:=Nat) [] (fun i=>i≤ts.length∧∀(j:Nat) (x y:Tm),j<i→ts[j]?=some x→ts'[j]?=some y→Tm.same x y=true)
   (fun i=>[(2,.pptr (.agg [.int .i64 k,.int .i64 n,.str s,.slice (ts.map Tm.av)])),(3,.pptr (.agg [.int .i64 k,.int .i64 n,.str s,.slice (ts'.map Tm.av)])),(5,.int .i64 i)]) (fun _=>st) (fun i=>ts.length - i) (by decide +kernel)
   ⟨0,⟨by omega,by intro j x y h;omega⟩,aP.mk (by simp -implicitDefEqProofs only[aB,↓aX,seval])⟩ ?_
  intro i ⟨hi,c9⟩
  simp -implicitDefEqProofs only[aE,aB,seval,CA]
  refine⟨fun h5=>?_,fun h5=>?_⟩
  case refine_2=>
   simp -implicitDefEqProofs only[aB,seval]
   simp only[cI,gT] at h5
   rw[AP _ h4' (fun j x y h6 h7=>c9 j x y (by have:=(fD.1 h6).1;omega) h6 h7)]
  simp only[bL,gT] at h5
  obtain⟨x,hx⟩:∃x,ts[i]?=some x:=⟨_,eQ h5⟩
  obtain⟨y,hy⟩:∃y,ts'[i]?=some y:=⟨_,eQ (h4'▸h5)⟩
  simp -implicitDefEqProofs only[aB,seval]
  refine GU mixed (by decide +kernel) (by decide +kernel) ?_
  simp -implicitDefEqProofs only[bJ (av:=Tm.av) aQ hx (aN x),bJ (av:=Tm.av) aQ hy (aN y),bU,aN,aB,seval,CA]
  refine(hc x (cL hx) y st).to ?_
  simp -implicitDefEqProofs only[aB,seval]
  refine⟨fun h6=>?_,fun h6=>?_⟩
  · simp -implicitDefEqProofs only[aB,seval]
    have h7:Tm.same x y=false:=by simpa using h6
    rw[AQ _ i x y hx hy h7]
  have h7:Tm.same x y=true:=by simpa using h6
  simp -implicitDefEqProofs only[aB,seval]
  refine⟨i+1,by omega,⟨by omega,fun j u v hj hu hv=>?_⟩,aP.mk ?_⟩
  · rcases kN j i with h8 | h8
    · exact c9 j u v h8 hu hv
    · obtain rfl:j=i:=by omega
      rw[hx] at hu;rw[hy] at hv;cases hu;cases hv;exact h7
  · have:=bK (n:=(i:Int)+1)
    simp -implicitDefEqProofs only[this,aB,seval]
termination_by a=>SizeOf.sizeOf a
decreasing_by have:=List.sizeOf_lt_of_mem hx;simp only[Tm.mk.sizeOf_spec];omega
end Go.AW
