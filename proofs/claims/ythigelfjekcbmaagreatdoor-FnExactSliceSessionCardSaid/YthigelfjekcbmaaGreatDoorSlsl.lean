/- Searches as data: the reference's, and the program's. -/
import Derived.Test.YthigelfjekcbmaaGreatDoorSlsk
import Derived.Test.YthigelfjekcbmaaGreatDoorSlsj
import Derived.Test.YthigelfjekcbmaaGreatDoorSlsg
import Derived.Test.YthigelfjekcbmaaGreatDoorSlsi
set_option linter.unusedSimpArgs false
set_option linter.unusedVariables false
set_option maxRecDepth 100000
namespace Go.AW
def C8(c:Cl):Int:=(bO (c.1::c.2) []).foldl (fun n v=>if n≤v then v+1 else n) 0
def mI(c:Cl):Nat:=(C8 c).toNat
def cU(N:Nat)(t:Tm):Tm:=bH (fun v=>v+(N:Int)) t
def dZ(t:Tm):Bool:=t.flat 30&&decide (t.nodes≤120)
def pC(t:Tm):Bool:=decide (t.k=3)&&decide (t.s=⟨#[33]⟩)&&decide ((t.ts.length:Int)=0)
def DG(c:Cl)(t:Tm):Bool:=decide (c.1.s=t.s)&&decide ((c.1.ts.length:Int)=(t.ts.length:Int))
def eO(p:List Cl)(t:Tm):List Nat:=(List.range p.length).filter fun i=>match p[i]? with
 | some c=>DG c t
 | none=>false
def oA(c:Int):Int:=if c=2 then 4 else if c=3 then 5 else if c=4 then 6 else 7
noncomputable def g7(σ:Sub)(vars:List Int):Option (List Tm):=
 if((vars.map (rs σ)).all dZ=true)∧(bO (vars.map (rs σ)) []).length≤26 then some (nL (vars.map (rs σ))) else none
structure RG where
 t:Tm
 aU:Nat
structure RC where
 goal:Tm
 rest:List RG
 left:List Nat
 σ:Sub
 N:Nat
structure RS where
 goals:List RG
 σ:Sub
 N:Nat
 chs:List RC
inductive RO where
 | go (s:RS)
 | fail
 | stop (e:Int)
noncomputable def gM(p:List Cl)(chs:List RC)(goal:Tm)(rest:List RG)(σ:Sub)(N:Nat):List Nat→Option RS
 | []=>none
 | i::l=>match p[i]? with
  | none=>none
  | some x=>if(gW σ goal (cU N x.1)).1=true then
   some ⟨x.2.map (fun t=>⟨cU N t,chs.length⟩)++rest,(gW σ goal (cU N x.1)).2.1,N+mI x,if l= [] then chs else chs++ [⟨goal,rest,l,σ,N⟩]⟩
   else gM p chs goal rest σ N l
noncomputable def eX(p:List Cl):Nat→List RC→Option RS
 | 0,_=>none
 | n+1,chs=>match chs.getLast? with
  | none=>none
  | some c=>match gM p chs.dropLast c.goal c.rest c.σ c.N c.left with
   | some s=>some s
   | none=>eX p n chs.dropLast
noncomputable def iJ(p:List Cl)(cnd:Tm→List Nat→List Nat)(s:RS)(g:RG)(rest:List RG):RO:=
 if dZ (g.t.aH (rs s.σ))=false then .stop 3
 else if pC (g.t.aH (rs s.σ))=true then .go ⟨rest,s.σ,s.N,s.chs.take g.aU⟩
 else if isBuiltin (g.t.aH (rs s.σ)).s ((g.t.aH (rs s.σ)).ts.length:Int)=true then
  if(cQ s.σ (g.t.aH (rs s.σ)).s (g.t.aH (rs s.σ)).ts).1=0 then .go ⟨rest,(cQ s.σ (g.t.aH (rs s.σ)).s (g.t.aH (rs s.σ)).ts).2.1,s.N,s.chs⟩
  else if(cQ s.σ (g.t.aH (rs s.σ)).s (g.t.aH (rs s.σ)).ts).1=1 then .fail
  else .stop (oA (cQ s.σ (g.t.aH (rs s.σ)).s (g.t.aH (rs s.σ)).ts).1)
 else if eO p (g.t.aH (rs s.σ))= [] then .stop 8
 else match gM p s.chs (g.t.aH (rs s.σ)) rest s.σ s.N (cnd (g.t.aH (rs s.σ)) (eO p (g.t.aH (rs s.σ)))) with
  | some s'=>.go s'
  | none=>.fail
noncomputable def gL(p:List Cl)(cnd:Tm→List Nat→List Nat)(vars:List Int)(most fuel:Nat)(s:RS):List (List Tm)×Int:=
 match s.goals with
 | []=>if h:most=0 then([],1) else match g7 s.σ vars with
  | none=>([],3)
  | some a=>match eX p s.chs.length s.chs with
   | none=>([a],0)
   | some s'=>(a::(gL p cnd vars (most - 1) fuel s').1,(gL p cnd vars (most - 1) fuel s').2)
 | g::rest=>if h:fuel=0 then([],2) else match iJ p cnd s g rest with
  | .stop e=>([],e)
  | .go s'=>gL p cnd vars most (fuel - 1) s'
  | .fail=>match eX p s.chs.length s.chs with
   | none=>([],0)
   | some s'=>gL p cnd vars most (fuel - 1) s'
termination_by most+fuel
decreasing_by all_goals omega
def kG(q:List Tm):RS:=⟨q.map fun t=>⟨t,0⟩,Sub.none,26,[]⟩
noncomputable def sF(p:List Cl)(cnd:Tm→List Nat→List Nat)(q:List Tm)(most fuel:Nat):List (List Tm)×Int:=gL p cnd (bO q []) most fuel (kG q)
structure IG where
 t:Tm
 cut:Nat
 up:Int
structure IC where
 goal:Tm
 node:Nat
 rest:List IG
 list:List Nat
 eA:Nat
 taken:Nat
structure IS where
 goals:List IG
 σ:Sub
 tr:List Int
 chs:List IC
 fresh:Nat
 nn:Nat
inductive uJ where
 | go (s:IS)
 | fail (s:IS)
 | stop (e:Int)
noncomputable def fL(p:List Cl)(goal:Tm)(at':Nat)(rest:List IG):List Nat→IS→Bool×IS
 | [],s=>(false,s)
 | i::l,s=>match p[i]? with
  | none=>(false,s)
  | some x=>if(gW s.σ goal (cU s.fresh x.1)).1=true then
   (true,⟨x.2.map (fun t=>⟨cU s.fresh t,s.chs.length,at'⟩)++rest,(gW s.σ goal (cU s.fresh x.1)).2.1,s.tr++(gW s.σ goal (cU s.fresh x.1)).2.2,if l= [] then s.chs else s.chs++ [⟨goal,at',rest,l,s.tr.length,s.nn⟩],s.fresh+26,s.nn⟩)
   else fL p goal at' rest l { s with fresh:=s.fresh+26 }
def IS.pop(s:IS)(c:IC):IS:={ s with chs:=s.chs.dropLast,σ:=s.σ.out (s.tr.drop c.eA),tr:=s.tr.take c.eA,nn:=c.taken }
noncomputable def fT(p:List Cl):Nat→IS→Option IS
 | 0,_=>none
 | n+1,s=>match s.chs.getLast? with
  | none=>none
  | some c=>if(fL p c.goal c.node c.rest c.list (s.pop c)).1=true then some (fL p c.goal c.node c.rest c.list (s.pop c)).2 else fT p n (fL p c.goal c.node c.rest c.list (s.pop c)).2
noncomputable def j9(p:List Cl)(cnd:Tm→List Nat→List Nat)(s:IS)(g:IG)(rest:List IG):uJ:=
 if dZ (g.t.aH (rs s.σ))=false then .stop 3
 else if pC (g.t.aH (rs s.σ))=true then .go { s with goals:=rest,chs:=s.chs.take g.cut,nn:=s.nn+1 }
 else if isBuiltin (g.t.aH (rs s.σ)).s ((g.t.aH (rs s.σ)).ts.length:Int)=true then
  if(cQ s.σ (g.t.aH (rs s.σ)).s (g.t.aH (rs s.σ)).ts).1=0 then .go { s with goals:=rest,σ:=(cQ s.σ (g.t.aH (rs s.σ)).s (g.t.aH (rs s.σ)).ts).2.1,tr:=s.tr++(cQ s.σ (g.t.aH (rs s.σ)).s (g.t.aH (rs s.σ)).ts).2.2,nn:=s.nn+1 }
  else if(cQ s.σ (g.t.aH (rs s.σ)).s (g.t.aH (rs s.σ)).ts).1=1 then .fail { s with σ:=(cQ s.σ (g.t.aH (rs s.σ)).s (g.t.aH (rs s.σ)).ts).2.1,tr:=s.tr++(cQ s.σ (g.t.aH (rs s.σ)).s (g.t.aH (rs s.σ)).ts).2.2,nn:=s.nn+1 }
  else .stop (oA (cQ s.σ (g.t.aH (rs s.σ)).s (g.t.aH (rs s.σ)).ts).1)
 else if eO p (g.t.aH (rs s.σ))= [] then .stop 8
 else if(fL p (g.t.aH (rs s.σ)) s.nn rest (cnd (g.t.aH (rs s.σ)) (eO p (g.t.aH (rs s.σ)))) { s with nn:=s.nn+1 }).1=true then .go (fL p (g.t.aH (rs s.σ)) s.nn rest (cnd (g.t.aH (rs s.σ)) (eO p (g.t.aH (rs s.σ)))) { s with nn:=s.nn+1 }).2
 else .fail (fL p (g.t.aH (rs s.σ)) s.nn rest (cnd (g.t.aH (rs s.σ)) (eO p (g.t.aH (rs s.σ)))) { s with nn:=s.nn+1 }).2
noncomputable def hH(p:List Cl)(cnd:Tm→List Nat→List Nat)(vars:List Int)(most fuel:Nat)(s:IS):List (List Tm)×Int:=
 match s.goals with
 | []=>if h:most=0 then([],1) else match g7 s.σ vars with
  | none=>([],3)
  | some a=>match fT p s.chs.length s with
   | none=>([a],0)
   | some s'=>(a::(hH p cnd vars (most - 1) fuel s').1,(hH p cnd vars (most - 1) fuel s').2)
 | g::rest=>if h:fuel=0 then([],2) else match j9 p cnd s g rest with
  | .stop e=>([],e)
  | .go s'=>hH p cnd vars most (fuel - 1) s'
  | .fail s'=>match fT p s'.chs.length s' with
   | none=>([],0)
   | some s''=>hH p cnd vars most (fuel - 1) s''
termination_by most+fuel
decreasing_by all_goals omega
def mM(q:List Tm):IS:=⟨q.map fun t=>⟨t,0,-1⟩,Sub.none,[],[],26,0⟩
structure mE (ρ:Int→Int) (N F:Nat) (σ τ:Sub):Prop where
 sim:eK ρ N σ τ
 rng:∀v,0≤v→v<(N:Int)→0≤ρ v∧ρ v<(F:Int)
 g1:cC σ
 o1:cD (a8 N) σ
 g2:cC τ
 o2:cD (a8 F) τ
 d1:∀n,¬(0≤n∧n<(N:Int))→σ n=none
 d2:∀n,¬(0≤n∧n<(F:Int))→τ n=none
 h26:26≤N
 idn:∀v,0≤v→v<26→ρ v=v
theorem mE.mono{ρ:Int→Int}{N F F':Nat}{σ τ:Sub}(S:mE ρ N F σ τ)(h:F≤F'):mE ρ N F' σ τ:=
 ⟨S.sim,fun v h0 h1=>⟨(S.rng v h0 h1).1,by have:=(S.rng v h0 h1).2;omega⟩,S.g1,S.o1,S.g2,S.o2.imp fun t ht=>ht.mono (by omega),S.d1,fun n hn=>S.d2 n fun h'=>hn ⟨h'.1,by omega⟩,S.h26,S.idn⟩
def qH(ρ:Int→Int)(N F:Nat):Int→Int:=fun v=>if v<(N:Int) then ρ v else v - N+F
theorem rV{ρ:Int→Int}{N F:Nat}{v:Int}(h:v<(N:Int)):qH ρ N F v=ρ v:=aK h
theorem mE.ext{ρ:Int→Int}{N F:Nat}{σ τ:Sub}(S:mE ρ N F σ τ){k:Nat}(hk:k≤26):mE (qH ρ N F) (N+k) (F+26) σ τ:=by
 have iF:∀v:Int,¬v<(N:Int)→qH ρ N F v=v - N+F:=fun v h=>aG h
 refine⟨⟨fun v w hv0 hv1 hw0 hw1 e=>?_,fun v h0 h1=>?_⟩,fun v h0 h1=>?_,S.g1,S.o1.imp fun t ht=>ht.mono (by omega),S.g2,S.o2.imp fun t ht=>ht.mono (by omega),fun n hn=>S.d1 n fun h=>hn ⟨h.1,by omega⟩,fun n hn=>S.d2 n fun h=>hn ⟨h.1,by omega⟩,by have:=S.h26;omega,fun v h0 h1=>by rw[rV (by have:=S.h26;omega)];exact S.idn v h0 h1⟩
 · by_cases hv:v<(N:Int)<;>by_cases hw:w<(N:Int)
   · rw[rV hv,rV hw] at e;exact S.sim.inj v w hv0 hv hw0 hw e
   · rw[rV hv,iF w hw] at e
     have:=S.rng v hv0 hv
     omega
   · rw[rV hw,iF v hv] at e
     have:=S.rng w hw0 hw
     omega
   · rw[iF v hv,iF w hw] at e
     omega
 · by_cases hv:v<(N:Int)
   · rw[rV hv,S.sim.map v h0 hv]
     cases hs:σ v with
     | none=>rfl
     | some u=>
      simp only[p6,Option.some.injEq]
      refine NQ fun w hw=>?_
      rw[rV ((S.o1 v u hs).1.2.2 w hw).2]
   · rw[iF v hv,S.d1 v (fun h=>hv h.2),S.d2 _ (fun h=>by omega)]
     try rfl
 · by_cases hv:v<(N:Int)
   · rw[rV hv]
     have:=S.rng v h0 hv
     omega
   · rw[iF v hv];omega
theorem aDX(l:List Int):∀n:Int,n≤l.foldl (fun n v=>if n≤v then v+1 else n) n∧(∀v∈l,v<l.foldl (fun n v=>if n≤v then v+1 else n) n)∧∀m:Int,n≤m→(∀v∈l,v<m)→l.foldl (fun n v=>if n≤v then v+1 else n) n≤m:=by
 induction l with
 | nil=>intro n;exact⟨Int.le_refl _,by simp,fun m h _=>h⟩
 | cons x l ih=>
  intro n
  simp only[List.foldl_cons]
  obtain⟨h1,h2,h3⟩:=ih (if n≤x then x+1 else n)
  refine⟨?_,fun v hv=>?_,fun m hm hl=>h3 m ?_ fun v hv=>hl v (by simp [hv])⟩
  · split at h1<;>rename_i h<;>split<;>omega
  · rcases cO.1 hv with rfl | hv
    · split at h1<;>rename_i h<;>split<;>omega
    · exact h2 v hv
  · have:=hl x (by simp)
    split<;>omega
structure fJ (c:Cl):Prop where
 head:a8 26 c.1
 body:∀t∈c.2,a8 26 t∧t.k=3
theorem fJ.vars{c:Cl}(h:fJ c){v:Int}:v∈bO (c.1::c.2) []↔∃t∈c.1::c.2,v∈t.vl:=by
 rw[v4]
 · simp
 · intro t ht
   rcases cO.1 ht with rfl | ht
   · exact h.head.1.2.1
   · exact(h.body t ht).1.1.2.1
theorem fJ.AS{c:Cl}(h:fJ c):∀t∈c.1::c.2,a8 26 t:=fun t ht=>by
 rcases cO.1 ht with rfl | ht
 · exact h.head
 · exact(h.body t ht).1
theorem fJ.fr{c:Cl}(h:fJ c):mI c≤26∧∀t∈c.1::c.2,∀v∈t.vl,v<(mI c:Int):=by
 obtain⟨h1,h2,h3⟩:=aDX (bO (c.1::c.2) []) 0
 have hle:=h3 26 (by omega) fun v hv=>by
  obtain⟨t,ht,hv⟩:=h.vars.1 hv
  exact((h.AS t ht).1.2.2 v hv).2
 unfold mI C8
 refine⟨by omega,fun t ht v hv=>?_⟩
 have:=h2 v (h.vars.2 ⟨t,ht,hv⟩)
 omega
theorem fJ.cU{c:Cl}(h:fJ c)(N:Nat):∀t∈c.1::c.2,a8 ((N+mI c:Nat):Int) (cU N t):=fun t ht=>by
 refine(h.AS t ht).bH fun v hv=>?_
 have h1:=((h.AS t ht).1.2.2 v hv).1
 have h2:=h.fr.2 t ht v hv
 omega
theorem NV{ρ:Int→Int}{N F:Nat}{c:Cl}(h:fJ c):∀t∈c.1::c.2,bH (qH ρ N F) (cU N t)=cU F t:=fun t ht=>by
 unfold AW.cU
 rw[show bH (qH ρ N F) (bH (fun v=>v+(N:Int)) t)=t.aH fun v=>vr (qH ρ N F (v+N)) from D5 _ _ t]
 refine oL t fun v hv=>?_
 have h1:=((h.AS t ht).1.2.2 v hv).1
 show vr (qH ρ N F (v+(N:Int)))=vr (v+(F:Int))
 unfold qH
 rw[aG (by omega)]
 congr 1
 omega
theorem aGV{N:Nat}(t:Tm):(cU N t).k=t.k:=vR _ t
def GL(ρ:Int→Int)(N:Nat)(gs:List RG)(hs:List IG):Prop:=hs.map (fun h=>(h.t,h.cut))=gs.map (fun g=>(bH ρ g.t,g.aU))∧∀g∈gs,a8 N g.t∧g.t.k=3
theorem GL.ext{ρ ρ':Int→Int}{N N':Nat}{gs:List RG}{hs:List IG}(h:GL ρ N gs hs)(hN:N≤N')(hr:∀v,0≤v→v<(N:Int)→ρ' v=ρ v):GL ρ' N' gs hs:=by
 refine⟨h.1.trans (oW fun g hg=>?_),fun g hg=>⟨(h.2 g hg).1.mono (by omega),(h.2 g hg).2⟩⟩
 rw[NQ (ρ:=ρ) (ρ':=ρ') fun v hv=>(hr v ((h.2 g hg).1.1.2.2 v hv).1 ((h.2 g hg).1.1.2.2 v hv).2).symm]
theorem GL.app{ρ:Int→Int}{N:Nat}{gs gs':List RG}{hs hs':List IG}(h:GL ρ N gs hs)(h':GL ρ N gs' hs'):GL ρ N (gs++gs') (hs++hs'):=by
 refine⟨by rw[pZ,pZ,h.1,h'.1],fun g hg=>?_⟩
 rcases dR.1 hg with hg | hg
 · exact h.2 g hg
 · exact h'.2 g hg
def C1(F:Nat)(c:RC)(d:IC)(τ:Sub):Prop:=∃ρ,mE ρ c.N F c.σ τ∧d.goal=bH ρ c.goal∧a8 c.N c.goal∧GL ρ c.N c.rest d.rest∧d.list=c.left
inductive gH (F:Nat):List RC→List IC→Sub→List Int→Prop
 | nil {τ:Sub} {tr:List Int}:gH F [] [] τ tr
 | snoc {cs:List RC} {ds:List IC} {c:RC} {d:IC} {τ:Sub} {tr:List Int} (h:gH F cs ds (τ.out (tr.drop d.eA)) (tr.take d.eA)) (h1:C1 F c d (τ.out (tr.drop d.eA))) (h2:d.eA≤tr.length):gH F (cs++ [c]) (ds++ [d]) τ tr
theorem gH.len{F:Nat}{cs:List RC}{ds:List IC}{τ:Sub}{tr:List Int}(h:gH F cs ds τ tr):ds.length=cs.length:=by
 induction h with
 | nil=>rfl
 | snoc _ _ _ ih=>simp [ih]
theorem gH.mono{F F':Nat}(hF:F≤F'){cs:List RC}{ds:List IC}{τ:Sub}{tr:List Int}(h:gH F cs ds τ tr):gH F' cs ds τ tr:=by
 induction h with
 | nil=>exact .nil
 | snoc _ h1 h2 ih=>exact .snoc ih (by obtain⟨ρ,h3,h4⟩:=h1;exact⟨ρ,h3.mono hF,h4⟩) h2
theorem aN5(tr:List Int){a m:Nat}(h:a≤m)(n:Int):n∈tr.drop m++(tr.take m).drop a↔n∈tr.drop a:=by
 have e:tr.drop a=(tr.take m).drop a++tr.drop m:=by
  conv=>lhs;rw[←mT m tr]
  rw[List.drop_append]
  by_cases hm:m≤tr.length
  · rw[dX,jJ hm,show a - m=0 by omega,rE]
  · rw[JW (show tr.length≤m by omega)]
    simp
 rw[e,dR,dR,or_comm]
theorem gH.lift{F:Nat}{cs:List RC}{ds:List IC}{τ:Sub}{tr:List Int}{m:Nat}(h:gH F cs ds (τ.out (tr.drop m)) (tr.take m))(hm:m≤tr.length):gH F cs ds τ tr:=by
 generalize hτ:τ.out (tr.drop m)=τ' at h
 generalize htr:tr.take m=tr' at h
 cases h with
 | nil=>exact .nil
 | @snoc cs ds c d _ _ h h1 h2=>
  subst hτ htr
  have hd:d.eA≤m:=by rw[dX] at h2;omega
  have e1:(τ.out (tr.drop m)).out ((tr.take m).drop d.eA)=τ.out (tr.drop d.eA):=by
   rw[Sub.aTE]
   exact Sub.aTF τ (aN5 tr hd)
  have e2:(tr.take m).take d.eA=tr.take d.eA:=by rw[wG,jJ hd]
  rw[e1,e2] at h
  rw[e1] at h1
  exact .snoc h h1 (by omega)
theorem gH.more{F:Nat}{cs:List RC}{ds:List IC}{τ τ':Sub}{tr add:List Int}(h:gH F cs ds τ tr)(e:τ'.out add=τ):gH F cs ds τ' (tr++add):=by
 refine gH.lift (m:=tr.length) ?_ (by simp)
 rw[BH,BM,e]
 exact h
theorem gH.take{F:Nat}{cs:List RC}{ds:List IC}{τ:Sub}{tr:List Int}(h:gH F cs ds τ tr)(k:Nat):gH F (cs.take k) (ds.take k) τ tr:=by
 induction h with
 | nil=>simp;exact .nil
 | @snoc cs ds c d τ tr h h1 h2 ih=>
  have hl:=h.len
  by_cases hk:k≤cs.length
  · rw[yF hk,yF (by omega)]
    exact ih.lift h2
  · rw[mU (by simp;omega),mU (by simp;omega)]
    exact .snoc h h1 h2
def Rl(s:RS)(i:IS):Prop:=∃ρ,mE ρ s.N i.fresh s.σ i.σ∧GL ρ s.N s.goals i.goals∧gH i.fresh s.chs i.chs i.σ i.tr
theorem wK.xJ{N:Int}{σ:Sub}{a b:Tm}{r:Bool}{σ':Sub}{tr:List Int}(h:wK N σ a b r σ' tr):σ'.out tr=σ:=funext fun n=>h.out n
theorem kX.xJ{N:Int}{σ σ':Sub}{add:List Int}(h:kX N σ σ' add):σ'.out add=σ:=by
 funext n
 unfold Sub.out
 split
 · rename_i hn;exact((h.new n hn).1).symm
 · rename_i hn;exact h.aU n hn
theorem kX.tC{N:Nat}{σ σ':Sub}{add:List Int}(h:kX N σ σ' add)(hd:∀n,¬(0≤n∧n<(N:Int))→σ n=none):∀n,¬(0≤n∧n<(N:Int))→σ' n=none:=fun n hn=>by
 rw[h.aU n fun h'=>hn (h.eW n h')]
 exact hd n hn
theorem mE.grow{ρ:Int→Int}{N F:Nat}{σ τ σ' τ':Sub}{add aJ3:List Int}(S:mE ρ N F σ τ)(h:kX N σ σ' add)(h':kX F τ τ' aJ3)(s:eK ρ N σ' τ'):mE ρ N F σ' τ':=
 ⟨s,S.rng,h.fO,h.ok,h'.fO,h'.ok,h.tC S.d1,h'.tC S.d2,S.h26,S.idn⟩
theorem mE.xM{ρ:Int→Int}{N F:Nat}{σ τ:Sub}(S:mE ρ N F σ τ){t:Tm}(h:a8 N t):a8 F (bH ρ t):=h.bH fun v hv=>S.rng v (h.1.2.2 v hv).1 (h.1.2.2 v hv).2
section
variable {p:List Cl} (hp:∀c∈p,fJ c)
include hp
theorem JE{cs:List RC}{goal:Tm}{rest:List RG}{σ:Sub}{N:Nat}{ρ:Int→Int}{NS:List IG}{τ:Sub}{tr:List Int}{ds:List IC}{nn at':Nat}(hg:a8 N goal)(hr:GL ρ N rest NS) :
 ∀(l:List Nat) (F:Nat) (gl:List IG),mE ρ N F σ τ→gH F cs ds τ tr →
 match gM p cs goal rest σ N l with
 | none=>∃F',F≤F'∧fL p (bH ρ goal) at' NS l ⟨gl,τ,tr,ds,F,nn⟩=(false,⟨gl,τ,tr,ds,F',nn⟩)
 | some s=>∃i,fL p (bH ρ goal) at' NS l ⟨gl,τ,tr,ds,F,nn⟩=(true,i)∧Rl s i:=by
 intro l
 induction l with
 | nil=>intro F gl S C;exact⟨F,cT _,rfl⟩
 | cons j l ih=>
  intro F gl S C
  unfold gM fL
  cases hj:p[j]? with
  | none=>exact⟨F,cT _,rfl⟩
  | some x=>
   have hx:=hp x (cI hj)
   have S2:=S.ext hx.fr.1
   have hgo:bH (qH ρ N F) goal=bH ρ goal:=NQ fun v hv=>rV (hg.1.2.2 v hv).2
   have hhd:=hx.cU N x.1 (by simp)
   have hgN:a8 ((N+mI x:Nat):Int) goal:=hg.mono (by omega)
   obtain⟨r,σ',add,U⟩:=rA S2.g1 S2.o1 hgN hhd
   obtain⟨g,lY⟩:=U.run
   obtain⟨τ',e,S',_⟩:=S2.sim.gW S2.g1 S2.g2 S2.o1.kD hgN.1 hhd.1 lY
   rw[hgo,NV hx x.1 (by simp)] at e
   have hF1:a8 ((F+26:Nat):Int) (bH ρ goal):=by rw[←hgo];exact S2.xM hgN
   have hF2:a8 ((F+26:Nat):Int) (cU F x.1):=by rw[←NV (ρ:=ρ) (N:=N) (F:=F) hx x.1 (by simp)];exact S2.xM hhd
   obtain⟨r2,τ2,aJ4,U2⟩:=rA S2.g2 S2.o2 hF1 hF2
   have e2:=U2.eq
   rw[e] at e2
   obtain⟨rfl,rfl,rfl⟩:r=r2∧τ'=τ2∧add.map (qH ρ N F)=aJ4:=by simpa using e2
   simp only[U.eq,e]
   cases r with
   | false=>
    simp only[jI,cJ]
    have:=ih (F+26) gl (S.mono (by omega)) (C.mono (by omega))
    cases hq:gM p cs goal rest σ N l with
    | none=>
     rw[hq] at this
     obtain⟨F',h1,h2⟩:=this
     exact⟨F',by omega,h2⟩
    | some s=>
     rw[hq] at this
     exact this
   | true=>
    simp only[dP]
    refine⟨_,rfl,qH ρ N F,S2.grow U.t8 U2.t8 S',?_,?_⟩
    · refine GL.app ⟨?_,fun g hg=>?_⟩ (hr.ext (show N≤N+mI x by omega) fun v _ hv=>rV hv)
      · simp only[uL]
        refine oW fun t ht=>?_
        simp only[BG]
        rw[NV hx t (by simp [ht]),C.len]
      · obtain⟨t,ht,rfl⟩:=cE.1 hg
        exact⟨hx.cU N t (by simp [ht]),by rw[aGV];exact(hx.body t ht).2⟩
    · have C2:=(C.mono (show F≤F+26 by omega)).more U2.xJ
      by_cases hl:l= []
      · simp only[aK hl]
        exact C2
      · simp only[aG hl]
        refine .snoc ?_ ?_ (by simp)
        · simp only[BH,BM,U2.xJ]
          exact C.mono (by omega)
        · simp only[BH,U2.xJ]
          exact⟨ρ,S.mono (by omega),rfl,hg,hr,rfl⟩
theorem KP:∀(n:Nat) (cs:List RC) (i:IS),gH i.fresh cs i.chs i.σ i.tr →
 match eX p n cs with
 | none=>fT p n i=none
 | some s=>∃i',fT p n i=some i'∧Rl s i':=by
 intro n
 induction n with
 | zero=>intro cs i C;simp only[eX,fT]
 | succ n ih=>
  intro cs i C
  obtain⟨gl,τ,tr,ds,F,nn⟩:=i
  simp only at C
  cases C with
  | nil=>simp only[eX,fT,List.getLast?_nil]
  | @snoc cs ds c d _ _ h h1 h2=>
   obtain⟨ρ,S,e1,hok,hG,e2⟩:=h1
   have key:=JE hp (cs:=cs) (nn:=d.taken) (at':=d.node) (tr:=tr.take d.eA) hok hG c.left F gl S h
   simp only[eX,fT,List.getLast?_append,List.getLast?_singleton,Option.some_or,JT]
   have e3:(IS.pop ⟨gl,τ,tr,ds++ [d],F,nn⟩ d)=⟨gl,τ.out (tr.drop d.eA),tr.take d.eA,ds,F,d.taken⟩:=by simp only[IS.pop,JT]
   rw[e1,e2,e3]
   cases ht:gM p cs c.goal c.rest c.σ c.N c.left with
   | none=>
    rw[ht] at key
    obtain⟨F',hF,e⟩:=key
    simp only[e,jI,cJ]
    exact ih cs _ (h.mono hF)
   | some s=>
    rw[ht] at key
    obtain⟨i',e,hR⟩:=key
    simp only[e,dP]
    exact⟨i',rfl,hR⟩
variable {cnd:Tm→List Nat→List Nat} (hc:∀(ρ:Int→Int) (t:Tm) (l:List Nat),cnd (bH ρ t) l=cnd t l)
omit hp in
theorem aGH{ρ:Int→Int}{t:Tm}(h:t.k=3):(bH ρ t).s=t.s∧(bH ρ t).ts=t.ts.map (bH ρ)∧(bH ρ t).k=3:=by
 rw[A2 ρ (by omega)]
 exact⟨rfl,rfl,h⟩
omit hp in
theorem aPF{ρ:Int→Int}{t:Tm}(h:t.k=3):eO p (bH ρ t)=eO p t:=by
 obtain⟨h1,h2,_⟩:=aGH (ρ:=ρ) h
 unfold eO DG
 simp only[h1,h2,aE]
include hc
theorem aG6{s:RS}{i:IS}{g:RG}{gs:List RG}(hR:Rl s i)(hgs:s.goals=g::gs) :
 ∃h hs,i.goals=h::hs∧match iJ p cnd s g gs with
 | .stop e=>j9 p cnd i h hs=.stop e
 | .go s'=>∃i',j9 p cnd i h hs=.go i'∧Rl s' i'
 | .fail=>∃i',j9 p cnd i h hs=.fail i'∧gH i'.fresh s.chs i'.chs i'.σ i'.tr:=by
 obtain⟨ρ,S,hG,C⟩:=hR
 rw[hgs] at hG
 obtain⟨gl,τ,tr,ds,F,nn⟩:=i
 simp only at S hG C ⊢
 cases gl with
 | nil=>exact absurd hG.1 (by simp)
 | cons h hs=>
  refine⟨h,hs,rfl,?_⟩
  have hGt:GL ρ s.N gs hs:=⟨(sR hG.1).2,fun x hx=>hG.2 x (by simp [hx])⟩
  have he:=(sR hG.1).1
  simp only[Prod.mk.injEq] at he
  obtain⟨e1,e2⟩:=he
  obtain⟨hgX,hg3⟩:=hG.2 g (by simp)
  have hT:=S.sim.rsT S.g1 S.g2 S.o1.kD hgX.1
  obtain⟨rk,B,G⟩:=S.g1.rs
  have hV:=G.M5 S.o1.kD hgX.1
  unfold iJ j9
  simp only[e1,hT]
  have ht3:(g.t.aH (rs s.σ)).k=3:=by rw[Tm.pI _ (by omega)];exact hg3
  generalize g.t.aH (rs s.σ)=t at *
  obtain⟨r1,r2,r3⟩:=aGH (ρ:=ρ) ht3
  have fK:dZ (bH ρ t)=dZ t:=by unfold dZ;rw[NR ρ hV.2.1,H4 ρ hV.2.1]
  have DF:pC (bH ρ t)=pC t:=by unfold pC;rw[r1,r2,r3,ht3,aE]
  simp only[fK,DF,aPF (p:=p) (ρ:=ρ) ht3,hc,r1,r2,aE]
  by_cases c1:dZ t=false
  · rw[aK c1,aK c1]
  rw[aG c1,aG c1]
  have hX:a8 s.N t:=⟨hV,by
   have:dZ t=true:=by simpa using c1
   unfold dZ at this
   simp only[cL,bM] at this
   exact this.2⟩
  by_cases c2:pC t=true
  · rw[aK c2,aK c2]
    refine⟨_,rfl,ρ,S,hGt,?_⟩
    simp only[e2]
    exact C.take g.aU
  rw[aG c2,aG c2]
  by_cases c3:isBuiltin t.s (t.ts.length:Int)=true
  · rw[aK c3,aK c3]
    have hk:∀x∈t.ts,a8 s.N x:=pL _ t (by omega) hX
    obtain⟨q1,q2,q3⟩:=S.sim.cQ S.g1 S.g2 S.o1 t.s t.ts hk
    have q4:=H8 S.g1 S.o1 t.s t.ts hk
    have q5:=H8 S.g2 S.o2 t.s (t.ts.map (bH ρ)) (fun x hx=>by
     obtain⟨y,hy,rfl⟩:=cE.1 hx
     exact S.xM (hk y hy))
    rw[q1]
    by_cases c4:(cQ s.σ t.s t.ts).1=0
    · rw[aK c4,aK c4]
      exact⟨_,rfl,ρ,S.grow q4 q5 q3,hGt,C.more q5.xJ⟩
    rw[aG c4,aG c4]
    by_cases c5:(cQ s.σ t.s t.ts).1=1
    · rw[aK c5,aK c5]
      exact⟨_,rfl,C.more q5.xJ⟩
    rw[aG c5,aG c5]
  rw[aG c3,aG c3]
  by_cases c6:eO p t= []
  · rw[aK c6,aK c6]
  rw[aG c6,aG c6]
  have key:=JE hp (at':=nn) (nn:=nn+1) hX hGt (cnd t (eO p t)) F (h::hs) S C
  cases hq:gM p s.chs t gs s.σ s.N (cnd t (eO p t)) with
  | none=>
   rw[hq] at key
   obtain⟨F',hF,e⟩:=key
   simp only[e,jI,cJ]
   exact⟨_,rfl,C.mono hF⟩
  | some s'=>
   rw[hq] at key
   obtain⟨i',e,hR⟩:=key
   simp only[e,dP]
   exact⟨i',rfl,hR⟩
end
theorem aIL{ρ:Int→Int}{N:Int}{σ τ:Sub}(S:eK ρ N σ τ):∀(l:List Tm) (acc:List Int),(∀t∈l,cB N t)→(∀v∈acc,0≤v∧v<N)→bO (l.map (bH ρ)) (acc.map ρ)=(bO l acc).map ρ∧∀v∈bO l acc,0≤v∧v<N
 | [],acc,_,ha=>⟨rfl,ha⟩
 | t::l,acc,h,ha=>by
  obtain⟨e1,e2⟩:=aWF (D:=fun v=>0≤v∧v<N) (h:=ρ) (fun v w hv hw e=>S.inj v w hv.1 hv.2 hw.1 hw.2 e) (f:=fun v=>vr (ρ v)) (fun _ _=>rfl) t (Tm.rO t (h t (by simp)).2.1) (h t (by simp)).2.2 acc ha
  simp only[bK,bO]
  rw[show(bH ρ t).vars (acc.map ρ)=(t.vars acc).map ρ from e1]
  exact aIL S l _ (fun x hx=>h x (by simp [hx])) e2
theorem aT5{ρ:Int→Int}{N:Int}{σ τ:Sub}(S:eK ρ N σ τ){l:List Tm}(h:∀t∈l,cB N t):nL (l.map (bH ρ))=nL l∧(bO (l.map (bH ρ)) []).length=(bO l []).length:=by
 obtain⟨e1,e2⟩:=aIL S l [] h (by simp)
 rw[bL] at e1
 refine⟨?_,by rw[e1,aE]⟩
 unfold nL
 rw[e1,uL]
 refine oW fun t ht=>?_
 simp only[BG]
 rw[D5]
 refine oL t fun v hv=>?_
 rw[aFA (D:=fun v=>0≤v∧v<N) (fun v w hv hw e=>S.inj v w hv.1 hv.2 hw.1 hw.2 e) v ((h t ht).2.2 v hv) _ _ e2]
theorem aJ6{ρ:Int→Int}{N F:Nat}{σ τ:Sub}(S:mE ρ N F σ τ){vars:List Int}(hv:∀v∈vars,0≤v∧v<26):g7 τ vars=g7 σ vars:=by
 obtain⟨rk,B,G⟩:=S.g1.rs
 have hid:=S.idn
 have h26:=S.h26
 have e:vars.map (rs τ)=(vars.map (rs σ)).map (bH ρ):=by
  rw[uL]
  refine oW fun v h=>?_
  obtain⟨h0,h1⟩:=hv v h
  have:=S.sim.rs S.g1 S.g2 S.o1.kD v h0 (by omega)
  rw[hid v h0 h1] at this
  exact this
 have hok:∀t∈vars.map (rs σ),cB N t:=fun t ht=>by
  obtain⟨v,h,rfl⟩:=cE.1 ht
  obtain⟨h0,h1⟩:=hv v h
  exact G.kD S.o1.kD v h0 (by omega)
 obtain⟨e1,e2⟩:=aT5 S.sim hok
 have e3:((vars.map (rs σ)).map (bH ρ)).all dZ=(vars.map (rs σ)).all dZ:=by
  rw[List.all_map,wC,eE,eE]
  have:∀t∈vars.map (rs σ),dZ (bH ρ t)=dZ t:=fun t ht=>by unfold dZ;rw[NR ρ (hok t ht).2.1,H4 ρ (hok t ht).2.1]
  constructor
  · intro h t ht;rw[←this t ht];exact h t ht
  · intro h t ht;simp only[BG];rw[this t ht];exact h t ht
 unfold g7
 rw[e,e1,e2,e3]
section
variable {p:List Cl} (hp:∀c∈p,fJ c) {cnd:Tm→List Nat→List Nat} (hc:∀(ρ:Int→Int) (t:Tm) (l:List Nat),cnd (bH ρ t) l=cnd t l)
include hp hc
theorem aUC{vars:List Int}(hv:∀v∈vars,0≤v∧v<26):∀(n most fuel:Nat) (s:RS) (i:IS),most+fuel≤n→Rl s i→hH p cnd vars most fuel i=gL p cnd vars most fuel s:=by
 intro n
 induction n with
 | zero=>
  intro most fuel s i hn hR
  obtain⟨rfl,rfl⟩:most=0∧fuel=0:=by omega
  obtain⟨ρ,S,hG,C⟩:=hR
  rw[hH,gL]
  cases hgs:s.goals with
  | nil=>
   rw[hgs] at hG
   have hi:i.goals= []:=List.map_eq_nil_iff.1 hG.1
   simp [hi]
  | cons g gs=>
   rw[hgs] at hG
   cases hi:i.goals with
   | nil=>rw[hi] at hG;exact absurd hG.1 (by simp)
   | cons h hs=>simp
 | succ n ih=>
  intro most fuel s i hn hR
  cases hgs:s.goals with
  | nil=>
   obtain⟨ρ,S,hG,C⟩:=hR
   rw[hgs] at hG
   have hi:i.goals= []:=List.map_eq_nil_iff.1 hG.1
   rw[hH,gL]
   simp only[hgs,hi]
   by_cases hm:most=0
   · simp [hm]
   simp only[hm,dif_neg,DX]
   rw[aJ6 S hv]
   cases g7 s.σ vars with
   | none=>rfl
   | some a=>
    simp only
    have key:=KP hp s.chs.length s.chs i C
    rw[C.len]
    cases hb:eX p s.chs.length s.chs with
    | none=>rw[hb] at key;simp only[key]
    | some s'=>
     rw[hb] at key
     obtain⟨i',e,hR'⟩:=key
     simp only[e]
     rw[ih (most - 1) fuel s' i' (by omega) hR']
  | cons g gs=>
   obtain⟨h,hs,hi,key⟩:=aG6 hp hc hR hgs
   rw[hH,gL]
   simp only[hgs,hi]
   by_cases hf:fuel=0
   · simp [hf]
   simp only[hf,dif_neg,DX]
   cases hq:iJ p cnd s g gs with
   | stop e=>
    rw[hq] at key
    simp only[key]
   | go s'=>
    rw[hq] at key
    obtain⟨i',e,hR'⟩:=key
    simp only[e]
    exact ih most (fuel - 1) s' i' (by omega) hR'
   | fail=>
    rw[hq] at key
    obtain⟨i',e,C'⟩:=key
    simp only[e]
    have HL:=KP hp s.chs.length s.chs i' C'
    rw[C'.len]
    cases hb:eX p s.chs.length s.chs with
    | none=>rw[hb] at HL;simp only[HL]
    | some s'=>
     rw[hb] at HL
     obtain⟨i'',e2,hR'⟩:=HL
     simp only[e2]
     exact ih most (fuel - 1) s' i'' (by omega) hR'
omit hp hc in
theorem aG5{q:List Tm}(hq:∀t∈q,a8 26 t∧t.k=3):Rl (kG q) (mM q):=by
 refine⟨fun v=>v,⟨⟨fun v w _ _ _ _ e=>e,fun v _ _=>rfl⟩,fun v h0 h1=>⟨h0,h1⟩,cC.none,fun n u h=>(by cases h),cC.none,fun n u h=>(by cases h),fun _ _=>rfl,fun _ _=>rfl,cT _,fun _ _ _=>rfl⟩,⟨?_,fun g hg=>?_⟩,.nil⟩
 · simp only[mM,kG,uL]
   refine oW fun t ht=>?_
   simp only[BG]
   rw[show bH (fun v=>v) t=t from MU t (hq t ht).1.1.2.1]
 · simp only[kG] at hg
   obtain⟨t,ht,rfl⟩:=cE.1 hg
   exact hq t ht
theorem aUV{q:List Tm}(hq:∀t∈q,a8 26 t∧t.k=3)(most fuel:Nat):hH p cnd (bO q []) most fuel (mM q)=sF p cnd q most fuel:=by
 refine aUC hp hc (fun v hv=>?_) _ most fuel _ _ (cT _) (aG5 hq)
 rw[v4 _ _ fun t ht=>(hq t ht).1.1.2.1] at hv
 rcases hv with hv | ⟨t,ht,hv⟩
 · cases hv
 · exact(hq t ht).1.1.2.2 v hv
end
theorem aNW{c:Cl}(h:n7 c=true):fJ c:=by
 simp only[n7,cL,bM,eE] at h
 refine⟨⟨Tm.EX h.1.1,Tm.EW h.1.1⟩,fun t ht=>?_⟩
 have hg:=h.2.2 t ht
 have hk:t.valid=true∧t.k=3:=by
  obtain⟨k,n,s,ts⟩:=t
  simp only[Tm.goal,cL] at hg
  refine⟨hg.1,?_⟩
  have:=hg.2
  simp only[vL,oN,oU,cL,bM] at this
  simp only[Tm.k]
  rcases this with (h | h) | h<;>first | exact h.1 | exact h.1.1 | exact h.1.1.1
 exact⟨⟨Tm.EX hk.1,Tm.EW hk.1⟩,hk.2⟩
def nI(l:List IC):Nat:=(l.map fun c=>c.list.length).sum
theorem MT(l m:List IC):nI (l++m)=nI l+nI m:=by simp [nI]
theorem aFK(c:IC):nI [c]=c.list.length:=by simp [nI]
theorem aFL(l:List IC)(k:Nat):nI (l.take k)≤nI l:=by
 have:=MT (l.take k) (l.drop k)
 rw[mT] at this
 omega
structure IX (p:List Cl) (M:Nat) (i:IS):Prop where
 tnd:i.tr.Nodup
 tin:∀n∈i.tr,(0≤n∧n<(i.fresh:Int))∧i.σ n≠none
 phi:i.fresh+26*nI i.chs≤M
 ch:∀c∈i.chs,c.node<c.taken∧c.taken≤i.nn∧c.eA≤i.tr.length∧∀x∈c.list,x<p.length
 mono:i.chs.Pairwise (fun c d=>c.taken≤d.taken∧c.eA≤d.eA)
theorem IX.up{p:List Cl}{M M':Nat}{i:IS}(h:IX p M i)(hM:M≤M'):IX p M' i:=⟨h.tnd,h.tin,wH h.phi hM,h.ch,h.mono⟩
theorem IX.OY{p:List Cl}{M:Nat}{i:IS}(h:IX p M i):i.tr.length≤i.fresh:=AP h.tnd fun n hn=>(h.tin n hn).1
theorem HI{p:List Cl}(hp:∀c∈p,fJ c){M:Nat}{goal:Tm}{at':Nat}{rest:List IG}:∀(l:List Nat) (s:IS),(∀x∈l,x<p.length)→at'<s.nn→s.fresh+26*nI s.chs+26*l.length≤M→IX p M s→cC s.σ→cD (a8 s.fresh) s.σ→a8 s.fresh goal →
 IX p M (fL p goal at' rest l s).2
 | [],s,_,_,_,h,_,_,_=>by unfold fL;exact h
 | j::l,s,hl,ha,hM,h,hg,ho,hgo=>by
  obtain⟨x,hx⟩:∃x,p[j]?=some x:=⟨_,e7 (hl j (by simp))⟩
  have hX:=hp x (cI hx)
  have hl':∀x∈l,x<p.length:=fun x h=>hl x (by simp [h])
  simp only[bA] at hM
  unfold fL
  simp only[hx]
  split
  · have hhd:a8 ((s.fresh+26:Nat):Int) (cU s.fresh x.1):=(hX.cU s.fresh x.1 (by simp)).mono (by have:=hX.fr.1;omega)
    obtain⟨r,σ',add,U⟩:=rA (N:=s.fresh+26) hg (fun n u e=>(ho n u e).mono (by omega)) (hgo.mono (by omega)) hhd
    rw[U.eq]
    have S:=U.t8
    refine⟨?_,?_,?_,?_,?_⟩
    · simp only
      refine jO.2 ⟨h.tnd,S.nodup,fun a ha b hb e=>?_⟩
      subst e
      exact(h.tin a ha).2 (S.new a hb).1
    · intro n hn
      simp only[dR] at hn ⊢
      rcases hn with hn | hn
      · have h1:=h.tin n hn
        have hna:n∉add:=fun ha=>h1.2 (S.new n ha).1
        exact⟨⟨h1.1.1,by have:=h1.1.2;omega⟩,by rw[S.aU n hna];exact h1.2⟩
      · have:=S.eW n hn
        exact⟨⟨this.1,by omega⟩,(S.new n hn).2⟩
    · simp only
      split
      · omega
      · rw[MT,aFK];simp only;omega
    · intro c hc
      have key:∀c∈s.chs,c.node<c.taken∧c.taken≤s.nn∧c.eA≤(s.tr++add).length∧∀x∈c.list,x<p.length:=fun c hc=>by
       obtain⟨h1,h2,h3,h4⟩:=h.ch c hc
       exact⟨h1,h2,by rw[eC];omega,h4⟩
      simp only at hc ⊢
      split at hc
      · exact key c hc
      · rcases dR.1 hc with hc | hc
        · exact key c hc
        · simp only[cO,dD,dI] at hc
          subst hc
          exact⟨ha,cT _,by rw[eC];simp only;omega,hl'⟩
    · simp only
      split
      · exact h.mono
      · refine List.pairwise_append.2 ⟨h.mono,List.pairwise_singleton _ _,fun a ha b hb=>?_⟩
        simp only[cO,dD,dI] at hb
        subst hb
        obtain⟨h1,h2,h3,h4⟩:=h.ch a ha
        exact⟨h2,h3⟩
  · refine HI hp l { s with fresh:=s.fresh+26 } hl' ha (by simp only;omega) ⟨h.tnd,fun n hn=>?_,by simp only;omega,h.ch,h.mono⟩ hg (fun n u e=>(ho n u e).mono (by simp only;omega)) (hgo.mono (by simp only;omega))
    have:=h.tin n hn
    exact⟨⟨this.1.1,by simp only;omega⟩,this.2⟩
theorem IX.pop{p:List Cl}{M:Nat}{gl:List IG}{τ:Sub}{tr:List Int}{ds:List IC}{d:IC}{F nn:Nat}(h:IX p M ⟨gl,τ,tr,ds++ [d],F,nn⟩) :
 IX p M ⟨gl,τ.out (tr.drop d.eA),tr.take d.eA,ds,F,d.taken⟩∧F+26*nI ds+26*d.list.length≤M∧d.node<d.taken∧d.taken≤nn∧d.eA≤tr.length∧∀x∈d.list,x<p.length:=by
 obtain⟨h1,h2,h3,h4⟩:=h.ch d (by simp)
 have aQ8:=h.phi
 simp only[MT,aFK] at aQ8
 have hm:=List.pairwise_append.1 h.mono
 have hnd:=h.tnd
 simp only at hnd h2 h3
 have hsp:tr.take d.eA++tr.drop d.eA=tr:=mT _ _
 rw[←hsp,jO] at hnd
 refine⟨⟨hnd.1,fun n hn=>?_,by simp only;omega,fun c hc=>?_,hm.1⟩,by omega,h1,h2,h3,h4⟩
 · have:=h.tin n (mS hn)
   refine⟨this.1,?_⟩
   simp only
   unfold Sub.out
   rw[aG (fun hd=>hnd.2.2 n hn n hd rfl)]
   exact this.2
 · obtain⟨g1,g2,g3,g4⟩:=h.ch c (by simp [hc])
   have:=hm.2.2 c hc d (by simp)
   exact⟨g1,this.1,by simp only[dX];simp only at g3;omega,g4⟩
theorem aE5{p:List Cl}(hp:∀c∈p,fJ c){M:Nat}:∀(n:Nat) (cs:List RC) (i:IS),gH i.fresh cs i.chs i.σ i.tr→IX p M i→∀i',fT p n i=some i'→IX p M i'
 | 0,_,_,_,_,i',h=>by simp [fT] at h
 | n+1,cs,i,C,h,i',e=>by
  obtain⟨gl,τ,tr,ds,F,nn⟩:=i
  simp only at C
  cases C with
  | nil=>simp only[fT,List.getLast?_nil] at e;cases e
  | @snoc cs ds c d _ _ C h1 h2=>
   obtain⟨hP,hM,hnt,htn,htr,hli⟩:=h.pop
   have e3:(IS.pop ⟨gl,τ,tr,ds++ [d],F,nn⟩ d)=⟨gl,τ.out (tr.drop d.eA),tr.take d.eA,ds,F,d.taken⟩:=by simp only[IS.pop,JT]
   simp only[fT,List.getLast?_append,List.getLast?_singleton,Option.some_or,e3] at e
   obtain⟨ρ,S,e1,hok,hG,e2⟩:=h1
   have hX:=HI hp (rest:=d.rest) d.list _ hli (at':=d.node) (by simp only;exact hnt) (by simp only;exact hM) hP S.g2 S.o2 (e1▸S.xM hok)
   split at e
   · cases e
     exact hX
   · rename_i hf
     have key:=JE hp (cs:=cs) (nn:=d.taken) (at':=d.node) (tr:=tr.take d.eA) hok hG c.left F gl S C
     rw[←e1,←e2] at key
     cases ht:gM p cs c.goal c.rest c.σ c.N c.left with
     | some s=>
      rw[e2,ht] at key
      obtain⟨i2,k1,_⟩:=key
      rw[←e2] at k1
      rw[k1] at hf
      simp at hf
     | none=>
      rw[e2,ht] at key
      obtain⟨F',hF,k1⟩:=key
      rw[←e2] at k1
      rw[k1] at e hX
      exact aE5 hp n cs _ (C.mono hF) hX i' e
def cY:AV→List Nat
 | .mslice b _ _ _=>[b]
 | _=>[]
def Trail(st:aA)(q:AV)(tr:List Int):Prop:=
 (q=.fslice []∧tr= [])∨∃b cs,q=.mslice b 0 tr.length 1∧st b=some (.cells cs)∧cs.take tr.length=tr.map iv
structure e9 (st:aA) (c m:Nat) (q:AV) (σ:Sub) (tr:List Int):Prop where
 sub:gQ st c m q σ
 eA:Trail st q tr
 apart:c∉cY q
structure kL (c m:Nat) (st:aA) (q:AV) (st':aA) (q':AV):Prop where
 frame:∀b o,st b=some o→b≠c→b≠m→b∉cY q→st' b=some o
 fresh:∀b∈cY q',b∈cY q∨st b=none
def sT(c m:Nat)(st:aA)(q:AV)(σ':Sub)(tr':List Int)(st':aA):Prop:=∃q',e9 st' c m q' σ' tr'∧kL c m st q st' q'
theorem kL.refl(c m:Nat)(st:aA)(q:AV):kL c m st q st q:=⟨fun _ _ h _ _ _=>h,fun _ h=>.inl h⟩
theorem kL.trans{c m:Nat}{st st' vV:aA}{q q' q'':AV}{σ:Sub}{tr:List Int}(x:kL c m st q st' q')(hS:e9 st' c m q' σ tr)(y:kL c m st' q' vV q''):kL c m st q vV q'':=by
 refine⟨fun b o h h1 h2 h3=>?_,fun b hb=>?_⟩
 · refine y.frame b o (x.frame b o h h1 h2 h3) h1 h2 fun h4=>?_
   rcases x.fresh b h4 with h5 | h5
   · exact h3 h5
   · rw[h5] at h;cases h
 · rcases y.fresh b hb with h | h
   · exact x.fresh b h
   · by_cases h1:b∈cY q
     · exact .inl h1
     · refine .inr ?_
       cases hst:st b with
       | none=>rfl
       | some o=>
        exfalso
        by_cases hc:b=c
        · subst hc;rw[hS.sub.cells] at h;cases h
        · by_cases hm:b=m
          · subst hm;rw[hS.sub.map] at h;cases h
          · rw[x.frame b o hst hc hm h1] at h;cases h
theorem e9.EF{st:aA}{c m:Nat}{q:AV}{σ:Sub}{tr:List Int}(h:e9 st c m q σ tr):∀b∈cY q,∃cs,st b=some (.cells cs):=by
 intro b hb
 rcases h.eA with ⟨rfl,_⟩ | ⟨b',cs,rfl,hb',_⟩
 · simp [cY] at hb
 · simp only[cY,cO,dD,dI] at hb;subst hb;exact⟨cs,hb'⟩
theorem e9.HO{st:aA}{c m:Nat}{q:AV}{σ:Sub}{tr:List Int}(h:e9 st c m q σ tr):m∉cY q:=fun hb=>by
 obtain⟨cs,e⟩:=h.EF m hb
 rw[h.sub.map] at e;cases e
theorem e9.aC{st:aA}{c m b:Nat}{q:AV}{σ:Sub}{tr:List Int}{o:AO}(h:e9 st c m q σ tr)(h1:b≠c)(h2:b≠m)(h3:b∉cY q):e9 (st.aC b o) c m q σ tr:=by
 refine⟨h.sub.JK h1 h2,?_,h.apart⟩
 rcases h.eA with h4 | ⟨b',cs,e1,e2,e3⟩
 · exact .inl h4
 · refine .inr ⟨b',cs,e1,?_,e3⟩
   rw[aA.aF _ _ (by rintro rfl;exact h3 (by rw[e1];simp [cY]))]
   exact e2
theorem e9.BD{st:aA}{c m b:Nat}{q:AV}{σ:Sub}{tr:List Int}{o:AO}(h:e9 st c m q σ tr)(hb:st b=none):e9 (st.aC b o) c m q σ tr:=
 h.aC (h.sub.ne hb).1 (h.sub.ne hb).2 fun h3=>by obtain⟨cs,e⟩:=h.EF b h3;rw[hb] at e;cases e
theorem kL.BD{c m b:Nat}{st:aA}{q:AV}{o:AO}(hb:st b=none):kL c m st q (st.aC b o) q:=
 ⟨fun x p h _ _ _=>by rw[aA.aF _ _ (by rintro rfl;rw[hb] at h;cases h)];exact h,fun _ h=>.inl h⟩
theorem e9.shape{st:aA}{c m:Nat}{q:AV}{σ:Sub}{tr:List Int}(h:e9 st c m q σ tr):q.isAgg=false∧q.width=1∧q.cA=false∧q.cells= [q]∧q.storable=true:=by
 rcases h.eA with ⟨rfl,_⟩ | ⟨b',cs,rfl,_⟩<;>exact⟨rfl,rfl,rfl,rfl,rfl⟩
theorem sT.from{c m:Nat}{st s0 st':aA}{q q0:AV}{σ σ':Sub}{tr tr':List Int}(h:sT c m s0 q0 σ' tr' st')(x:kL c m st q s0 q0)(hS:e9 s0 c m q0 σ tr):sT c m st q σ' tr' st':=by
 obtain⟨q',h1,h2⟩:=h
 exact⟨q',h1,x.trans hS h2⟩
theorem aVV{P:Program}{t:TypeId}{ag:Bool}{bytes:Nat}{zs:List AV}{st:aA}{c m:Nat}{q:AV}{σ:Sub}{tr:List Int}{n:Int}{K:AV→aA→Prop}(hI:eI P t=some (ag,1))(hB:eB P t=some bytes)(hZ:eZ P t=some zs)(hz:zs.length=1)(hb8:bytes≤16)
 (h:e9 st c m q σ tr) (hl:tr.length+1≤1099511627776)
 (hK:∀q' st',Trail st' q' (tr++ [n])→c∉cY q'→m∉cY q'→(∀x,x∉cY q→x∉cY q'→st' x=st x)→(∀x∈cY q',x∈cY q∨st x=none)→K q' st'):jP P t st q (.fslice [.int .i64 n]) K:=by
 have fK:uW 1 [AV.int .i64 n]:=by intro e he;simp only[cO,dD,dI] at he;subst he;exact⟨rfl,rfl⟩
 have DC:(tr.length+1)*bytes≤140737488355328:=by
  have:=Nat.mul_le_mul hl hb8
  omega
 unfold jP
 simp only[hI,hB,hZ,wN]
 refine⟨hz,fK,?_⟩
 have hcm:∀x,st x=none→x≠c∧x≠m:=fun x hx=>h.sub.ne hx
 rcases h.eA with ⟨rfl,rfl⟩ | ⟨b,cs,rfl,hb,hcs⟩
 · simp only[bQ,bA,gI] at DC ⊢
   refine⟨by omega,by omega,by simp,fun h=>by simp at h,fun _ b hb=>?_⟩
   refine hK _ _ (.inr ⟨b,[.int .i64 n],rfl,aA.aL _ _ _,rfl⟩) (by simp only[cY,cO,dD,dI];exact c9 (hcm b hb).1) (by simp only[cY,cO,dD,dI];exact c9 (hcm b hb).2) (fun x _ hx=>?_) (fun x hx=>?_)
   · simp only[cY,cO,dD,dI] at hx
     rw[aA.aF _ _ hx]
   · simp only[cY,cO,dD,dI] at hx
     subst hx;exact .inr hb
 · simp only[bA,bQ,gI,hb]
   have hlen:tr.length≤cs.length:=by
    have:=tA List.length hcs
    simp only[dX,aE] at this
    omega
   have hca:c≠b:=fun e=>h.apart (by simp [cY,e])
   have hma:m≠b:=fun e=>h.HO (by simp [cY,e])
   have iF:cs.take (tr.length*1)++ [AV.int .i64 n].flatMap AV.cells=(tr++ [n]).map iv:=by rw[yK,hcs];simp [AV.cells]
   refine⟨trivial,DC,by omega,by omega,?_,fun b' hb'=>?_⟩
   · rw[iF]
     refine hK _ _ (.inr ⟨b,_,by simp,aA.aL _ _ _,by rw[mU (by simp)]⟩) (by simpa [cY] using hca) (by simpa [cY] using hma) (fun x hx _=>?_) (fun x hx=>.inl hx)
     simp only[cY,cO,dD,dI] at hx
     rw[aA.aF _ _ hx]
   · rw[iF]
     obtain⟨hc',hm'⟩:=hcm b' hb'
     refine hK _ _ (.inr ⟨b',_,by simp,aA.aL _ _ _,by rw[mU (by simp)]⟩) (by simpa [cY] using c9 hc') (by simpa [cY] using c9 hm') (fun x hx hx'=>?_) (fun x hx=>?_)
     · simp only[cY,cO,dD,dI] at hx hx'
       rw[aA.aF _ _ hx']
       simp [aA.erase,hx]
     · simp only[cY,cO,dD,dI] at hx
       subst hx;exact .inr hb'
end Go.AW
namespace Go.AW
open Go.Proofs.Tryz
abbrev xS:=zi tI_3 (zi zI_3 (zi aY (zi tI_4 (zi zI_4 (zi cG (zi tI_52 (zi zI_52 (zi bU (zi bV (zi bX (zi bY (zi bT (zi tI_178 (zi zI_178 (zi tI_207 (zi zI_207 (zi xV (zi tI_209 (zi zI_209 (zi zU (zi zW y9)))))))))))))))))))))
theorem FX{σ:Sub}{f:Nat}{t u:Tm}(hw:eU σ f t u)(c m:Nat)(q:AV)(st:aA)(hS:gQ st c m q σ):aD prog 257 [.ptr c 0,t.av] st (fun r st'=>r=u.av∧st'=st):=by
 refine aD.done ?_
 refine wF [1000000,3] 2 func257 ntmps257 rfl rfl ?_
 intro _
 simp -implicitDefEqProofs only[aB,seval,xS]
 intro b3 h3 b4 h4
 have hne:b4≠b3:=by rintro rfl;rw[aA.aL] at h4;cases h4
 have hn4:st b4=none:=by rw[aA.aF st _ hne] at h4;exact h4
 have hD:∀o o',aM ((st.aC b3 o).aC b4 o') st:=fun o o'=>((aM.refl _).aC h3).aC hn4
 have hS':∀o o',gQ ((st.aC b3 o).aC b4 o') c m q σ:=fun o o'=>(hS.aC h3).aC (by rw[aA.aF _ _ hne];exact hn4)
 obtain⟨aQY,aYJ⟩:=hS.ne h3
 obtain⟨aQZ,aYK⟩:=hS.ne hn4
 refine rB (σ:=Nat×Tm) [1000000,3] [0,3,4] (fun p=>eU σ p.1 p.2 u) (fun p=>[]) (fun p=>(st.aC b3 (.cells p.2.av.cells)).aC b4 (.cells [.int .i64 0,.int .i64 0,.str ⟨#[]⟩,.fslice []])) (fun p=>p.1) (by decide +kernel) ⟨(f,t),hw,aR.mk (by simp -implicitDefEqProofs only[aB,seval])⟩ ?_
 rintro⟨g,t⟩ hw
 obtain⟨k,n,s,ts⟩:=t
 simp only at hw
 simp only[aX]
 simp -implicitDefEqProofs only[hne.symm,aB,seval,xS]
 refine aT (fun h=>?_) (fun h=>?_)
 case refine_2=>
  simp only[cM] at h
  cases hw with
  | go h1=>exact absurd h1 h
  | stop=>
   simp -implicitDefEqProofs only[aS,hne.symm,aB,seval,xS]
   exact⟨by rw[←aX,Tm.soft],hD _ _⟩
 simp only[bM] at h
 simp -implicitDefEqProofs only[aB,seval]
 refine wP [(0,1),(1,1),(2,1),(4,1),(3,2),(5,2),(6,2),(7,1),(8,1),(9,1),(10,0),(11,0),(12,1)] [0,1,2,4,3,5,6,7,8,9,12] mixed ?_
 have hl:=fun(st':aA) (hm:st' m=some (AO.map (mapOf σ)))=>aSL (P:=prog) (n:=n) hm xV aY aWM
 simp -implicitDefEqProofs only[hne.symm,hS.cells,aQY.symm,aQZ.symm,aB,seval,xS]
 rw[hl _ (hS' _ _).map]
 cases hw with
 | stop hs=>
  rw[show σ n=none from hs h]
  simp -implicitDefEqProofs only[found,aS,aB,seval,xS]
  intro b5 h5
  have h53:b5≠b3:=by rintro rfl;simp [aA.aF,aA.aL,hne.symm] at h5
  have h54:b5≠b4:=by rintro rfl;simp [aA.aL] at h5
  have hn5:st b5=none:=by rw[aA.aF _ _ h54,aA.aF _ _ h53] at h5;exact h5
  simp -implicitDefEqProofs only[aS,hne.symm,h53.symm,h54.symm,aB,seval,xS]
  exact⟨by rw[←aX,Tm.soft],((((aM.refl _).aC h3).aC hn4).aC hn5).aC hn4⟩
 | go _ h2 h3'=>
  rw[show σ n=some _ from h2]
  simp -implicitDefEqProofs only[found,aS,aB,seval,xS]
  intro b5 h5
  have h53:b5≠b3:=by rintro rfl;simp [aA.aF,aA.aL,hne.symm] at h5
  have h54:b5≠b4:=by rintro rfl;simp [aA.aL] at h5
  have hn5:st b5=none:=by rw[aA.aF _ _ h54,aA.aF _ _ h53] at h5;exact h5
  simp -implicitDefEqProofs only[hne.symm,h53.symm,aB,seval]
  refine⟨(_,_),Nat.lt_succ_self _,h3',aR.drop (fun x=>?_) (by simp -implicitDefEqProofs only[aB,seval])⟩
  by_cases e3:x=b3<;>by_cases e4:x=b4<;>by_cases e5:x=b5<;>simp_all [aA.aC]
abbrev aHU:=zi tI_3 (zi zI_3 (zi aY (zi tI_28 (zi zI_28 (zi aP (zi bE (zi bF (zi b9 (zi tI_52 (zi zI_52 (zi bU (zi bV (zi bX (zi bY bT))))))))))))))
theorem aK8(l:List Tm)(g:FuncId)(dG:List AV)(p:Tm→Bool)(J E:aA→Prop)(hc:∀x∈l,∀s,J s→aD prog g ([Tm.av x]++dG) s (fun r s'=>r=.bool (p x)∧(p x=true→E s')∧(p x=false→J s')))(st:aA)(h0:J st) :
 aD prog 214 [.slice (l.map Tm.av),.func g dG] st (fun r st'=>r=.int .i64 (qS p l 0)∧(l.any p=true→E st')∧(l.any p=false→J st')):=by
 refine wF [1000000] 2 func214 ntmps214 rfl rfl ?_
 simp only[dK,AV.fits,dO,aE]
 intro ⟨hl,_⟩
 simp -implicitDefEqProofs only[aE,aB,seval,aHU]
 refine dQ (σ:=aA) [1000000] [0,1,7] l (fun i s=>J s∧qS p (l.drop i) i=qS p l 0∧(l.drop i).any p=l.any p) (fun i _=>[(8,.int .i64 i)]) (fun _ s=>s) (by decide +kernel) ⟨st,⟨h0,rfl,rfl⟩,aR.mk (by simp -implicitDefEqProofs only[aB,↓aW,seval])⟩ (fun i x s hx hlt bD hdr hinv=>?_) (fun s hge hinv=>?_)
 case refine_2=>
  obtain⟨i1,i2,i3⟩:=hinv
  rw[iD] at i2 i3
  simp -implicitDefEqProofs only[hge,aB,seval]
  exact⟨by rw[←i2];try rfl,fun h=>(by rw[←i3] at h;cases h),fun _=>i1⟩
 obtain⟨i1,i2,i3⟩:=hinv
 rw[hdr,qS] at i2
 rw[hdr,yD] at i3
 have hw:=bJ (n:=(i:Int)+1)
 simp -implicitDefEqProofs only[bD,bG (av:=Tm.av) aP hx (aO x),b7,aO,aB,seval,aHU]
 refine(hc x (cI hx) s i1).mono ?_
 rintro _ s2 ⟨rfl,hE,hJ⟩
 simp -implicitDefEqProofs only[aB,seval]
 refine aT (fun h=>?_) (fun h=>?_)
 · rw[aK h] at i2
   rw[h,x9] at i3
   simp -implicitDefEqProofs only[aB,seval]
   exact⟨by rw[i2],fun _=>hE h,fun h'=>(by rw[←i3] at h';cases h')⟩
 · rw[aG (by simp [h])] at i2
   rw[h,rC] at i3
   simp -implicitDefEqProofs only[aB,seval]
   exact⟨s2,⟨hJ h,i2,i3⟩,aR.mk (by simp -implicitDefEqProofs only[hw,aB,seval])⟩
theorem aK0(l:List Tm)(g:FuncId)(dG:List AV)(p:Tm→Bool)(J E:aA→Prop)(hc:∀x∈l,∀s,J s→aD prog g ([Tm.av x]++dG) s (fun r s'=>r=.bool (p x)∧(p x=true→E s')∧(p x=false→J s')))(st:aA)(h0:J st) :
 aD prog 172 [.slice (l.map Tm.av),.func g dG] st (fun r st'=>r=.bool (l.any p)∧(l.any p=true→E st')∧(l.any p=false→J st')):=by
 refine wF [1000000] 2 func172 ntmps172 rfl rfl ?_
 intro _
 simp -implicitDefEqProofs only[aB,seval]
 refine(aK8 l g dG p J E hc st h0).mono ?_
 rintro _ s2 ⟨rfl,hE,hJ⟩
 simp -implicitDefEqProofs only[aR0,aB,seval]
 exact⟨hE,hJ⟩
def Occ(R:Int→Tm)(n:Int)(t:Tm)(st:aA)(mm:Nat)(M:List Int)(r:AV)(st':aA):Prop:=
 r=.bool (decide (n∈(t.aH R).vl))∧∃M',st'=st.aC mm (.map (kC M'))∧(n∉(t.aH R).vl→∀v∈M',v∈M∨n∉(R v).vl)
abbrev aVO:=zi tI_3 (zi zI_3 (zi aY (zi tI_4 (zi zI_4 (zi cG (zi tI_52 (zi zI_52 (zi bU (zi bV (zi bX (zi bY (zi bT (zi tI_178 (zi zI_178 (zi tI_272 (zi zI_272 EV))))))))))))))))
theorem aM1{c mm:Nat}{n:Int}{t:Tm}{st:aA}{Q:AV→aA→Prop}(hc:aD prog 282 [.ptr c 0,.int .i64 n,t.av,.map mm] st Q) :
 aD prog 291 [t.av,.pptr (.ptr c 0),.pptr (.int .i64 n),.pptr (.map mm)] st Q:=by
 refine wF [1000000] 4 func291 ntmps291 rfl rfl ?_
 intro _
 simp -implicitDefEqProofs only[aB,seval,aVO]
 refine hc.mono ?_
 intro r s h
 simp -implicitDefEqProofs only[aB,seval]
 exact h
abbrev vY:=zi tI_3 (zi zI_3 (zi aY (zi tI_4 (zi zI_4 (zi cG (zi tI_28 (zi zI_28 (zi aP (zi bE (zi bF (zi b9 (zi tI_52 (zi zI_52 (zi bU (zi bV (zi bX (zi bY (zi bT (zi tI_178 (zi zI_178 (zi tI_272 (zi zI_272 (zi EV (zi tI_291 (zi zI_291 aJO)))))))))))))))))))))))))
theorem KX{σ:Sub}{R:Int→Tm}{rk:Int→Nat}{B:Nat}(G:Good σ R rk B){n:Int}(hn:σ n=none)(c m mm:Nat)(q:AV)(hmm:mm≠c∧mm≠m) :
 ∀(K:Nat) (t:Tm) (M:List Int) (st:aA),gQ st c m q σ→st mm=some (.map (kC M))→(∀w∈t.vl,rk w<K)→(∀v∈M,n∉(R v).vl∨∀w∈t.vl,rk w<rk v) →
 aD prog 282 [.ptr c 0,.int .i64 n,t.av,.map mm] st (Occ R n t st mm M)
 | K,.mk k x s ts,M,st,hS,hM,hK,HE=>by
  have IH1:=fun(K':Nat) (hK':K'<K) t M st=>KX G hn c m mm q hmm K' t M st
  have IH2:=fun(y:Tm) (hy:y∈ts) M st=>KX G hn c m mm q hmm K y M st
  have hlk:=aSK (P:=prog) (n:=x) hM EV aY aWL
  simp only[aX]
  refine wF [1000000] 4 func282 ntmps282 rfl rfl ?_
  intro _
  simp -implicitDefEqProofs only[aB,seval,vY]
  refine aT (fun h=>?_) (fun h=>?_)
  · simp only[bM] at h
    have hvl:(Tm.mk k x s ts).vl= [x]:=Tm.lP h
    have hmv:(Tm.mk k x s ts).aH R=R x:=Tm.lH R h
    have hKx:rk x<K:=hK x (by rw[hvl];simp)
    simp -implicitDefEqProofs only[hlk,aB,seval,vY]
    refine aT (fun h2=>?_) (fun h2=>?_)
    · simp only[bM] at h2
      simp -implicitDefEqProofs only[aB,seval]
      have hno:n∉(R x).vl:=by
       rcases HE x h2 with h | h
       · exact h
       · exact absurd (h x (by rw[hvl];simp)) (Nat.lt_irrefl _)
      refine⟨by rw[hmv];simp [hno],M,?_,fun _ v hv=>.inl hv⟩
      funext y
      simp only[aA.aC]
      split
      · rename_i e;rw[e,hM]
      · rfl
    · simp only[cM] at h2
      simp -implicitDefEqProofs only[aB,seval,vY]
      refine aWA hM EV aY ?_
      simp -implicitDefEqProofs only[aB,seval,vY]
      obtain⟨f,hwk⟩:=G.wk (Tm.mk k x s ts)
      generalize hu:wk σ (Tm.mk k x s ts)=u at *
      have hS':=hS.JK (o:=.map (kC (x::M))) hmm.1 hmm.2
      have hcw:=FX hwk c m q _ hS'
      rw[aX] at hcw
      refine hcw.to ?_
      have MH:u.aH R=R x:=by rw[hwk.aH G.tR,hmv]
      have rY:=hwk.end
      have hrk:=hwk.D2 G
      obtain⟨k',x',s',ts'⟩:=u
      simp only[aX]
      simp -implicitDefEqProofs only[aB,↓aW,seval,vY]
      refine aT (fun h3=>?_) (fun h3=>?_)
      · simp only[bM] at h3
        simp -implicitDefEqProofs only[aB,seval,vY]
        have oH:R x'=vr x':=G.free (rY h3)
        rw[Tm.lH R h3,oH] at MH
        refine⟨?_,x::M,rfl,fun hno v hv=>?_⟩
        · rw[hmv,←MH,v7]
          simp [eq_comm]
        · rcases cO.1 hv with rfl | hv
          · exact .inr (by rw[hmv] at hno;exact hno)
          · exact .inl hv
      · simp only[cM] at h3
        simp -implicitDefEqProofs only[aB,seval,vY]
        have hf0:f≠0:=by
         rintro rfl
         cases hwk with
         | stop _=>exact h3 h
        have hr':∀w∈(Tm.mk k' x' s' ts').vl,rk w<rk x:=fun w hw=>by
         obtain⟨v,hv,_,hlt⟩:=hrk w hw
         rw[hvl] at hv
         simp only[cO,dD,dI] at hv
         subst hv
         exact hlt hf0
        have:=IH1 (rk x) hKx (Tm.mk k' x' s' ts') (x::M) _ hS' (aA.aL _ _ _) hr' (fun v hv=>by
         rcases cO.1 hv with rfl | hv
         · exact .inr hr'
         · rcases HE v hv with h5 | h5
           · exact .inl h5
           · refine .inr fun w hw=>Nat.lt_trans (hr' w hw) ?_
             exact h5 x (by rw[hvl];simp))
        rw[aX] at this
        refine this.mono ?_
        rintro _ _ ⟨rfl,M',rfl,hM'⟩
        simp -implicitDefEqProofs only[aB,seval]
        rw[MH] at hM' ⊢
        refine⟨by rw[hmv],M',rfl,fun hno v hv=>?_⟩
        rw[hmv] at hno
        rcases hM' hno v hv with h5 | h5
        · rcases cO.1 h5 with rfl | h5
          · exact .inr hno
          · exact .inl h5
        · exact .inr h5
  · simp only[cM] at h
    simp -implicitDefEqProofs only[aB,seval,vY]
    have hmv:=Tm.kB R (n:=x) (s:=s) (ts:=ts) h
    have aPU:ts.any (fun y=>decide (n∈(y.aH R).vl))=decide (n∈((Tm.mk k x s ts).aH R).vl):=by
     rw[hmv,wC]
     simp only[List.any_eq_true,bM]
     rw[Tm.j0 h]
     constructor
     · rintro⟨y,hy,h2⟩;exact⟨_,cE.2 ⟨y,hy,rfl⟩,h2⟩
     · rintro⟨z,hz,h2⟩
       obtain⟨y,hy,rfl⟩:=cE.1 hz
       exact⟨y,hy,h2⟩
    refine(aK0 ts _ _ (fun y=>decide (n∈(y.aH R).vl)) (fun s1=>∃M',s1=st.aC mm (.map (kC M'))∧∀v∈M',v∈M∨n∉(R v).vl) (fun s1=>∃M',s1=st.aC mm (.map (kC M'))) ?_ st ⟨M,?_,fun v hv=>.inl hv⟩).mono ?_
    · rintro y hy s1 ⟨M',rfl,hM'⟩
      simp only[gB,eR]
      have hc:=IH2 y hy M' (st.aC mm (.map (kC M'))) (hS.JK hmm.1 hmm.2) (aA.aL _ _ _) (fun w hw=>hK w ((Tm.j0 h).2 ⟨y,hy,hw⟩)) (fun v hv=>by
       rcases hM' v hv with h5 | h5
       · rcases HE v h5 with h6 | h6
         · exact .inl h6
         · exact .inr fun w hw=>h6 w ((Tm.j0 h).2 ⟨y,hy,hw⟩)
       · exact .inl h5)
      refine(aM1 hc).mono ?_
      rintro _ _ ⟨rfl,M2,rfl,hM2⟩
      rw[eH]
      refine⟨rfl,fun _=>⟨M2,rfl⟩,fun hno=>⟨M2,rfl,fun v hv=>?_⟩⟩
      simp only[cM] at hno
      rcases hM2 hno v hv with h5 | h5
      · exact hM' v h5
      · exact .inr h5
    · funext y
      simp only[aA.aC]
      split
      · rename_i e;rw[e,hM]
      · rfl
    · rintro _ s2 ⟨rfl,hE,hJ⟩
      rw[aPU] at hE hJ ⊢
      simp -implicitDefEqProofs only[aB,seval]
      by_cases hno:n∈((Tm.mk k x s ts).aH R).vl
      · obtain⟨M2,rfl⟩:=hE (by simp [hno])
        exact⟨rfl,M2,rfl,fun h=>absurd hno h⟩
      · obtain⟨M2,rfl,h5⟩:=hJ (by simp [hno])
        exact⟨rfl,M2,rfl,fun _=>h5⟩
termination_by K t=>(K,SizeOf.sizeOf t)
decreasing_by
 · exact Prod.Lex.left _ _ hK'
 · have:=List.sizeOf_lt_of_mem hy
   exact Prod.Lex.right _ (by simp only[Tm.mk.sizeOf_spec];omega)
abbrev IP:=zi tI_3 (zi zI_3 (zi aY (zi tI_4 (zi zI_4 (zi cG (zi tI_40 (zi zI_40 (zi dS (zi fV (zi fW (zi f9 (zi tI_52 (zi zI_52 (zi bU (zi bV (zi bX (zi bY (zi bT (zi tI_178 (zi zI_178 (zi tI_207 (zi zI_207 (zi xV (zi tI_209 (zi zI_209 (zi zU (zi zW (zi y9 (zi tI_272 (zi zI_272 EV))))))))))))))))))))))))))))))
theorem Q0{σ:Sub}(hg:cC σ){n:Int}(hn:σ n=none){t:Tm}{r:Bool}{σ':Sub}{add:List Int}(hb:iP σ n t=(r,σ',add))(c m:Nat)(q:AV)(tr:List Int)(st:aA)(hS:e9 st c m q σ tr)(hl:tr.length+add.length≤1099511627776) :
 aD prog 259 [.ptr c 0,.int .i64 n,t.av] st (fun r' st'=>r'=.bool r∧sT c m st q σ' (tr++add) st'):=by
 obtain⟨rk,B,G⟩:=hg.rs
 refine wF [1000000] 3 func259 ntmps259 rfl rfl ?_
 intro _
 simp -implicitDefEqProofs only[aB,seval,IP]
 intro mm hmm
 obtain⟨hmc,aQW⟩:=hS.sub.ne hmm
 rw[←aSZ]
 have hS1:=hS.BD (o:=.map (kC [])) hmm
 refine(KX G hn c m mm q ⟨hmc,aQW⟩ B t [] _ hS1.sub (aA.aL _ _ _) (fun w _=>G.bd w) (fun v hv=>absurd hv (dD))).mono ?_
 rintro _ _ ⟨rfl,M',rfl,_⟩
 have hS2:=hS.BD (o:=.map (kC M')) hmm
 have hQ2:kL c m st q (st.aC mm (.map (kC M'))) q:=kL.BD hmm
 rw[eH]
 generalize st.aC mm (.map (kC M'))=s2 at *
 obtain⟨hqa,hqw,hqj,hqc,hqs⟩:=hS2.shape
 simp -implicitDefEqProofs only[aB,seval]
 unfold iP at hb
 refine aT (fun h=>?_) (fun h=>?_)
 · simp only[bM] at h
   rw[aK h] at hb
   obtain⟨rfl,rfl,rfl⟩:false=r∧σ=σ'∧[]=add:=by simpa using hb
   simp -implicitDefEqProofs only[aB,seval]
   exact⟨q,hS2,hQ2⟩
 · simp only[cM] at h
   rw[aG h] at hb
   obtain⟨rfl,rfl,rfl⟩:true=r∧σ.set n t=σ'∧[n]=add:=by simpa using hb
   simp -implicitDefEqProofs only[aB,seval]
   refine wP [(0,1),(1,1),(2,1),(4,1),(3,2),(5,2),(6,0)] [0,1,2,4,3,5] mixed ?_
   simp -implicitDefEqProofs only[hS2.sub.cells,aB,seval,IP]
   refine aWC hS2.sub.map xV aY ?_
   have hcm:=hS2.sub.cm
   have hS3:e9 (s2.aC m (.map (mapOf (σ.set n t)))) c m q (σ.set n t) tr:=by
    refine⟨⟨by rw[aA.aF _ _ hcm];exact hS2.sub.cells,aA.aL _ _ _⟩,?_,hS2.apart⟩
    rcases hS2.eA with h4 | ⟨b',cs,e1,e2,e3⟩
    · exact .inl h4
    · refine .inr ⟨b',cs,e1,?_,e3⟩
      rw[aA.aF _ _ (by rintro rfl;exact hS2.HO (by rw[e1];simp [cY]))]
      exact e2
   have hQ3:kL c m st q (s2.aC m (.map (mapOf (σ.set n t)))) q:=⟨fun b o h h1 h2 h3=>by rw[aA.aF _ _ h2];exact hQ2.frame b o h h1 h2 h3,fun _ h=>.inl h⟩
   generalize s2.aC m (.map (mapOf (σ.set n t)))=s3 at *
   simp -implicitDefEqProofs only[hS3.sub.cells,hqa,aB,seval,IP]
   refine aVV dS fV fW rfl (by omega) hS3 (by simpa using hl) (fun q' s4 ht hc' hm' hk hf=>?_)
   have h4c:s4 c=some (.cells [.map m,q]):=by rw[hk c hS3.apart hc'];exact hS3.sub.cells
   have h4m:s4 m=some (.map (mapOf (σ.set n t))):=by rw[hk m hS3.HO hm'];exact hS3.sub.map
   have aEZ:q'.cells= [q']∧q'.storable=true:=by
    rcases ht with ⟨rfl,_⟩ | ⟨b',cs,rfl,_⟩<;>exact⟨rfl,rfl⟩
   simp -implicitDefEqProofs only[aS,h4c,aEZ.1,aEZ.2,aB,seval,IP]
   refine⟨q',⟨⟨aA.aL _ _ _,by rw[aA.aF _ _ (c9 hcm)];exact h4m⟩,?_,hc'⟩,⟨fun b o h h1 h2 h3=>?_,fun b hb=>?_⟩⟩
   · rcases ht with h4 | ⟨b',cs,e1,e2,e3⟩
     · exact .inl h4
     · refine .inr ⟨b',cs,e1,?_,e3⟩
       rw[aA.aF _ _ (by rintro rfl;exact hc' (by rw[e1];simp [cY]))]
       exact e2
   · rw[aA.aF _ _ h1,hk b h3 (fun h4=>?_)]
     · exact hQ3.frame b o h h1 h2 h3
     · rcases hf b h4 with h5 | h5
       · exact h3 h5
       · rw[hQ3.frame b o h h1 h2 h3] at h5;cases h5
   · rcases hf b hb with h5 | h5
     · exact .inl h5
     · by_cases h6:b∈cY q
       · exact .inl h6
       · refine .inr ?_
         cases hst:st b with
         | none=>rfl
         | some o=>
          exfalso
          have h1:b≠c:=by rintro rfl;rw[hS3.sub.cells] at h5;cases h5
          have h2:b≠m:=by rintro rfl;rw[hS3.sub.map] at h5;cases h5
          rw[hQ3.frame b o hst h1 h2 h6] at h5;cases h5
abbrev Sm (t:Tm):Prop:=t.small=true
theorem aUQ:∀t:Tm,t.k≠1→Sm t→∀x∈t.ts,Sm x:=fun t _ h x hx=>by
 cases t
 exact(Tm.oO h).2 x hx
abbrev oQ:=zi tI_3 (zi zI_3 (zi aY (zi tI_4 (zi zI_4 (zi cG (zi tI_9 (zi zI_9 (zi d4 (zi tI_28 (zi zI_28 (zi aP (zi bE (zi bF (zi b9 (zi tI_52 (zi zI_52 (zi bU (zi bV (zi bX (zi bY (zi bT (zi tI_178 zI_178))))))))))))))))))))))
theorem SE:∀(g:Nat) (σ:Sub) (a b:Tm) (r:Bool) (σ':Sub) (add:List Int),cC σ→cD Sm σ→Sm a→Sm b→cV g σ a b=some (r,σ',add)→∀(c m:Nat) (q:AV) (tr:List Int) (st:aA),e9 st c m q σ tr→tr.length+add.length≤1099511627776 →
 aD prog 228 [.ptr c 0,a.av,b.av] st (fun r' st'=>r'=.bool r∧sT c m st q σ' (tr++add) st')
 | 0,σ,a,b,r,σ',add,hg,hsm,ha0,hb0,h,c,m,q,tr,st,hS,hl=>by simp only[cV] at h;cases h
 | g+1,σ,a,b,r,σ',add,hg,hsm,ha0,hb0,h,c,m,q,tr,st,hS,hl=>by
  have IH:=SE g
  obtain⟨rk,B,G⟩:=hg.rs
  obtain⟨fa,wa⟩:=G.wk a
  obtain⟨fb,wb⟩:=G.wk b
  have hca:=fun st (hS:gQ st c m q σ)=>FX wa c m q st hS
  have hcb:=fun st (hS:gQ st c m q σ)=>FX wb c m q st hS
  have ea:=wa.end
  have eb:=wb.end
  have hsa:=wa.all (p:=Sm) hsm ha0
  have hsb:=wb.all (p:=Sm) hsm hb0
  replace h:=JH h
  generalize wk σ a=a1 at *
  generalize wk σ b=b1 at *
  clear wa wb
  refine wF [1000000,4,5] 3 func228 ntmps228 rfl rfl ?_
  intro fK
  simp -implicitDefEqProofs only[aB,seval]
  intro b4 h4 b5 h5
  have h54:b5≠b4:=by rintro rfl;rw[aA.aL] at h5;cases h5
  have hn5:st b5=none:=by rw[aA.aF st _ h54] at h5;exact h5
  have hS':∀o o',e9 ((st.aC b4 o).aC b5 o') c m q σ tr:=fun o o'=>(hS.BD h4).BD (by rw[aA.aF _ _ h54];exact hn5)
  refine wP [(0,1),(3,1),(1,2),(2,2),(4,2),(5,2),(6,0),(7,0)] [0,3,1,2,4,5] mixed ?_
  simp -implicitDefEqProofs only[h54.symm,aB,seval,oQ]
  refine jB (hca _ (hS' _ _).sub) ?_
  simp -implicitDefEqProofs only[aB,seval,oQ]
  refine jB (hcb _ (hS' _ _).sub) ?_
  obtain⟨ka,na,sa,tsa⟩:=a1
  obtain⟨kb,nb,sb',tsb⟩:=b1
  obtain⟨hla,aEQ⟩:=Tm.oO hsa
  obtain⟨hlb,aER⟩:=Tm.oO hsb
  simp only[aX]
  simp only[Tm.k,Tm.n,Tm.ts] at h ea eb
  have hl4:∀q',q'=q→b4∉cY q:=fun _ _ hb=>by obtain⟨cs,e⟩:=hS.EF b4 hb;rw[h4] at e;cases e
  have hl5:b5∉cY q:=fun hb=>by obtain⟨cs,e⟩:=hS.EF b5 hb;rw[hn5] at e;cases e
  obtain⟨h4c,h4m⟩:=hS.sub.ne h4
  obtain⟨h5c,h5m⟩:=hS.sub.ne hn5
  have hQ:∀o o',kL c m st q ((st.aC b4 o).aC b5 o') q:=fun o o'=>⟨fun x p h _ _ _=>by
   rw[aA.aF _ _ (by rintro rfl;rw[hn5] at h;cases h),aA.aF _ _ (by rintro rfl;rw[h4] at h;cases h)];exact h,fun _ h=>.inl h⟩
  simp -implicitDefEqProofs only[aS,h54,h54.symm,aB,seval,oQ]
  rw[aA.v5 h54,aA.v5 h54.symm]
  have fX:∀o o',sT c m st q σ tr ((st.aC b4 o).aC b5 o'):=fun o o'=>⟨q,hS' _ _,hQ _ _⟩
  rcases h with ⟨h1,h2,h3,rfl,rfl,rfl⟩ | ⟨h1,h2,h3⟩ | ⟨h1,h2,h3⟩ | ⟨h1,h2,h3,h4⟩ | ⟨h1,h2,h3,rfl,rfl,rfl⟩
  · subst h1 h2 h3
    simp -implicitDefEqProofs only[eM,h54.symm,aB,seval,oQ]
    exact fX _ _
  · subst h1
    have hcb:=Q0 hg (ea rfl) h3 c m q tr _ (hS' (.cells [.int .i64 1,.int .i64 na,.str sa,.slice (tsa.map Tm.av)]) (.cells [.int .i64 kb,.int .i64 nb,.str sb',.slice (tsb.map Tm.av)])) hl
    rw[aX] at hcb
    by_cases h5:kb=1
    · subst h5
      have h6:¬na=nb:=fun e=>h2 ⟨rfl,e⟩
      simp -implicitDefEqProofs only[eM,h6,eN,h54.symm,aB,seval,oQ]
      refine hcb.mono ?_
      rintro _ s2 ⟨rfl,hp⟩
      simp -implicitDefEqProofs only[aB,seval]
      exact hp.from (hQ _ _) (hS' _ _)
    · simp -implicitDefEqProofs only[eM,h5,eN,h54.symm,aB,seval,oQ]
      refine hcb.mono ?_
      rintro _ s2 ⟨rfl,hp⟩
      simp -implicitDefEqProofs only[aB,seval]
      exact hp.from (hQ _ _) (hS' _ _)
  · subst h2
    have hcb:=Q0 hg (eb rfl) h3 c m q tr _ (hS' (.cells [.int .i64 ka,.int .i64 na,.str sa,.slice (tsa.map Tm.av)]) (.cells [.int .i64 1,.int .i64 nb,.str sb',.slice (tsb.map Tm.av)])) hl
    rw[aX] at hcb
    simp -implicitDefEqProofs only[eM,h1,eN,h54.symm,aB,seval,oQ]
    refine hcb.mono ?_
    rintro _ s2 ⟨rfl,hp⟩
    simp -implicitDefEqProofs only[aB,seval]
    exact hp.from (hQ _ _) (hS' _ _)
  · rw[qM] at h3
    simp only[Tm.k,Tm.n,Tm.s,Tm.ts] at h3
    obtain⟨rfl,rfl,rfl,hlen⟩:=h3
    have dC:decide ((tsa.length:Int)=(tsb.length:Int))=true:=by simp [hlen]
    simp -implicitDefEqProofs only[eM,eN,dC,h54.symm,aE,h1,aB,seval,oQ]
    have hS0:=hS' (.cells [.int .i64 ka,.int .i64 na,.str sa,.slice (tsa.map Tm.av)]) (.cells [.int .i64 ka,.int .i64 na,.str sa,.slice (tsb.map Tm.av)])
    have hQ0:=hQ (.cells [.int .i64 ka,.int .i64 na,.str sa,.slice (tsa.map Tm.av)]) (.cells [.int .i64 ka,.int .i64 na,.str sa,.slice (tsb.map Tm.av)])
    have e4:((st.aC b4 (.cells [.int .i64 ka,.int .i64 na,.str sa,.slice (tsa.map Tm.av)])).aC b5 (.cells [.int .i64 ka,.int .i64 na,.str sa,.slice (tsb.map Tm.av)])) b4=some (.cells [.int .i64 ka,.int .i64 na,.str sa,.slice (tsa.map Tm.av)]):=by rw[aA.aF _ _ h54.symm,aA.aL]
    have e5:((st.aC b4 (.cells [.int .i64 ka,.int .i64 na,.str sa,.slice (tsa.map Tm.av)])).aC b5 (.cells [.int .i64 ka,.int .i64 na,.str sa,.slice (tsb.map Tm.av)])) b5=some (.cells [.int .i64 ka,.int .i64 na,.str sa,.slice (tsb.map Tm.av)]):=aA.aL _ _ _
    generalize (st.aC b4 (.cells [.int .i64 ka,.int .i64 na,.str sa,.slice (tsa.map Tm.av)])).aC b5 (.cells [.int .i64 ka,.int .i64 na,.str sa,.slice (tsb.map Tm.av)])=s0 at *
    refine dQ (σ:=Sub×List Int×List Int×AV×aA) [1000000,4,5] [0,4,5,79] tsa
     (fun i p=>cC p.1∧cD Sm p.1∧e9 p.2.2.2.2 c m p.2.2.2.1 p.1 (tr++p.2.1)∧kL c m s0 q p.2.2.2.2 p.2.2.2.1∧dH g p.1 (tsa.drop i) (tsb.drop i)=some (r,σ',p.2.2.1)∧p.2.1++p.2.2.1=add)
     (fun i _=>[(6,.bool false),(80,.int .i64 i)]) (fun _ p=>p.2.2.2.2) (by decide +kernel)
     ⟨(σ,[],add,q,s0),⟨hg,hsm,by rw[fN];exact hS0,kL.refl _ _ _ _,h4,rfl⟩,aR.mk (by simp -implicitDefEqProofs only[aB,↓aW,seval])⟩ (fun i x p hx hlt bD hdr hinv=>?_) (fun p hge hinv=>?_)
    case refine_2=>
     obtain⟨σi,ai,rest,qi,si⟩:=p
     obtain⟨i1,i2,i3,i4,i5,i6⟩:=hinv
     simp only at i1 i2 i3 i4 i5 i6
     rw[iD,hlen,iD] at i5
     simp only[dH,Option.some.injEq,Prod.mk.injEq] at i5
     obtain⟨rfl,rfl,rfl⟩:=i5
     rw[fN] at i6
     subst i6
     simp -implicitDefEqProofs only[hge,aB,seval]
     exact⟨qi,i3,hQ0.trans hS0 i4⟩
    obtain⟨σi,ai,rest,qi,si⟩:=p
    obtain⟨i1,i2,i3,i4,i5,i6⟩:=hinv
    simp only at i1 i2 i3 i4 i5 i6
    obtain⟨y,hy⟩:∃y,tsb[i]?=some y:=⟨_,e7 (by omega)⟩
    have AB:tsb.drop i=y::tsb.drop (i+1):=by
     obtain⟨h1,h2⟩:=eS.1 hy
     rw[oV h1,h2]
    rw[hdr,AB,dH] at i5
    have f4:=i4.frame b4 _ e4 h4c h4m (hl4 q rfl)
    have f5:=i4.frame b5 _ e5 h5c h5m hl5
    have hw:=bJ (n:=(i:Int)+1)
    simp -implicitDefEqProofs only[bD,aB,seval]
    refine wP [(0,1),(1,1),(3,1),(6,1),(8,1),(2,2),(4,1),(5,2),(7,2),(9,1),(10,2),(11,0),(12,1)] [0,1,3,6,8,2,4,5,7,9,10,12] mixed ?_
    simp -implicitDefEqProofs only[f4,f5,bG (av:=Tm.av) aP hx (aO x),bG (av:=Tm.av) aP hy (aO y),aB,seval,oQ]
    cases hu:cV g σi x y with
    | none=>rw[hu] at i5;cases i5
    | some p1=>
     obtain⟨r1,σ1,tr1⟩:=p1
     rw[hu] at i5
     have hx1:Sm x:=aEQ x (cI hx)
     have hy1:Sm y:=aER y (cI hy)
     have hU:=uE i1 hu
     have hA:=(JJ aUQ g).1 σi x y r1 σ1 tr1 i1 hu i2 hx1 hy1
     have nF:tr1.length≤rest.length:=by
      cases r1 with
      | false=>simp only[Option.some.injEq,Prod.mk.injEq] at i5;rw[i5.2.2];exact cT _
      | true=>
       simp only at i5
       cases hu2:dH g σ1 (tsa.drop (i+1)) (tsb.drop (i+1)) with
       | none=>rw[hu2] at i5;cases i5
       | some p2=>
        obtain⟨r2,σ2,tr2⟩:=p2
        rw[hu2] at i5
        simp only[Option.some.injEq,Prod.mk.injEq] at i5
        rw[←i5.2.2,eC];omega
     have aPT:add.length=ai.length+rest.length:=by rw[←i6,eC]
     refine(IH σi x y r1 σ1 tr1 i1 i2 hx1 hy1 hu c m qi (tr++ai) si i3 (by rw[eC];omega)).mono ?_
     rintro _ s2 ⟨rfl,q2,hS2,hQ2⟩
     cases r1 with
     | false=>
      simp only[Option.some.injEq,Prod.mk.injEq] at i5
      obtain⟨rfl,rfl,rfl⟩:=i5
      simp -implicitDefEqProofs only[aB,seval]
      rw[←i6,←kW]
      exact⟨q2,hS2,hQ0.trans hS0 (i4.trans i3 hQ2)⟩
     | true=>
      simp only at i5
      cases hu2:dH g σ1 (tsa.drop (i+1)) (tsb.drop (i+1)) with
      | none=>rw[hu2] at i5;cases i5
      | some p2=>
       obtain⟨r2,σ2,tr2⟩:=p2
       rw[hu2] at i5
       simp only[Option.some.injEq,Prod.mk.injEq] at i5
       obtain⟨rfl,rfl,rfl⟩:=i5
       simp -implicitDefEqProofs only[aB,seval]
       exact⟨(σ1,ai++tr1,tr2,q2,s2),⟨hU.fO,hA,by rw[←kW];exact hS2,i4.trans i3 hQ2,hu2,by rw[kW];exact i6⟩,aR.mk (by simp -implicitDefEqProofs only[hw,aB,seval])⟩
  · have hd:ka=kb→na=nb→sa=sb'→¬(tsa.length:Int)=(tsb.length:Int):=by
     intro e1 e2 e3 e4
     have:rX (Tm.mk ka na sa tsa) (Tm.mk kb nb sb' tsb)=true:=qM.2 ⟨e1,e2,e3,by simp only[Tm.ts];omega⟩
     rw[h3] at this;cases this
    by_cases e1:ka=kb
    · by_cases e2:na=nb
      · by_cases e3:sa=sb'
        · have e4:=hd e1 e2 e3
          subst e1 e2 e3
          simp -implicitDefEqProofs only[eN,eM,h54.symm,h1,aE,e4,aB,seval,oQ]
          exact fX _ _
        · subst e1 e2
          simp -implicitDefEqProofs only[eN,eM,h54.symm,h1,e3,aB,seval,oQ]
          exact fX _ _
      · subst e1
        simp -implicitDefEqProofs only[eN,eM,h54.symm,h1,e2,aB,seval,oQ]
        exact fX _ _
    · clear hd
      simp -implicitDefEqProofs only[eN,h54.symm,h1,h2,e1,aB,seval,oQ]
      exact fX _ _
theorem aSU(σ:Sub)(l:List Int)(n:Int):l8 (mapOf (σ.out l)) n none=mapOf (σ.out (l++ [n])):=by
 funext x
 unfold l8 mapOf Sub.out
 by_cases h:x=n
 · simp [h]
 · simp only[h,cJ,dR,List.mem_singleton,dI]
theorem aN2{P:Program}{st:aA}{m:Nat}{σ:Sub}{l:List Int}{t kt et:TypeId}{n:Int}{K:AV→aA→Prop}(hm:st m=some (.map (mapOf (σ.out l))))(hu:P.underlying t=some (.map kt et))(hk:P.underlying kt=some (.int .i64))
 (h:K (.tup []) (st.aC m (.map (mapOf (σ.out (l++ [n])))))):wM P t st (.map m) (.int .i64 n) K:=by
 unfold wM
 simp only[hu,hm,hk]
 rw[aSU]
 exact h
theorem Sub.M6(σ:Sub):σ.out []=σ:=by funext n;simp [Sub.out]
theorem aUL{φ:AF}{d b n k:Nat}(h:φ d=.int .i64 (k:Int))(hk:k=0∨k<n):fE prog φ 40 (.mslice b 0 n 1) (some (.tmp d)) none none=some (.mslice b k (n - k) 1):=by
 have h1:cZ φ none n n=some n:=rfl
 have h2:cZ φ (some (.tmp d)) 0 n=some k:=by
  unfold cZ
  simp only[show φ.eval (.tmp d)=φ d from rfl,h]
  rw[aK (by omega)]
  simp
 unfold fE mG
 rw[aG (by simp [oK])]
 simp only[dS,h1,h2]
 by_cases h3:k=0
 · subst h3;simp
 · have h4:k<n:=by omega
   simp [h3,h4]
theorem aUO{φ:AF}{d b n:Nat}(h:φ d=.int .i64 (n:Int))(hn:n≠0):fE prog φ 40 (.mslice b 0 n 1) (some (.tmp d)) none none=some .eslice:=by
 have h1:cZ φ none n n=some n:=rfl
 have h2:cZ φ (some (.tmp d)) 0 n=some n:=by
  unfold cZ
  simp only[show φ.eval (.tmp d)=φ d from rfl,h]
  rw[aK (by omega)]
  simp
 unfold fE mG
 rw[aG (by simp [oK])]
 simp only[dS,h1,h2]
 simp [hn]
theorem NW{φ:AF}{t:TypeId}{ag:Bool}{w d b n k:Nat}(hI:eI prog t=some (ag,w))(h:φ d=.int .i64 (k:Int))(hk:k≤n):fE prog φ t (.mslice b 0 n w) none (some (.tmp d)) none=some (.mslice b 0 k w):=by
 have h1:cZ φ (some (.tmp d)) n n=some k:=by
  unfold cZ
  simp only[show φ.eval (.tmp d)=φ d from rfl,h]
  rw[aK (by omega)]
  simp
 have h2:cZ φ none 0 k=some 0:=rfl
 unfold fE mG
 rw[aG (by simp [oK])]
 simp only[hI,h1,h2]
 simp
theorem aGY{φ:AF}{t:TypeId}{ag:Bool}{w d:Nat}(hI:eI prog t=some (ag,w))(h:φ d=.int .i64 0):fE prog φ t (.fslice []) none (some (.tmp d)) none=some (.fslice []):=by
 have h1:cZ φ (some (.tmp d)) 0 0=some 0:=by
  unfold cZ
  simp only[show φ.eval (.tmp d)=φ d from rfl,h]
  simp
 have h2:cZ φ none 0 0=some 0:=rfl
 unfold fE
 rw[aK ⟨rfl,rfl⟩]
 simp only[hI,h1,h2]
theorem aUM{φ:AF}{d:Nat}(h:φ d=.int .i64 0):fE prog φ 40 (.fslice []) (some (.tmp d)) none none=some (.fslice []):=by
 have h1:cZ φ none 0 0=some 0:=rfl
 have h2:cZ φ (some (.tmp d)) 0 0=some 0:=by
  unfold cZ
  simp only[show φ.eval (.tmp d)=φ d from rfl,h]
  simp
 unfold fE
 rw[aK ⟨rfl,rfl⟩]
 simp only[dS,h1,h2]
theorem aEM{P:Program}{t:TypeId}{ag:Bool}{b o len w i:Nat}(hI:eI P t=some (ag,w))(hi:i<len):dF P t (.mslice b o len w) (.int .i64 (i:Int))=some (.ptr b (o+i*w)):=by
 unfold dF
 simp only[hI]
 rw[aK ⟨by omega,by omega,trivial⟩]
 simp
abbrev xR:=zi tI_3 (zi zI_3 (zi aY (zi tI_40 (zi zI_40 (zi dS (zi fV (zi fW (zi f9 (zi tI_178 (zi zI_178 (zi tI_207 (zi zI_207 (zi xV (zi tI_209 (zi zI_209 (zi zU (zi zW y9)))))))))))))))))
theorem K3(σ:Sub)(tr:List Int)(mark:Nat)(hm:mark≤tr.length)(c m:Nat)(q:AV)(st:aA)(hS:e9 st c m q σ tr)(hl:tr.length≤1099511627776) :
 aD prog 194 [.ptr c 0,.int .i64 (mark:Int)] st (fun r st'=>r=.tup []∧∃q',e9 st' c m q' (σ.out (tr.drop mark)) (tr.take mark)∧(∀b∈cY q',b∈cY q)∧∀x o,st x=some o→x≠c→x≠m→st' x=some o):=by
 have hcm:=hS.sub.cm
 rcases hS.eA with ⟨rfl,rfl⟩ | ⟨b,cs,rfl,hb,hcs⟩
 · obtain rfl:mark=0:=by simpa using hm
   have e1:=hS.sub.cells
   have hsl:=fun(φ:AF) (d:Nat) (h:φ d=.int .i64 0)=>aUM h
   have hsh:=fun(φ:AF) (d:Nat) (h:φ d=.int .i64 0)=>aGY dS h
   simp only[Int.ofNat_zero]
   refine wF [1000000] 2 func194 ntmps194 rfl rfl ?_
   intro _
   simp -implicitDefEqProofs only[e1,hsl,aB,seval,xR]
   refine dQ (σ:=Unit) [1000000] [0,1,11,12] ([]:List Int) (fun i _=>True) (fun i _=>[(13,.int .i64 i)]) (fun _ _=>st) (by decide +kernel) ⟨(),trivial,aR.mk (by simp -implicitDefEqProofs only[aB,↓aW,seval])⟩ (fun i x _ hx hlt bD hdr hinv=>?_) (fun _ hge hinv=>?_)
   · simp at hlt
   · simp -implicitDefEqProofs only[bQ,aS,e1,hsh,aB,seval,xR]
     rw[Sub.M6]
     refine⟨.fslice [],⟨⟨aA.aL _ _ _,?_⟩,.inl ⟨rfl,rfl⟩,by simp [cY]⟩,fun _ h=>h,fun x o h h1 h2=>by rw[aA.aF _ _ h1];exact h⟩
     rw[aA.aF _ _ hcm.symm,hS.sub.map]
 · have e1:=hS.sub.cells
   have hbc:b≠c:=fun e=>hS.apart (by simp [cY,e])
   have hbm:b≠m:=fun e=>hS.HO (by simp [cY,e])
   have hc':∀o,(st.aC m o) c=some (.cells [.map m,.mslice b 0 tr.length 1]):=fun o=>by rw[aA.aF _ _ hcm];exact e1
   have hb':∀o,(st.aC m o) b=some (.cells cs):=fun o=>by rw[aA.aF _ _ hbm];exact hb
   have hm0:st.aC m (.map (mapOf σ))=st:=by
    funext x
    unfold aA.aC
    split
    · rename_i h;rw[h,hS.sub.map]
    · rfl
   have fX:∀st',st'=(st.aC m (.map (mapOf (σ.out (tr.drop mark))))).aC c (.cells [.map m,.mslice b 0 mark 1])→∃q',e9 st' c m q' (σ.out (tr.drop mark)) (tr.take mark)∧(∀x∈cY q',x∈cY (.mslice b 0 tr.length 1))∧∀x o,st x=some o→x≠c→x≠m→st' x=some o:=by
    rintro _ rfl
    have hlt:(tr.take mark).length=mark:=by rw[dX];omega
    refine⟨.mslice b 0 mark 1,⟨⟨aA.aL _ _ _,by rw[aA.aF _ _ hcm.symm,aA.aL]⟩,.inr ⟨b,cs,by rw[hlt],by rw[aA.aF _ _ hbc];exact hb' _,?_⟩,by simpa [cY] using c9 hbc⟩,fun x h=>h,fun x o h h1 h2=>by rw[aA.aF _ _ h1,aA.aF _ _ h2];exact h⟩
    rw[hlt,List.map_take,←hcs,wG,jJ hm]
   have hsh:=fun(φ:AF) (d:Nat) (h:φ d=.int .i64 (mark:Int))=>NW (b:=b) dS h hm
   by_cases hk:mark=0∨mark<tr.length
   · have hsl:=fun(φ:AF) (d:Nat) (h:φ d=.int .i64 (mark:Int))=>aUL (b:=b) h hk
     refine wF [1000000] 2 func194 ntmps194 rfl rfl ?_
     intro _
     simp -implicitDefEqProofs only[e1,hsl,aB,seval,xR]
     refine dQ (σ:=Unit) [1000000] [0,1,11,12] (tr.drop mark) (fun i _=>True) (fun i _=>[(13,.int .i64 i)]) (fun i _=>st.aC m (.map (mapOf (σ.out ((tr.drop mark).take i))))) (by decide +kernel) ⟨(),trivial,by rw[j5,Sub.M6,hm0];exact aR.mk (by simp -implicitDefEqProofs only[aB,↓aW,seval])⟩ (fun i x _ hx hlt bD hdr hinv=>?_) (fun _ hge hinv=>?_)
     · have hw:=wrap64 (n:=(i:Int)+1) (by omega) (by rw[rG] at hlt;omega)
       have htk:(tr.drop mark).take (i+1)=(tr.drop mark).take i++ [x]:=by rw[fP,hx];simp
       rw[rG] at hlt bD
       have aYI:decide ((i:Int)<((tr.length - mark:Nat):Int))=true:=by simp;omega
       have hxt:tr[mark+i]?=some x:=by rw[List.getElem?_drop] at hx;exact hx
       have aP8:cs=(tr.take (mark+i)).map iv++ [iv x]++((tr.drop (mark+i+1)).map iv++cs.drop tr.length):=by
        have h1:cs=tr.map iv++cs.drop tr.length:=by rw[←hcs];exact(mT _ _).symm
        have h2:tr.map iv=(tr.take (mark+i)).map iv++iv x::(tr.drop (mark+i+1)).map iv:=by
         have h3:tr.drop (mark+i)=x::tr.drop (mark+i+1):=by
          obtain⟨g1,g2⟩:=eS.1 hxt
          rw[oV g1,g2]
         rw[←bK (f:=iv),←h3,←pZ,mT]
        rw[h2] at h1
        exact h1.trans (by simp)
       have hA:((tr.take (mark+i)).map iv).length=mark+i:=by simp only[aE,dX];omega
       have hat:=aEM (P:=prog) (b:=b) (o:=mark) (len:=tr.length - mark) (w:=1) (i:=i) dS hlt
       have hcb:=hb' (.map (mapOf (σ.out ((tr.drop mark).take i))))
       rw[aP8] at hcb
       have L3:=hc' (.map (mapOf (σ.out ((tr.drop mark).take i))))
       obtain⟨e1',e2,e3,e4,e5,e6⟩:=AK (B:=(tr.drop (mark+i+1)).map iv++cs.drop tr.length) hA
       simp -implicitDefEqProofs only[e6,hat,hcb,L3,bD,yK,aB,seval,xR]
       refine aN2 (aA.aL _ _ _) xV aY ?_
       rw[eH,←htk]
       simp -implicitDefEqProofs only[hw,aB,seval]
       exact⟨(),aR.mk (by simp -implicitDefEqProofs only[aB,seval])⟩
     · rw[eD]
       rw[rG] at hge
       have L3:=hc' (.map (mapOf (σ.out (tr.drop mark))))
       have aYG:decide (((tr.length - mark:Nat):Int)<((tr.length - mark:Nat):Int))=false:=by simp
       simp -implicitDefEqProofs only[L3,hge,rG,aS,hsh,aB,seval,xR]
       exact fX _ rfl
   · obtain rfl:mark=tr.length:=by omega
     have hn0:tr.length≠0:=by omega
     have hsl:=fun(φ:AF) (d:Nat) (h:φ d=.int .i64 (tr.length:Int))=>aUO (b:=b) h hn0
     refine wF [1000000] 2 func194 ntmps194 rfl rfl ?_
     intro _
     simp -implicitDefEqProofs only[e1,hsl,iL,f9,aB,↓aW,seval,xR]
     refine dQ (σ:=Unit) [1000000] [0,1,11,12] ([]:List Int) (fun i _=>True) (fun i _=>[(13,.int .i64 i)]) (fun _ _=>st) (by decide +kernel) ⟨(),trivial,aR.mk (by simp -implicitDefEqProofs only[aB,↓aW,seval])⟩ (fun i x _ hx hlt bD hdr hinv=>?_) (fun _ hge hinv=>?_)
     · simp at hlt
     · simp -implicitDefEqProofs only[bQ,aS,e1,hsh,aB,seval,xR]
       refine fX _ ?_
       rw[iD,Sub.M6,hm0]
def PM(v:Tm)(D:Nat)(cnt cb:Nat)(st:aA)(r:AV)(st':aA):Prop:=
 ∃lW:Nat,lW≤121∧st'=st.aC cb (.cells [.int .i64 lW]) ∧
  if v.flat D=true∧cnt+v.nodes≤120 then r=.tup [v.av,.bool true]∧lW=cnt+v.nodes else r=.tup [Tm.zero.av,.bool false]
theorem xQ{α:Type}(f:α→Nat):∀l m:List α,aJ f (l++m)=aJ f l+aJ f m
 | [],m=>by simp [aJ]
 | x::l,m=>by simp only[gB,aJ,xQ f l m];omega
abbrev Cv (t:Tm):Prop:=t.cv=true
theorem aD2{σ:Sub}{R:Int→Tm}{rk:Int→Nat}{B f:Nat}(G:Good σ R rk B){t:Tm}{k n:Int}{s:ByteArray}{ts:List Tm}(hw:eU σ f t (.mk k n s ts))(hc:Cv (.mk k n s ts)):t.aH R=.mk k n s (ts.map (Tm.aH R)):=by
 rw[←hw.aH G.tR]
 by_cases hk:k=1
 · rw[Tm.lH R hk,G.free (show σ n=none from hw.end hk)]
   obtain⟨h1,_⟩:=Tm.n8.1 hc
   obtain⟨rfl,rfl⟩:=h1 hk
   rw[hk];try rfl
 · rw[Tm.kB R hk]
abbrev qZ:=zi tI_3 (zi zI_3 (zi aY (zi tI_4 (zi zI_4 (zi cG (zi tI_9 (zi zI_9 (zi d4 (zi tI_28 (zi zI_28 (zi aP (zi bE (zi bF (zi b9 (zi tI_52 (zi zI_52 (zi bU (zi bV (zi bX (zi bY (zi bT (zi tI_178 (zi zI_178 (zi tI_240 zI_240))))))))))))))))))))))))
theorem R7{σ:Sub}{R:Int→Tm}{rk:Int→Nat}{B:Nat}(G:Good σ R rk B)(hcv:cD Cv σ)(hsm:cD Sm σ)(c m cb:Nat)(q:AV)(hcb:cb≠c∧cb≠m) :
 ∀(D:Nat) (t:Tm) (cnt:Nat) (st:aA),D≤31→Cv t→Sm t→cnt≤120→gQ st c m q σ→st cb=some (.cells [.int .i64 cnt]) →
 aD prog 222 [.ptr c 0,t.av,.int .i64 (31 - D:Int),.ptr cb 0] st (PM (t.aH R) D cnt cb st)
 | D,t,cnt,st,hD,hct,hst,aYD,hS,hC=>by
  have IH:=fun(D':Nat) (hlt:D'<D) (x:Tm) cnt st=>R7 G hcv hsm c m cb q hcb D' x cnt st
  obtain⟨f,hw⟩:=G.wk t
  generalize wk σ t=u at *
  have hcu:=hw.all (p:=Cv) hcv hct
  have hsu:=hw.all (p:=Sm) hsm hst
  have hcw:=fun st (hS:gQ st c m q σ)=>FX hw c m q st hS
  obtain⟨k,n,s,ts⟩:=u
  have hv:=aD2 G hw hcu
  rw[hv]
  obtain⟨hlen,pG⟩:=Tm.oO hsu
  obtain⟨_,aQA⟩:=Tm.n8.1 hcu
  refine aD.m7 (aD.fin ?_)
  refine wF [1000000,5,10] 4 func222 ntmps222 rfl rfl ?_
  intro _
  simp -implicitDefEqProofs only[aB,seval,qZ]
  intro b5 h5 b8 h8
  have h85:b8≠b5:=by rintro rfl;rw[aA.aL] at h8;cases h8
  have hn8:st b8=none:=by rw[aA.aF st _ h85] at h8;exact h8
  have hS':∀o o',gQ ((st.aC b5 o).aC b8 o') c m q σ:=fun o o'=>(hS.aC h5).aC (by rw[aA.aF _ _ h85];exact hn8)
  have hb5:cb≠b5:=by rintro rfl;rw[hC] at h5;cases h5
  have hb8:cb≠b8:=by rintro rfl;rw[hC] at hn8;cases hn8
  have hwc:IntKind.i64.wrap ((cnt:Int)+1)=(cnt:Int)+1:=wrap64 (by omega) (by omega)
  simp -implicitDefEqProofs only[h85.symm,aB,seval]
  refine(hcw _ (hS' _ _)).to ?_
  simp only[aX]
  simp -implicitDefEqProofs only[aS,h85.symm,hb5,hb8,hC,hwc,aB,seval,qZ]
  have L8:∀(st':aA) (lW:Nat),lW≤121→aM st' (st.aC cb (.cells [.int .i64 lW]))→¬((Tm.mk k n s (ts.map (Tm.aH R))).flat D=true∧cnt+(Tm.mk k n s (ts.map (Tm.aH R))).nodes≤120) →
   ∃b l s0,st'=bS s0 b l∧(l≠[]→s0 b=none)∧(∀e∈l,e.cA=false)∧iV l∧∃s2,aM s0 s2∧PM (Tm.mk k n s (ts.map (Tm.aH R))) D cnt cb st (AV.fin b l (.tup [.agg [.int .i64 0,.int .i64 0,.str ⟨#[]⟩,.fslice []],.bool false])) s2:=fun st' lW h1 h2 h3=>by
   refine⟨0,[],st',rfl,by simp,by simp,⟨4,by simp⟩,_,h2,lW,h1,rfl,?_⟩
   rw[aG h3]
   simp only[Tm.zero,aX,gR,lG,fR,tH,m8,rW,bK,bL]
  have hdr:∀o5 o8 o5' o8' lW,aM (((((st.aC b5 o5).aC b8 o8).aC b5 o5').aC cb (.cells [.int .i64 lW])).aC b8 o8') (st.aC cb (.cells [.int .i64 lW])):=fun o5 o8 o5' o8' lW x=>by
   by_cases e5:x=b5<;>by_cases e8:x=b8<;>by_cases ec:x=cb<;>simp_all [aA.aC]
  refine cS (fun h=>?_) (fun h=>?_)
  case refine_2=>
   simp -implicitDefEqProofs only[h,aS,h85,hb8.symm,aB,seval,qZ]
   refine L8 _ (cnt+1) (by omega) (hdr _ _ _ _ _) ?_
   simp at h
   rw[Tm.jE]
   omega
  simp -implicitDefEqProofs only[h,aB,seval]
  simp at h
  refine aT (fun h2=>?_) (fun h2=>?_)
  · simp only[bM] at h2
    obtain rfl:D=0:=by omega
    simp -implicitDefEqProofs only[aS,h85,hb8.symm,aB,↓aW,seval,qZ]
    exact L8 _ (cnt+1) (by omega) (hdr _ _ _ _ _) (by rw[Tm.C7];simp)
  simp only[cM] at h2
  obtain⟨D',rfl⟩:∃D',D=D'+1:=⟨D - 1,by omega⟩
  have aQB:IntKind.i64.wrap (31 - ((D':Int)+1)+1)=31 - (D':Int):=by rw[wrap64 (by omega) (by omega)];omega
  simp -implicitDefEqProofs only[aS,hb5.symm,aB,↓aW,seval,qZ]
  intro b10 h10
  have LP:b10≠b5:=by rintro rfl;simp [aA.aC,hb5.symm] at h10
  have zZ:b10≠b8:=by rintro rfl;simp [aA.aC,h85,hb8.symm] at h10
  have LQ:b10≠cb:=by rintro rfl;simp [aA.aC] at h10
  have aQX:st b10=none:=by rw[aA.aF _ _ LQ,aA.aF _ _ LP,aA.aF _ _ zZ,aA.aF _ _ LP] at h10;exact h10
  simp -implicitDefEqProofs only[hb5.symm,LP.symm,aE,aB,seval,qZ]
  rw[aA.v5 h85]
  have hWS:gQ ((st.aC b8 (.cells [.int .i64 0,.int .i64 0,.str ⟨#[]⟩,.fslice []])).aC b5 (.cells [.int .i64 k,.int .i64 n,.str s,.slice (ts.map Tm.av)])) c m q σ:=(hS.aC hn8).aC (by rw[aA.aF _ _ h85.symm];exact h5)
  have hW8:((st.aC b8 (.cells [.int .i64 0,.int .i64 0,.str ⟨#[]⟩,.fslice []])).aC b5 (.cells [.int .i64 k,.int .i64 n,.str s,.slice (ts.map Tm.av)])) b8=some (.cells [.int .i64 0,.int .i64 0,.str ⟨#[]⟩,.fslice []]):=by rw[aA.aF _ _ h85,aA.aL]
  have hWd:∀X Y Z,aM (((((st.aC b8 (.cells [.int .i64 0,.int .i64 0,.str ⟨#[]⟩,.fslice []])).aC b5 (.cells [.int .i64 k,.int .i64 n,.str s,.slice (ts.map Tm.av)])).aC cb X).aC b8 Y).aC b10 Z) (st.aC cb X):=fun X Y Z x=>by
   by_cases e5:x=b5<;>by_cases e8:x=b8<;>by_cases ec:x=cb<;>by_cases e10:x=b10<;>simp_all [aA.aC]
  generalize ((st.aC b8 (.cells [.int .i64 0,.int .i64 0,.str ⟨#[]⟩,.fslice []])).aC b5 (.cells [.int .i64 k,.int .i64 n,.str s,.slice (ts.map Tm.av)]))=W at *
  obtain⟨aPN,aPO⟩:=hS.ne aQX
  refine dQ (σ:=Nat) [1000000,5,10] [0,2,3,8,10,40,41] ts
   (fun i b=>(((ts.take i).map (Tm.aH R)).map Tm.av≠[]→(aA.aC (W.aC cb (.cells [.int .i64 ((cnt+1+aJ Tm.nodes ((ts.take i).map (Tm.aH R)):Nat):Int)])) b10 (.cells ([.int .i64 k,.int .i64 n,.str s]++ [bR 4 b (((ts.take i).map (Tm.aH R)).map Tm.av)]))) b=none) ∧
    cnt+1+aJ Tm.nodes ((ts.take i).map (Tm.aH R))≤120∧((ts.take i).map (Tm.aH R)).all (fun x=>x.flat D')=true)
   (fun i b=>[(9,.bool false),(42,.int .i64 i)])
   (fun i b=>jK (W.aC cb (.cells [.int .i64 ((cnt+1+aJ Tm.nodes ((ts.take i).map (Tm.aH R)):Nat):Int)])) b10 b [.int .i64 k,.int .i64 n,.str s] (((ts.take i).map (Tm.aH R)).map Tm.av)) (by decide +kernel)
   ⟨0,⟨fun h=>absurd rfl h,by simp [aJ];omega,by simp⟩,aR.mk (by simp -implicitDefEqProofs only[aB,↓aW,seval])⟩ (fun i x b hx hlt bD AB hinv=>?_) (fun b hge hinv=>?_)
  · obtain⟨i1,i2,i3⟩:=hinv
    have htk:(ts.take (i+1)).map (Tm.aH R)=(ts.take i).map (Tm.aH R)++ [x.aH R]:=by rw[fP,hx];simp
    have dC:(((ts.take i).map (Tm.aH R)).map Tm.av).length=i:=by simp only[aE,dX];omega
    have hw:=bJ (n:=(i:Int)+1)
    have fG:=cI hx
    generalize hl0:(ts.take i).map (Tm.aH R)=l0 at *
    generalize hc0:cnt+1+aJ Tm.nodes l0=c0 at *
    have hWc:(W.aC cb (.cells [.int .i64 (c0:Int)])) cb≠none:=by rw[aA.aL];simp
    have hs1:=l7 i1 hWc LQ.symm
    have hsS:gQ (jK (W.aC cb (.cells [.int .i64 (c0:Int)])) b10 b [.int .i64 k,.int .i64 n,.str s] (l0.map Tm.av)) c m q σ:=by
     have h1:=(hWS.JK (o:=.cells [.int .i64 (c0:Int)]) hcb.1 hcb.2)
     exact⟨by rw[l7 i1 (by rw[h1.cells];simp) aPN.symm];exact h1.cells,by rw[l7 i1 (by rw[h1.map];simp) aPO.symm];exact h1.map⟩
    rw[aA.aL] at hs1
    simp -implicitDefEqProofs only[bD,aQB,bG (av:=Tm.av) aP hx (aO x),b7,aO,aB,↓aW,seval,qZ]
    refine(IH D' (Nat.lt_succ_self _) x c0 _ (by omega) (aQA x fG) (pG x fG) i2 hsS hs1).mono ?_
    rintro r s2 ⟨lW,aP5,rfl,hr⟩
    obtain⟨e1,i1'⟩:=aFG (o:=.cells [.int .i64 (lW:Int)]) i1 hWc LQ.symm
    rw[e1,eH]
    rw[eH] at i1'
    have qP:(ts.map (Tm.aH R))=l0++(x.aH R)::(ts.drop (i+1)).map (Tm.aH R):=by rw[←hl0,←bK,←AB,←pZ,mT]
    by_cases hok:(x.aH R).flat D'=true∧c0+(x.aH R).nodes≤120
    · rw[aK hok] at hr
      obtain⟨rfl,rfl⟩:=hr
      have hbo:=kA i1'
      simp -implicitDefEqProofs only[b7,aO,Tm.dY,Tm.eG,hbo,qD,aB,↓aW,seval,qZ]
      refine gJ aP bE bF rfl rfl (gS (aO _) (Tm.dY _)) (gV _) i1' (by simp only[dC,bA,bQ];omega) (by simp only[dC,bA,bQ];omega) (fun b' hb'=>?_)
      rw[show l0.map Tm.av++ [(x.aH R).av]=((ts.take (i+1)).map (Tm.aH R)).map Tm.av by rw[htk];simp] at hb' ⊢
      obtain⟨g1,g2,g3⟩:=tS hb'
      simp only[gB,eR] at g1 g3
      have hcc:cnt+1+aJ Tm.nodes ((ts.take (i+1)).map (Tm.aH R))=c0+(x.aH R).nodes:=by rw[htk,xQ,aJ,aJ,←hc0];omega
      simp -implicitDefEqProofs only[g3,oZ,iX,g1,hw,aS,aB,seval,qZ]
      rw[hcc]
      exact⟨b',⟨g2,hok.2,by rw[htk,yC,i3];simp [hok.1]⟩,aR.mk (by simp -implicitDefEqProofs only[aB,seval])⟩
    · rw[aG hok] at hr
      subst hr
      obtain⟨e2,i2'⟩:=aFG (x:=b8) (o:=.cells [.int .i64 0,.int .i64 0,.str ⟨#[]⟩,.fslice []]) i1' (by rw[aA.aF _ _ hb8.symm,hW8];simp) zZ.symm
      have h8o:=l7 i1' (x:=b8) (by rw[aA.aF _ _ hb8.symm,hW8];simp) zZ.symm
      rw[aA.aF _ _ hb8.symm,hW8] at h8o
      simp -implicitDefEqProofs only[aS,h8o,Tm.zero,aX,bL,aB,↓aW,seval,qZ]
      rw[e2]
      refine L8 _ lW aP5 (aSA (hWd _ _ _) i2') ?_
      rw[Tm.jE,Tm.tJ,qP,yC,iW,xQ,aJ]
      rintro⟨h3,h4⟩
      simp only[cL] at h3
      exact hok ⟨h3.2.1,by omega⟩
  · obtain⟨i1,i2,i3⟩:=hinv
    rw[eD] at i1 i2 i3 ⊢
    have hbo:=kA i1
    have hx8:(W.aC cb (.cells [.int .i64 ((cnt+1+aJ Tm.nodes (ts.map (Tm.aH R)):Nat):Int)])) b8≠none:=by rw[aA.aF _ _ hb8.symm,hW8];simp
    have h8o:=l7 i1 (x:=b8) hx8 zZ.symm
    rw[aA.aF _ _ hb8.symm,hW8] at h8o
    simp -implicitDefEqProofs only[aS,hge,hbo,h8o,iX,aB,seval,qZ]
    obtain⟨h5,h6⟩:=r9 (o:=.cells [.int .i64 k,.int .i64 n,.str s,bR 4 b ((ts.map (Tm.aH R)).map Tm.av)]) i1 hx8 zZ.symm
    have vN:cnt+(Tm.mk k n s (ts.map (Tm.aH R))).nodes=cnt+1+aJ Tm.nodes (ts.map (Tm.aH R)):=by rw[Tm.jE];omega
    refine⟨b,_,_,h5,h6,pT _,⟨4,gV _⟩,_,?_,_,Nat.le_succ_of_le i2,rfl,?_⟩
    · rw[aA.nO _ _ _ zZ]
      exact hWd _ _ _
    · rw[aK ⟨by rw[Tm.tJ];exact i3,by rw[vN];exact i2⟩,vN]
      refine⟨?_,rfl⟩
      simp only[lG,gR,bK,bL,fR,m8,tH,mH,aX]
termination_by D=>D
decreasing_by exact hlt
def HX(v:Tm):AV:=if v.flat 30=true∧v.nodes≤120 then .tup [v.av,.bool true] else .tup [Tm.zero.av,.bool false]
abbrev OM:=zi tI_3 (zi zI_3 (zi aY (zi tI_4 (zi zI_4 (zi cG (zi tI_52 (zi zI_52 (zi bU (zi bV (zi bX (zi bY (zi bT (zi tI_178 (zi zI_178 (zi tI_240 zI_240)))))))))))))))
theorem R6{σ:Sub}{R:Int→Tm}{rk:Int→Nat}{B:Nat}(G:Good σ R rk B)(hcv:cD Cv σ)(hsm:cD Sm σ)(c m:Nat)(q:AV)(t:Tm)(hct:Cv t)(hst:Sm t)(st:aA)(hS:gQ st c m q σ) :
 aD prog 183 [.ptr c 0,t.av] st (fun r st'=>r=HX (t.aH R)∧st'=st):=by
 refine aD.done ?_
 refine wF [1000000,6] 2 func183 ntmps183 rfl rfl ?_
 intro _
 simp -implicitDefEqProofs only[aS,aB,↓aW,seval,OM]
 intro b4 h4 b6 h6
 have hne:b6≠b4:=by rintro rfl;rw[aA.aL] at h6;cases h6
 have hn6:st b6=none:=by rw[aA.aF st _ hne] at h6;exact h6
 have hS':∀o o',gQ ((st.aC b4 o).aC b6 o') c m q σ:=fun o o'=>(hS.aC h4).aC (by rw[aA.aF _ _ hne];exact hn6)
 obtain⟨h6c,h6m⟩:=hS.ne hn6
 have hc:=R7 G hcv hsm c m b6 q ⟨h6c,h6m⟩ 30 t 0 _ (by omega) hct hst (by omega) (hS' (.cells [.int .i64 0,.int .i64 0,.str ⟨#[]⟩,.fslice []]) (.cells [.int .i64 0])) (aA.aL _ _ _)
 rw[show(31 - ((30:Nat):Int))=1 from rfl] at hc
 refine hc.mono ?_
 rintro r s2 ⟨lW,_,rfl,hr⟩
 unfold HX
 rw[gI] at hr
 split at hr
 · rename_i hok
   obtain⟨rfl,_⟩:=hr
   rw[aK hok]
   simp -implicitDefEqProofs only[Tm.eV,Tm.dY,aS,hne.symm,aB,seval,OM]
   exact⟨by simp only[mP,t7,Tm.soft,bK,bL],(((aM.refl _).aC h4).aC hn6).aC h4⟩
 · rename_i hok
   subst hr
   rw[aG hok]
   simp -implicitDefEqProofs only[Tm.zero,aX,bL,aS,hne.symm,aB,seval,OM]
   exact⟨by simp only[mA,mP,nM,t7,xP,sE,bK,bL],(((aM.refl _).aC h4).aC hn6).aC h4⟩
abbrev aVP:=zi tI_178 (zi zI_178 (zi tI_207 (zi zI_207 (zi xV (zi tI_209 (zi zI_209 (zi zU (zi zW y9))))))))
theorem aMZ(st:aA):aD prog 148 [] st (fun r st'=>∃c m,r=.ptr c 0∧e9 st' c m (.fslice []) Sub.none []∧kL c m st (.fslice []) st' (.fslice [])∧st c=none∧st m=none):=by
 refine wF [1000000,3] 0 func148 ntmps148 rfl rfl ?_
 intro _
 simp -implicitDefEqProofs only[aB,seval,aVP]
 intro m hm c hc
 have hne:c≠m:=by rintro rfl;rw[aA.aL] at hc;cases hc
 have hnc:st c=none:=by rw[aA.aF st _ hne] at hc;exact hc
 refine⟨c,m,rfl,⟨⟨aA.aL _ _ _,by rw[aA.aF _ _ hne.symm,aA.aL];try rfl⟩,.inl ⟨rfl,rfl⟩,by simp [cY]⟩,⟨fun x o h h1 h2 _=>by rw[aA.aF _ _ h1,aA.aF _ _ h2];exact h,by simp [cY]⟩,hnc,hm⟩
theorem gQ.acc{st:aA}{c m b:Nat}{q:AV}{σ:Sub}{l:List AV}(h:gQ st c m q σ)(hb:l≠[]→st b=none):gQ (bS st b l) c m q σ:=by
 cases l with
 | nil=>exact h
 | cons x l=>exact h.aC (hb (by simp))
abbrev aYU:=zi tI_3 (zi zI_3 (zi aY (zi tI_23 (zi zI_23 (zi pD (zi rR (zi rT (zi pU (zi tI_28 (zi zI_28 (zi aP (zi bE (zi bF (zi b9 (zi tI_52 (zi zI_52 (zi bU (zi bV (zi bX (zi bY (zi bT (zi tI_118 (zi zI_118 (zi vG (zi vH (zi vI (zi vJ uX)))))))))))))))))))))))))))
abbrev OR:=zi tI_3 (zi zI_3 (zi aY (zi tI_4 (zi zI_4 (zi cG (zi tI_28 (zi zI_28 (zi aP (zi bE (zi bF (zi b9 (zi tI_52 (zi zI_52 (zi bU (zi bV (zi bX (zi bY bT)))))))))))))))))
theorem aK4(l l':List Tm)(g:FuncId)(st:aA)(hc:∀x∈l,∀(y:Tm) (st:aA),aD prog g [Tm.av x,Tm.av y] st (fun r st'=>r=.bool (Tm.same x y)∧st'=st)) :
 aD prog 81 [.slice (l.map Tm.av),.slice (l'.map Tm.av),.func g []] st (fun r st'=>r=.bool (gF Tm.same l l')∧st'=st):=by
 refine wF [1000000] 3 func81 ntmps81 rfl rfl ?_
 simp only[dK,AV.fits,dO,aE]
 intro ⟨⟨hl,_⟩,⟨hl',_⟩⟩
 simp -implicitDefEqProofs only[aE,aB,seval,OR]
 refine⟨fun h4=>?_,fun h4=>?_⟩
 · simp -implicitDefEqProofs only[aB,seval]
   simp only[gN,cM] at h4
   rw[zQ _ (show l.length≠l'.length by omega)]
 simp only[j3,bM] at h4
 have h4':l.length=l'.length:=by omega
 simp -implicitDefEqProofs only[aE,aB,seval,OR]
 refine dQ (σ:=Unit) [1000000] [1,2,15,16] l (fun i _=>∀(j:Nat) (x y:Tm),j<i→l[j]?=some x→l'[j]?=some y→Tm.same x y=true) (fun i _=>[(17,.int .i64 i)]) (fun _ _=>st) (by decide +kernel) ⟨(),by intro j x y h;omega,aR.mk (by simp -implicitDefEqProofs only[aB,↓aW,seval])⟩ (fun i x _ hx hlt bD hdr c7=>?_) (fun _ hge c7=>?_)
 case refine_2=>
  simp -implicitDefEqProofs only[hge,aB,seval]
  rw[zN _ h4' (fun j x y h6 h7=>c7 j x y (by have:=(eS.1 h6).1;omega) h6 h7)]
 obtain⟨y,hy⟩:∃y,l'[i]?=some y:=⟨_,e7 (h4'▸hlt)⟩
 have hw:=bJ (n:=(i:Int)+1)
 simp -implicitDefEqProofs only[bD,b7,aO,Tm.dY,Tm.eG,bG (av:=Tm.av) aP hx (aO x),bG (av:=Tm.av) aP hy (aO y),aB,↓aW,seval,OR]
 refine(hc x (cI hx) y _).to ?_
 simp -implicitDefEqProofs only[aB,seval]
 refine⟨fun h6=>?_,fun h6=>?_⟩
 · simp -implicitDefEqProofs only[aB,seval]
   have h7:Tm.same x y=false:=by simpa using h6
   rw[zO _ i x y hx hy h7]
 have h7:Tm.same x y=true:=by simpa using h6
 simp -implicitDefEqProofs only[aB,seval]
 refine⟨(),fun j u v hj hu hv=>?_,aR.mk (by simp -implicitDefEqProofs only[hw,aB,seval])⟩
 rcases j6 j i with h8 | h8
 · exact c7 j u v h8 hu hv
 · obtain rfl:j=i:=by omega
   rw[hx] at hu;rw[hy] at hv;cases hu;cases hv;exact h7
abbrev aYT:=zi tI_3 (zi zI_3 (zi aY (zi tI_9 (zi zI_9 (zi d4 (zi tI_23 (zi zI_23 (zi pD (zi rR (zi rT (zi pU (zi tI_28 (zi zI_28 (zi aP (zi bE (zi bF (zi b9 (zi tI_52 (zi zI_52 (zi bU (zi bV (zi bX (zi bY (zi bT (zi tI_118 (zi zI_118 (zi vG (zi vH (zi vI (zi vJ uX))))))))))))))))))))))))))))))
abbrev IU:=zi tI_3 (zi zI_3 (zi aY (zi tI_4 (zi zI_4 (zi cG (zi tI_9 (zi zI_9 (zi d4 (zi tI_28 (zi zI_28 (zi aP (zi bE (zi bF (zi b9 (zi tI_52 (zi zI_52 (zi bU (zi bV (zi bX (zi bY bT))))))))))))))))))))
theorem Q8:∀(a b:Tm) (st:aA),aD prog 82 [a.av,b.av] st (fun r st'=>r=.bool (a.same b)∧st'=st)
 | .mk k n s ts,.mk k' n' s' ts',st=>by
  have hc:=aK4 ts ts' 82 st fun x hx y st=>Q8 x y st
  refine wF [] 2 func82 ntmps82 rfl rfl ?_
  intro _
  simp only[aX,Tm.H6]
  simp -implicitDefEqProofs only[aB,seval,IU]
  refine cS (fun h1=>?_) (fun h1=>?_)
  case refine_2=>
   simp -implicitDefEqProofs only[h1,aB,seval]
   simp at h1
   simp []
  simp -implicitDefEqProofs only[h1,aB,seval,IU]
  refine cS (fun h2=>?_) (fun h2=>?_)
  case refine_2=>
   simp -implicitDefEqProofs only[h2,aB,seval]
   simp at h2
   simp []
  simp -implicitDefEqProofs only[h2,aB,seval,IU]
  refine cS (fun h3=>?_) (fun h3=>?_)
  case refine_2=>
   simp -implicitDefEqProofs only[h3,aB,seval]
   simp at h3
   simp []
  simp -implicitDefEqProofs only[h3,aB,seval,IU]
  refine hc.to ?_
  simp -implicitDefEqProofs only[aB,seval]
termination_by a=>SizeOf.sizeOf a
decreasing_by have:=List.sizeOf_lt_of_mem hx;simp only[Tm.mk.sizeOf_spec];omega
abbrev BB:=zi tI_3 (zi zI_3 (zi aY (zi tI_4 (zi zI_4 (zi cG (zi tI_9 (zi zI_9 (zi d4 (zi tI_28 (zi zI_28 (zi aP (zi bE (zi bF (zi b9 (zi tI_52 (zi zI_52 (zi bU (zi bV (zi bX (zi bY bT))))))))))))))))))))
theorem SA:∀(a b:Tm) (st:aA),aD prog 95 [a.av,b.av] st (fun r st'=>r=.bool (a.same b)∧st'=st)
 | .mk k n s ts,.mk k' n' s' ts',st=>by
  have hc:=fun(x:Tm) (hx:x∈ts) y st=>SA x y st
  refine wF [] 2 func95 ntmps95 rfl rfl ?_
  simp only[aX,dK,AV.fits,dO,aE,Tm.H6]
  intro ⟨⟨_,_,_,hl,_⟩,⟨_,_,_,hl',_⟩⟩
  simp -implicitDefEqProofs only[aB,seval,BB]
  refine cS (fun h1=>?_) (fun h1=>?_)
  case refine_2=>
   simp -implicitDefEqProofs only[h1,aB,seval]
   simp at h1
   simp [h1]
  simp -implicitDefEqProofs only[h1,aB,seval,BB]
  refine cS (fun h2=>?_) (fun h2=>?_)
  case refine_2=>
   simp -implicitDefEqProofs only[h2,aB,seval]
   simp at h2
   simp [h2]
  simp -implicitDefEqProofs only[h2,aB,seval,BB]
  refine cS (fun h3=>?_) (fun h3=>?_)
  case refine_2=>
   simp -implicitDefEqProofs only[h3,aB,seval]
   simp at h3
   simp [h3]
  simp -implicitDefEqProofs only[h3,aE,aB,seval,BB]
  refine⟨fun h4=>?_,fun h4=>?_⟩
  · simp -implicitDefEqProofs only[aB,seval]
    simp only[gN,cM] at h4
    rw[zQ _ (show ts.length≠ts'.length by omega)]
    simp
  simp -implicitDefEqProofs only[aB,seval]
  simp only[j3,bM] at h1 h2 h3 h4
  have h4':ts.length=ts'.length:=by omega
  subst h1 h2 h3
  simp only[eM,iC]
  refine nQ (α:=Nat) [] (fun i=>i≤ts.length∧∀(j:Nat) (x y:Tm),j<i→ts[j]?=some x→ts'[j]?=some y→Tm.same x y=true)
   (fun i=>[(2,.pptr (.agg [.int .i64 k,.int .i64 n,.str s,.slice (ts.map Tm.av)])),(3,.pptr (.agg [.int .i64 k,.int .i64 n,.str s,.slice (ts'.map Tm.av)])),(5,.int .i64 i)]) (fun _=>st) (fun i=>ts.length - i) (by decide +kernel)
   ⟨0,⟨by omega,by intro j x y h;omega⟩,aR.mk (by simp -implicitDefEqProofs only[aB,↓aW,seval])⟩ ?_
  intro i ⟨hi,c7⟩
  simp -implicitDefEqProofs only[aE,aB,seval,BB]
  refine⟨fun h5=>?_,fun h5=>?_⟩
  case refine_2=>
   simp -implicitDefEqProofs only[aB,seval]
   simp only[cM,gP] at h5
   rw[zN _ h4' (fun j x y h6 h7=>c7 j x y (by have:=(eS.1 h6).1;omega) h6 h7)]
  simp only[bM,gP] at h5
  obtain⟨x,hx⟩:∃x,ts[i]?=some x:=⟨_,e7 h5⟩
  obtain⟨y,hy⟩:∃y,ts'[i]?=some y:=⟨_,e7 (h4'▸h5)⟩
  simp -implicitDefEqProofs only[aB,seval]
  refine FP mixed (by decide +kernel) (by decide +kernel) ?_
  simp -implicitDefEqProofs only[bG (av:=Tm.av) aP hx (aO x),bG (av:=Tm.av) aP hy (aO y),b7,aO,aB,seval,BB]
  refine(hc x (cI hx) y st).to ?_
  simp -implicitDefEqProofs only[aB,seval]
  refine⟨fun h6=>?_,fun h6=>?_⟩
  · simp -implicitDefEqProofs only[aB,seval]
    have h7:Tm.same x y=false:=by simpa using h6
    rw[zO _ i x y hx hy h7]
  have h7:Tm.same x y=true:=by simpa using h6
  simp -implicitDefEqProofs only[aB,seval]
  refine⟨i+1,by omega,⟨by omega,fun j u v hj hu hv=>?_⟩,aR.mk ?_⟩
  · rcases j6 j i with h8 | h8
    · exact c7 j u v h8 hu hv
    · obtain rfl:j=i:=by omega
      rw[hx] at hu;rw[hy] at hv;cases hu;cases hv;exact h7
  · have:=bJ (n:=(i:Int)+1)
    simp -implicitDefEqProofs only[this,aB,seval]
termination_by a=>SizeOf.sizeOf a
decreasing_by have:=List.sizeOf_lt_of_mem hx;simp only[Tm.mk.sizeOf_spec];omega
end Go.AW
