/- Unification comes to an end. -/
import Derived.Test.YtimfffmcljmfgaaGreatDoorUui
import Derived.Test.YtimfffmcljmfgaaGreatDoorUuf
import Derived.Test.YtimfffmcljmfgaaGreatDoorUuh
set_option linter.unusedSimpArgs false
set_option linter.unusedVariables false
set_option maxRecDepth 100000
namespace Go.AW
theorem aOR(g g':Nat)(ih:∀σ a b x,dI g σ a b=some x→dI g' σ a b=some x):∀xs ys σ x,d7 g σ xs ys=some x→d7 g' σ xs ys=some x:=by
 intro xs
 induction xs with
 | nil=>intro ys σ x h;cases ys<;>simpa only[d7] using h
 | cons a xs ihx=>
  intro ys σ x h
  cases ys with
  | nil=>simpa only[d7] using h
  | cons b ys=>
   rw[d7] at h ⊢
   cases h1:dI g σ a b with
   | none=>rw[h1] at h;cases h
   | some p=>
    rw[h1] at h
    rw[ih _ _ _ _ h1]
    obtain⟨r1,σ1,tr1⟩:=p
    cases r1 with
    | false=>exact h
    | true=>
     simp only at h ⊢
     cases h2:d7 g σ1 xs ys with
     | none=>rw[h2] at h;cases h
     | some p2=>rw[h2] at h;rw[ihx ys σ1 p2 h2];exact h
theorem a4S:∀(g:Nat) σ a b x,dI g σ a b=some x→dI (g+1) σ a b=some x:=by
 intro g
 induction g with
 | zero=>intro σ a b x h;simp only[dI] at h;cases h
 | succ g ih=>
  intro σ a b x h
  rw[dI] at h ⊢
  split
  · rename_i hc;rw[aH hc] at h;exact h
  · rename_i hc
    rw[aE hc] at h
    split
    · rename_i hc;rw[aH hc] at h;exact h
    · rename_i hc
      rw[aE hc] at h
      split
      · rename_i hc;rw[aH hc] at h;exact h
      · rename_i hc
        rw[aE hc] at h
        split
        · rename_i hc;rw[aH hc] at h;exact aOR g (g+1) ih _ _ _ _ h
        · rename_i hc;rw[aE hc] at h;exact h
theorem M4{g g':Nat}(hle:g≤g'){σ:Sub}{a b:Tm}{x:Bool×Sub×List Int}(h:dI g σ a b=some x):dI g' σ a b=some x:=by
 induction hle with
 | refl=>exact h
 | step _ ih=>exact a4S _ _ _ _ _ ih
theorem a4V{g g':Nat}(hle:g≤g'){σ:Sub}{xs ys:List Tm}{x:Bool×Sub×List Int}(h:d7 g σ xs ys=some x):d7 g' σ xs ys=some x:=
 aOR g g' (fun _ _ _ _ h=>M4 hle h) xs ys σ x h
def tE(σ:Sub)(V:List Int):Nat:=V.countP fun v=>(σ v).isNone
def iW(V:List Int)(t:Tm):Prop:=∀v∈t.vl,v∈V
def mE(V:List Int)(σ:Sub):Prop:=∀n u,σ n=some u→iW V u
theorem a4O{σ σ':Sub}{tr:List Int}{V:List Int}(a8:∀m,m∉tr→σ' m=σ m)(new:∀m∈tr,σ m=none∧σ' m≠none){m:Int}(hm:m∈tr)(hV:m∈V):tE σ' V<tE σ V:=by
 have mono:∀v,(σ' v).isNone=true→(σ v).isNone=true:=fun v h=>by
  by_cases hv:v∈tr
  · rw[(new v hv).1];try rfl
  · rw[←a8 v hv];exact h
 have le:∀W:List Int,tE σ' W≤tE σ W:=fun W=>List.countP_mono_left fun v _ h=>mono v h
 unfold tE at *
 induction V with
 | nil=>cases hV
 | cons v V ih=>
  simp only[List.countP_cons]
  have hle:=le V
  rcases cX.1 hV with rfl | hV
  · have h1:(σ m).isNone=true:=by rw[(new m hm).1];try rfl
    have h2:(σ' m).isNone=false:=by
     cases h:σ' m with
     | none=>exact absurd h (new m hm).2
     | some _=>rfl
    simp only[h1,h2,gA,iL,dY]
    omega
  · have:=ih hV
    have h3:=mono v
    by_cases h4:(σ' v).isNone=true
    · rw[aH h4,aH (h3 h4)];omega
    · rw[aE h4];split<;>omega
theorem f0.G6{σ:Sub}{V:List Int}(hr:mE V σ){f:Nat}{t u:Tm}(h:f0 σ f t u)(ht:iW V t):iW V u:=h.all (p:=iW V) (fun n u hu=>hr n u hu) ht
theorem iW.oK{V:List Int}{t x:Tm}(h:iW V t)(hk:t.k≠1)(hx:x∈t.ts):iW V x:=fun v hv=>h v (by cases t;exact(Tm.k8 hk).2 ⟨x,hx,hv⟩)
theorem aOP:∀(g:Nat),(∀σ a b r σ' tr V,cO σ→dI g σ a b=some (r,σ',tr)→mE V σ→iW V a→iW V b→mE V σ'∧∀m∈tr,m∈V) ∧
 ∀xs ys σ r σ' tr V,cO σ→xs.length=ys.length→d7 g σ xs ys=some (r,σ',tr)→mE V σ→(∀x∈xs,iW V x)→(∀y∈ys,iW V y)→mE V σ'∧∀m∈tr,m∈V:=by
 intro g
 have list:∀g,(∀σ a b r σ' tr V,cO σ→dI g σ a b=some (r,σ',tr)→mE V σ→iW V a→iW V b→mE V σ'∧∀m∈tr,m∈V) →
  ∀xs ys σ r σ' tr V,cO σ→xs.length=ys.length→d7 g σ xs ys=some (r,σ',tr)→mE V σ→(∀x∈xs,iW V x)→(∀y∈ys,iW V y)→mE V σ'∧∀m∈tr,m∈V:=by
  intro g ihU xs
  induction xs with
  | nil=>
   intro ys σ r σ' tr V hg hl h hr _ _
   cases ys with
   | cons _ _=>simp at hl
   | nil=>
    simp only[d7,Option.some.injEq,Prod.mk.injEq] at h
    obtain⟨rfl,rfl,rfl⟩:=h
    exact⟨hr,fun _ h=>absurd h (dN)⟩
  | cons a xs ih=>
   intro ys σ r σ' tr V hg hl h hr hx hy
   cases ys with
   | nil=>simp at hl
   | cons b ys=>
    rw[d7] at h
    cases h1:dI g σ a b with
    | none=>rw[h1] at h;cases h
    | some p=>
     obtain⟨r1,σ1,tr1⟩:=p
     have U1:=wO hg h1
     obtain⟨i1,i2⟩:=ihU σ a b r1 σ1 tr1 V hg h1 hr (hx a (by simp)) (hy b (by simp))
     rw[h1] at h
     cases r1 with
     | false=>
      simp only[Option.some.injEq,Prod.mk.injEq] at h
      obtain⟨rfl,rfl,rfl⟩:=h
      exact⟨i1,i2⟩
     | true=>
      simp only at h
      cases h2:d7 g σ1 xs ys with
      | none=>rw[h2] at h;cases h
      | some p2=>
       obtain⟨r2,σ2,tr2⟩:=p2
       rw[h2] at h
       simp only[Option.some.injEq,Prod.mk.injEq] at h
       obtain⟨rfl,rfl,rfl⟩:=h
       obtain⟨j1,j2⟩:=ih ys σ1 r2 σ2 tr2 V U1.gQ (by simpa using hl) h2 i1 (fun x h=>hx x (by simp [h])) (fun y h=>hy y (by simp [h]))
       exact⟨j1,fun m hm=>(fF.1 hm).elim (i2 m) (j2 m)⟩
 induction g with
 | zero=>
  have h0:∀σ a b r σ' tr V,cO σ→dI 0 σ a b=some (r,σ',tr)→mE V σ→iW V a→iW V b→mE V σ'∧∀m∈tr,m∈V:=fun σ a b r σ' tr V hg h=>by simp only[dI] at h;cases h
  exact⟨h0,list 0 h0⟩
 | succ g ih=>
  suffices hU:∀σ a b r σ' tr V,cO σ→dI (g+1) σ a b=some (r,σ',tr)→mE V σ→iW V a→iW V b→mE V σ'∧∀m∈tr,m∈V from ⟨hU,list _ hU⟩
  intro σ a b r σ' tr V hg h hr ha hb
  obtain⟨_,ihL⟩:=ih
  obtain⟨rk,B,G⟩:=hg.rs
  obtain⟨fa,wa⟩:=G.wk a
  obtain⟨fb,wb⟩:=G.wk b
  have va:=wa.G6 hr ha
  have vb:=wb.G6 hr hb
  have bn:∀n (t:Tm) r σ' tr,n∈V→iW V t→jX σ n t=(r,σ',tr)→mE V σ'∧∀m∈tr,m∈V:=by
   intro n t r σ' tr hn ht h
   unfold jX at h
   split at h<;>cases h
   · exact⟨hr,fun _ h=>absurd h (dN)⟩
   · refine⟨fun m u hu=>?_,fun m hm=>by simp only[cX,dN,dV] at hm;rw[hm];exact hn⟩
     simp only[Sub.set] at hu
     split at hu
     · cases hu;exact ht
     · exact hr m u hu
  rw[dI] at h
  generalize wk σ a=a at *
  generalize wk σ b=b at *
  split at h
  · simp only[Option.some.injEq,Prod.mk.injEq] at h
    obtain⟨rfl,rfl,rfl⟩:=h
    exact⟨hr,fun _ h=>absurd h (dN)⟩
  · split at h
    · rename_i hk
      exact bn _ _ _ _ _ (va _ (by rw[Tm.ES hk];simp)) vb (nK h)
    · rename_i hka
      split at h
      · rename_i hk
        exact bn _ _ _ _ _ (vb _ (by rw[Tm.ES hk];simp)) va (nK h)
      · rename_i hkb
        split at h
        · rename_i hh
          exact ihL a.ts b.ts σ r σ' tr V hg (sP.1 hh).2.2.2 h hr (fun x hx=>va.oK hka hx) (fun y hy=>vb.oK hkb hy)
        · simp only[Option.some.injEq,Prod.mk.injEq] at h
          obtain⟨rfl,rfl,rfl⟩:=h
          exact⟨hr,fun _ h=>absurd h (dN)⟩
def cW(p:Tm→Prop)(σ:Sub):Prop:=∀n u,σ n=some u→p u
theorem M5{p:Tm→Prop}(hp:∀t:Tm,t.k≠1→p t→∀x∈t.ts,p x):∀(g:Nat),(∀σ a b r σ' tr,cO σ→dI g σ a b=some (r,σ',tr)→cW p σ→p a→p b→cW p σ') ∧
 ∀xs ys σ r σ' tr,cO σ→xs.length=ys.length→d7 g σ xs ys=some (r,σ',tr)→cW p σ→(∀x∈xs,p x)→(∀y∈ys,p y)→cW p σ':=by
 intro g
 have list:∀g,(∀σ a b r σ' tr,cO σ→dI g σ a b=some (r,σ',tr)→cW p σ→p a→p b→cW p σ') →
  ∀xs ys σ r σ' tr,cO σ→xs.length=ys.length→d7 g σ xs ys=some (r,σ',tr)→cW p σ→(∀x∈xs,p x)→(∀y∈ys,p y)→cW p σ':=by
  intro g ihU xs
  induction xs with
  | nil=>
   intro ys σ r σ' tr hg hl h hr _ _
   cases ys with
   | cons _ _=>simp at hl
   | nil=>
    simp only[d7,Option.some.injEq,Prod.mk.injEq] at h
    obtain⟨rfl,rfl,rfl⟩:=h
    exact hr
  | cons a xs ih=>
   intro ys σ r σ' tr hg hl h hr hx hy
   cases ys with
   | nil=>simp at hl
   | cons b ys=>
    rw[d7] at h
    cases h1:dI g σ a b with
    | none=>rw[h1] at h;cases h
    | some p=>
     obtain⟨r1,σ1,tr1⟩:=p
     have U1:=wO hg h1
     have i1:=ihU σ a b r1 σ1 tr1 hg h1 hr (hx a (by simp)) (hy b (by simp))
     rw[h1] at h
     cases r1 with
     | false=>
      simp only[Option.some.injEq,Prod.mk.injEq] at h
      obtain⟨rfl,rfl,rfl⟩:=h
      exact i1
     | true=>
      simp only at h
      cases h2:d7 g σ1 xs ys with
      | none=>rw[h2] at h;cases h
      | some p2=>
       obtain⟨r2,σ2,tr2⟩:=p2
       rw[h2] at h
       simp only[Option.some.injEq,Prod.mk.injEq] at h
       obtain⟨rfl,rfl,rfl⟩:=h
       have j1:=ih ys σ1 r2 σ2 tr2 U1.gQ (by simpa using hl) h2 i1 (fun x h=>hx x (by simp [h])) (fun y h=>hy y (by simp [h]))
       exact j1
 induction g with
 | zero=>
  have h0:∀σ a b r σ' tr,cO σ→dI 0 σ a b=some (r,σ',tr)→cW p σ→p a→p b→cW p σ':=fun σ a b r σ' tr hg h=>by simp only[dI] at h;cases h
  exact⟨h0,list 0 h0⟩
 | succ g ih=>
  suffices hU:∀σ a b r σ' tr,cO σ→dI (g+1) σ a b=some (r,σ',tr)→cW p σ→p a→p b→cW p σ' from ⟨hU,list _ hU⟩
  intro σ a b r σ' tr hg h hr ha hb
  obtain⟨_,ihL⟩:=ih
  obtain⟨rk,B,G⟩:=hg.rs
  obtain⟨fa,wa⟩:=G.wk a
  obtain⟨fb,wb⟩:=G.wk b
  have va:=wa.all hr ha
  have vb:=wb.all hr hb
  have bn:∀n (t:Tm) r σ' tr,p t→jX σ n t=(r,σ',tr)→cW p σ':=by
   intro n t r σ' tr ht h
   unfold jX at h
   split at h<;>cases h
   · exact hr
   · intro m u hu
     simp only[Sub.set] at hu
     split at hu
     · cases hu;exact ht
     · exact hr m u hu
  rw[dI] at h
  generalize wk σ a=a at *
  generalize wk σ b=b at *
  split at h
  · simp only[Option.some.injEq,Prod.mk.injEq] at h
    obtain⟨rfl,rfl,rfl⟩:=h
    exact hr
  · split at h
    · rename_i hk
      exact bn _ _ _ _ _ vb (nK h)
    · rename_i hka
      split at h
      · rename_i hk
        exact bn _ _ _ _ _ va (nK h)
      · rename_i hkb
        split at h
        · rename_i hh
          exact ihL a.ts b.ts σ r σ' tr hg (sP.1 hh).2.2.2 h hr (fun x hx=>hp _ hka va x hx) (fun y hy=>hp _ hkb vb y hy)
        · simp only[Option.some.injEq,Prod.mk.injEq] at h
          obtain⟨rfl,rfl,rfl⟩:=h
          exact hr
theorem a4T(V:List Int):∀(N M:Nat) (σ:Sub) (a b:Tm),cO σ→mE V σ→iW V a→iW V b→tE σ V≤N→(a.aG (rs σ)).nodes≤M→∃g x,dI g σ a b=some x:=by
 intro N
 induction N using Nat.strongRecOn with
 | _ N ihN=>
 intro M
 induction M using Nat.strongRecOn with
 | _ M ihM=>
 intro σ a b hg hr ha hb hN hM
 have list:∀(xs ys:List Tm) (σ1:Sub),xs.length=ys.length→cO σ1→mE V σ1→(σ1=σ∨tE σ1 V<tE σ V)→(∀x∈xs,iW V x∧(x.aG (rs σ)).nodes<M)→(∀y∈ys,iW V y)→∃g x,d7 g σ1 xs ys=some x:=by
  intro xs
  induction xs with
  | nil=>
   intro ys σ1 hl _ _ _ _ _
   cases ys with
   | cons _ _=>simp at hl
   | nil=>exact⟨0,(true,σ1,[]),by simp only[d7]⟩
  | cons x xs ih=>
   intro ys σ1 hl hg1 hr1 hc hx hy
   cases ys with
   | nil=>simp at hl
   | cons y ys=>
    have h1:∃g p,dI g σ1 x y=some p:=by
     rcases hc with rfl | hlt
     · exact ihM _ (hx x (by simp)).2 σ1 x y hg1 hr1 (hx x (by simp)).1 (hy y (by simp)) hN (c7 _)
     · exact ihN (tE σ1 V) (by omega) _ σ1 x y hg1 hr1 (hx x (by simp)).1 (hy y (by simp)) (c7 _) (c7 _)
    obtain⟨g1,⟨r1,σ2,tr1⟩,h1⟩:=h1
    have U1:=wO hg1 h1
    obtain⟨i1,i2⟩:=(aOP g1).1 σ1 x y r1 σ2 tr1 V hg1 h1 hr1 (hx x (by simp)).1 (hy y (by simp))
    cases r1 with
    | false=>exact⟨g1,(false,σ2,tr1),by rw[d7,h1]⟩
    | true=>
     have hc2:σ2=σ∨tE σ2 V<tE σ V:=by
      cases htr:tr1 with
      | nil=>rw[U1.same htr];exact hc
      | cons m _=>
       have:=a4O (V:=V) U1.a8 U1.new (m:=m) (by rw[htr];simp) (i2 m (by rw[htr];simp))
       rcases hc with rfl | hlt
       · exact .inr this
       · exact .inr (Nat.lt_trans this hlt)
     obtain⟨g2,p2,h2⟩:=ih ys σ2 (by simpa using hl) U1.gQ i1 hc2 (fun z hz=>hx z (by simp [hz])) (fun z hz=>hy z (by simp [hz]))
     obtain⟨r2,σ3,tr2⟩:=p2
     refine⟨max g1 g2,(r2,σ3,tr1++tr2),?_⟩
     rw[d7,M4 (Nat.le_max_left g1 g2) h1]
     simp only
     rw[a4V (Nat.le_max_right g1 g2) h2]
 obtain⟨rk,B,G⟩:=hg.rs
 obtain⟨fa,wa⟩:=G.wk a
 obtain⟨fb,wb⟩:=G.wk b
 have va:=wa.G6 hr ha
 have vb:=wb.G6 hr hb
 have hma:=wa.aG G.v8
 rw[←hma] at hM
 by_cases h1:(wk σ a).k=1∧(wk σ b).k=1∧(wk σ a).n=(wk σ b).n
 · exact⟨1,_,by rw[dI,aH h1]⟩
 by_cases h2:(wk σ a).k=1
 · exact⟨1,_,by rw[dI,aE h1,aH h2]⟩
 by_cases h3:(wk σ b).k=1
 · exact⟨1,_,by rw[dI,aE h1,aE h2,aH h3]⟩
 by_cases h4:uB (wk σ a) (wk σ b)=true
 · have aX3:∀x∈(wk σ a).ts,iW V x∧(x.aG (rs σ)).nodes<M:=fun x hx=>by
    refine⟨va.oK h2 hx,?_⟩
    rw[Tm.pM _ h2,Tm.gI] at hM
    have:=HV (f:=Tm.nodes) (cS.2 ⟨x,hx,rfl⟩:x.aG (rs σ)∈(wk σ a).ts.map (Tm.aG (rs σ)))
    omega
   obtain⟨g,x,h⟩:=list (wk σ a).ts (wk σ b).ts σ (sP.1 h4).2.2.2 hg hr (.inl rfl) aX3 (fun y hy=>vb.oK h3 hy)
   exact⟨g+1,x,by rw[dI,aE h1,aE h2,aE h3,aH h4];exact h⟩
 · exact⟨1,_,by rw[dI,aE h1,aE h2,aE h3,aE h4]⟩
mutual
def Tm.flat:Tm→Nat→Bool
 | .mk _ _ _ _,0=>false
 | .mk _ _ _ ts,d+1=>MM ts d
def MM:List Tm→Nat→Bool
 | [],_=>true
 | t::ts,d=>t.flat d&&MM ts d
end
theorem aN6:∀(ts:List Tm) (d:Nat),MM ts d=ts.all fun t=>t.flat d
 | [],_=>rfl
 | t::ts,d=>by simp only[MM,kJ,aN6 ts d]
theorem Tm.CX(t:Tm):t.flat 0=false:=by cases t;simp only[Tm.flat]
theorem Tm.rC(k n:Int)(s:ByteArray)(ts:List Tm)(d:Nat):(Tm.mk k n s ts).flat (d+1)=ts.all fun t=>t.flat d:=by simp only[Tm.flat,aN6]
mutual
def Tm.iZ:Tm→Bool
 | .mk k n s ts=>eD k n s ts.length&&MP ts
def MP:List Tm→Bool
 | []=>true
 | t::ts=>t.iZ&&MP ts
end
theorem aN9:∀(ts:List Tm),MP ts=ts.all Tm.iZ
 | []=>rfl
 | t::ts=>by simp only[MP,kJ,aN9 ts]
theorem Tm.AT(k n:Int)(s:ByteArray)(ts:List Tm):(Tm.mk k n s ts).iZ=(eD k n s ts.length&&ts.all Tm.iZ):=by simp only[Tm.iZ,aN9]
theorem U8{α:Type}(p q:α→Bool):∀l:List α,(l.all fun x=>p x&&q x)=(l.all p&&l.all q)
 | []=>rfl
 | x::l=>by simp only[kJ,U8 p q l];cases p x<;>cases q x<;>cases l.all p<;>simp
theorem Tm.aMG:∀(t:Tm) (d:Nat),t.shape (d:Int)=(t.iZ&&t.flat d):=by
 intro t
 induction t using Tm.ind with
 | h k n s ts ih=>
  intro d
  cases d with
  | zero=>rw[Tm.CX,tJ,Tm.A8];try rfl
  | succ d=>
   rw[Tm.A8,Tm.AT,Tm.rC,show decide ((1:Int)≤((d+1:Nat):Int))=true by simp;omega,eV,Bool.and_assoc,←U8]
   congr 1
   rw[show(((d+1:Nat):Int) - 1)=(d:Int) by omega]
   have:∀l:List Tm,(∀x∈l,x∈ts)→(l.all fun t=>t.shape (d:Int))=l.all fun x=>x.iZ&&x.flat d:=by
    intro l
    induction l with
    | nil=>intro _;rfl
    | cons x l ihl=>intro h;rw[kJ,kJ,ih x (h x (by simp)),ihl fun y hy=>h y (by simp [hy])]
   exact this ts fun _ h=>h
theorem Tm.EQ{t:Tm}(h:t.valid=true):t.iZ=true:=by
 simp only[Tm.valid,cA] at h
 have:=h.1
 rw[show(30:Int)=((30:Nat):Int) from rfl,Tm.aMG,cA] at this
 exact this.1
theorem Tm.IM{t:Tm}(h:t.iZ=true):t.valid=(t.flat 30&&decide (t.nodes≤120)):=by
 unfold Tm.valid
 rw[show(30:Int)=((30:Nat):Int) from rfl,Tm.aMG,h,eV]
theorem Tm.LK{k n:Int}{s:ByteArray}{ts:List Tm}(h:(Tm.mk k n s ts).iZ=true):eD k n s ts.length=true∧∀x∈ts,x.iZ=true:=by
 rw[Tm.AT,cA] at h
 exact⟨h.1,dW.1 h.2⟩
theorem aLM{n:Int}{s:ByteArray}{len:Int}(h:eD 1 n s len=true):0≤n∧n≤25∧s=⟨#[]⟩∧len=0:=by
 simp [eD] at h
 exact⟨h.1.1.1,h.1.1.2,h.1.2,h.2⟩
theorem a01{k n:Int}{s:ByteArray}{len:Int}(h:eD k n s len=true):(k=1∨k=2∨k=3)∧len≤4:=by
 unfold eD at h
 by_cases h1:k=1
 · simp [h1] at h;omega
 · by_cases h2:k=2
   · simp [h2] at h;omega
   · by_cases h3:k=3
     · simp [h3] at h;omega
     · simp [h1,h2,h3] at h
theorem Tm.LJ:∀(t:Tm),t.iZ=true→t.cv=true:=by
 intro t
 induction t using Tm.ind with
 | h k n s ts ih=>
  intro h
  obtain⟨h1,h2⟩:=Tm.LK h
  refine Tm.lR.2 ⟨fun hk=>?_,fun x hx=>ih x hx (h2 x hx)⟩
  subst hk
  obtain⟨_,_,h3,h4⟩:=aLM h1
  exact⟨h3,pT (by omega)⟩
def BZ:List Int:=(List.range 26).map fun i:Nat=>(i:Int)
theorem HB{n:Int}:n∈BZ↔0≤n∧n≤25:=by
 simp only[BZ,cS,rX]
 constructor
 · rintro⟨i,h,rfl⟩;omega
 · intro h;exact⟨n.toNat,by omega,by omega⟩
theorem Tm.a0V:∀(t:Tm),t.iZ=true→iW BZ t:=by
 intro t
 induction t using Tm.ind with
 | h k n s ts ih=>
  intro h v hv
  obtain⟨h1,h2⟩:=Tm.LK h
  by_cases hk:k=1
  · rw[Tm.mS hk] at hv
    simp only[cX,dN,dV] at hv
    subst hv hk
    obtain⟨h3,h4,_⟩:=aLM h1
    exact HB.2 ⟨h3,h4⟩
  · obtain⟨x,hx,hvx⟩:=(Tm.k8 hk).1 hv
    exact ih x hx (h2 x hx) v hvx
theorem aK2{f:Int→Tm}:∀(t:Tm),t.iZ=true→(∀v∈t.vl,(f v).iZ=true)→(t.aG f).iZ=true:=by
 intro t
 induction t using Tm.ind with
 | h k n s ts ih=>
  intro h hf
  obtain⟨h1,h2⟩:=Tm.LK h
  by_cases hk:k=1
  · rw[Tm.kY f hk];exact hf n (by rw[Tm.mS hk];simp)
  · rw[Tm.j4 f hk,Tm.AT,aF,h1,eV,EW,dW]
    exact fun x hx=>ih x hx (h2 x hx) fun v hv=>hf v ((Tm.k8 hk).2 ⟨x,hx,hv⟩)
theorem aOY{n:Int}(h:n∈BZ):(vr n).iZ=true:=by
 rw[HB] at h
 rw[vr,Tm.AT]
 simp [eD,h]
theorem a4R{g g':Nat}{σ:Sub}{a b:Tm}{x y:Bool×Sub×List Int}(h:dI g σ a b=some x)(h':dI g' σ a b=some y):x=y:=by
 have h1:=M4 (Nat.le_max_left g g') h
 rw[M4 (Nat.le_max_right g g') h'] at h1
 exact(nK h1).symm
structure a5J (a b:Tm) (r:Bool) (σ:Sub) (tr:List Int):Prop where
 run:∃g,dI g Sub.none a b=some (r,σ,tr)
 mA:n8 Sub.none [a] [b] r σ tr
 iZ:cW (fun t=>t.iZ=true) σ
 G6:mE BZ σ
 trV:∀m∈tr,m∈BZ
theorem aK8:∀ {l V:List Int},l.Nodup→(∀x∈l,x∈V)→l.length≤V.length
 | [],_,_,_=>jD _
 | x::l,V,h,hV=>by
  rw[List.nodup_cons] at h
  have hx:=hV x (by simp)
  have:=aK8 (V:=V.erase x) h.2 fun y hy=>(List.mem_erase_of_ne (by rintro rfl;exact h.1 hy)).2 (hV y (by simp [hy]))
  rw[List.length_erase_of_mem hx] at this
  have:=List.length_pos_of_mem hx
  simp only[aS]
  omega
structure a5E (a b:Tm) (bs:List Bd):Prop where
 va:a.valid=true
 vb:b.valid=true
 vs:(bs.all fun x=>x.2.valid)=true
 eq:a.aG (SN bs)=b.aG (SN bs)
 idem:∀x∈bs,x.2.aG (SN bs)=x.2
 sorted:bs.Pairwise fun x y=>x.1<y.1
abbrev zt:AV:=.agg [.int .i64 0,.int .i64 0,.str ⟨#[]⟩,.fslice []]
def mapOf(σ:Sub):Int→Option AV:=fun n=>(σ n).map Tm.av
def found:Option Tm→AV
 | some u=>.tup [u.av,.bool true]
 | none=>.tup [zt,.bool false]
theorem aZ8{P:Program}{st:aB}{m:Nat}{σ:Sub}{t kt et:TypeId}{n:Int}(hm:st m=some (.map (mapOf σ)))(hu:P.underlying t=some (.map kt et))(hk:P.underlying kt=some (.int .i64))(hz:zV P et=some zt) :
 oX P st t true (.map m) (.int .i64 n)=some (found (σ n)):=by
 unfold oX
 simp only[hm,hu,hk,mapOf]
 cases h:σ n with
 | none=>simp [hz,found,AV.cF]
 | some u=>simp [found,cG]
theorem a4X{P:Program}{st:aB}{m:Nat}{σ:Sub}{t kt et:TypeId}{n:Int}{u:Tm}{K:AV→aB→Prop}(hm:st m=some (.map (mapOf σ)))(hu:P.underlying t=some (.map kt et))(hk:P.underlying kt=some (.int .i64))
 (h:K .undef (st.aC m (.map (mapOf (σ.set n u))))):r8 P t st (.map m) (.int .i64 n) u.av K:=by
 unfold r8
 simp only[hu,hm,hk]
 refine⟨cG u,?_⟩
 have:nV (mapOf σ) n (some u.av)=mapOf (σ.set n u):=by
  funext x
  unfold nV mapOf Sub.set
  split<;>rfl
 rw[this]
 exact h
structure iX (st:aB) (c m:Nat) (q:AV) (σ:Sub):Prop where
 cells:st c=some (.cells [.map m,q])
 map:st m=some (.map (mapOf σ))
theorem iX.aC{st:aB}{c m b:Nat}{q:AV}{σ:Sub}{o:AO}(h:iX st c m q σ)(hb:st b=none):iX (st.aC b o) c m q σ:=
 ⟨(by rw[aB.aL _ _ (by rintro rfl;rw[h.cells] at hb;cases hb)];exact h.cells),(by rw[aB.aL _ _ (by rintro rfl;rw[h.map] at hb;cases hb)];exact h.map)⟩
theorem iX.M6{st:aB}{c m b:Nat}{q:AV}{σ:Sub}{o:AO}(h:iX st c m q σ)(h1:b≠c)(h2:b≠m):iX (st.aC b o) c m q σ:=
 ⟨(by rw[aB.aL _ _ (dD h1)];exact h.cells),by rw[aB.aL _ _ (dD h2)];exact h.map⟩
theorem iX.ne{st:aB}{c m b:Nat}{q:AV}{σ:Sub}(h:iX st c m q σ)(hb:st b=none):b≠c∧b≠m:=⟨(by rintro rfl;rw[h.cells] at hb;cases hb),(by rintro rfl;rw[h.map] at hb;cases hb)⟩
theorem iX.cm{st:aB}{c m:Nat}{q:AV}{σ:Sub}(h:iX st c m q σ):c≠m:=by rintro rfl;have:=h.cells;rw[h.map] at this;cases this
def lX(M:List Int):Int→Option AV:=fun x=>if x∈M then some (.bool true) else none
theorem aZ7{P:Program}{st:aB}{mm:Nat}{M:List Int}{t kt et:TypeId}{n:Int}(hm:st mm=some (.map (lX M)))(hu:P.underlying t=some (.map kt et))(hk:P.underlying kt=some (.int .i64))(hz:zV P et=some (.bool false)) :
 oX P st t false (.map mm) (.int .i64 n)=some (.bool (decide (n∈M))):=by
 unfold oX
 simp only[hm,hu,hk,lX]
 by_cases h:n∈M
 · simp [h,AV.cF]
 · simp [h,hz,AV.cF]
theorem a4W{P:Program}{st:aB}{mm:Nat}{M:List Int}{t kt et:TypeId}{n:Int}{K:AV→aB→Prop}(hm:st mm=some (.map (lX M)))(hu:P.underlying t=some (.map kt et))(hk:P.underlying kt=some (.int .i64))
 (h:K .undef (st.aC mm (.map (lX (n::M))))):r8 P t st (.map mm) (.int .i64 n) (.bool true) K:=by
 unfold r8
 simp only[hu,hm,hk]
 refine⟨rfl,?_⟩
 have:nV (lX M) n (some (.bool true))=lX (n::M):=by
  funext x
  unfold nV lX
  by_cases e:x=n
  · simp [e]
  · simp [e]
 rw[this]
 exact h
theorem a0L:lX []=fun _=>none:=by funext x;simp [lX]
theorem TS(t:Tm):t.wf=true→∀l:List Int,(∀v,v∈t.vars l↔v∈l∨v∈t.vl)∧(l.Nodup→(t.vars l).Nodup)∧∃m,t.vars l=l++m:=by
 induction t using Tm.ind with
 | h k n s ts ih=>
  intro h l
  obtain⟨hk,hw⟩:=Tm.TT h
  have list:∀xs:List Tm,(∀x∈xs,x∈ts)→∀l:List Int,(∀v,v∈bL xs l↔v∈l∨∃x∈xs,v∈x.vl)∧(l.Nodup→(bL xs l).Nodup)∧∃m,bL xs l=l++m:=by
   intro xs
   induction xs with
   | nil=>intro _ l;exact⟨by simp [bL],fun h=>h,[],by simp [bL]⟩
   | cons x xs ihx=>
    intro hs l
    obtain⟨a1,a2,m1,a3⟩:=ih x (hs x (by simp)) (hw x (hs x (by simp))) l
    obtain⟨b1,b2,m2,b3⟩:=ihx (fun y hy=>hs y (by simp [hy])) (x.vars l)
    simp only[bL]
    refine⟨fun v=>?_,fun hn=>b2 (a2 hn),m1++m2,by rw[b3,a3,nJ]⟩
    rw[b1,a1]
    simp [or_assoc]
  rw[Tm.vars]
  by_cases hk1:k=1
  · obtain rfl:=hk hk1
    rw[Tm.mS hk1]
    simp only[bL]
    split
    · rename_i hc
      refine⟨fun v=>by simp,fun hn=>?_,[n],rfl⟩
      rw[tO]
      refine⟨hn,by simp,fun x hx y hy e=>?_⟩
      simp only[cX,dN,dV] at hy
      subst hy e
      exact hc.2 hx
    · rename_i hc
      refine⟨fun v=>?_,fun hn=>hn,[],by simp⟩
      have hm:n∈l:=yU fun h=>hc ⟨hk1,h⟩
      simp only[cX,dN,dV]
      exact⟨.inl,fun h=>h.elim id fun e=>e▸hm⟩
  · rw[aE (by simp [hk1])]
    obtain⟨c1,c2,c3⟩:=list ts (fun _ h=>h) l
    exact⟨fun v=>by rw[c1,Tm.k8 hk1],c2,c3⟩
theorem Tm.a42{v:Int}:∀(t:Tm) (l:List Int),t.cv=true→(v∈t.vars l↔v∈l∨v∈t.vl):=by
 intro t
 induction t using Tm.ind with
 | h k n s ts ih=>
  intro l hcv
  obtain⟨h1,h2⟩:=Tm.lR.1 hcv
  have key:∀(ts:List Tm) (l:List Int),(∀t∈ts,∀l,v∈t.vars l↔v∈l∨v∈t.vl)→(v∈bL ts l↔v∈l∨∃t∈ts,v∈t.vl):=by
   intro ts
   induction ts with
   | nil=>intro l _;simp [bL]
   | cons t ts iht=>
    intro l h
    simp only[bL]
    rw[iht _ (fun x hx=>h x (by simp [hx])),h t (by simp)]
    simp [or_assoc]
  simp only[Tm.vars]
  rw[key ts _ (fun t ht l=>ih t ht l (h2 t ht))]
  by_cases hk:k=1
  · obtain⟨rfl,rfl⟩:=h1 hk
    rw[Tm.mS hk]
    by_cases hn:n∈l
    · simp [hk,hn];exact fun e=>e▸hn
    · simp [hk,hn]
  · rw[Tm.k8 hk];simp [hk]
theorem tC{v:Int}:∀(ts:List Tm) (l:List Int),(∀t∈ts,t.cv=true)→(v∈bL ts l↔v∈l∨∃t∈ts,v∈t.vl)
 | [],l,_=>by simp [bL]
 | t::ts,l,h=>by
  simp only[bL]
  rw[tC ts _ (fun x hx=>h x (by simp [hx])),Tm.a42 t l (h t (by simp))]
  simp [or_assoc]
theorem a45{σ:Sub}{R:Int→Tm}{rk:Int→Nat}{B:Nat}(G:Good σ R rk B){n:Int}{W:List Int}(hW:∀w∈W,w≠n∧∀u,σ w=some u→∀v∈u.vl,v∈W):∀w∈W,n∉(R w).vl:=by
 refine fun w=>G.ind (p:=fun w=>w∈W→n∉(R w).vl) (fun w h hw hm=>?_) (fun w u h ih hw hm=>?_) w
 · rw[G.free h,yO] at hm
   simp only[cX,dN,dV] at hm
   exact(hW w hw).1 hm.symm
 · rw[G.bound h] at hm
   obtain⟨v,hv,hnv⟩:=(wR u).1 hm
   exact ih v hv ((hW w hw).2 u h v hv) hnv
theorem aWI{w:Nat}{l:List AV}{i:Nat}{e:AV}(hw:∀e∈l,e.width=w)(h:l[i]?=some e) :
 ∃A B,l.flatMap AV.cells=A++e.cells++B∧A.length=i*w∧∀e',(l.set i e').flatMap AV.cells=A++e'.cells++B:=by
 obtain⟨hi,he⟩:=gP.1 h
 refine⟨(l.take i).flatMap AV.cells,(l.drop (i+1)).flatMap AV.cells,?_,?_,fun e'=>?_⟩
 · have:l=l.take i++e::l.drop (i+1):=by rw[←he,←qS hi,rY]
   conv=>lhs;rw[this]
   simp
 · rw[pD (fun e he=>hw e (mC he)),dS,lP (by omega)]
 · rw[List.set_eq_take_append_cons_drop,aH hi]
   simp
def cellOf:Option Tm→AV
 | some u=>u.av
 | none=>zt
theorem J1(o:Option Tm):(cellOf o).width=4:=by cases o<;>first | rfl | exact aJ _
theorem aUG(o:Option Tm):(cellOf o).cells.length=4:=by rw[vG,J1]
theorem aM1{f:Tm→Nat}{g:Tm→Tm}:∀ {l:List Tm},(∀x∈l,f x≤f (g x))→bF f l≤bF f (l.map g)
 | [],_=>c7 _
 | x::l,h=>by
  have h1:=h x (by simp)
  have h2:=aM1 (f:=f) (g:=g) (l:=l) fun y hy=>h y (by simp [hy])
  simp only[bA,bF]
  omega
theorem a0O(f:Int→Tm):∀t:Tm,t.cv=true→t.nodes≤(t.aG f).nodes:=by
 intro t
 induction t using Tm.ind with
 | h k n s ts ih=>
  intro h
  obtain⟨h1,h2⟩:=Tm.lR.1 h
  by_cases hk:k=1
  · rw[Tm.kY f hk,Tm.gI,(h1 hk).2]
    exact Tm.pO _
  · rw[Tm.j4 f hk,Tm.gI,Tm.gI]
    have:=aM1 (f:=Tm.nodes) (g:=Tm.aG f) fun x hx=>ih x hx (h2 x hx)
    omega
theorem aWH(f:Int→Tm):∀(t:Tm) (d:Nat),t.cv=true→(t.aG f).flat d=true→t.flat d=true:=by
 intro t
 induction t using Tm.ind with
 | h k n s ts ih=>
  intro d h hf
  obtain⟨h1,h2⟩:=Tm.lR.1 h
  cases d with
  | zero=>rw[Tm.CX] at hf;cases hf
  | succ d=>
   by_cases hk:k=1
   · rw[Tm.rC,(h1 hk).2];try rfl
   · rw[Tm.j4 f hk,Tm.rC,EW,dW] at hf
     rw[Tm.rC,dW]
     exact fun x hx=>ih x hx d (h2 x hx) (hf x hx)
theorem a41{f:Int→Tm}{t:Tm}(h:t.iZ=true)(hv:(t.aG f).valid=true):t.valid=true:=by
 have h1:=Tm.EQ hv
 rw[Tm.IM h1,cA,bJ] at hv
 rw[Tm.IM h,cA,bJ]
 exact⟨aWH f t 30 (Tm.LJ t h) hv.1,lA (a0O f t (Tm.LJ t h)) hv.2⟩
theorem n7.none(θ:Int→Tm):n7 θ Sub.none:=fun n u h=>by cases h
theorem AM:∀t:Tm,t.cv=true→t.aG vr=t:=by
 intro t
 induction t using Tm.ind with
 | h k n s ts ih=>
  intro h
  obtain⟨h1,h2⟩:=Tm.lR.1 h
  by_cases hk:k=1
  · obtain⟨rfl,rfl⟩:=h1 hk
    rw[Tm.kY vr hk,hk];try rfl
  · rw[Tm.j4 vr hk]
    congr 1
    have:∀l:List Tm,(∀x∈l,x∈ts)→l.map (Tm.aG vr)=l:=by
     intro l
     induction l with
     | nil=>intro _;rfl
     | cons x l ihl=>intro hl;rw[bA,ih x (hl x (by simp)) (h2 x (hl x (by simp))),ihl fun y hy=>hl y (by simp [hy])]
    exact this ts fun _ h=>h
theorem a0I{f g:Int→Tm}:∀t:Tm,t.aG f=t.aG g→∀v∈t.vl,f v=g v:=by
 intro t
 induction t using Tm.ind with
 | h k n s ts ih=>
  intro h v hv
  by_cases hk:k=1
  · rw[Tm.kY f hk,Tm.kY g hk] at h
    rw[Tm.mS hk] at hv
    simp only[cX,dN,dV] at hv
    rw[hv];exact h
  · rw[Tm.j4 f hk,Tm.j4 g hk] at h
    injection h with _ _ _ h4
    obtain⟨x,hx,hvx⟩:=(Tm.k8 hk).1 hv
    obtain⟨i,hi⟩:=List.mem_iff_getElem?.1 hx
    have:=gV (fun l=>l[i]?) h4
    simp only[mW,hi,n0,Option.some.injEq] at this
    exact ih x hx this v hvx
def rJ(t:Tm):Tm:=t.aG fun v=>vr (d5 v (t.vars []) 0)
def nW(l:List Tm):List Tm:=l.map fun t=>t.aG fun v=>vr (d5 v (bL l []) 0)
theorem aOU{D:Int→Prop}{h:Int→Int}(inj:∀v w,D v→D w→h v=h w→v=w){f:Int→Tm}(hf:∀v,D v→f v=vr (h v)) :
 ∀(t:Tm),t.wf=true→(∀v∈t.vl,D v)→∀l:List Int,(∀v∈l,D v)→(t.aG f).vars (l.map h)=(t.vars l).map h∧∀v∈t.vars l,D v:=by
 intro t
 induction t using Tm.ind with
 | h k n s ts ih=>
  intro hw hD l hl
  obtain⟨hk1,hws⟩:=Tm.TT hw
  by_cases hk:k=1
  · obtain rfl:=hk1 hk
    have hDn:D n:=hD n (by rw[Tm.mS hk];simp)
    have gX:h n∈l.map h↔n∈l:=by
     rw[cS]
     exact⟨fun⟨m,hm,e⟩=>by rw[←inj m n (hl m hm) hDn e];exact hm,fun hm=>⟨n,hm,rfl⟩⟩
    rw[Tm.kY f hk,hf n hDn,vr,Tm.vars,Tm.vars]
    simp only[bL,hk,tD,gX]
    split
    · exact⟨by simp,fun v hv=>by
       rcases fF.1 hv with hv | hv
       · exact hl v hv
       · simp only[cX,dN,dV] at hv;rw[hv];exact hDn⟩
    · exact⟨rfl,hl⟩
  · rw[Tm.j4 f hk,Tm.vars,Tm.vars,aE (fun h=>hk h.1),aE (fun h=>hk h.1)]
    have:∀xs:List Tm,(∀x∈xs,x∈ts)→∀l:List Int,(∀v∈l,D v)→bL (xs.map (Tm.aG f)) (l.map h)=(bL xs l).map h∧∀v∈bL xs l,D v:=by
     intro xs
     induction xs with
     | nil=>intro _ l hl;exact⟨rfl,hl⟩
     | cons x xs ihx=>
      intro hs l hl
      have hx:=hs x (by simp)
      obtain⟨e1,e2⟩:=ih x hx (hws x hx) (fun v hv=>hD v ((Tm.k8 hk).2 ⟨x,hx,hv⟩)) l hl
      simp only[bA,bL]
      rw[e1]
      exact ihx (fun y hy=>hs y (by simp [hy])) _ e2
    exact this ts (fun _ h=>h) l hl
theorem Q3{D:Int→Prop}{h:Int→Int}(inj:∀v w,D v→D w→h v=h w→v=w)(v:Int)(hv:D v):∀(l:List Int) (i:Int),(∀w∈l,D w)→d5 (h v) (l.map h) i=d5 v l i
 | [],i,_=>rfl
 | x::l,i,hl=>by
  simp only[bA,d5]
  by_cases e:v=x
  · rw[aH e,aH (by rw[e])]
  · rw[aE e,aE (fun e2=>e (inj v x hv (hl x (by simp)) e2))]
    exact Q3 inj v hv l (i+1) fun w hw=>hl w (by simp [hw])
theorem variant{x y:Tm}{f g:Int→Tm}(hx:x.cv=true)(hf:∀v∈x.vl,(f v).cv=true)(e1:y=x.aG f)(e2:x=y.aG g):rJ x=rJ y:=by
 have h1:∀v∈x.vl,(f v).aG g=vr v:=by
  have:x.aG (fun v=>(f v).aG g)=x.aG vr:=by rw[←pN,←e1,←e2,AM x hx]
  exact a0I x this
 have h2:∀v∈x.vl,f v=vr (f v).n:=fun v hv=>by
  refine Tm.aU3 (hf v hv) (yU fun hk=>?_)
  have:=h1 v hv
  rw[Tm.pM g hk] at this
  have:=gV Tm.k this
  exact hk this
 have inj:∀v w,v∈x.vl→w∈x.vl→(f v).n=(f w).n→v=w:=fun v w hv hw e=>by
  have:=h1 v hv
  rw[h2 v hv,e,←h2 w hw,h1 w hw] at this
  have:=gV Tm.n this
  exact this.symm
 obtain⟨a1,a2⟩:=aOU (D:=fun v=>v∈x.vl) (h:=fun v=>(f v).n) inj (f:=f) h2 x (Tm.sG x hx) (fun _ h=>h) [] (fun v h=>by cases h)
 have a1':y.vars []=(x.vars []).map fun v=>(f v).n:=by rw[e1];exact a1
 unfold rJ
 conv=>rhs;rw[e1]
 rw[pN]
 refine mN x fun v hv=>?_
 have:(fun w=>vr (d5 w ((x.aG f).vars []) 0))=fun w=>vr (d5 w (y.vars []) 0):=by rw[←e1]
 rw[h2 v hv,qI,←e1,a1',Q3 (D:=fun v=>v∈x.vl) (h:=fun v=>(f v).n) inj v hv (x.vars []) 0 a2]
def pY:List ByteArray:=[⟨#[43]⟩,⟨#[45]⟩,⟨#[42]⟩,⟨#[47,47]⟩,⟨#[109,111,100]⟩]
def q9:List ByteArray:=[⟨#[60]⟩,⟨#[62]⟩,⟨#[61,60]⟩,⟨#[62,61]⟩,⟨#[61,58,61]⟩]
def gB(l:List ByteArray)(s:ByteArray):Bool:=l.any fun x=>decide (s=x)
def i8(n:Int):Int×Int:=if -999≤n∧n≤999 then(n,0) else(0,5)
def p7(a b:Int):Int:=if a.tmod b≠0∧decide (a.tmod b<0)≠decide (b<0) then a.tmod b+b else a.tmod b
def qY(s:ByteArray)(a b:Int):Int×Int:=
 if s=⟨#[43]⟩ then i8 (a+b) else if s=⟨#[45]⟩ then i8 (a - b) else if s=⟨#[42]⟩ then i8 (a*b) else if b=0 then(0,4) else if s=⟨#[109,111,100]⟩ then(p7 a b,0) else(a.tdiv b,0)
def both(f:Int→Int→Int×Int)(x y:Int×Int):Int×Int:=if x.2≠0 then(0,x.2) else if y.2≠0 then(0,y.2) else f x.1 y.1
def two(f:Int→Int→Int×Int):List (Int×Int)→Int×Int
 | [x,y]=>both f x y
 | _=>(0,3)
mutual
def Tm.ev:Tm→Int×Int
 | .mk k n s ts=>if k=2 then(n,0) else if k=1 then(0,2) else if gB pY s=true then two (qY s) (ML ts) else(0,3)
def ML:List Tm→List (Int×Int)
 | []=>[]
 | t::ts=>t.ev::ML ts
end
theorem aN5:∀ts:List Tm,ML ts=ts.map Tm.ev
 | []=>rfl
 | t::ts=>by simp only[ML,bA,aN5 ts]
theorem Tm.xP(k n:Int)(s:ByteArray)(ts:List Tm):(Tm.mk k n s ts).ev=if k=2 then(n,0) else if k=1 then(0,2) else if gB pY s=true then two (qY s) (ts.map Tm.ev) else(0,3):=by simp only[Tm.ev,aN5]
theorem MH(a b:Int)(hb:b≠0):(0<b→-b<a.tmod b∧a.tmod b<b)∧(b<0→b<a.tmod b∧a.tmod b< -b):=by
 have h1:=NE (-a) (b:=b)
 have h2:=NE a (b:=b)
 have h3:=NE (-a) (b:= -b)
 have h4:=NE a (b:= -b)
 rw[Int.tmod_neg] at h3 h4
 rw[Int.neg_tmod] at h1 h3
 constructor
 · intro h;exact⟨by have:=h1 h;omega,h2 h⟩
 · intro h;exact⟨by have:=h3 (by omega);omega,h4 (by omega)⟩
theorem tdiv_le(a b:Int)(ha: -999≤a∧a≤999): -999≤a.tdiv b∧a.tdiv b≤999:=by
 have:(a.tdiv b).natAbs≤a.natAbs:=by rw[Int.natAbs_tdiv];exact Nat.div_le_self _ _
 omega
theorem R9(n:Int): -999≤(i8 n).1∧(i8 n).1≤999:=by unfold i8;split<;>simp_all
theorem aI4(a b:Int)(ha: -999≤a∧a≤999)(hb: -999≤b∧b≤999)(h0:b≠0): -999≤p7 a b∧p7 a b≤999:=by
 have h1:=MH a b h0
 unfold p7
 split
 · rename_i h
   have h2:=h.2
   by_cases hb':b<0
   · have:¬a.tmod b<0:=by intro hc;simp [hb',hc] at h2
     have:=h1.2 hb'
     omega
   · have:a.tmod b<0:=by
      apply yU;intro hc;simp [hb',hc] at h2
     have:=h1.1 (by omega)
     omega
 · rcases Int.lt_or_gt_of_ne h0 with h | h
   · have:=h1.2 h;omega
   · have:=h1.1 h;omega
theorem U5(m b:Int)(h1:0≤m)(h2:m<b):(m+b).tmod b=m:=by
 obtain⟨x,rfl⟩:∃x:Nat,m=x:=⟨m.toNat,by omega⟩
 obtain⟨y,rfl⟩:∃y:Nat,b=y:=⟨b.toNat,by omega⟩
 rw[show(x:Int)+(y:Int)=((x+y:Nat):Int) by omega,←Int.ofNat_tmod,Nat.add_mod_right,Nat.mod_eq_of_lt (by omega)]
theorem aWJ(a b:Int)(h0:b≠0):(a.tmod b+b).tmod b=p7 a b:=by
 have h1:=MH a b h0
 have hs:∀x:Int,0≤x→x<b→x.tmod b=x:=fun x h2 h3=>Int.tmod_eq_of_lt h2 h3
 have hn:∀x:Int,x≤0→b<x→x.tmod b=x:=fun x h2 h3=>by
  have:=Int.tmod_eq_of_lt (a:= -x) (b:= -b) (by omega) (by omega)
  rw[Int.tmod_neg,Int.neg_tmod] at this
  omega
 unfold p7
 generalize a.tmod b=m at *
 by_cases hb:b<0
 · have h2:=h1.2 hb
   by_cases hm:m<0
   · rw[aE (by simp [hb,hm])]
     rw[show m+b=b+m by omega]
     have e:(b+m).tmod b=((-b)+(-m)).tmod (-b)*(-1):=by
      rw[show(-b)+(-m)= -(b+m) by omega,Int.neg_tmod,Int.tmod_neg];omega
     rw[e,Int.add_comm,U5 (-m) (-b) (by omega) (by omega)]
     omega
   · by_cases hm0:m=0
     · subst hm0;rw[aE (by simp),Int.zero_add,Int.tmod_self]
     · rw[aH ⟨hm0,by simp [hb,hm]⟩]
       exact hn _ (by omega) (by omega)
 · have h2:=h1.1 (by omega)
   by_cases hm:m<0
   · rw[aH ⟨by omega,by simp [hb,hm]⟩]
     exact hs _ (by omega) (by omega)
   · rw[aE (by simp [hb,hm])]
     rw[U5 m b (by omega) (by omega)]
def cJ(N:Int)(t:Tm):Prop:=(t.aG fun _=>vr 0).iZ=true∧t.cv=true∧∀v∈t.vl,0≤v∧v<N
theorem cJ.mono{N M:Int}{t:Tm}(h:cJ N t)(hm:N≤M):cJ M t:=⟨h.1,h.2.1,fun v hv=>⟨(h.2.2 v hv).1,by have:=(h.2.2 v hv).2;omega⟩⟩
theorem cJ.own{N k n:Int}{s:ByteArray}{ts:List Tm}(h:cJ N (.mk k n s ts))(hk:k≠1):eD k n s ts.length=true∧∀x∈ts,cJ N x:=by
 obtain⟨h1,h2,h3⟩:=h
 rw[Tm.j4 _ hk] at h1
 obtain⟨h4,h5⟩:=Tm.LK h1
 rw[aF] at h4
 exact⟨h4,fun x hx=>⟨h5 _ (cS.2 ⟨x,hx,rfl⟩),(Tm.lR.1 h2).2 x hx,fun v hv=>h3 v ((Tm.k8 hk).2 ⟨x,hx,hv⟩)⟩⟩
theorem cJ.var{N n:Int}{s:ByteArray}{ts:List Tm}(h:cJ N (.mk 1 n s ts)):0≤n∧n<N∧s=⟨#[]⟩∧ts= []:=by
 obtain⟨_,h2,h3⟩:=h
 obtain⟨h4,h5⟩:=(Tm.lR.1 h2).1 rfl
 obtain⟨h6,h7⟩:=h3 n (by rw[Tm.mS rfl];simp)
 exact⟨h6,h7,h4,h5⟩
theorem LM(N:Int):∀t:Tm,t.k≠1→cJ N t→∀x∈t.ts,cJ N x:=fun t hk h x hx=>by
 cases t
 exact(h.own hk).2 x hx
theorem cJ.kind{N k n:Int}{s:ByteArray}{ts:List Tm}(h:cJ N (.mk k n s ts)):(k=1∨k=2∨k=3)∧ts.length≤4:=by
 by_cases hk:k=1
 · subst hk
   rw[h.var.2.2.2]
   simp
 · have:=a01 (h.own hk).1
   omega
theorem a00{n:Int}{s:ByteArray}{len:Int}(h:eD 2 n s len=true): -999≤n∧n≤999:=by
 simp [eD] at h
 omega
theorem cJ.all{N k n:Int}{s:ByteArray}{ts:List Tm}(h:cJ N (.mk k n s ts)):(k=2→-999≤n∧n≤999)∧∀x∈ts,cJ N x:=by
 by_cases hk:k=1
 · subst hk
   rw[h.var.2.2.2]
   simp
 · obtain⟨h1,h2⟩:=h.own hk
   refine⟨fun h2=>?_,h2⟩
   subst h2
   exact a00 h1
theorem cJ.small{N:Int}:∀ {t:Tm},cJ N t→t.small=true:=by
 intro t
 induction t using Tm.ind with
 | h k n s ts ih=>
  intro h
  have h4:=h.kind.2
  simp only[Tm.small,EL,cA,bJ,dW]
  refine⟨by omega,fun x hx=>?_⟩
  by_cases hk:k=1
  · subst hk;rw[h.var.2.2.2] at hx;cases hx
  · exact ih x hx ((h.own hk).2 x hx)
theorem cJ.aG{N M:Int}{f:Int→Tm}{t:Tm}(h:cJ N t)(hf:∀v∈t.vl,cJ M (f v)):cJ M (t.aG f):=by
 induction t using Tm.ind with
 | h k n s ts ih=>
  by_cases hk:k=1
  · rw[Tm.kY f hk];exact hf n (by rw[Tm.mS hk];simp)
  · obtain⟨h1,h2⟩:=h.own hk
    have key:∀x∈ts,cJ M (x.aG f):=fun x hx=>ih x hx (h2 x hx) fun v hv=>hf v ((Tm.k8 hk).2 ⟨x,hx,hv⟩)
    rw[Tm.j4 f hk]
    refine⟨?_,Tm.lR.2 ⟨fun h=>absurd h hk,fun y hy=>?_⟩,fun v hv=>?_⟩
    · rw[Tm.j4 _ hk,Tm.AT,aF,aF,h1,eV,dW]
      intro y hy
      simp only[tN,cS,EV] at hy
      obtain⟨x,hx,rfl⟩:=hy
      exact(key x hx).1
    · obtain⟨x,hx,rfl⟩:=cS.1 hy
      exact(key x hx).2.1
    · obtain⟨y,hy,hv⟩:=(Tm.k8 hk).1 hv
      obtain⟨x,hx,rfl⟩:=cS.1 hy
      exact(key x hx).2.2 v hv
theorem HD{N n:Int}(h0:0≤n)(h1:n<N):cJ N (vr n):=by
 refine⟨by rw[qI];exact aOY (HB.2 (by omega)),Tm.lR.2 ⟨fun _=>⟨rfl,rfl⟩,by simp⟩,fun v hv=>?_⟩
 rw[yO] at hv
 simp only[cX,dN,dV] at hv
 omega
theorem aLH{t:Tm}:t.iZ=true↔cJ 26 t:=by
 constructor
 · intro h
   refine⟨aK2 t h fun v _=>aOY (HB.2 (by omega)),Tm.LJ t h,fun v hv=>?_⟩
   have:=HB.1 (Tm.a0V t h v hv)
   omega
 · induction t using Tm.ind with
   | h k n s ts ih=>
    intro h
    rw[Tm.AT]
    by_cases hk:k=1
    · subst hk
      obtain⟨h0,h1,rfl,rfl⟩:=h.var
      have h1':n≤25:=by omega
      simp [eD,h0,h1']
    · obtain⟨h1,h2⟩:=h.own hk
      rw[h1,eV,dW]
      exact fun x hx=>ih x hx (h2 x hx)
theorem Tm.IN{t:Tm}(h:t.valid=true):cJ 26 t:=aLH.1 (Tm.EQ h)
theorem Good.k0{σ:Sub}{R:Int→Tm}{rk:Int→Nat}{B:Nat}(G:Good σ R rk B){N:Int}(ho:cW (cJ N) σ):∀n,0≤n→n<N→cJ N (R n):=by
 refine fun n=>G.ind (p:=fun n=>0≤n→n<N→cJ N (R n)) (fun n h h0 h1=>?_) (fun n u h ih h0 h1=>?_) n
 · rw[G.free h];exact HD h0 h1
 · rw[G.bound h]
   exact(ho n u h).aG fun v hv=>ih v hv ((ho n u h).2.2 v hv).1 ((ho n u h).2.2 v hv).2
theorem Good.RL{σ:Sub}{R:Int→Tm}{rk:Int→Nat}{B:Nat}(G:Good σ R rk B){N:Int}(ho:cW (cJ N) σ){t:Tm}(h:cJ N t):cJ N (t.aG R):=
 h.aG fun v hv=>G.k0 ho v (h.2.2 v hv).1 (h.2.2 v hv).2
def bB(N:Int)(t:Tm):Prop:=cJ N t∧t.nodes≤120
theorem qJ(N:Int):∀t:Tm,t.k≠1→bB N t→∀x∈t.ts,bB N x:=fun t hk h x hx=>by
 refine⟨LM N t hk h.1 x hx,?_⟩
 have h2:=h.2
 cases t
 rw[Tm.gI] at h2
 have:=HV (f:=Tm.nodes) hx
 simp only[Tm.ts] at this
 omega
theorem bB.mono{N M:Int}{t:Tm}(h:bB N t)(hm:N≤M):bB M t:=⟨h.1.mono hm,h.2⟩
theorem cW.k0{N:Int}{σ:Sub}(h:cW (bB N) σ):cW (cJ N) σ:=fun n u e=>(h n u e).1
theorem cW.imp{p q:Tm→Prop}{σ:Sub}(h:cW p σ)(hpq:∀t,p t→q t):cW q σ:=fun n u e=>hpq u (h n u e)
open Classical in
noncomputable def gD(σ:Sub)(a b:Tm):Bool×Sub×List Int:=if h:∃x g,dI g σ a b=some x then h.choose else(false,σ,[])
theorem aOO{g:Nat}{σ:Sub}{a b:Tm}{x:Bool×Sub×List Int}(h:dI g σ a b=some x):gD σ a b=x:=by
 unfold gD
 have h':∃x g,dI g σ a b=some x:=⟨x,g,h⟩
 rw[dif_pos h']
 obtain⟨g',h''⟩:=h'.choose_spec
 exact a4R h'' h
def VN(N:Nat):List Int:=(List.range N).map fun i:Nat=>(i:Int)
theorem wA{N:Nat}{n:Int}:n∈VN N↔0≤n∧n<N:=by
 simp only[VN,cS,rX]
 constructor
 · rintro⟨i,h,rfl⟩;omega
 · intro h;exact⟨n.toNat,by omega,by omega⟩
theorem DT{N:Nat}{tr:List Int}(h:tr.Nodup)(hV:∀m∈tr,0≤m∧m<N):tr.length≤N:=by
 have:=aK8 (V:=VN N) h fun x hx=>wA.2 (hV x hx)
 simpa [VN] using this
structure y8 (N:Int) (σ:Sub) (a b:Tm) (r:Bool) (σ':Sub) (tr:List Int):Prop where
 run:∃g,dI g σ a b=some (r,σ',tr)
 eq:gD σ a b=(r,σ',tr)
 mA:n8 σ [a] [b] r σ' tr
 ok:cW (bB N) σ'
 gB:∀m∈tr,0≤m∧m<N
theorem rS{N:Nat}{σ:Sub}{a b:Tm}(hg:cO σ)(ho:cW (bB N) σ)(ha:bB N a)(hb:bB N b):∃r σ' tr,y8 N σ a b r σ' tr:=by
 have hin:∀ {t:Tm},bB N t→iW (VN N) t:=fun h v hv=>wA.2 (h.1.2.2 v hv)
 have hr:mE (VN N) σ:=fun n u e=>hin (ho n u e)
 obtain⟨g,⟨r,σ',tr⟩,h⟩:=a4T (VN N) _ _ σ a b hg hr (hin ha) (hin hb) (c7 _) (c7 _)
 obtain⟨h1,h2⟩:=(aOP g).1 σ a b r σ' tr (VN N) hg h hr (hin ha) (hin hb)
 exact⟨r,σ',tr,⟨g,h⟩,aOO h,wO hg h,(M5 (qJ N) g).1 σ a b r σ' tr hg h ho ha hb,fun m hm=>wA.1 (h2 m hm)⟩
theorem y8.out{N:Int}{σ:Sub}{a b:Tm}{r:Bool}{σ':Sub}{tr:List Int}(h:y8 N σ a b r σ' tr)(n:Int):(if n∈tr then none else σ' n)=σ n:=by
 split
 · rename_i hn;exact((h.mA.new n hn).1).symm
 · rename_i hn;exact h.mA.a8 n hn
def Sub.out(σ:Sub)(l:List Int):Sub:=fun n=>if n∈l then Option.none else σ n
theorem Sub.a0Y(σ:Sub)(l m:List Int):(σ.out l).out m=σ.out (l++m):=by
 funext n
 unfold Sub.out
 by_cases h1:n∈m
 · rw[aH h1,aH (by simp [h1])]
 · rw[aE h1]
   by_cases h2:n∈l
   · rw[aH h2,aH (by simp [h2])]
   · rw[aE h2,aE (by simp [h1,h2])]
theorem Sub.a0Z(σ:Sub){l m:List Int}(h:∀n,n∈l↔n∈m):σ.out l=σ.out m:=by
 funext n
 unfold Sub.out
 simp only[h n]
def b7(ρ:Int→Int)(t:Tm):Tm:=t.aG fun v=>vr (ρ v)
theorem a1Y(ρ:Int→Int)(n:Int):b7 ρ (vr n)=vr (ρ n):=qI _ n
theorem wI(ρ:Int→Int){k n:Int}{s:ByteArray}{ts:List Tm}(h:k≠1):b7 ρ (.mk k n s ts)=.mk k n s (ts.map (b7 ρ)):=Tm.j4 _ h
theorem yB(ρ:Int→Int){t:Tm}(h:t.k=1):b7 ρ t=vr (ρ t.n):=Tm.DR _ h
theorem D5(ρ:Int→Int){t:Tm}(h:t.k≠1):b7 ρ t=.mk t.k t.n t.s (t.ts.map (b7 ρ)):=Tm.pM _ h
theorem yA(ρ:Int→Int)(t:Tm):(b7 ρ t).k=t.k:=by
 by_cases h:t.k=1
 · rw[yB ρ h,h];try rfl
 · rw[D5 ρ h];try rfl
theorem LW(ρ:Int→Int){t:Tm}(hc:t.cv=true):(b7 ρ t).nodes=t.nodes:=by
 induction t using Tm.ind with
 | h k n s ts ih=>
  obtain⟨h1,h2⟩:=Tm.lR.1 hc
  by_cases hk:k=1
  · obtain⟨_,rfl⟩:=h1 hk
    rw[yB ρ (t:=.mk k n s []) hk,vr,Tm.gI,Tm.gI]
  · rw[wI ρ hk,Tm.gI,Tm.gI]
    congr 1
    have:∀l:List Tm,(∀x∈l,x∈ts)→bF Tm.nodes (l.map (b7 ρ))=bF Tm.nodes l:=by
     intro l
     induction l with
     | nil=>intro _;rfl
     | cons x l ihl=>intro h;simp only[bA,bF];rw[ih x (h x (by simp)) (h2 x (h x (by simp))),ihl fun y hy=>h y (by simp [hy])]
    exact this ts fun _ h=>h
theorem SC(ρ:Int→Int){t:Tm}(hc:t.cv=true):∀d,(b7 ρ t).flat d=t.flat d:=by
 induction t using Tm.ind with
 | h k n s ts ih=>
  intro d
  obtain⟨h1,h2⟩:=Tm.lR.1 hc
  cases d with
  | zero=>rw[Tm.CX,Tm.CX]
  | succ d=>
   by_cases hk:k=1
   · obtain⟨_,rfl⟩:=h1 hk
     rw[yB ρ (t:=.mk k n s []) hk,vr,Tm.rC,Tm.rC]
   · rw[wI ρ hk,Tm.rC,Tm.rC,EW]
     rw[uQ,dW,dW]
     constructor
     · intro h x hx;rw[←ih x hx (h2 x hx) d];exact h x hx
     · intro h x hx;simp only[EV];rw[ih x hx (h2 x hx) d];exact h x hx
theorem a44{ρ:Int→Int}{t:Tm}{w:Int}:w∈(b7 ρ t).vl↔∃v∈t.vl,w=ρ v:=by
 unfold b7
 rw[wR]
 simp only[yO,cX,dN,dV]
theorem SB{ρ ρ':Int→Int}{t:Tm}(h:∀v∈t.vl,ρ v=ρ' v):b7 ρ t=b7 ρ' t:=mN t fun v hv=>by rw[h v hv]
theorem HO(ρ:Int→Int)(f:Int→Tm)(t:Tm):(b7 ρ t).aG f=t.aG fun v=>f (ρ v):=by
 unfold b7
 rw[pN]
 exact mN t fun v _=>qI f (ρ v)
theorem aK3(ρ:Int→Int)(f:Int→Tm)(t:Tm):b7 ρ (t.aG f)=t.aG fun v=>b7 ρ (f v):=by
 unfold b7
 rw[pN]
theorem cJ.b7{N M:Int}{ρ:Int→Int}{t:Tm}(h:cJ N t)(hr:∀v∈t.vl,0≤ρ v∧ρ v<M):cJ M (AW.b7 ρ t):=h.aG fun v hv=>HD (hr v hv).1 (hr v hv).2
theorem bB.b7{N M:Int}{ρ:Int→Int}{t:Tm}(h:bB N t)(hr:∀v∈t.vl,0≤ρ v∧ρ v<M):bB M (AW.b7 ρ t):=⟨h.1.b7 hr,by rw[LW ρ h.1.2.1];exact h.2⟩
structure fQ (ρ:Int→Int) (N:Int) (σ τ:Sub):Prop where
 inj:∀v w,0≤v→v<N→0≤w→w<N→ρ v=ρ w→v=w
 map:∀v,0≤v→v<N→τ (ρ v)=(σ v).map (b7 ρ)
section
variable {ρ:Int→Int} {N:Int} {σ τ:Sub}
theorem fQ.wk(S:fQ ρ N σ τ)(ho:cW (cJ N) σ){f:Nat}{t u:Tm}(h:f0 σ f t u):cJ N t→f0 τ f (b7 ρ t) (b7 ρ u):=by
 induction h with
 | @stop t h=>
  intro ht
  refine .stop fun hk=>?_
  rw[yA] at hk
  have hr:=ht.2.2 t.n (by rw[Tm.ES hk];simp)
  rw[yB ρ hk]
  show τ (ρ t.n)=none
  rw[S.map _ hr.1 hr.2,h hk];try rfl
 | @go f t u v h1 h2 _ ih=>
  intro ht
  have hr:=ht.2.2 t.n (by rw[Tm.ES h1];simp)
  refine .go (u:=b7 ρ u) (by rw[yA];exact h1) ?_ (ih (ho _ _ h2))
  rw[yB ρ h1]
  show τ (ρ t.n)=_
  rw[S.map _ hr.1 hr.2,h2];try rfl
theorem fQ.rs(S:fQ ρ N σ τ)(hg:cO σ)(hg':cO τ)(ho:cW (cJ N) σ):∀v,0≤v→v<N→rs τ (ρ v)=b7 ρ (rs σ v):=by
 obtain⟨rk,B,G⟩:=hg.rs
 obtain⟨rk',B',G'⟩:=hg'.rs
 refine fun v=>G.ind (p:=fun v=>0≤v→v<N→AW.rs τ (ρ v)=b7 ρ (AW.rs σ v)) (fun v h h0 h1=>?_) (fun v u h ih h0 h1=>?_) v
 · rw[G.free h,a1Y,G'.free (by rw[S.map v h0 h1,h];try rfl)]
 · rw[G.bound h,aK3,G'.bound (u:=b7 ρ u) (by rw[S.map v h0 h1,h];try rfl),HO]
   refine mN u fun w hw=>?_
   have:=(ho v u h).2.2 w hw
   exact ih w hw this.1 this.2
theorem fQ.rsT(S:fQ ρ N σ τ)(hg:cO σ)(hg':cO τ)(ho:cW (cJ N) σ){t:Tm}(ht:cJ N t):(b7 ρ t).aG (AW.rs τ)=b7 ρ (t.aG (AW.rs σ)):=by
 rw[HO,aK3]
 exact mN t fun v hv=>S.rs hg hg' ho v (ht.2.2 v hv).1 (ht.2.2 v hv).2
theorem fQ.mem(S:fQ ρ N σ τ){t:Tm}(ht:cJ N t){n:Int}(h0:0≤n)(h1:n<N):ρ n∈(b7 ρ t).vl↔n∈t.vl:=by
 rw[a44]
 constructor
 · rintro⟨v,hv,e⟩
   rw[S.inj n v h0 h1 (ht.2.2 v hv).1 (ht.2.2 v hv).2 e];exact hv
 · exact fun h=>⟨n,h,rfl⟩
theorem fQ.set(S:fQ ρ N σ τ){n:Int}(h0:0≤n)(h1:n<N)(t:Tm):fQ ρ N (σ.set n t) (τ.set (ρ n) (b7 ρ t)):=by
 refine⟨S.inj,fun v hv0 hv1=>?_⟩
 unfold Sub.set
 by_cases h:v=n
 · subst h;simp
 · rw[aE (fun e=>h (S.inj v n hv0 hv1 h0 h1 e)),aE h,S.map v hv0 hv1]
theorem fQ.jX(S:fQ ρ N σ τ)(hg:cO σ)(hg':cO τ)(ho:cW (cJ N) σ){n:Int}(h0:0≤n)(h1:n<N){t:Tm}(ht:cJ N t){r:Bool}{σ':Sub}{tr:List Int}(h:jX σ n t=(r,σ',tr)) :
 ∃τ',AW.jX τ (ρ n) (b7 ρ t)=(r,τ',tr.map ρ)∧fQ ρ N σ' τ':=by
 obtain⟨rk,B,G⟩:=hg.rs
 have e:=S.mem (G.RL ho ht) h0 h1
 rw[←S.rsT hg hg' ho ht] at e
 unfold AW.jX at h ⊢
 by_cases hm:n∈(t.aG (AW.rs σ)).vl
 · rw[aH hm] at h
   rw[aH (e.2 hm)]
   cases h
   exact⟨τ,rfl,S⟩
 · rw[aE hm] at h
   rw[aE (fun h=>hm (e.1 h))]
   cases h
   exact⟨_,rfl,S.set h0 h1 t⟩
theorem aJY{a b:Tm}(ha:a.k≠1)(hb:b.k≠1):uB (b7 ρ a) (b7 ρ b)=uB a b:=by
 obtain⟨k,n,s,ts⟩:=a
 obtain⟨k',n',s',ts'⟩:=b
 simp only[Tm.k] at ha hb
 rw[wI ρ ha,wI ρ hb,uQ,sP,sP]
 simp only[Tm.k,Tm.n,Tm.s,Tm.ts,aF]
theorem fQ.aO1(S:fQ ρ N σ τ)(hg:cO σ)(ho:cW (cJ N) σ){t:Tm}(ht:cJ N t):AW.wk τ (b7 ρ t)=b7 ρ (AW.wk σ t):=by
 obtain⟨rk,B,G⟩:=hg.rs
 obtain⟨f,h⟩:=G.wk t
 exact(S.wk ho h ht).wk
theorem a4U(ρ:Int→Int)(N:Int):∀g:Nat,(∀(σ τ:Sub) (a b:Tm) (r:Bool) (σ':Sub) (tr:List Int),cO σ→cO τ→cW (cJ N) σ→cJ N a→cJ N b→fQ ρ N σ τ→dI g σ a b=some (r,σ',tr)→∃τ',dI g τ (b7 ρ a) (b7 ρ b)=some (r,τ',tr.map ρ)∧fQ ρ N σ' τ') ∧
 (∀(xs ys:List Tm) (σ τ:Sub) (r:Bool) (σ':Sub) (tr:List Int),cO σ→cO τ→cW (cJ N) σ→(∀x∈xs,cJ N x)→(∀y∈ys,cJ N y)→fQ ρ N σ τ→d7 g σ xs ys=some (r,σ',tr)→∃τ',d7 g τ (xs.map (b7 ρ)) (ys.map (b7 ρ))=some (r,τ',tr.map ρ)∧fQ ρ N σ' τ'):=by
 intro g
 induction g with
 | zero=>
  refine⟨fun σ τ a b r σ' tr _ _ _ _ _ _ h=>(by simp only[dI] at h;cases h),?_⟩
  intro xs ys σ τ r σ' tr _ _ _ _ _ S h
  match xs,ys with
  | [],_=>simp only[d7,Option.some.injEq,Prod.mk.injEq] at h;obtain⟨rfl,rfl,rfl⟩:=h;exact⟨τ,by simp only[aW,d7],S⟩
  | x::xs,[]=>simp only[d7,Option.some.injEq,Prod.mk.injEq] at h;obtain⟨rfl,rfl,rfl⟩:=h;exact⟨τ,by simp only[bA,aW,d7],S⟩
  | x::xs,y::ys=>simp only[d7,dI] at h;cases h
 | succ g ih=>
  have one:∀(σ τ:Sub) (a b:Tm) (r:Bool) (σ':Sub) (tr:List Int),cO σ→cO τ→cW (cJ N) σ→cJ N a→cJ N b→fQ ρ N σ τ→dI (g+1) σ a b=some (r,σ',tr)→∃τ',dI (g+1) τ (b7 ρ a) (b7 ρ b)=some (r,τ',tr.map ρ)∧fQ ρ N σ' τ':=by
   intro σ τ a b r σ' tr hg hg' ho ha hb S h
   obtain⟨rk,B,G⟩:=hg.rs
   obtain⟨fa,wa⟩:=G.wk a
   obtain⟨fb,wb⟩:=G.wk b
   have oa:=wa.all (p:=cJ N) ho ha
   have ob:=wb.all (p:=cJ N) ho hb
   have ea:=S.aO1 hg ho ha
   have eb:=S.aO1 hg ho hb
   have h:=M3 h
   generalize AW.wk σ a=a1 at *
   generalize AW.wk σ b=b1 at *
   rw[dI,ea,eb,yA,yA]
   have rng:∀ {t:Tm},cJ N t→t.k=1→0≤t.n∧t.n<N:=fun ht hk=>ht.2.2 _ (by rw[Tm.ES hk];simp)
   have nn:∀ {t:Tm},t.k=1→(b7 ρ t).n=ρ t.n:=fun hk=>by rw[yB ρ hk];try rfl
   rcases h with ⟨h1,h2,h3,rfl,rfl,rfl⟩ | ⟨h1,h2,h3⟩ | ⟨h1,h2,h3⟩ | ⟨h1,h2,h3,h4⟩ | ⟨h1,h2,h3,rfl,rfl,rfl⟩
   · exact⟨τ,by rw[aH ⟨h1,h2,by rw[nn h1,nn h2,h3]⟩];try rfl,S⟩
   · have ra:=rng oa h1
     obtain⟨τ',e,S'⟩:=S.jX hg hg' ho ra.1 ra.2 ob h3
     refine⟨τ',?_,S'⟩
     rw[aE,aH h1,nn h1,e]
     rintro⟨_,h5,h6⟩
     have rb:=rng ob h5
     rw[nn h1,nn h5] at h6
     exact h2 ⟨h5,S.inj _ _ ra.1 ra.2 rb.1 rb.2 h6⟩
   · have rb:=rng ob h2
     obtain⟨τ',e,S'⟩:=S.jX hg hg' ho rb.1 rb.2 oa h3
     refine⟨τ',?_,S'⟩
     rw[aE (fun h=>h1 h.1),aE h1,aH h2,nn h2,e]
   · obtain⟨τ',e,S'⟩:=ih.2 a1.ts b1.ts σ τ r σ' tr hg hg' ho (LM N a1 h1 oa) (LM N b1 h2 ob) S h4
     refine⟨τ',?_,S'⟩
     rw[aE (fun h=>h1 h.1),aE h1,aE h2,aH (by rw[aJY h1 h2];exact h3),D5 ρ h1,D5 ρ h2]
     exact e
   · refine⟨τ,?_,S⟩
     rw[aE (fun h=>h1 h.1),aE h1,aE h2,aE (by rw[aJY h1 h2,h3];simp)]
     try rfl
  refine⟨one,?_⟩
  intro xs
  induction xs with
  | nil=>
   intro ys σ τ r σ' tr _ _ _ _ _ S h
   simp only[d7,Option.some.injEq,Prod.mk.injEq] at h;obtain⟨rfl,rfl,rfl⟩:=h;exact⟨τ,by simp only[aW,d7],S⟩
  | cons x xs ihx=>
   intro ys σ τ r σ' tr hg hg' ho hx hy S h
   cases ys with
   | nil=>simp only[d7,Option.some.injEq,Prod.mk.injEq] at h;obtain⟨rfl,rfl,rfl⟩:=h;exact⟨τ,by simp only[bA,aW,d7],S⟩
   | cons y ys=>
    rw[d7] at h
    simp only[bA]
    rw[d7]
    cases hu:dI (g+1) σ x y with
    | none=>rw[hu] at h;cases h
    | some p=>
     obtain⟨r1,σ1,tr1⟩:=p
     rw[hu] at h
     obtain⟨τ1,e1,S1⟩:=one σ τ x y r1 σ1 tr1 hg hg' ho (hx x (by simp)) (hy y (by simp)) S hu
     rw[e1]
     cases r1 with
     | false=>
      simp only[Option.some.injEq,Prod.mk.injEq] at h ⊢
      obtain⟨rfl,rfl,rfl⟩:=h
      exact⟨τ1,⟨rfl,rfl,rfl⟩,S1⟩
     | true=>
      simp only at h ⊢
      cases hu2:d7 (g+1) σ1 xs ys with
      | none=>rw[hu2] at h;cases h
      | some p2=>
       obtain⟨r2,σ2,tr2⟩:=p2
       rw[hu2] at h
       simp only[Option.some.injEq,Prod.mk.injEq] at h
       obtain⟨rfl,rfl,rfl⟩:=h
       have U1:=wO hg hu
       have U1':=wO hg' e1
       have ho1:=(M5 (LM N) (g+1)).1 σ x y true σ1 tr1 hg hu ho (hx x (by simp)) (hy y (by simp))
       obtain⟨τ2,e2,S2⟩:=ihx ys σ1 τ1 r2 σ2 tr2 U1.gQ U1'.gQ ho1 (fun z hz=>hx z (by simp [hz])) (fun z hz=>hy z (by simp [hz])) S1 hu2
       rw[e2]
       exact⟨τ2,by simp only[tM],S2⟩
theorem fQ.gD(S:fQ ρ N σ τ)(hg:cO σ)(hg':cO τ)(ho:cW (cJ N) σ){a b:Tm}(ha:cJ N a)(hb:cJ N b){r:Bool}{σ':Sub}{tr:List Int}{g:Nat}(h:dI g σ a b=some (r,σ',tr)) :
 ∃τ',AW.gD τ (b7 ρ a) (b7 ρ b)=(r,τ',tr.map ρ)∧fQ ρ N σ' τ'∧cO τ':=by
 obtain⟨τ',e,S'⟩:=(a4U ρ N g).1 σ τ a b r σ' tr hg hg' ho ha hb S h
 exact⟨τ',aOO e,S',(wO hg' e).gQ⟩
end
end Go.AW
namespace Go.AW
open Go.Proofs.Tryz
def jT(n:Int):Prop:= -999≤n∧n≤999
theorem aQF(s:ByteArray)(a b:Int)(ha:jT a)(hb:jT b):jT (qY s a b).1:=by
 unfold qY jT
 split
 · exact R9 _
 split
 · exact R9 _
 split
 · exact R9 _
 split
 · simp
 rename_i h0
 split
 · exact aI4 a b ha hb h0
 · exact tdiv_le a b ha
theorem aQZ{f:Int→Int→Int×Int}{x y:Int×Int}(h:jT (f x.1 y.1).1):jT (both f x y).1:=by
 unfold both jT
 split
 · simp
 split
 · simp
 · exact h
theorem Tm.t6{N:Int}:∀t:Tm,cJ N t→jT t.ev.1:=by
 intro t
 induction t using Tm.ind with
 | h k n s ts ih=>
  intro h
  obtain⟨h1,h2⟩:=h.all
  rw[Tm.xP]
  split
  · rename_i hk;exact h1 hk
  split
  · simp [jT]
  split
  · match ts,h2,ih with
    | [],_,_=>simp [two,jT]
    | [x],_,_=>simp [two,jT]
    | [x,y],h2,ih=>exact aQZ (aQF _ _ _ (ih x (by simp) (h2 x (by simp))) (ih y (by simp) (h2 y (by simp))))
    | x::y::z::l,_,_=>simp [two,jT]
  · simp [jT]
theorem TL{ts:List Tm}(h:(ts.length:Int)=2):∃x y,ts= [x,y]:=by
 match ts,h with
 | [x,y],_=>exact⟨x,y,rfl⟩
 | [],h=>simp at h
 | [x],h=>simp at h
 | x::y::z::l,h=>simp at h;omega
abbrev wL:=zi tI_3 (zi zI_3 (zi aX (zi tI_4 (zi zI_4 (zi cE (zi tI_9 (zi zI_9 (zi cI (zi tI_31 (zi zI_31 (zi aN (zi bG (zi bH (zi b9 (zi tI_66 (zi zI_66 (zi bQ (zi bR (zi bS (zi bT (zi bP (zi tI_147 (zi zI_147 (zi iR (zi lS (zi lT mR))))))))))))))))))))))))))
theorem JS{N:Int}:∀(t:Tm) (st:aB),cJ N t→aD prog 361 [t.av] st (fun r st'=>r=.tup [.int .i64 t.ev.1,.int .i64 t.ev.2]∧st'=st)
 | .mk k n s ts,st,hok=>by
  obtain⟨h1,h2⟩:=hok.all
  have IH:=fun(x:Tm) (hx:x∈ts) st=>JS x st (h2 x hx)
  rw[Tm.xP]
  simp only[aV]
  refine wF [1000000] 1 func361 ntmps361 rfl rfl ?_
  intro _
  simp -implicitDefEqProofs only[aA,seval,wL]
  refine aQ (fun hk=>?_) (fun hk=>?_)
  · simp -implicitDefEqProofs only[aA,seval,wL]
    simp only[bJ] at hk
    simp [hk]
  simp only[dJ] at hk
  rw[aE hk]
  simp -implicitDefEqProofs only[aA,seval,wL]
  refine aQ (fun hk1=>?_) (fun hk1=>?_)
  · simp -implicitDefEqProofs only[aA,seval]
    simp only[bJ] at hk1
    simp [hk1]
  simp only[dJ] at hk1
  rw[aE hk1]
  simp -implicitDefEqProofs only[aF,aA,seval,wL]
  have hty:∀s0:aB,ts.length≠2∨gB pY s=false→(if gB pY s=true then two (qY s) (ts.map Tm.ev) else(0,3))=((0:Int),(3:Int)):=fun _ h=>by
   split
   · rename_i h3
     rcases h with h | h
     · match ts,h with
       | [],_=>rfl
       | [x],_=>rfl
       | [x,y],h=>simp at h
       | x::y::z::l,_=>rfl
     · rw[h] at h3;cases h3
   · rfl
  refine cV (fun h=>?_) (fun h=>?_)
  case refine_2=>
   simp -implicitDefEqProofs only[h,aA,seval]
   rw[hty st (.inl (by simp at h;omega))]
  simp -implicitDefEqProofs only[h,aA,seval,wL]
  refine(JR pY s _).to ?_
  simp -implicitDefEqProofs only[aA,seval]
  refine aQ (fun h3=>?_) (fun h3=>?_)
  · simp -implicitDefEqProofs only[aA,seval]
    rw[hty st (.inr (by simpa [gB] using h3))]
  have hin:gB pY s=true:=by simpa [gB] using h3
  rw[aH hin]
  clear hty
  obtain⟨x,y,rfl⟩:=TL (by simpa using h)
  have d4:dF prog 31 (.slice [x.av,y.av]) (.int .i64 0)=some (.pptr x.av):=bM (av:=Tm.av) (l:=[x,y]) (i:=0) aN rfl (aJ x)
  have gN:dF prog 31 (.slice [x.av,y.av]) (.int .i64 1)=some (.pptr y.av):=bM (av:=Tm.av) (l:=[x,y]) (i:=1) aN rfl (aJ y)
  have hx:=Tm.t6 x (h2 x (by simp))
  have hy:=Tm.t6 y (h2 y (by simp))
  have IHx:=fun st=>IH x (by simp) st
  have IHy:=fun st=>IH y (by simp) st
  simp -implicitDefEqProofs only[d4,aT,aJ,aA,↓aU,seval,wL]
  refine(IHx _).to ?_
  simp only[two,both]
  generalize x.ev.1=a at *
  generalize x.ev.2=ca at *
  generalize y.ev.1=b at *
  generalize y.ev.2=cb at *
  simp -implicitDefEqProofs only[aA,seval]
  refine aQ (fun h4=>?_) (fun h4=>?_)
  · simp -implicitDefEqProofs only[aA,seval]
    have h4':ca≠0:=by simpa using h4
    rw[aH h4']
  have h4':ca=0:=by simpa using h4
  subst h4'
  rw[aE (by simp)]
  simp -implicitDefEqProofs only[gN,aT,aJ,aA,seval,wL]
  refine(IHy _).to ?_
  simp -implicitDefEqProofs only[aA,seval]
  refine aQ (fun h5=>?_) (fun h5=>?_)
  · simp -implicitDefEqProofs only[aA,seval]
    have h5':cb≠0:=by simpa using h5
    rw[aH h5']
  have h5':cb=0:=by simpa using h5
  subst h5'
  rw[aE (by simp)]
  unfold jT at hx hy
  have hmul: -998001≤a*b∧a*b≤998001:=by
   have h6:(a*b).natAbs≤998001:=by
    rw[Int.natAbs_mul]
    have:=Nat.mul_le_mul (show a.natAbs≤999 by omega) (show b.natAbs≤999 by omega)
    omega
   omega
  have hw1:=bO (n:=a+b)
  have hw2:=bO (n:=a - b)
  have hw3:=bO (n:=a*b)
  have hrg:∀(v:Int) (st':aB),aD prog 170 [.int .i64 v,.int .i64 (-999),.int .i64 999] st' (fun r s'=>r=.bool (decide (i8 v=(v,0)))∧s'=st'):=fun v st'=>by
   refine(CL v (-999) 999 st').mono ?_
   rintro _ _ ⟨rfl,rfl⟩
   refine⟨?_,rfl⟩
   congr 1
   unfold i8
   split
   · rename_i h;simp [h.1,h.2]
   · rename_i h
     rw[show(decide (((0:Int),(5:Int))=(v,0)))=false from fS (by simp)]
     simp only[Bool.and_eq_false_iff,dJ]
     omega
  have hrn:∀v,i8 v≠(v,0)→i8 v=(0,5):=fun v h=>by
   unfold i8 at h ⊢
   split
   · rename_i h';rw[aH h'] at h;exact absurd rfl h
   · rfl
  unfold qY
  simp -implicitDefEqProofs only[aA,seval,wL]
  refine aQ (fun h6=>?_) (fun h6=>?_)
  · simp -implicitDefEqProofs only[hw1,aA,seval]
    rw[aH (by simpa using h6)]
    refine(hrg (a+b) _).to ?_
    simp -implicitDefEqProofs only[aA,seval]
    refine aQ (fun h8=>?_) (fun h8=>?_)
    · simp -implicitDefEqProofs only[aA,seval]
      rw[hrn _ (by simpa using h8)]
    · simp -implicitDefEqProofs only[aA,seval]
      rw[show i8 (a+b)=(a+b,0) by simpa using h8]
  rw[aE (by simpa using h6)]
  simp -implicitDefEqProofs only[aA,seval]
  refine aQ (fun h7=>?_) (fun h7=>?_)
  · simp -implicitDefEqProofs only[hw2,aA,seval]
    rw[aH (by simpa using h7)]
    refine(hrg (a - b) _).to ?_
    simp -implicitDefEqProofs only[aA,seval]
    refine aQ (fun h8=>?_) (fun h8=>?_)
    · simp -implicitDefEqProofs only[aA,seval]
      rw[hrn _ (by simpa using h8)]
    · simp -implicitDefEqProofs only[aA,seval]
      rw[show i8 (a - b)=(a - b,0) by simpa using h8]
  rw[aE (by simpa using h7)]
  simp -implicitDefEqProofs only[aA,seval]
  refine aQ (fun h9=>?_) (fun h9=>?_)
  · simp -implicitDefEqProofs only[hw3,aA,seval]
    rw[aH (by simpa using h9)]
    refine(hrg (a*b) _).to ?_
    simp -implicitDefEqProofs only[aA,seval]
    refine aQ (fun h8=>?_) (fun h8=>?_)
    · simp -implicitDefEqProofs only[aA,seval]
      rw[hrn _ (by simpa using h8)]
    · simp -implicitDefEqProofs only[aA,seval]
      rw[show i8 (a*b)=(a*b,0) by simpa using h8]
  rw[aE (by simpa using h9)]
  simp -implicitDefEqProofs only[aA,seval]
  refine aQ (fun h0=>?_) (fun h0=>?_)
  · simp -implicitDefEqProofs only[aA,seval]
    rw[aH (by simpa using h0)]
  have h0':b≠0:=by simpa using h0
  rw[aE h0']
  have hq:=tdiv_le a b hx
  have hr:=MH a b h0'
  have hf:=aI4 a b hx hy h0'
  have hfe:=aWJ a b h0'
  have hw4:=bO (n:=a.tdiv b)
  have hw5:=bO (n:=a.tmod b+b)
  have aXX:i8 (a.tdiv b)=(a.tdiv b,0):=by unfold i8;rw[aH hq]
  have aXY:i8 (p7 a b)=(p7 a b,0):=by unfold i8;rw[aH hf]
  simp -implicitDefEqProofs only[hw4,h0',aA,seval,wL]
  refine aQ (fun h10=>?_) (fun h10=>?_)
  · simp -implicitDefEqProofs only[hw5,h0',hfe,aA,seval]
    rw[aH (by simpa using h10)]
    refine(hrg (p7 a b) _).to ?_
    have hd:decide (i8 (p7 a b)=(p7 a b,0))=true:=by rw[aXY];simp
    simp -implicitDefEqProofs only[hd,aA,seval]
  · simp -implicitDefEqProofs only[aA,seval]
    rw[aE (by simpa using h10)]
    refine(hrg (a.tdiv b) _).to ?_
    have hd:decide (i8 (a.tdiv b)=(a.tdiv b,0))=true:=by rw[aXX];simp
    simp -implicitDefEqProofs only[hd,aA,seval]
termination_by t=>SizeOf.sizeOf t
decreasing_by have:=List.sizeOf_lt_of_mem hx;simp only[Tm.mk.sizeOf_spec];omega
theorem OR(n:Int)(st:aB):aD prog 392 [.int .i64 n] st (fun r st'=>r=.tup [.int .i64 (i8 n).1,.int .i64 (i8 n).2]∧st'=st):=by
 refine wF [1000000] 1 func392 ntmps392 rfl rfl ?_
 intro _
 simp -implicitDefEqProofs only[aA,seval]
 refine cV (fun h=>?_) (fun h=>?_)
 · simp -implicitDefEqProofs only[h,aA,seval]
   have h1:¬n< -999:=by simpa using h
   refine aQ (fun h2=>?_) (fun h2=>?_)
   · simp -implicitDefEqProofs only[aA,seval]
     have h2':999<n:=by simpa using h2
     unfold i8
     rw[aE (by omega)]
   · simp -implicitDefEqProofs only[aA,seval]
     have h2':¬ 999<n:=by simpa using h2
     unfold i8
     rw[aH (by omega)]
 · simp -implicitDefEqProofs only[h,aA,seval]
   have h1:n< -999:=by simpa using h
   unfold i8
   rw[aE (by omega)]
abbrev a3D:=zi tI_3 (zi zI_3 (zi aX (zi tI_4 (zi zI_4 cE))))
theorem aTI(a b:Int)(ha:jT a)(hb:jT b)(h0:b≠0)(st:aB):aD prog 393 [.int .i64 a,.int .i64 b] st (fun r st'=>r=.int .i64 (p7 a b)∧st'=st):=by
 have hl:=MH a b h0
 unfold jT at ha hb
 have hw:=bO (n:=a.tmod b+b)
 refine wF [1000000] 2 func393 ntmps393 rfl rfl ?_
 intro _
 simp -implicitDefEqProofs only[h0,aA,seval]
 have hf:p7 a b=if a.tmod b≠0∧decide (a.tmod b<0)≠decide (b<0) then a.tmod b+b else a.tmod b:=rfl
 rw[hf]
 clear hf
 generalize hm:a.tmod b=m at *
 refine cV (fun h=>?_) (fun h=>?_)
 · have h':m≠0:=by simpa using h
   simp -implicitDefEqProofs only[h,aA,seval,a3D]
   refine aQ (fun h2=>?_) (fun h2=>?_)
   · simp -implicitDefEqProofs only[hw,aA,seval]
     rw[aH ⟨h',by simpa using h2⟩]
   · simp -implicitDefEqProofs only[aA,seval]
     rw[aE (by intro h3;exact h3.2 (by simpa using h2))]
 · have h':m=0:=by simpa using h
   simp -implicitDefEqProofs only[h,aA,seval]
   rw[aE (by intro h3;exact h3.1 h')]
theorem aTG(a b:Int)(ha:jT a)(hb:jT b)(h0:b≠0)(st:aB):aD prog 394 [.int .i64 a,.int .i64 b] st (fun r st'=>r=.int .i64 (a.tdiv b)∧st'=st):=by
 have hl:=tdiv_le a b ha
 have hw:=bO (n:=a.tdiv b)
 refine wF [1000000] 2 func394 ntmps394 rfl rfl ?_
 intro _
 simp -implicitDefEqProofs only[h0,hw,aA,seval]
theorem WY(s:ByteArray)(a b:Int)(hx:jT a)(hy:jT b)(st:aB):aD prog 371 [.str s,.int .i64 a,.int .i64 b] st (fun r st'=>r=.tup [.int .i64 (qY s a b).1,.int .i64 (qY s a b).2]∧st'=st):=by
 have hMod:=fun h0=>aTI a b hx hy h0
 have hDiv:=fun h0=>aTG a b hx hy h0
 unfold jT at hx hy
 have hmul: -998001≤a*b∧a*b≤998001:=by
  have h6:(a*b).natAbs≤998001:=by
   rw[Int.natAbs_mul]
   have:=Nat.mul_le_mul (show a.natAbs≤999 by omega) (show b.natAbs≤999 by omega)
   omega
  omega
 have hw1:=bO (n:=a+b)
 have hw2:=bO (n:=a - b)
 have hw3:=bO (n:=a*b)
 unfold qY
 refine wF [1000000] 3 func371 ntmps371 rfl rfl ?_
 intro _
 simp -implicitDefEqProofs only[aA,seval]
 refine aQ (fun h6=>?_) (fun h6=>?_)
 · simp -implicitDefEqProofs only[hw1,aA,seval]
   rw[aH (by simpa using h6)]
   refine(OR _ _).to ?_
   simp -implicitDefEqProofs only[aA,seval]
 rw[aE (by simpa using h6)]
 simp -implicitDefEqProofs only[aA,seval]
 refine aQ (fun h7=>?_) (fun h7=>?_)
 · simp -implicitDefEqProofs only[hw2,aA,seval]
   rw[aH (by simpa using h7)]
   refine(OR _ _).to ?_
   simp -implicitDefEqProofs only[aA,seval]
 rw[aE (by simpa using h7)]
 simp -implicitDefEqProofs only[aA,seval]
 refine aQ (fun h9=>?_) (fun h9=>?_)
 · simp -implicitDefEqProofs only[hw3,aA,seval]
   rw[aH (by simpa using h9)]
   refine(OR _ _).to ?_
   simp -implicitDefEqProofs only[aA,seval]
 rw[aE (by simpa using h9)]
 simp -implicitDefEqProofs only[aA,seval]
 refine aQ (fun h0=>?_) (fun h0=>?_)
 · simp -implicitDefEqProofs only[aA,seval]
   rw[aH (by simpa using h0)]
 have h0':b≠0:=by simpa using h0
 rw[aE h0']
 simp -implicitDefEqProofs only[aA,seval]
 refine aQ (fun h10=>?_) (fun h10=>?_)
 · simp -implicitDefEqProofs only[aA,seval]
   rw[aH (by simpa using h10)]
   refine(hMod h0' _).to ?_
   simp -implicitDefEqProofs only[aA,seval]
 · simp -implicitDefEqProofs only[aA,seval]
   rw[aE (by simpa using h10)]
   refine(hDiv h0' _).to ?_
   simp -implicitDefEqProofs only[aA,seval]
theorem JM(s:ByteArray):gB pY s=decide (dQ s=1∨dQ s=2):=by
 unfold gB pY dQ
 simp only[BQ,List.any_nil,EU]
 by_cases h1:s=⟨#[43]⟩
 · subst h1;decide
 by_cases h2:s=⟨#[45]⟩
 · subst h2;decide
 by_cases h3:s=⟨#[42]⟩
 · subst h3;decide
 by_cases h4:s=⟨#[47,47]⟩
 · subst h4;decide
 by_cases h5:s=⟨#[109,111,100]⟩
 · subst h5;decide
 simp only[h1,h2,h3,h4,h5,bZ,EU,zO]
 cases (decide (s=⟨#[61]⟩)||decide (s=⟨#[92,61]⟩)||decide (s=⟨#[61,61]⟩)||decide (s=⟨#[60]⟩)||decide (s=⟨#[62]⟩)||decide (s=⟨#[61,60]⟩)||decide (s=⟨#[62,61]⟩)||decide (s=⟨#[61,58,61]⟩)||decide (s=⟨#[105,115]⟩))<;>rfl
abbrev rM:=zi tI_3 (zi zI_3 (zi aX (zi tI_9 (zi zI_9 (zi cI (zi tI_31 (zi zI_31 (zi aN (zi bG (zi bH (zi b9 (zi tI_66 (zi zI_66 (zi bQ (zi bR (zi bS (zi bT bP)))))))))))))))))
theorem JX{N:Int}:∀(t:Tm) (st:aB),cJ N t→aD prog 327 [t.av] st (fun r st'=>r=.tup [.int .i64 t.ev.1,.int .i64 t.ev.2]∧st'=st)
 | .mk k n s ts,st,hok=>by
  obtain⟨h1,h2⟩:=hok.all
  have IH:=fun(x:Tm) (hx:x∈ts) st=>JX x st (h2 x hx)
  rw[Tm.xP]
  simp only[aV]
  refine wF [1000000] 1 func327 ntmps327 rfl rfl ?_
  intro _
  simp -implicitDefEqProofs only[aA,seval,rM]
  refine aQ (fun hk1=>?_) (fun hk1=>?_)
  · simp -implicitDefEqProofs only[aA,seval]
    simp only[bJ] at hk1
    rw[aE (by omega),aH hk1]
  simp only[dJ] at hk1
  rw[aE hk1]
  simp -implicitDefEqProofs only[aA,seval]
  refine aQ (fun hk=>?_) (fun hk=>?_)
  · simp -implicitDefEqProofs only[aA,seval,rM]
    simp only[bJ] at hk
    simp [hk]
  simp only[dJ] at hk
  rw[aE hk]
  simp -implicitDefEqProofs only[aA,seval,rM]
  refine(vF s _).to ?_
  simp -implicitDefEqProofs only[aF,aA,seval,rM]
  have hty:∀s0:aB,ts.length≠2∨gB pY s=false→(if gB pY s=true then two (qY s) (ts.map Tm.ev) else(0,3))=((0:Int),(3:Int)):=fun _ h=>by
   split
   · rename_i h3
     rcases h with h | h
     · match ts,h with
       | [],_=>rfl
       | [x],_=>rfl
       | [x,y],h=>simp at h
       | x::y::z::l,_=>rfl
     · rw[h] at h3;cases h3
   · rfl
  refine cV (fun h=>?_) (fun h=>?_)
  case refine_2=>
   simp -implicitDefEqProofs only[h,aA,seval]
   rw[hty st (.inl (by simp at h;omega))]
  simp -implicitDefEqProofs only[h,aA,seval]
  have aJ6:gB pY s=false→dQ s≠1∧dQ s≠2:=fun h=>by
   rw[JM] at h
   have:=of_decide_eq_false h
   omega
  refine cV (fun h3=>?_) (fun h3=>?_)
  · simp -implicitDefEqProofs only[h3,aA,seval]
    have h3':dQ s≠1:=by simp at h3;omega
    refine aQ (fun h6=>?_) (fun h6=>?_)
    · have h6':dQ s≠2:=by simp at h6;omega
      simp -implicitDefEqProofs only[aA,seval]
      rw[hty st (.inr (by rw[JM];simp [h3',h6']))]
    · have h6':dQ s=2:=by simp at h6;omega
      have hin:gB pY s=true:=by rw[JM];simp [h6']
      simp -implicitDefEqProofs only[aA,seval,rM]
      rw[aH hin]
      clear hty aJ6
      obtain⟨x,y,rfl⟩:=TL (by simpa using h)
      have d4:dF prog 31 (.slice [x.av,y.av]) (.int .i64 0)=some (.pptr x.av):=bM (av:=Tm.av) (l:=[x,y]) (i:=0) aN rfl (aJ x)
      have gN:dF prog 31 (.slice [x.av,y.av]) (.int .i64 1)=some (.pptr y.av):=bM (av:=Tm.av) (l:=[x,y]) (i:=1) aN rfl (aJ y)
      have hx:=Tm.t6 x (h2 x (by simp))
      have hy:=Tm.t6 y (h2 y (by simp))
      have IHx:=fun st=>IH x (by simp) st
      have IHy:=fun st=>IH y (by simp) st
      simp only[bA,aW,two,both]
      simp -implicitDefEqProofs only[d4,aT,aJ,aA,↓aU,seval,rM]
      refine(IHx _).to ?_
      generalize x.ev.1=a at *
      generalize x.ev.2=ca at *
      generalize y.ev.1=b at *
      generalize y.ev.2=cb at *
      simp -implicitDefEqProofs only[aA,seval]
      refine aQ (fun h4=>?_) (fun h4=>?_)
      · simp -implicitDefEqProofs only[aA,seval]
        have h4':ca≠0:=by simpa using h4
        rw[aH h4']
      have h4':ca=0:=by simpa using h4
      subst h4'
      rw[aE (by simp)]
      simp -implicitDefEqProofs only[gN,aT,aJ,aA,seval,rM]
      refine(IHy _).to ?_
      simp -implicitDefEqProofs only[aA,seval]
      refine aQ (fun h5=>?_) (fun h5=>?_)
      · simp -implicitDefEqProofs only[aA,seval]
        have h5':cb≠0:=by simpa using h5
        rw[aH h5']
      have h5':cb=0:=by simpa using h5
      subst h5'
      rw[aE (by simp)]
      simp -implicitDefEqProofs only[aA,seval,rM]
      refine(WY s a b hx hy _).to ?_
      simp -implicitDefEqProofs only[aA,seval]
  · have h3':dQ s=1:=by simp at h3;omega
    have hin:gB pY s=true:=by rw[JM];simp [h3']
    simp -implicitDefEqProofs only[h3,aA,seval,rM]
    rw[aH hin]
    clear hty aJ6
    obtain⟨x,y,rfl⟩:=TL (by simpa using h)
    have d4:dF prog 31 (.slice [x.av,y.av]) (.int .i64 0)=some (.pptr x.av):=bM (av:=Tm.av) (l:=[x,y]) (i:=0) aN rfl (aJ x)
    have gN:dF prog 31 (.slice [x.av,y.av]) (.int .i64 1)=some (.pptr y.av):=bM (av:=Tm.av) (l:=[x,y]) (i:=1) aN rfl (aJ y)
    have hx:=Tm.t6 x (h2 x (by simp))
    have hy:=Tm.t6 y (h2 y (by simp))
    have IHx:=fun st=>IH x (by simp) st
    have IHy:=fun st=>IH y (by simp) st
    simp only[bA,aW,two,both]
    simp -implicitDefEqProofs only[d4,aT,aJ,aA,↓aU,seval,rM]
    refine(IHx _).to ?_
    generalize x.ev.1=a at *
    generalize x.ev.2=ca at *
    generalize y.ev.1=b at *
    generalize y.ev.2=cb at *
    simp -implicitDefEqProofs only[aA,seval]
    refine aQ (fun h4=>?_) (fun h4=>?_)
    · simp -implicitDefEqProofs only[aA,seval]
      have h4':ca≠0:=by simpa using h4
      rw[aH h4']
    have h4':ca=0:=by simpa using h4
    subst h4'
    rw[aE (by simp)]
    simp -implicitDefEqProofs only[gN,aT,aJ,aA,seval,rM]
    refine(IHy _).to ?_
    simp -implicitDefEqProofs only[aA,seval]
    refine aQ (fun h5=>?_) (fun h5=>?_)
    · simp -implicitDefEqProofs only[aA,seval]
      have h5':cb≠0:=by simpa using h5
      rw[aH h5']
    have h5':cb=0:=by simpa using h5
    subst h5'
    rw[aE (by simp)]
    simp -implicitDefEqProofs only[aA,seval,rM]
    refine(WY s a b hx hy _).to ?_
    simp -implicitDefEqProofs only[aA,seval]
termination_by t=>SizeOf.sizeOf t
decreasing_by have:=List.sizeOf_lt_of_mem hx;simp only[Tm.mk.sizeOf_spec];omega
abbrev aNT:=zi tI_3 (zi zI_3 (zi aX (zi tI_46 (zi zI_46 (zi dH (zi fA (zi eX fB)))))))
theorem OJ(l:List Int)(v:Int)(st:aB):aD prog 128 [.slice (l.map iv),.int .i64 v] st (fun r st'=>r=.int .i64 (d5 v l 0)∧st'=st):=by
 refine wF [] 2 func128 ntmps128 rfl rfl ?_
 simp only[eC,AV.fits,eF,aF]
 intro ⟨hl,_⟩
 simp -implicitDefEqProofs only[aF,aA,seval,aNT]
 refine eP (σ:=Unit) [] [0,1,7] l (fun i _=>d5 v l 0=d5 v (l.drop i) i) (fun i _=>[(8,.int .i64 i)]) (fun _ _=>st) (by decide +kernel) ⟨(),rfl,aO.mk (by simp -implicitDefEqProofs only[aA,↓aU,seval])⟩ (fun i x _ hx hlt bV hdr hinv=>?_) (fun _ hge hinv=>?_)
 case refine_2=>
  simp -implicitDefEqProofs only[hge,aA,seval]
  rw[hinv,kK]
  try rfl
 rw[hdr,d5] at hinv
 have hw:=bO (n:=(i:Int)+1)
 simp -implicitDefEqProofs only[bV,bM (av:=iv) dH hx rfl,aA,seval,aNT]
 refine aQ (fun h=>?_) (fun h=>?_)
 · simp only[bJ] at h
   rw[aH h] at hinv
   simp -implicitDefEqProofs only[hinv,aA,seval]
 · simp only[dJ] at h
   rw[aE h] at hinv
   simp -implicitDefEqProofs only[aA,seval]
   exact⟨(),by rw[hinv],aO.mk (by simp -implicitDefEqProofs only[hw,aA,seval])⟩
theorem aRA(l:List Int)(v:Int)(st:aB):aD prog 272 [.slice (l.map iv),.int .i64 v] st (fun r st'=>r=.bool (decide (v∈l))∧st'=st):=by
 refine wF [] 2 func272 ntmps272 rfl rfl ?_
 intro _
 simp -implicitDefEqProofs only[aA,seval]
 refine(OJ l v st).to ?_
 simp -implicitDefEqProofs only[aKP v l 0 (Int.le_refl 0),aA,seval]
theorem a2D{st:aB}{b:Nat}{l:List Int}{os xs:List AV}(h:Seen (a7 st b (l.map iv)) eH os xs):Seen (a7 st b (l.map iv)) eH (bD 1 b (l.map iv)::os) (.slice (l.map iv)::xs):=
 Seen.own (a03 (cL.flat (by simp [AV.flat])) (by intro e h;simp only[cS] at h;obtain⟨t,_,rfl⟩:=h;rfl)) h
def Grown(st:aB)(l:List Int)(r:AV)(st':aB):Prop:=∃b',r=bD 1 b' (l.map iv)∧st'=a7 st b' (l.map iv)∧(l.map iv≠[]→st b'=none)
abbrev rO:=zi tI_3 (zi zI_3 (zi aX (zi tI_4 (zi zI_4 (zi cE (zi tI_31 (zi zI_31 (zi aN (zi bG (zi bH (zi b9 (zi tI_46 (zi zI_46 (zi dH (zi fA (zi eX (zi fB (zi tI_66 (zi zI_66 (zi bQ (zi bR (zi bS (zi bT bP)))))))))))))))))))))))
theorem V8:∀(t:Tm) (l:List Int) (b:Nat) (st:aB),(l.map iv≠[]→st b=none)→l.length+t.nodes≤1099511627776→aD prog 209 [t.av,bD 1 b (l.map iv)] (a7 st b (l.map iv)) (Grown st (t.vars l))
 | .mk k n s ts,l,b,st,hb,hsz=>by
  have IH:=fun(x:Tm) (hx:x∈ts)=>V8 x
  simp only[Tm.vars]
  rw[Tm.gI] at hsz
  refine wF [] 2 func209 ntmps209 rfl rfl ?_
  simp only[aV,eC,AV.fits,eF,aF]
  intro ⟨⟨_,_,_,hl,_⟩,_⟩
  simp -implicitDefEqProofs only[aA,seval,rO]
  refine cV (fun h=>?_) (fun h=>?_)
  · simp only[bJ] at h
    subst h
    simp -implicitDefEqProofs only[aA,seval,rO]
    refine(aD.see (fun s=>aRA l n s) (a2D (Seen.same .nil)) rfl).to ?_
    simp -implicitDefEqProofs only[aA,seval]
    refine aQ (fun h=>?_) (fun h=>?_)
    · simp only[kQ,dJ] at h
      rw[aH h]
      simp -implicitDefEqProofs only[aA,seval,rO]
      refine eW dH fA eX rfl rfl (fM rfl rfl) (by intro e h;simp only[cS] at h;obtain⟨t,_,rfl⟩:=h;rfl) hb (by simp;omega) (by simp;omega) (fun b' hb'=>?_)
      rw[show l.map iv++ [AV.int .i64 n]=(l++ [n]).map iv by simp] at hb' ⊢
      simp -implicitDefEqProofs only[aA,seval,rO]
      refine eP (σ:=List Int×Nat) [] [4,23,24] ts (fun i p=>bL (ts.drop i) p.1=bL ts (l++ [n])∧p.1.length+bF Tm.nodes (ts.drop i)≤1099511627776∧(p.1.map iv≠[]→st p.2=none)) (fun i p=>[(1,bD 1 p.2 (p.1.map iv)),(25,.int .i64 i)]) (fun _ p=>a7 st p.2 (p.1.map iv)) (by decide +kernel)
       ⟨(l++ [n],b'),⟨rfl,by simp;omega,hb'⟩,aO.mk (by simp -implicitDefEqProofs only[aF,aA,↓aU,seval])⟩ (fun i x p hx hlt bV hdr hinv=>?_) (fun p hge hinv=>?_)
      case refine_2=>
       simp -implicitDefEqProofs only[aF,hge,aA,seval]
       rw[←hinv.1,kK]
       exact⟨p.2,rfl,rfl,hinv.2.2⟩
      obtain⟨acc,b⟩:=p
      rw[hdr] at hinv
      obtain⟨i1,i2,i3⟩:=hinv
      simp only[bF] at i2
      have hw:=bO (n:=(i:Int)+1)
      simp -implicitDefEqProofs only[aF,bV,bM (av:=Tm.av) aN hx (aJ x),aT,aJ,aA,seval,rO]
      intro b2 hb2
      obtain⟨hn2,hne⟩:=CA hb2
      have hc2: [AV.int IntKind.i64 0,AV.int IntKind.i64 0,AV.str ⟨#[]⟩,AV.fslice []].length=4:=rfl
      try simp -implicitDefEqProofs only[dC,A7 (x:=x.av.cells) (bY x) hc2,bY,cC,eO (bY x),eK (aT x),c7,aA,↓aU,seval,rO]
      rw[oZ hne]
      refine(IH x (cP hx) acc b _ (fun h=>by rw[aB.aL _ _ (dD (hne h))];exact i3 h) (by omega)).mono ?_
      rintro _ _ ⟨b',rfl,rfl,hb'⟩
      simp -implicitDefEqProofs only[hw,aA,seval]
      obtain⟨hd,AA⟩:=JH (o:=.cells x.av.cells) hn2 hb'
      have hvl:=Tm.ER x acc
      refine⟨(x.vars acc,b'),⟨i1,by simp only;omega,AA⟩,aO.drop hd (by simp -implicitDefEqProofs only[aA,seval])⟩
    · simp only[qR,bJ] at h
      rw[aE (by simp [h])]
      simp -implicitDefEqProofs only[aA,seval,rO]
      refine eP (σ:=List Int×Nat) [] [4,23,24] ts (fun i p=>bL (ts.drop i) p.1=bL ts (l)∧p.1.length+bF Tm.nodes (ts.drop i)≤1099511627776∧(p.1.map iv≠[]→st p.2=none)) (fun i p=>[(1,bD 1 p.2 (p.1.map iv)),(25,.int .i64 i)]) (fun _ p=>a7 st p.2 (p.1.map iv)) (by decide +kernel)
       ⟨(l,b),⟨rfl,by simp;omega,hb⟩,aO.mk (by simp -implicitDefEqProofs only[aF,aA,↓aU,seval])⟩ (fun i x p hx hlt bV hdr hinv=>?_) (fun p hge hinv=>?_)
      case refine_2=>
       simp -implicitDefEqProofs only[aF,hge,aA,seval]
       rw[←hinv.1,kK]
       exact⟨p.2,rfl,rfl,hinv.2.2⟩
      obtain⟨acc,b⟩:=p
      rw[hdr] at hinv
      obtain⟨i1,i2,i3⟩:=hinv
      simp only[bF] at i2
      have hw:=bO (n:=(i:Int)+1)
      simp -implicitDefEqProofs only[aF,bV,bM (av:=Tm.av) aN hx (aJ x),aT,aJ,aA,seval,rO]
      intro b2 hb2
      obtain⟨hn2,hne⟩:=CA hb2
      have hc2: [AV.int IntKind.i64 0,AV.int IntKind.i64 0,AV.str ⟨#[]⟩,AV.fslice []].length=4:=rfl
      try simp -implicitDefEqProofs only[dC,A7 (x:=x.av.cells) (bY x) hc2,bY,cC,eO (bY x),eK (aT x),c7,aA,↓aU,seval,rO]
      rw[oZ hne]
      refine(IH x (cP hx) acc b _ (fun h=>by rw[aB.aL _ _ (dD (hne h))];exact i3 h) (by omega)).mono ?_
      rintro _ _ ⟨b',rfl,rfl,hb'⟩
      simp -implicitDefEqProofs only[hw,aA,seval]
      obtain⟨hd,AA⟩:=JH (o:=.cells x.av.cells) hn2 hb'
      have hvl:=Tm.ER x acc
      refine⟨(x.vars acc,b'),⟨i1,by simp only;omega,AA⟩,aO.drop hd (by simp -implicitDefEqProofs only[aA,seval])⟩
  · simp only[kI,dJ] at h
    rw[aE (by simp [h])]
    simp -implicitDefEqProofs only[h,aA,seval,rO]
    refine eP (σ:=List Int×Nat) [] [4,23,24] ts (fun i p=>bL (ts.drop i) p.1=bL ts (l)∧p.1.length+bF Tm.nodes (ts.drop i)≤1099511627776∧(p.1.map iv≠[]→st p.2=none)) (fun i p=>[(1,bD 1 p.2 (p.1.map iv)),(25,.int .i64 i)]) (fun _ p=>a7 st p.2 (p.1.map iv)) (by decide +kernel)
     ⟨(l,b),⟨rfl,by simp;omega,hb⟩,aO.mk (by simp -implicitDefEqProofs only[aF,aA,↓aU,seval])⟩ (fun i x p hx hlt bV hdr hinv=>?_) (fun p hge hinv=>?_)
    case refine_2=>
     simp -implicitDefEqProofs only[aF,hge,aA,seval]
     rw[←hinv.1,kK]
     exact⟨p.2,rfl,rfl,hinv.2.2⟩
    obtain⟨acc,b⟩:=p
    rw[hdr] at hinv
    obtain⟨i1,i2,i3⟩:=hinv
    simp only[bF] at i2
    have hw:=bO (n:=(i:Int)+1)
    simp -implicitDefEqProofs only[aF,bV,bM (av:=Tm.av) aN hx (aJ x),aT,aJ,aA,seval,rO]
    intro b2 hb2
    obtain⟨hn2,hne⟩:=CA hb2
    have hc2: [AV.int IntKind.i64 0,AV.int IntKind.i64 0,AV.str ⟨#[]⟩,AV.fslice []].length=4:=rfl
    try simp -implicitDefEqProofs only[dC,A7 (x:=x.av.cells) (bY x) hc2,bY,cC,eO (bY x),eK (aT x),c7,aA,↓aU,seval,rO]
    rw[oZ hne]
    refine(IH x (cP hx) acc b _ (fun h=>by rw[aB.aL _ _ (dD (hne h))];exact i3 h) (by omega)).mono ?_
    rintro _ _ ⟨b',rfl,rfl,hb'⟩
    simp -implicitDefEqProofs only[hw,aA,seval]
    obtain⟨hd,AA⟩:=JH (o:=.cells x.av.cells) hn2 hb'
    have hvl:=Tm.ER x acc
    refine⟨(x.vars acc,b'),⟨i1,by simp only;omega,AA⟩,aO.drop hd (by simp -implicitDefEqProofs only[aA,seval])⟩
termination_by t=>SizeOf.sizeOf t
decreasing_by have:=List.sizeOf_lt_of_mem hx;simp only[Tm.mk.sizeOf_spec];omega
abbrev S4:=zi tI_3 (zi zI_3 (zi aX (zi tI_31 (zi zI_31 (zi aN (zi bG (zi bH (zi b9 (zi tI_46 (zi zI_46 (zi dH (zi fA (zi eX (zi fB (zi tI_66 (zi zI_66 (zi bQ (zi bR (zi bS (zi bT bP))))))))))))))))))))
theorem FW(l:List Tm)(st:aB)(hsz:bF Tm.nodes l≤1099511627776):aD prog 126 [.slice (l.map Tm.av)] st (fun r st'=>r=.slice ((bL l []).map iv)∧st'=st):=by
 refine aD.fin ?_
 refine wF [] 1 func126 ntmps126 rfl rfl ?_
 simp only[eC,AV.fits,eF,aF]
 intro ⟨hl,_⟩
 simp -implicitDefEqProofs only[aF,aA,seval,S4]
 refine eP (σ:=List Int×Nat) [] [2,6,7] l (fun i p=>bL (l.drop i) p.1=bL l ([])∧p.1.length+bF Tm.nodes (l.drop i)≤1099511627776∧(p.1.map iv≠[]→st p.2=none)) (fun i p=>[(3,bD 1 p.2 (p.1.map iv)),(8,.int .i64 i)]) (fun _ p=>a7 st p.2 (p.1.map iv)) (by decide +kernel)
  ⟨([],0),⟨rfl,by simp;omega,by simp⟩,aO.mk (by simp -implicitDefEqProofs only[aW,jG,aA,↓aU,seval])⟩ (fun i x p hx hlt bV hdr hinv=>?_) (fun p hge hinv=>?_)
 case refine_2=>
  simp -implicitDefEqProofs only[hge,aA,seval]
  rw[←hinv.1,kK]
  exact⟨p.2,p.1.map iv,st,rfl,hinv.2.2,by simp [AV.cF],⟨1,aKR p.1⟩,iP,rfl⟩
 obtain⟨acc,b⟩:=p
 rw[hdr] at hinv
 obtain⟨i1,i2,i3⟩:=hinv
 simp only[bF] at i2
 have hw:=bO (n:=(i:Int)+1)
 simp -implicitDefEqProofs only[bV,bM (av:=Tm.av) aN hx (aJ x),aT,aJ,aA,seval,S4]
 intro b2 hb2
 obtain⟨hn2,hne⟩:=CA hb2
 have uH:∀zs:List AV,zs.length=4→aK zs 0 x.av.cells=x.av.cells:=fun zs h=>A7 (bY x) h
 try simp -implicitDefEqProofs only[dC,uH,bY,cC,eO (bY x),eK (aT x),c7,aA,↓aU,seval,S4]
 rw[oZ hne]
 refine(V8 x acc b _ (fun h=>by rw[aB.aL _ _ (dD (hne h))];exact i3 h) (by omega)).mono ?_
 rintro _ _ ⟨b',rfl,rfl,hb'⟩
 simp -implicitDefEqProofs only[hw,aA,seval]
 obtain⟨hd,AA⟩:=JH (o:=.cells x.av.cells) hn2 hb'
 have hvl:=Tm.ER x acc
 exact⟨(x.vars acc,b'),⟨i1,by simp only;omega,AA⟩,aO.drop hd (by simp -implicitDefEqProofs only[aA,seval])⟩
abbrev H4:=zi tI_3 (zi zI_3 (zi aX (zi tI_31 (zi zI_31 (zi aN (zi bG (zi bH (zi b9 (zi tI_46 (zi zI_46 (zi dH (zi fA (zi eX (zi fB (zi tI_66 (zi zI_66 (zi bQ (zi bR (zi bS (zi bT bP))))))))))))))))))))
theorem FT:∀(t:Tm) (l:List Int) (b:Nat) (st:aB),t.wf=true→(l.map iv≠[]→st b=none)→l.length+t.nodes≤1099511627776→aD prog 236 [bD 1 b (l.map iv),t.av] (a7 st b (l.map iv)) (Grown st (t.vars l))
 | .mk k n s ts,l,b,st,hwf,hb,hsz=>by
  obtain⟨hk,aY1⟩:=Tm.TT hwf
  have IH:=fun(x:Tm) (hx:x∈ts) l b st=>FT x l b st (aY1 x hx)
  have haL:=tS (w:=1) (b:=b) (l:=l.map iv) fB
  simp only[Tm.vars]
  rw[Tm.gI] at hsz
  refine wF [] 2 func236 ntmps236 rfl rfl ?_
  simp only[aV,eC,AV.fits,eF,aF]
  intro ⟨_,⟨_,_,_,hl,_⟩⟩
  simp -implicitDefEqProofs only[aA,seval,H4]
  refine aQ (fun h=>?_) (fun h=>?_)
  · simp only[bJ] at h
    obtain rfl:=hk h
    subst h
    simp -implicitDefEqProofs only[aA,seval]
    have hnn:l.length≤1099511627776:=by omega
    refine eP (σ:=Unit) [] [0,3] l (fun i _=>∀y∈l.take i,y≠n) (fun i _=>[(5,.int .i64 i)]) (fun _ _=>a7 st b (l.map iv)) (by decide +kernel) ⟨(),by simp,aO.mk (by simp -implicitDefEqProofs only[aA,↓aU,seval])⟩ (fun i x _ hx hlt bV hdr hinv=>?_) (fun _ hge hinv=>?_)
    case refine_2=>
     rw[eS] at hinv
     have gX:n∉l:=fun h=>hinv n h rfl
     simp -implicitDefEqProofs only[haL,aF,hge,aA,seval,H4]
     refine eW dH fA eX rfl rfl (fM rfl rfl) (aKR l) hb (by simp;omega) (by simp;omega) (fun b' hb'=>?_)
     rw[show l.map iv++ [AV.int .i64 n]=(l++ [n]).map iv by simp] at hb' ⊢
     simp -implicitDefEqProofs only[aA,seval]
     exact⟨b',by simp [bL,gX],by simp [bL,gX],by simp only[bL,gX,HC,gA];exact hb'⟩
    have hat:=U0 (b:=b) (l:=l.map iv) (i:=i) (x:=iv x) dH (by rw[mW,hx];try rfl)
    obtain⟨f9,xX⟩:=U3 (st:=st) (b:=b) hx
    have hw:=bO (n:=(i:Int)+1)
    simp -implicitDefEqProofs only[haL,aF,bV,aA,seval]
    refine CG mixed (by decide +kernel) (by decide +kernel) ?_
    simp -implicitDefEqProofs only[hat,f9,xX,uV,aA,seval,H4]
    refine aQ (fun h=>?_) (fun h=>?_)
    · simp only[bJ] at h
      subst h
      have gX:=cP hx
      simp -implicitDefEqProofs only[aA,seval]
      exact⟨b,by simp [bL,gX],by simp [bL,gX],by simp only[bL,gX,LI,dY];exact hb⟩
    · simp only[dJ] at h
      simp -implicitDefEqProofs only[aA,seval]
      refine⟨(),?_,aO.mk (by simp -implicitDefEqProofs only[hw,aA,seval])⟩
      intro y hy
      rw[fG,hx] at hy
      rcases fF.1 hy with hy | hy
      · exact hinv y hy
      · simp at hy;subst hy;exact h
  · simp only[dJ] at h
    rw[aE (by simp [h])]
    simp -implicitDefEqProofs only[aA,seval]
    refine eP (σ:=List Int×Nat) [] [3,4] ts (fun i p=>bL (ts.drop i) p.1=bL ts l∧p.1.length+bF Tm.nodes (ts.drop i)≤1099511627776∧(p.1.map iv≠[]→st p.2=none)) (fun i p=>[(0,bD 1 p.2 (p.1.map iv)),(6,.int .i64 i)]) (fun _ p=>a7 st p.2 (p.1.map iv)) (by decide +kernel)
     ⟨(l,b),⟨rfl,by simp;omega,hb⟩,aO.mk (by simp -implicitDefEqProofs only[aA,↓aU,seval])⟩ (fun i x p hx hlt bV hdr hinv=>?_) (fun p hge hinv=>?_)
    case refine_2=>
     simp -implicitDefEqProofs only[aF,hge,aA,seval,H4]
     rw[←hinv.1,kK]
     exact⟨p.2,rfl,rfl,hinv.2.2⟩
    obtain⟨acc,b⟩:=p
    rw[hdr] at hinv
    obtain⟨i1,i2,i3⟩:=hinv
    simp only[bF] at i2
    have hw:=bO (n:=(i:Int)+1)
    simp -implicitDefEqProofs only[aF,bV,bM (av:=Tm.av) aN hx (aJ x),aT,aJ,aA,seval,H4]
    refine(IH x (cP hx) acc b st i3 (by omega)).mono ?_
    rintro _ _ ⟨b',rfl,rfl,hb'⟩
    have hvl:=Tm.ER x acc
    simp -implicitDefEqProofs only[hw,aA,seval]
    exact⟨(x.vars acc,b'),⟨i1,by simp only;omega,hb'⟩,aO.mk (by simp -implicitDefEqProofs only[aA,seval])⟩
termination_by t=>SizeOf.sizeOf t
decreasing_by have:=List.sizeOf_lt_of_mem hx;simp only[Tm.mk.sizeOf_spec];omega
theorem VG{A C B:List AV}{n:Nat}(hA:A.length=n)(hC:C.length=4) :
 (n+4≤(A++C++B).length)∧List.take 4 (List.drop n (A++C++B))=C∧(A++C++B)[n+0]?=C[0]?:=by
 refine⟨by simp only[dM];omega,?_,(Q9 (A:=A) (B:=B) hA).2.2.1 C 0 (by omega)⟩
 rw[←hA,nJ,EY,←hC,E4]
abbrev OkN (t:Tm):Prop:=t.iZ=true∧t.nodes≤120
end Go.AW
namespace Go.AW
def nU(n:Int):Tm:=.mk 2 n ⟨#[]⟩ []
theorem aZQ{n:Int}(h:jT n):(nU n).valid=true:=by
 have ho:(nU n).iZ=true:=by
  unfold nU
  rw[Tm.AT]
  simp [eD,h.1,h.2]
 rw[Tm.IM ho]
 simp [nU,Tm.gI,bF,Tm.rC]
def iM(b:Bool):Int:=if b=true then 0 else 1
def J6(s:ByteArray)(a b:Int):Bool:=
 if s=⟨#[60]⟩ then decide (a<b) else if s=⟨#[62]⟩ then decide (b<a) else if s=⟨#[61,60]⟩ then decide (a≤b) else if s=⟨#[62,61]⟩ then decide (b≤a) else decide (a=b)
def s8(s:ByteArray)(x:Tm):Bool:=
 if s=⟨#[118,97,114]⟩ then decide (x.k=1) else if s=⟨#[110,111,110,118,97,114]⟩ then !decide (x.k=1) else if s=⟨#[97,116,111,109]⟩ then decide (x.k=3)&&decide ((x.ts.length:Int)=0) else decide (x.k=2)
def xK(s:ByteArray)(x y:Tm):Int:=(both (fun a b=>(0,iM (J6 s a b))) x.ev y.ev).2
def m7(x y:Tm):Option Tm:=if 1≤x.n∧x.n≤y.ts.length then y.ts[(x.n - 1).toNat]? else none
structure a5I (σ:Sub):Prop where
 gQ:cO σ
 iZ:cW (fun t=>t.iZ=true) σ
 okN:cW OkN σ
theorem VA{x y u:Tm}(h:m7 x y=some u):u∈y.ts:=by
 unfold m7 at h
 split at h
 · exact cP h
 · cases h
theorem VS{s:ByteArray}{n:Nat}(h:isBuiltin s (n:Int)=true) :
 (n=2∧(gB q9 s=true∨s=⟨#[61]⟩∨s=⟨#[92,61]⟩∨s=⟨#[61,61]⟩∨s=⟨#[105,115]⟩))∨(n=0∧(s=⟨#[116,114,117,101]⟩∨s=⟨#[102,97,105,108]⟩)) ∨
 (n=1∧(s=⟨#[118,97,114]⟩∨s=⟨#[110,111,110,118,97,114]⟩∨s=⟨#[97,116,111,109]⟩∨s=⟨#[105,110,116]⟩))∨(n=3∧s=⟨#[97,114,103]⟩):=by
 unfold isBuiltin at h
 simp only[cond_eq_ite] at h
 split at h
 · rename_i h1
   left
   refine⟨by simp at h;omega,?_⟩
   simp only[pS,bJ] at h1
   simp only[gB,q9,BQ,List.any_nil,pS,bJ,iL,dV]
   rcases h1 with (((((((h1 | h1) | h1) | h1) | h1) | h1) | h1) | h1) | h1<;>simp [h1]
 split at h
 · rename_i h1
   right;left
   refine⟨by simp at h;omega,?_⟩
   simpa using h1
 split at h
 · rename_i h1
   right;right;left
   refine⟨by simp at h;omega,?_⟩
   simp only[pS,bJ] at h1
   rcases h1 with ((h1 | h1) | h1) | h1<;>simp [h1]
 split at h
 · rename_i h1
   right;right;right
   exact⟨by simp at h;omega,by simpa using h1⟩
 · cases h
def dL:AV→List Nat
 | .mslice b _ _ _=>[b]
 | _=>[]
def Trail(st:aB)(q:AV)(tr:List Int):Prop:=
 (q=.fslice []∧tr= [])∨∃b cs,q=.mslice b 0 tr.length 1∧st b=some (.cells cs)∧cs.take tr.length=tr.map iv
structure gF (st:aB) (c m:Nat) (q:AV) (σ:Sub) (tr:List Int):Prop where
 sub:iX st c m q σ
 fE:Trail st q tr
 apart:c∉dL q
structure mI (c m:Nat) (st:aB) (q:AV) (st':aB) (q':AV):Prop where
 frame:∀b o,st b=some o→b≠c→b≠m→b∉dL q→st' b=some o
 fresh:∀b∈dL q',b∈dL q∨st b=none
def uW(c m:Nat)(st:aB)(q:AV)(σ':Sub)(tr':List Int)(st':aB):Prop:=∃q',gF st' c m q' σ' tr'∧mI c m st q st' q'
theorem mI.refl(c m:Nat)(st:aB)(q:AV):mI c m st q st q:=⟨fun _ _ h _ _ _=>h,fun _ h=>.inl h⟩
theorem mI.trans{c m:Nat}{st st' yF:aB}{q q' q'':AV}{σ:Sub}{tr:List Int}(x:mI c m st q st' q')(hS:gF st' c m q' σ tr)(y:mI c m st' q' yF q''):mI c m st q yF q'':=by
 refine⟨fun b o h h1 h2 h3=>?_,fun b hb=>?_⟩
 · refine y.frame b o (x.frame b o h h1 h2 h3) h1 h2 fun h4=>?_
   rcases x.fresh b h4 with h5 | h5
   · exact h3 h5
   · rw[h5] at h;cases h
 · rcases y.fresh b hb with h | h
   · exact x.fresh b h
   · by_cases h1:b∈dL q
     · exact .inl h1
     · refine .inr ?_
       cases hst:st b with
       | none=>rfl
       | some o=>
        exfalso
        by_cases hc:b=c
        · subst hc;rw[hS.sub.cells] at h;cases h
        · by_cases hm:b=m
          · subst hm;rw[hS.sub.map] at h;cases h
          · rw[x.frame b o hst hc hm h1] at h;cases h
theorem gF.HX{st:aB}{c m:Nat}{q:AV}{σ:Sub}{tr:List Int}(h:gF st c m q σ tr):∀b∈dL q,∃cs,st b=some (.cells cs):=by
 intro b hb
 rcases h.fE with ⟨rfl,_⟩ | ⟨b',cs,rfl,hb',_⟩
 · simp [dL] at hb
 · simp only[dL,cX,dN,dV] at hb;subst hb;exact⟨cs,hb'⟩
theorem gF.LG{st:aB}{c m:Nat}{q:AV}{σ:Sub}{tr:List Int}(h:gF st c m q σ tr):m∉dL q:=fun hb=>by
 obtain⟨cs,e⟩:=h.HX m hb
 rw[h.sub.map] at e;cases e
theorem gF.aC{st:aB}{c m b:Nat}{q:AV}{σ:Sub}{tr:List Int}{o:AO}(h:gF st c m q σ tr)(h1:b≠c)(h2:b≠m)(h3:b∉dL q):gF (st.aC b o) c m q σ tr:=by
 refine⟨h.sub.M6 h1 h2,?_,h.apart⟩
 rcases h.fE with h4 | ⟨b',cs,e1,e2,e3⟩
 · exact .inl h4
 · refine .inr ⟨b',cs,e1,?_,e3⟩
   rw[aB.aL _ _ (by rintro rfl;exact h3 (by rw[e1];simp [dL]))]
   exact e2
theorem gF.EO{st:aB}{c m b:Nat}{q:AV}{σ:Sub}{tr:List Int}{o:AO}(h:gF st c m q σ tr)(hb:st b=none):gF (st.aC b o) c m q σ tr:=
 h.aC (h.sub.ne hb).1 (h.sub.ne hb).2 fun h3=>by obtain⟨cs,e⟩:=h.HX b h3;rw[hb] at e;cases e
theorem mI.EO{c m b:Nat}{st:aB}{q:AV}{o:AO}(hb:st b=none):mI c m st q (st.aC b o) q:=
 ⟨fun x p h _ _ _=>by rw[aB.aL _ _ (by rintro rfl;rw[hb] at h;cases h)];exact h,fun _ h=>.inl h⟩
theorem gF.shape{st:aB}{c m:Nat}{q:AV}{σ:Sub}{tr:List Int}(h:gF st c m q σ tr):q.isAgg=false∧q.width=1∧q.cF=false∧q.cells= [q]∧q.storable=true:=by
 rcases h.fE with ⟨rfl,_⟩ | ⟨b',cs,rfl,_⟩<;>exact⟨rfl,rfl,rfl,rfl,rfl⟩
theorem uW.from{c m:Nat}{st s0 st':aB}{q q0:AV}{σ σ':Sub}{tr tr':List Int}(h:uW c m s0 q0 σ' tr' st')(x:mI c m st q s0 q0)(hS:gF s0 c m q0 σ tr):uW c m st q σ' tr' st':=by
 obtain⟨q',h1,h2⟩:=h
 exact⟨q',h1,x.trans hS h2⟩
theorem a4D{P:Program}{t:TypeId}{ag:Bool}{bytes:Nat}{zs:List AV}{st:aB}{c m:Nat}{q:AV}{σ:Sub}{tr:List Int}{n:Int}{K:AV→aB→Prop}(hI:eI P t=some (ag,1))(hB:eB P t=some bytes)(hZ:eZ P t=some zs)(hz:zs.length=1)(hb8:bytes≤16)
 (h:gF st c m q σ tr) (hl:tr.length+1≤1099511627776)
 (hK:∀q' st',Trail st' q' (tr++ [n])→c∉dL q'→m∉dL q'→(∀x,x∉dL q→x∉dL q'→st' x=st x)→(∀x∈dL q',x∈dL q∨st x=none)→K q' st'):j7 P t st q (.fslice [.int .i64 n]) K:=by
 have fD:vB 1 [AV.int .i64 n]:=by intro e he;simp only[cX,dN,dV] at he;subst he;exact⟨rfl,rfl⟩
 have GS:(tr.length+1)*bytes≤140737488355328:=by
  have:=Nat.mul_le_mul hl hb8
  omega
 unfold j7
 simp only[hI,hB,hZ,zC]
 refine⟨hz,fD,?_⟩
 have hcm:∀x,st x=none→x≠c∧x≠m:=fun x hx=>h.sub.ne hx
 rcases h.fE with ⟨rfl,rfl⟩ | ⟨b,cs,rfl,hb,hcs⟩
 · simp only[aZ,aS,hH] at GS ⊢
   refine⟨by omega,by omega,by simp,fun h=>by simp at h,fun _ b hb=>?_⟩
   refine hK _ _ (.inr ⟨b,[.int .i64 n],rfl,aB.aP _ _ _,rfl⟩) (by simp only[dL,cX,dN,dV];exact dD (hcm b hb).1) (by simp only[dL,cX,dN,dV];exact dD (hcm b hb).2) (fun x _ hx=>?_) (fun x hx=>?_)
   · simp only[dL,cX,dN,dV] at hx
     rw[aB.aL _ _ hx]
   · simp only[dL,cX,dN,dV] at hx
     subst hx;exact .inr hb
 · simp only[aS,aZ,hH,hb]
   have hlen:tr.length≤cs.length:=by
    have:=gV List.length hcs
    simp only[dS,aF] at this
    omega
   have hca:c≠b:=fun e=>h.apart (by simp [dL,e])
   have hma:m≠b:=fun e=>h.LG (by simp [dL,e])
   have mM:cs.take (tr.length*1)++ [AV.int .i64 n].flatMap AV.cells=(tr++ [n]).map iv:=by rw[uV,hcs];simp [AV.cells]
   refine⟨trivial,GS,by omega,by omega,?_,fun b' hb'=>?_⟩
   · rw[mM]
     refine hK _ _ (.inr ⟨b,_,by simp,aB.aP _ _ _,by rw[lO (by simp)]⟩) (by simpa [dL] using hca) (by simpa [dL] using hma) (fun x hx _=>?_) (fun x hx=>.inl hx)
     simp only[dL,cX,dN,dV] at hx
     rw[aB.aL _ _ hx]
   · rw[mM]
     obtain⟨hc',hm'⟩:=hcm b' hb'
     refine hK _ _ (.inr ⟨b',_,by simp,aB.aP _ _ _,by rw[lO (by simp)]⟩) (by simpa [dL] using dD hc') (by simpa [dL] using dD hm') (fun x hx hx'=>?_) (fun x hx=>?_)
     · simp only[dL,cX,dN,dV] at hx hx'
       rw[aB.aL _ _ hx']
       simp [aB.erase,hx]
     · simp only[dL,cX,dN,dV] at hx
       subst hx;exact .inr hb'
end Go.AW
namespace Go.AW
open Go.Proofs.Tryz
abbrev BB:=zi tI_3 (zi zI_3 (zi aX (zi tI_4 (zi zI_4 (zi cE (zi tI_66 (zi zI_66 (zi bQ (zi bR (zi bS (zi bT (zi bP (zi tI_141 (zi zI_141 (zi BG (zi tI_227 (zi zI_227 (zi tI_304 (zi zI_304 (zi CU (zi CV CH)))))))))))))))))))))
theorem J0{σ:Sub}{f:Nat}{t u:Tm}(hw:f0 σ f t u)(c m:Nat)(q:AV)(st:aB)(hS:iX st c m q σ):aD prog 380 [.ptr c 0,t.av] st (fun r st'=>r=u.av∧st'=st):=by
 refine aD.done ?_
 refine wF [1000000,3] 2 func380 ntmps380 rfl rfl ?_
 intro _
 simp -implicitDefEqProofs only[aA,seval,BB]
 intro b3 h3 b4 h4
 have hne:b4≠b3:=by rintro rfl;rw[aB.aP] at h4;cases h4
 have hn4:st b4=none:=by rw[aB.aL st _ hne] at h4;exact h4
 have hD:∀o o',aM ((st.aC b3 o).aC b4 o') st:=fun o o'=>((aM.refl _).aC h3).aC hn4
 have hS':∀o o',iX ((st.aC b3 o).aC b4 o') c m q σ:=fun o o'=>(hS.aC h3).aC (by rw[aB.aL _ _ hne];exact hn4)
 obtain⟨aYD,a63⟩:=hS.ne h3
 obtain⟨aYE,a64⟩:=hS.ne hn4
 refine iE (σ:=Nat×Tm) [1000000,3] [0,3,4] (fun p=>f0 σ p.1 p.2 u) (fun p=>[]) (fun p=>(st.aC b3 (.cells p.2.av.cells)).aC b4 (.cells [.int .i64 0,.int .i64 0,.str ⟨#[]⟩,.fslice []])) (fun p=>p.1) (by decide +kernel) ⟨(f,t),hw,aO.mk (by simp -implicitDefEqProofs only[aA,seval])⟩ ?_
 rintro⟨g,t⟩ hw
 obtain⟨k,n,s,ts⟩:=t
 simp only at hw
 simp only[aV]
 simp -implicitDefEqProofs only[hne.symm,aA,seval,BB]
 refine aQ (fun h=>?_) (fun h=>?_)
 case refine_2=>
  simp only[dJ] at h
  cases hw with
  | go h1=>exact absurd h1 h
  | stop=>
   simp -implicitDefEqProofs only[aK,hne.symm,aA,seval,BB]
   exact⟨by rw[←aV,Tm.soft],hD _ _⟩
 simp only[bJ] at h
 simp -implicitDefEqProofs only[aA,seval]
 refine wP [(0,1),(1,1),(2,1),(4,1),(3,2),(5,2),(6,2),(7,1),(8,1),(9,1),(10,0),(11,0),(12,1)] [0,1,2,4,3,5,6,7,8,9,12] mixed ?_
 have hl:=fun(st':aB) (hm:st' m=some (AO.map (mapOf σ)))=>aZ8 (P:=prog) (n:=n) hm BG aX a49
 simp -implicitDefEqProofs only[hne.symm,hS.cells,aYD.symm,aYE.symm,aA,seval,BB]
 rw[hl _ (hS' _ _).map]
 cases hw with
 | stop hs=>
  rw[show σ n=none from hs h]
  simp -implicitDefEqProofs only[found,aK,aA,seval,BB]
  intro b5 h5
  have h53:b5≠b3:=by rintro rfl;simp [aB.aL,aB.aP,hne.symm] at h5
  have h54:b5≠b4:=by rintro rfl;simp [aB.aP] at h5
  have hn5:st b5=none:=by rw[aB.aL _ _ h54,aB.aL _ _ h53] at h5;exact h5
  simp -implicitDefEqProofs only[aK,hne.symm,h53.symm,h54.symm,aA,seval,BB]
  exact⟨by rw[←aV,Tm.soft],((((aM.refl _).aC h3).aC hn4).aC hn5).aC hn4⟩
 | go _ h2 h3'=>
  rw[show σ n=some _ from h2]
  simp -implicitDefEqProofs only[found,aK,aA,seval,BB]
  intro b5 h5
  have h53:b5≠b3:=by rintro rfl;simp [aB.aL,aB.aP,hne.symm] at h5
  have h54:b5≠b4:=by rintro rfl;simp [aB.aP] at h5
  have hn5:st b5=none:=by rw[aB.aL _ _ h54,aB.aL _ _ h53] at h5;exact h5
  simp -implicitDefEqProofs only[hne.symm,h53.symm,aA,seval]
  refine⟨(_,_),I5 _,h3',aO.drop (fun x=>?_) (by simp -implicitDefEqProofs only[aA,seval])⟩
  by_cases e3:x=b3<;>by_cases e4:x=b4<;>by_cases e5:x=b5<;>simp_all [aB.aC]
end Go.AW
