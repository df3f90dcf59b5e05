/- Unification comes to an end. -/
import Derived.Test.YthigelfjekcbmaaGreatDoorDrsj
import Derived.Test.YthigelfjekcbmaaGreatDoorDrsg
import Derived.Test.YthigelfjekcbmaaGreatDoorDrsi
set_option linter.unusedSimpArgs false
set_option linter.unusedVariables false
set_option maxRecDepth 100000
namespace Go.AW
theorem aKI(g g':Nat)(ih:∀σ a b x,cV g σ a b=some x→cV g' σ a b=some x):∀xs ys σ x,dM g σ xs ys=some x→dM g' σ xs ys=some x:=by
 intro xs
 induction xs with
 | nil=>intro ys σ x h;cases ys<;>simpa only[dM] using h
 | cons a xs ihx=>
  intro ys σ x h
  cases ys with
  | nil=>simpa only[dM] using h
  | cons b ys=>
   rw[dM] at h ⊢
   cases h1:cV g σ a b with
   | none=>rw[h1] at h;cases h
   | some p=>
    rw[h1] at h
    rw[ih _ _ _ _ h1]
    obtain⟨r1,σ1,tr1⟩:=p
    cases r1 with
    | false=>exact h
    | true=>
     simp only at h ⊢
     cases h2:dM g σ1 xs ys with
     | none=>rw[h2] at h;cases h
     | some p2=>rw[h2] at h;rw[ihx ys σ1 p2 h2];exact h
theorem aXO:∀(g:Nat) σ a b x,cV g σ a b=some x→cV (g+1) σ a b=some x:=by
 intro g
 induction g with
 | zero=>intro σ a b x h;simp only[cV] at h;cases h
 | succ g ih=>
  intro σ a b x h
  rw[cV] at h ⊢
  split
  · rename_i hc;rw[aK hc] at h;exact h
  · rename_i hc
    rw[aG hc] at h
    split
    · rename_i hc;rw[aK hc] at h;exact h
    · rename_i hc
      rw[aG hc] at h
      split
      · rename_i hc;rw[aK hc] at h;exact h
      · rename_i hc
        rw[aG hc] at h
        split
        · rename_i hc;rw[aK hc] at h;exact aKI g (g+1) ih _ _ _ _ h
        · rename_i hc;rw[aG hc] at h;exact h
theorem KK{g g':Nat}(hle:g≤g'){σ:Sub}{a b:Tm}{x:Bool×Sub×List Int}(h:cV g σ a b=some x):cV g' σ a b=some x:=by
 induction hle with
 | refl=>exact h
 | step _ ih=>exact aXO _ _ _ _ _ ih
theorem aXR{g g':Nat}(hle:g≤g'){σ:Sub}{xs ys:List Tm}{x:Bool×Sub×List Int}(h:dM g σ xs ys=some x):dM g' σ xs ys=some x:=
 aKI g g' (fun _ _ _ _ h=>KK hle h) xs ys σ x h
def sA(σ:Sub)(V:List Int):Nat:=V.countP fun v=>(σ v).isNone
def gS(V:List Int)(t:Tm):Prop:=∀v∈t.vl,v∈V
def lF(V:List Int)(σ:Sub):Prop:=∀n u,σ n=some u→gS V u
theorem aXK{σ σ':Sub}{tr:List Int}{V:List Int}(aV:∀m,m∉tr→σ' m=σ m)(new:∀m∈tr,σ m=none∧σ' m≠none){m:Int}(hm:m∈tr)(hV:m∈V):sA σ' V<sA σ V:=by
 have mono:∀v,(σ' v).isNone=true→(σ v).isNone=true:=fun v h=>by
  by_cases hv:v∈tr
  · rw[(new v hv).1];try rfl
  · rw[←aV v hv];exact h
 have le:∀W:List Int,sA σ' W≤sA σ W:=fun W=>List.countP_mono_left fun v _ h=>mono v h
 unfold sA at *
 induction V with
 | nil=>cases hV
 | cons v V ih=>
  simp only[List.countP_cons]
  have hle:=le V
  rcases cP.1 hV with rfl | hV
  · have h1:(σ m).isNone=true:=by rw[(new m hm).1];try rfl
    have h2:(σ' m).isNone=false:=by
     cases h:σ' m with
     | none=>exact absurd h (new m hm).2
     | some _=>rfl
    simp only[h1,h2,d3,jX,cM]
    omega
  · have:=ih hV
    have h3:=mono v
    by_cases h4:(σ' v).isNone=true
    · rw[aK h4,aK (h3 h4)];omega
    · rw[aG h4];split<;>omega
theorem fF.EO{σ:Sub}{V:List Int}(hr:lF V σ){f:Nat}{t u:Tm}(h:fF σ f t u)(ht:gS V t):gS V u:=h.all (p:=gS V) (fun n u hu=>hr n u hu) ht
theorem gS.IR{V:List Int}{t x:Tm}(h:gS V t)(hk:t.k≠1)(hx:x∈t.ts):gS V x:=fun v hv=>h v (by cases t;exact(Tm.kL hk).2 ⟨x,hx,hv⟩)
theorem aKG:∀(g:Nat),(∀σ a b r σ' tr V,cD σ→cV g σ a b=some (r,σ',tr)→lF V σ→gS V a→gS V b→lF V σ'∧∀m∈tr,m∈V) ∧
 ∀xs ys σ r σ' tr V,cD σ→xs.length=ys.length→dM g σ xs ys=some (r,σ',tr)→lF V σ→(∀x∈xs,gS V x)→(∀y∈ys,gS V y)→lF V σ'∧∀m∈tr,m∈V:=by
 intro g
 have list:∀g,(∀σ a b r σ' tr V,cD σ→cV g σ a b=some (r,σ',tr)→lF V σ→gS V a→gS V b→lF V σ'∧∀m∈tr,m∈V) →
  ∀xs ys σ r σ' tr V,cD σ→xs.length=ys.length→dM g σ xs ys=some (r,σ',tr)→lF V σ→(∀x∈xs,gS V x)→(∀y∈ys,gS V y)→lF V σ'∧∀m∈tr,m∈V:=by
  intro g ihU xs
  induction xs with
  | nil=>
   intro ys σ r σ' tr V hg hl h hr _ _
   cases ys with
   | cons _ _=>simp at hl
   | nil=>
    simp only[dM,Option.some.injEq,Prod.mk.injEq] at h
    obtain⟨rfl,rfl,rfl⟩:=h
    exact⟨hr,fun _ h=>absurd h (dI)⟩
  | cons a xs ih=>
   intro ys σ r σ' tr V hg hl h hr hx hy
   cases ys with
   | nil=>simp at hl
   | cons b ys=>
    rw[dM] at h
    cases h1:cV g σ a b with
    | none=>rw[h1] at h;cases h
    | some p=>
     obtain⟨r1,σ1,tr1⟩:=p
     have U1:=uY hg h1
     obtain⟨i1,i2⟩:=ihU σ a b r1 σ1 tr1 V hg h1 hr (hx a (by simp)) (hy b (by simp))
     rw[h1] at h
     cases r1 with
     | false=>
      simp only[Option.some.injEq,Prod.mk.injEq] at h
      obtain⟨rfl,rfl,rfl⟩:=h
      exact⟨i1,i2⟩
     | true=>
      simp only at h
      cases h2:dM g σ1 xs ys with
      | none=>rw[h2] at h;cases h
      | some p2=>
       obtain⟨r2,σ2,tr2⟩:=p2
       rw[h2] at h
       simp only[Option.some.injEq,Prod.mk.injEq] at h
       obtain⟨rfl,rfl,rfl⟩:=h
       obtain⟨j1,j2⟩:=ih ys σ1 r2 σ2 tr2 V U1.gA (by simpa using hl) h2 i1 (fun x h=>hx x (by simp [h])) (fun y h=>hy y (by simp [h]))
       exact⟨j1,fun m hm=>(dQ.1 hm).elim (i2 m) (j2 m)⟩
 induction g with
 | zero=>
  have h0:∀σ a b r σ' tr V,cD σ→cV 0 σ a b=some (r,σ',tr)→lF V σ→gS V a→gS V b→lF V σ'∧∀m∈tr,m∈V:=fun σ a b r σ' tr V hg h=>by simp only[cV] at h;cases h
  exact⟨h0,list 0 h0⟩
 | succ g ih=>
  suffices hU:∀σ a b r σ' tr V,cD σ→cV (g+1) σ a b=some (r,σ',tr)→lF V σ→gS V a→gS V b→lF V σ'∧∀m∈tr,m∈V from ⟨hU,list _ hU⟩
  intro σ a b r σ' tr V hg h hr ha hb
  obtain⟨_,ihL⟩:=ih
  obtain⟨rk,B,G⟩:=hg.rs
  obtain⟨fa,wa⟩:=G.wk a
  obtain⟨fb,wb⟩:=G.wk b
  have va:=wa.EO hr ha
  have vb:=wb.EO hr hb
  have bn:∀n (t:Tm) r σ' tr,n∈V→gS V t→iY σ n t=(r,σ',tr)→lF V σ'∧∀m∈tr,m∈V:=by
   intro n t r σ' tr hn ht h
   unfold iY at h
   split at h<;>cases h
   · exact⟨hr,fun _ h=>absurd h (dI)⟩
   · refine⟨fun m u hu=>?_,fun m hm=>by simp only[cP,dI,dN] at hm;rw[hm];exact hn⟩
     simp only[Sub.set] at hu
     split at hu
     · cases hu;exact ht
     · exact hr m u hu
  rw[cV] at h
  generalize wk σ a=a at *
  generalize wk σ b=b at *
  split at h
  · simp only[Option.some.injEq,Prod.mk.injEq] at h
    obtain⟨rfl,rfl,rfl⟩:=h
    exact⟨hr,fun _ h=>absurd h (dI)⟩
  · split at h
    · rename_i hk
      exact bn _ _ _ _ _ (va _ (by rw[Tm.CE hk];simp)) vb (lE h)
    · rename_i hka
      split at h
      · rename_i hk
        exact bn _ _ _ _ _ (vb _ (by rw[Tm.CE hk];simp)) va (lE h)
      · rename_i hkb
        split at h
        · rename_i hh
          exact ihL a.ts b.ts σ r σ' tr V hg (rO.1 hh).2.2.2 h hr (fun x hx=>va.IR hka hx) (fun y hy=>vb.IR hkb hy)
        · simp only[Option.some.injEq,Prod.mk.injEq] at h
          obtain⟨rfl,rfl,rfl⟩:=h
          exact⟨hr,fun _ h=>absurd h (dI)⟩
def cF(p:Tm→Prop)(σ:Sub):Prop:=∀n u,σ n=some u→p u
theorem KL{p:Tm→Prop}(hp:∀t:Tm,t.k≠1→p t→∀x∈t.ts,p x):∀(g:Nat),(∀σ a b r σ' tr,cD σ→cV g σ a b=some (r,σ',tr)→cF p σ→p a→p b→cF p σ') ∧
 ∀xs ys σ r σ' tr,cD σ→xs.length=ys.length→dM g σ xs ys=some (r,σ',tr)→cF p σ→(∀x∈xs,p x)→(∀y∈ys,p y)→cF p σ':=by
 intro g
 have list:∀g,(∀σ a b r σ' tr,cD σ→cV g σ a b=some (r,σ',tr)→cF p σ→p a→p b→cF p σ') →
  ∀xs ys σ r σ' tr,cD σ→xs.length=ys.length→dM g σ xs ys=some (r,σ',tr)→cF p σ→(∀x∈xs,p x)→(∀y∈ys,p y)→cF p σ':=by
  intro g ihU xs
  induction xs with
  | nil=>
   intro ys σ r σ' tr hg hl h hr _ _
   cases ys with
   | cons _ _=>simp at hl
   | nil=>
    simp only[dM,Option.some.injEq,Prod.mk.injEq] at h
    obtain⟨rfl,rfl,rfl⟩:=h
    exact hr
  | cons a xs ih=>
   intro ys σ r σ' tr hg hl h hr hx hy
   cases ys with
   | nil=>simp at hl
   | cons b ys=>
    rw[dM] at h
    cases h1:cV g σ a b with
    | none=>rw[h1] at h;cases h
    | some p=>
     obtain⟨r1,σ1,tr1⟩:=p
     have U1:=uY hg h1
     have i1:=ihU σ a b r1 σ1 tr1 hg h1 hr (hx a (by simp)) (hy b (by simp))
     rw[h1] at h
     cases r1 with
     | false=>
      simp only[Option.some.injEq,Prod.mk.injEq] at h
      obtain⟨rfl,rfl,rfl⟩:=h
      exact i1
     | true=>
      simp only at h
      cases h2:dM g σ1 xs ys with
      | none=>rw[h2] at h;cases h
      | some p2=>
       obtain⟨r2,σ2,tr2⟩:=p2
       rw[h2] at h
       simp only[Option.some.injEq,Prod.mk.injEq] at h
       obtain⟨rfl,rfl,rfl⟩:=h
       have j1:=ih ys σ1 r2 σ2 tr2 U1.gA (by simpa using hl) h2 i1 (fun x h=>hx x (by simp [h])) (fun y h=>hy y (by simp [h]))
       exact j1
 induction g with
 | zero=>
  have h0:∀σ a b r σ' tr,cD σ→cV 0 σ a b=some (r,σ',tr)→cF p σ→p a→p b→cF p σ':=fun σ a b r σ' tr hg h=>by simp only[cV] at h;cases h
  exact⟨h0,list 0 h0⟩
 | succ g ih=>
  suffices hU:∀σ a b r σ' tr,cD σ→cV (g+1) σ a b=some (r,σ',tr)→cF p σ→p a→p b→cF p σ' from ⟨hU,list _ hU⟩
  intro σ a b r σ' tr hg h hr ha hb
  obtain⟨_,ihL⟩:=ih
  obtain⟨rk,B,G⟩:=hg.rs
  obtain⟨fa,wa⟩:=G.wk a
  obtain⟨fb,wb⟩:=G.wk b
  have va:=wa.all hr ha
  have vb:=wb.all hr hb
  have bn:∀n (t:Tm) r σ' tr,p t→iY σ n t=(r,σ',tr)→cF p σ':=by
   intro n t r σ' tr ht h
   unfold iY at h
   split at h<;>cases h
   · exact hr
   · intro m u hu
     simp only[Sub.set] at hu
     split at hu
     · cases hu;exact ht
     · exact hr m u hu
  rw[cV] at h
  generalize wk σ a=a at *
  generalize wk σ b=b at *
  split at h
  · simp only[Option.some.injEq,Prod.mk.injEq] at h
    obtain⟨rfl,rfl,rfl⟩:=h
    exact hr
  · split at h
    · rename_i hk
      exact bn _ _ _ _ _ vb (lE h)
    · rename_i hka
      split at h
      · rename_i hk
        exact bn _ _ _ _ _ va (lE h)
      · rename_i hkb
        split at h
        · rename_i hh
          exact ihL a.ts b.ts σ r σ' tr hg (rO.1 hh).2.2.2 h hr (fun x hx=>hp _ hka va x hx) (fun y hy=>hp _ hkb vb y hy)
        · simp only[Option.some.injEq,Prod.mk.injEq] at h
          obtain⟨rfl,rfl,rfl⟩:=h
          exact hr
theorem aXP(V:List Int):∀(N M:Nat) (σ:Sub) (a b:Tm),cD σ→lF V σ→gS V a→gS V b→sA σ V≤N→(a.aJ (rs σ)).nodes≤M→∃g x,cV g σ a b=some x:=by
 intro N
 induction N using Nat.strongRecOn with
 | _ N ihN=>
 intro M
 induction M using Nat.strongRecOn with
 | _ M ihM=>
 intro σ a b hg hr ha hb hN hM
 have list:∀(xs ys:List Tm) (σ1:Sub),xs.length=ys.length→cD σ1→lF V σ1→(σ1=σ∨sA σ1 V<sA σ V)→(∀x∈xs,gS V x∧(x.aJ (rs σ)).nodes<M)→(∀y∈ys,gS V y)→∃g x,dM g σ1 xs ys=some x:=by
  intro xs
  induction xs with
  | nil=>
   intro ys σ1 hl _ _ _ _ _
   cases ys with
   | cons _ _=>simp at hl
   | nil=>exact⟨0,(true,σ1,[]),by simp only[dM]⟩
  | cons x xs ih=>
   intro ys σ1 hl hg1 hr1 hc hx hy
   cases ys with
   | nil=>simp at hl
   | cons y ys=>
    have h1:∃g p,cV g σ1 x y=some p:=by
     rcases hc with rfl | hlt
     · exact ihM _ (hx x (by simp)).2 σ1 x y hg1 hr1 (hx x (by simp)).1 (hy y (by simp)) hN (cQ _)
     · exact ihN (sA σ1 V) (by omega) _ σ1 x y hg1 hr1 (hx x (by simp)).1 (hy y (by simp)) (cQ _) (cQ _)
    obtain⟨g1,⟨r1,σ2,tr1⟩,h1⟩:=h1
    have U1:=uY hg1 h1
    obtain⟨i1,i2⟩:=(aKG g1).1 σ1 x y r1 σ2 tr1 V hg1 h1 hr1 (hx x (by simp)).1 (hy y (by simp))
    cases r1 with
    | false=>exact⟨g1,(false,σ2,tr1),by rw[dM,h1]⟩
    | true=>
     have hc2:σ2=σ∨sA σ2 V<sA σ V:=by
      cases htr:tr1 with
      | nil=>rw[U1.same htr];exact hc
      | cons m _=>
       have:=aXK (V:=V) U1.aV U1.new (m:=m) (by rw[htr];simp) (i2 m (by rw[htr];simp))
       rcases hc with rfl | hlt
       · exact .inr this
       · exact .inr (Nat.lt_trans this hlt)
     obtain⟨g2,p2,h2⟩:=ih ys σ2 (by simpa using hl) U1.gA i1 hc2 (fun z hz=>hx z (by simp [hz])) (fun z hz=>hy z (by simp [hz]))
     obtain⟨r2,σ3,tr2⟩:=p2
     refine⟨max g1 g2,(r2,σ3,tr1++tr2),?_⟩
     rw[dM,KK (Nat.le_max_left g1 g2) h1]
     simp only
     rw[aXR (Nat.le_max_right g1 g2) h2]
 obtain⟨rk,B,G⟩:=hg.rs
 obtain⟨fa,wa⟩:=G.wk a
 obtain⟨fb,wb⟩:=G.wk b
 have va:=wa.EO hr ha
 have vb:=wb.EO hr hb
 have hma:=wa.aJ G.uG
 rw[←hma] at hM
 by_cases h1:(wk σ a).k=1∧(wk σ b).k=1∧(wk σ a).n=(wk σ b).n
 · exact⟨1,_,by rw[cV,aK h1]⟩
 by_cases h2:(wk σ a).k=1
 · exact⟨1,_,by rw[cV,aG h1,aK h2]⟩
 by_cases h3:(wk σ b).k=1
 · exact⟨1,_,by rw[cV,aG h1,aG h2,aK h3]⟩
 by_cases h4:sT (wk σ a) (wk σ b)=true
 · have aR5:∀x∈(wk σ a).ts,gS V x∧(x.aJ (rs σ)).nodes<M:=fun x hx=>by
    refine⟨va.IR h2 hx,?_⟩
    rw[Tm.qA _ h2,Tm.jS] at hM
    have:=qF (f:=Tm.nodes) (cE.2 ⟨x,hx,rfl⟩:x.aJ (rs σ)∈(wk σ a).ts.map (Tm.aJ (rs σ)))
    omega
   obtain⟨g,x,h⟩:=list (wk σ a).ts (wk σ b).ts σ (rO.1 h4).2.2.2 hg hr (.inl rfl) aR5 (fun y hy=>vb.IR h3 hy)
   exact⟨g+1,x,by rw[cV,aG h1,aG h2,aG h3,aK h4];exact h⟩
 · exact⟨1,_,by rw[cV,aG h1,aG h2,aG h3,aG h4]⟩
mutual
def Tm.flat:Tm→Nat→Bool
 | .mk _ _ _ _,0=>false
 | .mk _ _ _ ts,d+1=>J4 ts d
def J4:List Tm→Nat→Bool
 | [],_=>true
 | t::ts,d=>t.flat d&&J4 ts d
end
theorem aJ0:∀(ts:List Tm) (d:Nat),J4 ts d=ts.all fun t=>t.flat d
 | [],_=>rfl
 | t::ts,d=>by simp only[J4,iS,aJ0 ts d]
theorem Tm.D5(t:Tm):t.flat 0=false:=by cases t;simp only[Tm.flat]
theorem Tm.t8(k n:Int)(s:ByteArray)(ts:List Tm)(d:Nat):(Tm.mk k n s ts).flat (d+1)=ts.all fun t=>t.flat d:=by simp only[Tm.flat,aJ0]
mutual
def Tm.iQ:Tm→Bool
 | .mk k n s ts=>eH k n s ts.length&&J8 ts
def J8:List Tm→Bool
 | []=>true
 | t::ts=>t.iQ&&J8 ts
end
theorem aJ4:∀(ts:List Tm),J8 ts=ts.all Tm.iQ
 | []=>rfl
 | t::ts=>by simp only[J8,iS,aJ4 ts]
theorem Tm.yB(k n:Int)(s:ByteArray)(ts:List Tm):(Tm.mk k n s ts).iQ=(eH k n s ts.length&&ts.all Tm.iQ):=by simp only[Tm.iQ,aJ4]
theorem RL{α:Type}(p q:α→Bool):∀l:List α,(l.all fun x=>p x&&q x)=(l.all p&&l.all q)
 | []=>rfl
 | x::l=>by simp only[iS,RL p q l];cases p x<;>cases q x<;>cases l.all p<;>simp
theorem Tm.aIM:∀(t:Tm) (d:Nat),t.shape (d:Int)=(t.iQ&&t.flat d):=by
 intro t
 induction t using Tm.ind with
 | h k n s ts ih=>
  intro d
  cases d with
  | zero=>rw[Tm.D5,wY,Tm.FC];try rfl
  | succ d=>
   rw[Tm.FC,Tm.yB,Tm.t8,show decide ((1:Int)≤((d+1:Nat):Int))=true by simp;omega,iL,Bool.and_assoc,←RL]
   congr 1
   rw[show(((d+1:Nat):Int) - 1)=(d:Int) by omega]
   have:∀l:List Tm,(∀x∈l,x∈ts)→(l.all fun t=>t.shape (d:Int))=l.all fun x=>x.iQ&&x.flat d:=by
    intro l
    induction l with
    | nil=>intro _;rfl
    | cons x l ihl=>intro h;rw[iS,iS,ih x (h x (by simp)),ihl fun y hy=>h y (by simp [hy])]
   exact this ts fun _ h=>h
theorem Tm.aXX{t:Tm}(h:t.valid=true):t.iQ=true:=by
 simp only[Tm.valid,cK] at h
 have:=h.1
 rw[show(30:Int)=((30:Nat):Int) from rfl,Tm.aIM,cK] at this
 exact this.1
theorem Tm.aKK{t:Tm}(h:t.iQ=true):t.valid=(t.flat 30&&decide (t.nodes≤120)):=by
 unfold Tm.valid
 rw[show(30:Int)=((30:Nat):Int) from rfl,Tm.aIM,h,iL]
theorem Tm.I1{k n:Int}{s:ByteArray}{ts:List Tm}(h:(Tm.mk k n s ts).iQ=true):eH k n s ts.length=true∧∀x∈ts,x.iQ=true:=by
 rw[Tm.yB,cK] at h
 exact⟨h.1,eL.1 h.2⟩
theorem aHV{n:Int}{s:ByteArray}{len:Int}(h:eH 1 n s len=true):0≤n∧n≤25∧s=⟨#[]⟩∧len=0:=by
 simp [eH] at h
 exact⟨h.1.1.1,h.1.1.2,h.1.2,h.2⟩
theorem aUV{k n:Int}{s:ByteArray}{len:Int}(h:eH k n s len=true):(k=1∨k=2∨k=3)∧len≤4:=by
 unfold eH at h
 by_cases h1:k=1
 · simp [h1] at h;omega
 · by_cases h2:k=2
   · simp [h2] at h;omega
   · by_cases h3:k=3
     · simp [h3] at h;omega
     · simp [h1,h2,h3] at h
theorem Tm.aUP:∀(t:Tm),t.iQ=true→t.cv=true:=by
 intro t
 induction t using Tm.ind with
 | h k n s ts ih=>
  intro h
  obtain⟨h1,h2⟩:=Tm.I1 h
  refine Tm.oU.2 ⟨fun hk=>?_,fun x hx=>ih x hx (h2 x hx)⟩
  subst hk
  obtain⟨_,_,h3,h4⟩:=aHV h1
  exact⟨h3,qQ (by omega)⟩
def zO:List Int:=(List.range 26).map fun i:Nat=>(i:Int)
theorem ET{n:Int}:n∈zO↔0≤n∧n≤25:=by
 simp only[zO,cE,vG]
 constructor
 · rintro⟨i,h,rfl⟩;omega
 · intro h;exact⟨n.toNat,by omega,by omega⟩
theorem Tm.aUQ:∀(t:Tm),t.iQ=true→gS zO t:=by
 intro t
 induction t using Tm.ind with
 | h k n s ts ih=>
  intro h v hv
  obtain⟨h1,h2⟩:=Tm.I1 h
  by_cases hk:k=1
  · rw[Tm.mH hk] at hv
    simp only[cP,dI,dN] at hv
    subst hv hk
    obtain⟨h3,h4,_⟩:=aHV h1
    exact ET.2 ⟨h3,h4⟩
  · obtain⟨x,hx,hvx⟩:=(Tm.kL hk).1 hv
    exact ih x hx (h2 x hx) v hvx
theorem aUB{f:Int→Tm}:∀(t:Tm),t.iQ=true→(∀v∈t.vl,(f v).iQ=true)→(t.aJ f).iQ=true:=by
 intro t
 induction t using Tm.ind with
 | h k n s ts ih=>
  intro h hf
  obtain⟨h1,h2⟩:=Tm.I1 h
  by_cases hk:k=1
  · rw[Tm.l9 f hk];exact hf n (by rw[Tm.mH hk];simp)
  · rw[Tm.kX f hk,Tm.yB,aE,h1,iL,List.all_map,eL]
    exact fun x hx=>ih x hx (h2 x hx) fun v hv=>hf v ((Tm.kL hk).2 ⟨x,hx,hv⟩)
theorem aKO{n:Int}(h:n∈zO):(vr n).iQ=true:=by
 rw[ET] at h
 rw[vr,Tm.yB]
 simp [eH,h]
theorem aXN{g g':Nat}{σ:Sub}{a b:Tm}{x y:Bool×Sub×List Int}(h:cV g σ a b=some x)(h':cV g' σ a b=some y):x=y:=by
 have h1:=KK (Nat.le_max_left g g') h
 rw[KK (Nat.le_max_right g g') h'] at h1
 exact(lE h1).symm
structure aYG (a b:Tm) (r:Bool) (σ:Sub) (tr:List Int):Prop where
 run:∃g,cV g Sub.none a b=some (r,σ,tr)
 mG:m7 Sub.none [a] [b] r σ tr
 iQ:cF (fun t=>t.iQ=true) σ
 EO:lF zO σ
 trV:∀m∈tr,m∈zO
theorem aHH:∀ {l V:List Int},l.Nodup→(∀x∈l,x∈V)→l.length≤V.length
 | [],_,_,_=>lY _
 | x::l,V,h,hV=>by
  rw[w6] at h
  have hx:=hV x (by simp)
  have:=aHH (V:=V.erase x) h.2 fun y hy=>(List.mem_erase_of_ne (by rintro rfl;exact h.1 hy)).2 (hV y (by simp [hy]))
  rw[List.length_erase_of_mem hx] at this
  have:=List.length_pos_of_mem hx
  simp only[bA]
  omega
structure aYA (a b:Tm) (bs:List Bd):Prop where
 va:a.valid=true
 vb:b.valid=true
 vs:(bs.all fun x=>x.2.valid)=true
 eq:a.aJ (O8 bs)=b.aJ (O8 bs)
 idem:∀x∈bs,x.2.aJ (O8 bs)=x.2
 sorted:bs.Pairwise fun x y=>x.1<y.1
abbrev zt:AV:=.agg [.int .i64 0,.int .i64 0,.str ⟨#[]⟩,.fslice []]
def mapOf(σ:Sub):Int→Option AV:=fun n=>(σ n).map Tm.av
def found:Option Tm→AV
 | some u=>.tup [u.av,.bool true]
 | none=>.tup [zt,.bool false]
theorem aT1{P:Program}{st:aA}{m:Nat}{σ:Sub}{t kt et:TypeId}{n:Int}(hm:st m=some (.map (mapOf σ)))(hu:P.underlying t=some (.map kt et))(hk:P.underlying kt=some (.int .i64))(hz:zV P et=some zt) :
 nR P st t true (.map m) (.int .i64 n)=some (found (σ n)):=by
 unfold nR
 simp only[hm,hu,hk,mapOf]
 cases h:σ n with
 | none=>simp [hz,found,AV.b9]
 | some u=>simp [found,Tm.eO]
theorem aXU{P:Program}{st:aA}{m:Nat}{σ:Sub}{t kt et:TypeId}{n:Int}{u:Tm}{K:AV→aA→Prop}(hm:st m=some (.map (mapOf σ)))(hu:P.underlying t=some (.map kt et))(hk:P.underlying kt=some (.int .i64))
 (h:K .undef (st.aC m (.map (mapOf (σ.set n u))))):qY P t st (.map m) (.int .i64 n) u.av K:=by
 unfold qY
 simp only[hu,hm,hk]
 refine⟨Tm.eO u,?_⟩
 have:mS (mapOf σ) n (some u.av)=mapOf (σ.set n u):=by
  funext x
  unfold mS mapOf Sub.set
  split<;>rfl
 rw[this]
 exact h
structure gV (st:aA) (c m:Nat) (q:AV) (σ:Sub):Prop where
 cells:st c=some (.cells [.map m,q])
 map:st m=some (.map (mapOf σ))
theorem gV.aC{st:aA}{c m b:Nat}{q:AV}{σ:Sub}{o:AO}(h:gV st c m q σ)(hb:st b=none):gV (st.aC b o) c m q σ:=
 ⟨(by rw[aA.aF _ _ (by rintro rfl;rw[h.cells] at hb;cases hb)];exact h.cells),(by rw[aA.aF _ _ (by rintro rfl;rw[h.map] at hb;cases hb)];exact h.map)⟩
theorem gV.KM{st:aA}{c m b:Nat}{q:AV}{σ:Sub}{o:AO}(h:gV st c m q σ)(h1:b≠c)(h2:b≠m):gV (st.aC b o) c m q σ:=
 ⟨(by rw[aA.aF _ _ (dA h1)];exact h.cells),by rw[aA.aF _ _ (dA h2)];exact h.map⟩
theorem gV.ne{st:aA}{c m b:Nat}{q:AV}{σ:Sub}(h:gV st c m q σ)(hb:st b=none):b≠c∧b≠m:=⟨(by rintro rfl;rw[h.cells] at hb;cases hb),(by rintro rfl;rw[h.map] at hb;cases hb)⟩
theorem gV.cm{st:aA}{c m:Nat}{q:AV}{σ:Sub}(h:gV st c m q σ):c≠m:=by rintro rfl;have:=h.cells;rw[h.map] at this;cases this
def kY(M:List Int):Int→Option AV:=fun x=>if x∈M then some (.bool true) else none
theorem aT0{P:Program}{st:aA}{mm:Nat}{M:List Int}{t kt et:TypeId}{n:Int}(hm:st mm=some (.map (kY M)))(hu:P.underlying t=some (.map kt et))(hk:P.underlying kt=some (.int .i64))(hz:zV P et=some (.bool false)) :
 nR P st t false (.map mm) (.int .i64 n)=some (.bool (decide (n∈M))):=by
 unfold nR
 simp only[hm,hu,hk,kY]
 by_cases h:n∈M
 · simp [h,AV.b9]
 · simp [h,hz,AV.b9]
theorem aXS{P:Program}{st:aA}{mm:Nat}{M:List Int}{t kt et:TypeId}{n:Int}{K:AV→aA→Prop}(hm:st mm=some (.map (kY M)))(hu:P.underlying t=some (.map kt et))(hk:P.underlying kt=some (.int .i64))
 (h:K .undef (st.aC mm (.map (kY (n::M))))):qY P t st (.map mm) (.int .i64 n) (.bool true) K:=by
 unfold qY
 simp only[hu,hm,hk]
 refine⟨rfl,?_⟩
 have:mS (kY M) n (some (.bool true))=kY (n::M):=by
  funext x
  unfold mS kY
  by_cases e:x=n
  · simp [e]
  · simp [e]
 rw[this]
 exact h
theorem aUD:kY []=fun _=>none:=by funext x;simp [kY]
theorem QG(t:Tm):t.wf=true→∀l:List Int,(∀v,v∈t.vars l↔v∈l∨v∈t.vl)∧(l.Nodup→(t.vars l).Nodup)∧∃m,t.vars l=l++m:=by
 induction t using Tm.ind with
 | h k n s ts ih=>
  intro h l
  obtain⟨hk,hw⟩:=Tm.QH h
  have list:∀xs:List Tm,(∀x∈xs,x∈ts)→∀l:List Int,(∀v,v∈bR xs l↔v∈l∨∃x∈xs,v∈x.vl)∧(l.Nodup→(bR xs l).Nodup)∧∃m,bR xs l=l++m:=by
   intro xs
   induction xs with
   | nil=>intro _ l;exact⟨by simp [bR],fun h=>h,[],by simp [bR]⟩
   | cons x xs ihx=>
    intro hs l
    obtain⟨a1,a2,m1,a3⟩:=ih x (hs x (by simp)) (hw x (hs x (by simp))) l
    obtain⟨b1,b2,m2,b3⟩:=ihx (fun y hy=>hs y (by simp [hy])) (x.vars l)
    simp only[bR]
    refine⟨fun v=>?_,fun hn=>b2 (a2 hn),m1++m2,by rw[b3,a3,lA]⟩
    rw[b1,a1]
    simp [or_assoc]
  rw[Tm.vars]
  by_cases hk1:k=1
  · obtain rfl:=hk hk1
    rw[Tm.mH hk1]
    simp only[bR]
    split
    · rename_i hc
      refine⟨fun v=>by simp,fun hn=>?_,[n],rfl⟩
      rw[jN]
      refine⟨hn,by simp,fun x hx y hy e=>?_⟩
      simp only[cP,dI,dN] at hy
      subst hy e
      exact hc.2 hx
    · rename_i hc
      refine⟨fun v=>?_,fun hn=>hn,[],by simp⟩
      have hm:n∈l:=y9 fun h=>hc ⟨hk1,h⟩
      simp only[cP,dI,dN]
      exact⟨.inl,fun h=>h.elim id fun e=>e▸hm⟩
  · rw[aG (by simp [hk1])]
    obtain⟨c1,c2,c3⟩:=list ts (fun _ h=>h) l
    exact⟨fun v=>by rw[c1,Tm.kL hk1],c2,c3⟩
theorem Tm.aXZ{v:Int}:∀(t:Tm) (l:List Int),t.cv=true→(v∈t.vars l↔v∈l∨v∈t.vl):=by
 intro t
 induction t using Tm.ind with
 | h k n s ts ih=>
  intro l hcv
  obtain⟨h1,h2⟩:=Tm.oU.1 hcv
  have key:∀(ts:List Tm) (l:List Int),(∀t∈ts,∀l,v∈t.vars l↔v∈l∨v∈t.vl)→(v∈bR ts l↔v∈l∨∃t∈ts,v∈t.vl):=by
   intro ts
   induction ts with
   | nil=>intro l _;simp [bR]
   | cons t ts iht=>
    intro l h
    simp only[bR]
    rw[iht _ (fun x hx=>h x (by simp [hx])),h t (by simp)]
    simp [or_assoc]
  simp only[Tm.vars]
  rw[key ts _ (fun t ht l=>ih t ht l (h2 t ht))]
  by_cases hk:k=1
  · obtain⟨rfl,rfl⟩:=h1 hk
    rw[Tm.mH hk]
    by_cases hn:n∈l
    · simp [hk,hn];exact fun e=>e▸hn
    · simp [hk,hn]
  · rw[Tm.kL hk];simp [hk]
theorem wR{v:Int}:∀(ts:List Tm) (l:List Int),(∀t∈ts,t.cv=true)→(v∈bR ts l↔v∈l∨∃t∈ts,v∈t.vl)
 | [],l,_=>by simp [bR]
 | t::ts,l,h=>by
  simp only[bR]
  rw[wR ts _ (fun x hx=>h x (by simp [hx])),Tm.aXZ t l (h t (by simp))]
  simp [or_assoc]
theorem aX3{σ:Sub}{R:Int→Tm}{rk:Int→Nat}{B:Nat}(G:Good σ R rk B){n:Int}{W:List Int}(hW:∀w∈W,w≠n∧∀u,σ w=some u→∀v∈u.vl,v∈W):∀w∈W,n∉(R w).vl:=by
 refine fun w=>G.ind (p:=fun w=>w∈W→n∉(R w).vl) (fun w h hw hm=>?_) (fun w u h ih hw hm=>?_) w
 · rw[G.free h,wU] at hm
   simp only[cP,dI,dN] at hm
   exact(hW w hw).1 hm.symm
 · rw[G.bound h] at hm
   obtain⟨v,hv,hnv⟩:=(wT u).1 hm
   exact ih v hv ((hW w hw).2 u h v hv) hnv
theorem aQM{w:Nat}{l:List AV}{i:Nat}{e:AV}(hw:∀e∈l,e.width=w)(h:l[i]?=some e) :
 ∃A B,l.flatMap AV.cells=A++e.cells++B∧A.length=i*w∧∀e',(l.set i e').flatMap AV.cells=A++e'.cells++B:=by
 obtain⟨hi,he⟩:=fD.1 h
 refine⟨(l.take i).flatMap AV.cells,(l.drop (i+1)).flatMap AV.cells,?_,?_,fun e'=>?_⟩
 · have:l=l.take i++e::l.drop (i+1):=by rw[←he,←nO hi,qS]
   conv=>lhs;rw[this]
   simp
 · rw[nX (fun e he=>hw e (nP he)),dY,kC (by omega)]
 · rw[List.set_eq_take_append_cons_drop,aK hi]
   simp
def cellOf:Option Tm→AV
 | some u=>u.av
 | none=>zt
theorem G2(o:Option Tm):(cellOf o).width=4:=by cases o<;>first | rfl | exact aN _
theorem aPA(o:Option Tm):(cellOf o).cells.length=4:=by rw[sI,G2]
theorem N4:∀t:Tm,t.cv=true→t.aJ vr=t:=by
 intro t
 induction t using Tm.ind with
 | h k n s ts ih=>
  intro h
  obtain⟨h1,h2⟩:=Tm.oU.1 h
  by_cases hk:k=1
  · obtain⟨rfl,rfl⟩:=h1 hk
    rw[Tm.l9 vr hk,hk];try rfl
  · rw[Tm.kX vr hk]
    congr 1
    have:∀l:List Tm,(∀x∈l,x∈ts)→l.map (Tm.aJ vr)=l:=by
     intro l
     induction l with
     | nil=>intro _;rfl
     | cons x l ihl=>intro hl;rw[bH,ih x (hl x (by simp)) (h2 x (hl x (by simp))),ihl fun y hy=>hl y (by simp [hy])]
    exact this ts fun _ h=>h
def oE(l:List Tm):List Tm:=l.map fun t=>t.aJ fun v=>vr (eE v (bR l []) 0)
theorem aXY{D:Int→Prop}{h:Int→Int}(inj:∀v w,D v→D w→h v=h w→v=w){f:Int→Tm}(hf:∀v,D v→f v=vr (h v)) :
 ∀(t:Tm),t.wf=true→(∀v∈t.vl,D v)→∀l:List Int,(∀v∈l,D v)→(t.aJ f).vars (l.map h)=(t.vars l).map h∧∀v∈t.vars l,D v:=by
 intro t
 induction t using Tm.ind with
 | h k n s ts ih=>
  intro hw hD l hl
  obtain⟨hk1,hws⟩:=Tm.QH hw
  by_cases hk:k=1
  · obtain rfl:=hk1 hk
    have hDn:D n:=hD n (by rw[Tm.mH hk];simp)
    have fV:h n∈l.map h↔n∈l:=by
     rw[cE]
     exact⟨fun⟨m,hm,e⟩=>by rw[←inj m n (hl m hm) hDn e];exact hm,fun hm=>⟨n,hm,rfl⟩⟩
    rw[Tm.l9 f hk,hf n hDn,vr,Tm.vars,Tm.vars]
    simp only[bR,hk,true_and,fV]
    split
    · exact⟨by simp,fun v hv=>by
       rcases dQ.1 hv with hv | hv
       · exact hl v hv
       · simp only[cP,dI,dN] at hv;rw[hv];exact hDn⟩
    · exact⟨rfl,hl⟩
  · rw[Tm.kX f hk,Tm.vars,Tm.vars,aG (fun h=>hk h.1),aG (fun h=>hk h.1)]
    have:∀xs:List Tm,(∀x∈xs,x∈ts)→∀l:List Int,(∀v∈l,D v)→bR (xs.map (Tm.aJ f)) (l.map h)=(bR xs l).map h∧∀v∈bR xs l,D v:=by
     intro xs
     induction xs with
     | nil=>intro _ l hl;exact⟨rfl,hl⟩
     | cons x xs ihx=>
      intro hs l hl
      have hx:=hs x (by simp)
      obtain⟨e1,e2⟩:=ih x hx (hws x hx) (fun v hv=>hD v ((Tm.kL hk).2 ⟨x,hx,hv⟩)) l hl
      simp only[bH,bR]
      rw[e1]
      exact ihx (fun y hy=>hs y (by simp [hy])) _ e2
    exact this ts (fun _ h=>h) l hl
theorem aGV{D:Int→Prop}{h:Int→Int}(inj:∀v w,D v→D w→h v=h w→v=w)(v:Int)(hv:D v):∀(l:List Int) (i:Int),(∀w∈l,D w)→eE (h v) (l.map h) i=eE v l i
 | [],i,_=>rfl
 | x::l,i,hl=>by
  simp only[bH,eE]
  by_cases e:v=x
  · rw[aK e,aK (by rw[e])]
  · rw[aG e,aG (fun e2=>e (inj v x hv (hl x (by simp)) e2))]
    exact aGV inj v hv l (i+1) fun w hw=>hl w (by simp [hw])
def oP:List ByteArray:=[⟨#[43]⟩,⟨#[45]⟩,⟨#[42]⟩,⟨#[47,47]⟩,⟨#[109,111,100]⟩]
def pX:List ByteArray:=[⟨#[60]⟩,⟨#[62]⟩,⟨#[61,60]⟩,⟨#[62,61]⟩,⟨#[61,58,61]⟩]
def fK(l:List ByteArray)(s:ByteArray):Bool:=l.any fun x=>decide (s=x)
def iA(n:Int):Int×Int:=if -999≤n∧n≤999 then(n,0) else(0,5)
def oW(a b:Int):Int:=if a.tmod b≠0∧decide (a.tmod b<0)≠decide (b<0) then a.tmod b+b else a.tmod b
def pU(s:ByteArray)(a b:Int):Int×Int:=
 if s=⟨#[43]⟩ then iA (a+b) else if s=⟨#[45]⟩ then iA (a - b) else if s=⟨#[42]⟩ then iA (a*b) else if b=0 then(0,4) else if s=⟨#[109,111,100]⟩ then(oW a b,0) else(a.tdiv b,0)
def both(f:Int→Int→Int×Int)(x y:Int×Int):Int×Int:=if x.2≠0 then(0,x.2) else if y.2≠0 then(0,y.2) else f x.1 y.1
def two(f:Int→Int→Int×Int):List (Int×Int)→Int×Int
 | [x,y]=>both f x y
 | _=>(0,3)
mutual
def Tm.ev:Tm→Int×Int
 | .mk k n s ts=>if k=2 then(n,0) else if k=1 then(0,2) else if fK oP s=true then two (pU s) (J3 ts) else(0,3)
def J3:List Tm→List (Int×Int)
 | []=>[]
 | t::ts=>t.ev::J3 ts
end
theorem aJZ:∀ts:List Tm,J3 ts=ts.map Tm.ev
 | []=>rfl
 | t::ts=>by simp only[J3,bH,aJZ ts]
theorem Tm.vZ(k n:Int)(s:ByteArray)(ts:List Tm):(Tm.mk k n s ts).ev=if k=2 then(n,0) else if k=1 then(0,2) else if fK oP s=true then two (pU s) (ts.map Tm.ev) else(0,3):=by simp only[Tm.ev,aJZ]
theorem J0(a b:Int)(hb:b≠0):(0<b→-b<a.tmod b∧a.tmod b<b)∧(b<0→b<a.tmod b∧a.tmod b< -b):=by
 have h1:=KU (-a) (b:=b)
 have h2:=KU a (b:=b)
 have h3:=KU (-a) (b:= -b)
 have h4:=KU a (b:= -b)
 rw[Int.tmod_neg] at h3 h4
 rw[Int.neg_tmod] at h1 h3
 constructor
 · intro h;exact⟨by have:=h1 h;omega,h2 h⟩
 · intro h;exact⟨by have:=h3 (by omega);omega,h4 (by omega)⟩
theorem tdiv_le(a b:Int)(ha: -999≤a∧a≤999): -999≤a.tdiv b∧a.tdiv b≤999:=by
 have:(a.tdiv b).natAbs≤a.natAbs:=by rw[Int.natAbs_tdiv];exact Nat.div_le_self _ _
 omega
theorem OT(n:Int): -999≤(iA n).1∧(iA n).1≤999:=by unfold iA;split<;>simp_all
theorem aFC(a b:Int)(ha: -999≤a∧a≤999)(hb: -999≤b∧b≤999)(h0:b≠0): -999≤oW a b∧oW a b≤999:=by
 have h1:=J0 a b h0
 unfold oW
 split
 · rename_i h
   have h2:=h.2
   by_cases hb':b<0
   · have:¬a.tmod b<0:=by intro hc;simp [hb',hc] at h2
     have:=h1.2 hb'
     omega
   · have:a.tmod b<0:=by
      apply y9;intro hc;simp [hb',hc] at h2
     have:=h1.1 (by omega)
     omega
 · rcases Int.lt_or_gt_of_ne h0 with h | h
   · have:=h1.2 h;omega
   · have:=h1.1 h;omega
theorem RJ(m b:Int)(h1:0≤m)(h2:m<b):(m+b).tmod b=m:=by
 obtain⟨x,rfl⟩:∃x:Nat,m=x:=⟨m.toNat,by omega⟩
 obtain⟨y,rfl⟩:∃y:Nat,b=y:=⟨b.toNat,by omega⟩
 rw[show(x:Int)+(y:Int)=((x+y:Nat):Int) by omega,←Int.ofNat_tmod,Nat.add_mod_right,Nat.mod_eq_of_lt (by omega)]
theorem aQN(a b:Int)(h0:b≠0):(a.tmod b+b).tmod b=oW a b:=by
 have h1:=J0 a b h0
 have hs:∀x:Int,0≤x→x<b→x.tmod b=x:=fun x h2 h3=>Int.tmod_eq_of_lt h2 h3
 have hn:∀x:Int,x≤0→b<x→x.tmod b=x:=fun x h2 h3=>by
  have:=Int.tmod_eq_of_lt (a:= -x) (b:= -b) (by omega) (by omega)
  rw[Int.tmod_neg,Int.neg_tmod] at this
  omega
 unfold oW
 generalize a.tmod b=m at *
 by_cases hb:b<0
 · have h2:=h1.2 hb
   by_cases hm:m<0
   · rw[aG (by simp [hb,hm])]
     rw[show m+b=b+m by omega]
     have e:(b+m).tmod b=((-b)+(-m)).tmod (-b)*(-1):=by
      rw[show(-b)+(-m)= -(b+m) by omega,Int.neg_tmod,Int.tmod_neg];omega
     rw[e,Int.add_comm,RJ (-m) (-b) (by omega) (by omega)]
     omega
   · by_cases hm0:m=0
     · subst hm0;rw[aG (by simp),Int.zero_add,Int.tmod_self]
     · rw[aK ⟨hm0,by simp [hb,hm]⟩]
       exact hn _ (by omega) (by omega)
 · have h2:=h1.1 (by omega)
   by_cases hm:m<0
   · rw[aK ⟨by omega,by simp [hb,hm]⟩]
     exact hs _ (by omega) (by omega)
   · rw[aG (by simp [hb,hm])]
     rw[RJ m b (by omega) (by omega)]
def cB(N:Int)(t:Tm):Prop:=(t.aJ fun _=>vr 0).iQ=true∧t.cv=true∧∀v∈t.vl,0≤v∧v<N
theorem cB.mono{N M:Int}{t:Tm}(h:cB N t)(hm:N≤M):cB M t:=⟨h.1,h.2.1,fun v hv=>⟨(h.2.2 v hv).1,by have:=(h.2.2 v hv).2;omega⟩⟩
theorem cB.own{N k n:Int}{s:ByteArray}{ts:List Tm}(h:cB N (.mk k n s ts))(hk:k≠1):eH k n s ts.length=true∧∀x∈ts,cB N x:=by
 obtain⟨h1,h2,h3⟩:=h
 rw[Tm.kX _ hk] at h1
 obtain⟨h4,h5⟩:=Tm.I1 h1
 rw[aE] at h4
 exact⟨h4,fun x hx=>⟨h5 _ (cE.2 ⟨x,hx,rfl⟩),(Tm.oU.1 h2).2 x hx,fun v hv=>h3 v ((Tm.kL hk).2 ⟨x,hx,hv⟩)⟩⟩
theorem cB.var{N n:Int}{s:ByteArray}{ts:List Tm}(h:cB N (.mk 1 n s ts)):0≤n∧n<N∧s=⟨#[]⟩∧ts= []:=by
 obtain⟨_,h2,h3⟩:=h
 obtain⟨h4,h5⟩:=(Tm.oU.1 h2).1 rfl
 obtain⟨h6,h7⟩:=h3 n (by rw[Tm.mH rfl];simp)
 exact⟨h6,h7,h4,h5⟩
theorem I2(N:Int):∀t:Tm,t.k≠1→cB N t→∀x∈t.ts,cB N x:=fun t hk h x hx=>by
 cases t
 exact(h.own hk).2 x hx
theorem cB.kind{N k n:Int}{s:ByteArray}{ts:List Tm}(h:cB N (.mk k n s ts)):(k=1∨k=2∨k=3)∧ts.length≤4:=by
 by_cases hk:k=1
 · subst hk
   rw[h.var.2.2.2]
   simp
 · have:=aUV (h.own hk).1
   omega
theorem aUU{n:Int}{s:ByteArray}{len:Int}(h:eH 2 n s len=true): -999≤n∧n≤999:=by
 simp [eH] at h
 omega
theorem cB.all{N k n:Int}{s:ByteArray}{ts:List Tm}(h:cB N (.mk k n s ts)):(k=2→-999≤n∧n≤999)∧∀x∈ts,cB N x:=by
 by_cases hk:k=1
 · subst hk
   rw[h.var.2.2.2]
   simp
 · obtain⟨h1,h2⟩:=h.own hk
   refine⟨fun h2=>?_,h2⟩
   subst h2
   exact aUU h1
theorem cB.small{N:Int}:∀ {t:Tm},cB N t→t.small=true:=by
 intro t
 induction t using Tm.ind with
 | h k n s ts ih=>
  intro h
  have h4:=h.kind.2
  simp only[Tm.small,FT,cK,bL,eL]
  refine⟨by omega,fun x hx=>?_⟩
  by_cases hk:k=1
  · subst hk;rw[h.var.2.2.2] at hx;cases hx
  · exact ih x hx ((h.own hk).2 x hx)
theorem cB.aJ{N M:Int}{f:Int→Tm}{t:Tm}(h:cB N t)(hf:∀v∈t.vl,cB M (f v)):cB M (t.aJ f):=by
 induction t using Tm.ind with
 | h k n s ts ih=>
  by_cases hk:k=1
  · rw[Tm.l9 f hk];exact hf n (by rw[Tm.mH hk];simp)
  · obtain⟨h1,h2⟩:=h.own hk
    have key:∀x∈ts,cB M (x.aJ f):=fun x hx=>ih x hx (h2 x hx) fun v hv=>hf v ((Tm.kL hk).2 ⟨x,hx,hv⟩)
    rw[Tm.kX f hk]
    refine⟨?_,Tm.oU.2 ⟨fun h=>absurd h hk,fun y hy=>?_⟩,fun v hv=>?_⟩
    · rw[Tm.kX _ hk,Tm.yB,aE,aE,h1,iL,eL]
      intro y hy
      simp only[vF,cE,CF] at hy
      obtain⟨x,hx,rfl⟩:=hy
      exact(key x hx).1
    · obtain⟨x,hx,rfl⟩:=cE.1 hy
      exact(key x hx).2.1
    · obtain⟨y,hy,hv⟩:=(Tm.kL hk).1 hv
      obtain⟨x,hx,rfl⟩:=cE.1 hy
      exact(key x hx).2.2 v hv
theorem E0{N n:Int}(h0:0≤n)(h1:n<N):cB N (vr n):=by
 refine⟨by rw[uI];exact aKO (ET.2 (by omega)),Tm.oU.2 ⟨fun _=>⟨rfl,rfl⟩,by simp⟩,fun v hv=>?_⟩
 rw[wU] at hv
 simp only[cP,dI,dN] at hv
 omega
theorem aHT{t:Tm}:t.iQ=true↔cB 26 t:=by
 constructor
 · intro h
   refine⟨aUB t h fun v _=>aKO (ET.2 (by omega)),Tm.aUP t h,fun v hv=>?_⟩
   have:=ET.1 (Tm.aUQ t h v hv)
   omega
 · induction t using Tm.ind with
   | h k n s ts ih=>
    intro h
    rw[Tm.yB]
    by_cases hk:k=1
    · subst hk
      obtain⟨h0,h1,rfl,rfl⟩:=h.var
      have h1':n≤25:=by omega
      simp [eH,h0,h1']
    · obtain⟨h1,h2⟩:=h.own hk
      rw[h1,iL,eL]
      exact fun x hx=>ih x hx (h2 x hx)
theorem Tm.F0{t:Tm}(h:t.valid=true):cB 26 t:=aHT.1 (Tm.aXX h)
theorem Good.kZ{σ:Sub}{R:Int→Tm}{rk:Int→Nat}{B:Nat}(G:Good σ R rk B){N:Int}(ho:cF (cB N) σ):∀n,0≤n→n<N→cB N (R n):=by
 refine fun n=>G.ind (p:=fun n=>0≤n→n<N→cB N (R n)) (fun n h h0 h1=>?_) (fun n u h ih h0 h1=>?_) n
 · rw[G.free h];exact E0 h0 h1
 · rw[G.bound h]
   exact(ho n u h).aJ fun v hv=>ih v hv ((ho n u h).2.2 v hv).1 ((ho n u h).2.2 v hv).2
theorem Good.OD{σ:Sub}{R:Int→Tm}{rk:Int→Nat}{B:Nat}(G:Good σ R rk B){N:Int}(ho:cF (cB N) σ){t:Tm}(h:cB N t):cB N (t.aJ R):=
 h.aJ fun v hv=>G.kZ ho v (h.2.2 v hv).1 (h.2.2 v hv).2
def a9(N:Int)(t:Tm):Prop:=cB N t∧t.nodes≤120
theorem qD(N:Int):∀t:Tm,t.k≠1→a9 N t→∀x∈t.ts,a9 N x:=fun t hk h x hx=>by
 refine⟨I2 N t hk h.1 x hx,?_⟩
 have h2:=h.2
 cases t
 rw[Tm.jS] at h2
 have:=qF (f:=Tm.nodes) hx
 simp only[Tm.ts] at this
 omega
theorem a9.mono{N M:Int}{t:Tm}(h:a9 N t)(hm:N≤M):a9 M t:=⟨h.1.mono hm,h.2⟩
theorem cF.kZ{N:Int}{σ:Sub}(h:cF (a9 N) σ):cF (cB N) σ:=fun n u e=>(h n u e).1
theorem cF.imp{p q:Tm→Prop}{σ:Sub}(h:cF p σ)(hpq:∀t,p t→q t):cF q σ:=fun n u e=>hpq u (h n u e)
open Classical in
noncomputable def iE(σ:Sub)(a b:Tm):Bool×Sub×List Int:=if h:∃x g,cV g σ a b=some x then h.choose else(false,σ,[])
theorem aKF{g:Nat}{σ:Sub}{a b:Tm}{x:Bool×Sub×List Int}(h:cV g σ a b=some x):iE σ a b=x:=by
 unfold iE
 have h':∃x g,cV g σ a b=some x:=⟨x,g,h⟩
 rw[dif_pos h']
 obtain⟨g',h''⟩:=h'.choose_spec
 exact aXN h'' h
def VN(N:Nat):List Int:=(List.range N).map fun i:Nat=>(i:Int)
theorem uJ{N:Nat}{n:Int}:n∈VN N↔0≤n∧n<N:=by
 simp only[VN,cE,vG]
 constructor
 · rintro⟨i,h,rfl⟩;omega
 · intro h;exact⟨n.toNat,by omega,by omega⟩
theorem BL{N:Nat}{tr:List Int}(h:tr.Nodup)(hV:∀m∈tr,0≤m∧m<N):tr.length≤N:=by
 have:=aHH (V:=VN N) h fun x hx=>uJ.2 (hV x hx)
 simpa [VN] using this
structure xC (N:Int) (σ:Sub) (a b:Tm) (r:Bool) (σ':Sub) (tr:List Int):Prop where
 run:∃g,cV g σ a b=some (r,σ',tr)
 eq:iE σ a b=(r,σ',tr)
 mG:m7 σ [a] [b] r σ' tr
 ok:cF (a9 N) σ'
 fK:∀m∈tr,0≤m∧m<N
theorem sB{N:Nat}{σ:Sub}{a b:Tm}(hg:cD σ)(ho:cF (a9 N) σ)(ha:a9 N a)(hb:a9 N b):∃r σ' tr,xC N σ a b r σ' tr:=by
 have hin:∀ {t:Tm},a9 N t→gS (VN N) t:=fun h v hv=>uJ.2 (h.1.2.2 v hv)
 have hr:lF (VN N) σ:=fun n u e=>hin (ho n u e)
 obtain⟨g,⟨r,σ',tr⟩,h⟩:=aXP (VN N) _ _ σ a b hg hr (hin ha) (hin hb) (cQ _) (cQ _)
 obtain⟨h1,h2⟩:=(aKG g).1 σ a b r σ' tr (VN N) hg h hr (hin ha) (hin hb)
 exact⟨r,σ',tr,⟨g,h⟩,aKF h,uY hg h,(KL (qD N) g).1 σ a b r σ' tr hg h ho ha hb,fun m hm=>uJ.1 (h2 m hm)⟩
theorem xC.out{N:Int}{σ:Sub}{a b:Tm}{r:Bool}{σ':Sub}{tr:List Int}(h:xC N σ a b r σ' tr)(n:Int):(if n∈tr then none else σ' n)=σ n:=by
 split
 · rename_i hn;exact((h.mG.new n hn).1).symm
 · rename_i hn;exact h.mG.aV n hn
def Sub.out(σ:Sub)(l:List Int):Sub:=fun n=>if n∈l then Option.none else σ n
theorem Sub.aUR(σ:Sub)(l m:List Int):(σ.out l).out m=σ.out (l++m):=by
 funext n
 unfold Sub.out
 by_cases h1:n∈m
 · rw[aK h1,aK (by simp [h1])]
 · rw[aG h1]
   by_cases h2:n∈l
   · rw[aK h2,aK (by simp [h2])]
   · rw[aG h2,aG (by simp [h1,h2])]
theorem Sub.aUS(σ:Sub){l m:List Int}(h:∀n,n∈l↔n∈m):σ.out l=σ.out m:=by
 funext n
 unfold Sub.out
 simp only[h n]
def bP(ρ:Int→Int)(t:Tm):Tm:=t.aJ fun v=>vr (ρ v)
theorem aVF(ρ:Int→Int)(n:Int):bP ρ (vr n)=vr (ρ n):=uI _ n
theorem uO(ρ:Int→Int){k n:Int}{s:ByteArray}{ts:List Tm}(h:k≠1):bP ρ (.mk k n s ts)=.mk k n s (ts.map (bP ρ)):=Tm.kX _ h
theorem wG(ρ:Int→Int){t:Tm}(h:t.k=1):bP ρ t=vr (ρ t.n):=Tm.BI _ h
theorem BW(ρ:Int→Int){t:Tm}(h:t.k≠1):bP ρ t=.mk t.k t.n t.s (t.ts.map (bP ρ)):=Tm.qA _ h
theorem wE(ρ:Int→Int)(t:Tm):(bP ρ t).k=t.k:=by
 by_cases h:t.k=1
 · rw[wG ρ h,h];try rfl
 · rw[BW ρ h];try rfl
theorem JD(ρ:Int→Int){t:Tm}(hc:t.cv=true):(bP ρ t).nodes=t.nodes:=by
 induction t using Tm.ind with
 | h k n s ts ih=>
  obtain⟨h1,h2⟩:=Tm.oU.1 hc
  by_cases hk:k=1
  · obtain⟨_,rfl⟩:=h1 hk
    rw[wG ρ (t:=.mk k n s []) hk,vr,Tm.jS,Tm.jS]
  · rw[uO ρ hk,Tm.jS,Tm.jS]
    congr 1
    have:∀l:List Tm,(∀x∈l,x∈ts)→aM Tm.nodes (l.map (bP ρ))=aM Tm.nodes l:=by
     intro l
     induction l with
     | nil=>intro _;rfl
     | cons x l ihl=>intro h;simp only[bH,aM];rw[ih x (h x (by simp)) (h2 x (h x (by simp))),ihl fun y hy=>h y (by simp [hy])]
    exact this ts fun _ h=>h
theorem OW(ρ:Int→Int){t:Tm}(hc:t.cv=true):∀d,(bP ρ t).flat d=t.flat d:=by
 induction t using Tm.ind with
 | h k n s ts ih=>
  intro d
  obtain⟨h1,h2⟩:=Tm.oU.1 hc
  cases d with
  | zero=>rw[Tm.D5,Tm.D5]
  | succ d=>
   by_cases hk:k=1
   · obtain⟨_,rfl⟩:=h1 hk
     rw[wG ρ (t:=.mk k n s []) hk,vr,Tm.t8,Tm.t8]
   · rw[uO ρ hk,Tm.t8,Tm.t8,List.all_map]
     rw[wZ,eL,eL]
     constructor
     · intro h x hx;rw[←ih x hx (h2 x hx) d];exact h x hx
     · intro h x hx;simp only[CF];rw[ih x hx (h2 x hx) d];exact h x hx
theorem aX0{ρ:Int→Int}{t:Tm}{w:Int}:w∈(bP ρ t).vl↔∃v∈t.vl,w=ρ v:=by
 unfold bP
 rw[wT]
 simp only[wU,cP,dI,dN]
theorem OV{ρ ρ':Int→Int}{t:Tm}(h:∀v∈t.vl,ρ v=ρ' v):bP ρ t=bP ρ' t:=pE t fun v hv=>by rw[h v hv]
theorem E7(ρ:Int→Int)(f:Int→Tm)(t:Tm):(bP ρ t).aJ f=t.aJ fun v=>f (ρ v):=by
 unfold bP
 rw[wB]
 exact pE t fun v _=>uI f (ρ v)
theorem aHB(ρ:Int→Int)(f:Int→Tm)(t:Tm):bP ρ (t.aJ f)=t.aJ fun v=>bP ρ (f v):=by
 unfold bP
 rw[wB]
theorem cB.bP{N M:Int}{ρ:Int→Int}{t:Tm}(h:cB N t)(hr:∀v∈t.vl,0≤ρ v∧ρ v<M):cB M (AW.bP ρ t):=h.aJ fun v hv=>E0 (hr v hv).1 (hr v hv).2
theorem a9.bP{N M:Int}{ρ:Int→Int}{t:Tm}(h:a9 N t)(hr:∀v∈t.vl,0≤ρ v∧ρ v<M):a9 M (AW.bP ρ t):=⟨h.1.bP hr,by rw[JD ρ h.1.2.1];exact h.2⟩
structure eR (ρ:Int→Int) (N:Int) (σ τ:Sub):Prop where
 inj:∀v w,0≤v→v<N→0≤w→w<N→ρ v=ρ w→v=w
 map:∀v,0≤v→v<N→τ (ρ v)=(σ v).map (bP ρ)
section
variable {ρ:Int→Int} {N:Int} {σ τ:Sub}
theorem eR.wk(S:eR ρ N σ τ)(ho:cF (cB N) σ){f:Nat}{t u:Tm}(h:fF σ f t u):cB N t→fF τ f (bP ρ t) (bP ρ u):=by
 induction h with
 | @stop t h=>
  intro ht
  refine .stop fun hk=>?_
  rw[wE] at hk
  have hr:=ht.2.2 t.n (by rw[Tm.CE hk];simp)
  rw[wG ρ hk]
  show τ (ρ t.n)=none
  rw[S.map _ hr.1 hr.2,h hk];try rfl
 | @go f t u v h1 h2 _ ih=>
  intro ht
  have hr:=ht.2.2 t.n (by rw[Tm.CE h1];simp)
  refine .go (u:=bP ρ u) (by rw[wE];exact h1) ?_ (ih (ho _ _ h2))
  rw[wG ρ h1]
  show τ (ρ t.n)=_
  rw[S.map _ hr.1 hr.2,h2];try rfl
theorem eR.rs(S:eR ρ N σ τ)(hg:cD σ)(hg':cD τ)(ho:cF (cB N) σ):∀v,0≤v→v<N→rs τ (ρ v)=bP ρ (rs σ v):=by
 obtain⟨rk,B,G⟩:=hg.rs
 obtain⟨rk',B',G'⟩:=hg'.rs
 refine fun v=>G.ind (p:=fun v=>0≤v→v<N→AW.rs τ (ρ v)=bP ρ (AW.rs σ v)) (fun v h h0 h1=>?_) (fun v u h ih h0 h1=>?_) v
 · rw[G.free h,aVF,G'.free (by rw[S.map v h0 h1,h];try rfl)]
 · rw[G.bound h,aHB,G'.bound (u:=bP ρ u) (by rw[S.map v h0 h1,h];try rfl),E7]
   refine pE u fun w hw=>?_
   have:=(ho v u h).2.2 w hw
   exact ih w hw this.1 this.2
theorem eR.rsT(S:eR ρ N σ τ)(hg:cD σ)(hg':cD τ)(ho:cF (cB N) σ){t:Tm}(ht:cB N t):(bP ρ t).aJ (AW.rs τ)=bP ρ (t.aJ (AW.rs σ)):=by
 rw[E7,aHB]
 exact pE t fun v hv=>S.rs hg hg' ho v (ht.2.2 v hv).1 (ht.2.2 v hv).2
theorem eR.mem(S:eR ρ N σ τ){t:Tm}(ht:cB N t){n:Int}(h0:0≤n)(h1:n<N):ρ n∈(bP ρ t).vl↔n∈t.vl:=by
 rw[aX0]
 constructor
 · rintro⟨v,hv,e⟩
   rw[S.inj n v h0 h1 (ht.2.2 v hv).1 (ht.2.2 v hv).2 e];exact hv
 · exact fun h=>⟨n,h,rfl⟩
theorem eR.set(S:eR ρ N σ τ){n:Int}(h0:0≤n)(h1:n<N)(t:Tm):eR ρ N (σ.set n t) (τ.set (ρ n) (bP ρ t)):=by
 refine⟨S.inj,fun v hv0 hv1=>?_⟩
 unfold Sub.set
 by_cases h:v=n
 · subst h;simp
 · rw[aG (fun e=>h (S.inj v n hv0 hv1 h0 h1 e)),aG h,S.map v hv0 hv1]
theorem eR.iY(S:eR ρ N σ τ)(hg:cD σ)(hg':cD τ)(ho:cF (cB N) σ){n:Int}(h0:0≤n)(h1:n<N){t:Tm}(ht:cB N t){r:Bool}{σ':Sub}{tr:List Int}(h:iY σ n t=(r,σ',tr)) :
 ∃τ',AW.iY τ (ρ n) (bP ρ t)=(r,τ',tr.map ρ)∧eR ρ N σ' τ':=by
 obtain⟨rk,B,G⟩:=hg.rs
 have e:=S.mem (G.OD ho ht) h0 h1
 rw[←S.rsT hg hg' ho ht] at e
 unfold AW.iY at h ⊢
 by_cases hm:n∈(t.aJ (AW.rs σ)).vl
 · rw[aK hm] at h
   rw[aK (e.2 hm)]
   cases h
   exact⟨τ,rfl,S⟩
 · rw[aG hm] at h
   rw[aG (fun h=>hm (e.1 h))]
   cases h
   exact⟨_,rfl,S.set h0 h1 t⟩
theorem aF3{a b:Tm}(ha:a.k≠1)(hb:b.k≠1):sT (bP ρ a) (bP ρ b)=sT a b:=by
 obtain⟨k,n,s,ts⟩:=a
 obtain⟨k',n',s',ts'⟩:=b
 simp only[Tm.k] at ha hb
 rw[uO ρ ha,uO ρ hb,wZ,rO,rO]
 simp only[Tm.k,Tm.n,Tm.s,Tm.ts,aE]
theorem eR.aKP(S:eR ρ N σ τ)(hg:cD σ)(ho:cF (cB N) σ){t:Tm}(ht:cB N t):AW.wk τ (bP ρ t)=bP ρ (AW.wk σ t):=by
 obtain⟨rk,B,G⟩:=hg.rs
 obtain⟨f,h⟩:=G.wk t
 exact(S.wk ho h ht).wk
theorem aXQ(ρ:Int→Int)(N:Int):∀g:Nat,(∀(σ τ:Sub) (a b:Tm) (r:Bool) (σ':Sub) (tr:List Int),cD σ→cD τ→cF (cB N) σ→cB N a→cB N b→eR ρ N σ τ→cV g σ a b=some (r,σ',tr)→∃τ',cV g τ (bP ρ a) (bP ρ b)=some (r,τ',tr.map ρ)∧eR ρ N σ' τ') ∧
 (∀(xs ys:List Tm) (σ τ:Sub) (r:Bool) (σ':Sub) (tr:List Int),cD σ→cD τ→cF (cB N) σ→(∀x∈xs,cB N x)→(∀y∈ys,cB N y)→eR ρ N σ τ→dM g σ xs ys=some (r,σ',tr)→∃τ',dM g τ (xs.map (bP ρ)) (ys.map (bP ρ))=some (r,τ',tr.map ρ)∧eR ρ N σ' τ'):=by
 intro g
 induction g with
 | zero=>
  refine⟨fun σ τ a b r σ' tr _ _ _ _ _ _ h=>(by simp only[cV] at h;cases h),?_⟩
  intro xs ys σ τ r σ' tr _ _ _ _ _ S h
  match xs,ys with
  | [],_=>simp only[dM,Option.some.injEq,Prod.mk.injEq] at h;obtain⟨rfl,rfl,rfl⟩:=h;exact⟨τ,by simp only[bG,dM],S⟩
  | x::xs,[]=>simp only[dM,Option.some.injEq,Prod.mk.injEq] at h;obtain⟨rfl,rfl,rfl⟩:=h;exact⟨τ,by simp only[bH,bG,dM],S⟩
  | x::xs,y::ys=>simp only[dM,cV] at h;cases h
 | succ g ih=>
  have one:∀(σ τ:Sub) (a b:Tm) (r:Bool) (σ':Sub) (tr:List Int),cD σ→cD τ→cF (cB N) σ→cB N a→cB N b→eR ρ N σ τ→cV (g+1) σ a b=some (r,σ',tr)→∃τ',cV (g+1) τ (bP ρ a) (bP ρ b)=some (r,τ',tr.map ρ)∧eR ρ N σ' τ':=by
   intro σ τ a b r σ' tr hg hg' ho ha hb S h
   obtain⟨rk,B,G⟩:=hg.rs
   obtain⟨fa,wa⟩:=G.wk a
   obtain⟨fb,wb⟩:=G.wk b
   have oa:=wa.all (p:=cB N) ho ha
   have ob:=wb.all (p:=cB N) ho hb
   have ea:=S.aKP hg ho ha
   have eb:=S.aKP hg ho hb
   have h:=KJ h
   generalize AW.wk σ a=a1 at *
   generalize AW.wk σ b=b1 at *
   rw[cV,ea,eb,wE,wE]
   have rng:∀ {t:Tm},cB N t→t.k=1→0≤t.n∧t.n<N:=fun ht hk=>ht.2.2 _ (by rw[Tm.CE hk];simp)
   have nn:∀ {t:Tm},t.k=1→(bP ρ t).n=ρ t.n:=fun hk=>by rw[wG ρ hk];try rfl
   rcases h with ⟨h1,h2,h3,rfl,rfl,rfl⟩ | ⟨h1,h2,h3⟩ | ⟨h1,h2,h3⟩ | ⟨h1,h2,h3,h4⟩ | ⟨h1,h2,h3,rfl,rfl,rfl⟩
   · exact⟨τ,by rw[aK ⟨h1,h2,by rw[nn h1,nn h2,h3]⟩];try rfl,S⟩
   · have ra:=rng oa h1
     obtain⟨τ',e,S'⟩:=S.iY hg hg' ho ra.1 ra.2 ob h3
     refine⟨τ',?_,S'⟩
     rw[aG,aK h1,nn h1,e]
     rintro⟨_,h5,h6⟩
     have rb:=rng ob h5
     rw[nn h1,nn h5] at h6
     exact h2 ⟨h5,S.inj _ _ ra.1 ra.2 rb.1 rb.2 h6⟩
   · have rb:=rng ob h2
     obtain⟨τ',e,S'⟩:=S.iY hg hg' ho rb.1 rb.2 oa h3
     refine⟨τ',?_,S'⟩
     rw[aG (fun h=>h1 h.1),aG h1,aK h2,nn h2,e]
   · obtain⟨τ',e,S'⟩:=ih.2 a1.ts b1.ts σ τ r σ' tr hg hg' ho (I2 N a1 h1 oa) (I2 N b1 h2 ob) S h4
     refine⟨τ',?_,S'⟩
     rw[aG (fun h=>h1 h.1),aG h1,aG h2,aK (by rw[aF3 h1 h2];exact h3),BW ρ h1,BW ρ h2]
     exact e
   · refine⟨τ,?_,S⟩
     rw[aG (fun h=>h1 h.1),aG h1,aG h2,aG (by rw[aF3 h1 h2,h3];simp)]
     try rfl
  refine⟨one,?_⟩
  intro xs
  induction xs with
  | nil=>
   intro ys σ τ r σ' tr _ _ _ _ _ S h
   simp only[dM,Option.some.injEq,Prod.mk.injEq] at h;obtain⟨rfl,rfl,rfl⟩:=h;exact⟨τ,by simp only[bG,dM],S⟩
  | cons x xs ihx=>
   intro ys σ τ r σ' tr hg hg' ho hx hy S h
   cases ys with
   | nil=>simp only[dM,Option.some.injEq,Prod.mk.injEq] at h;obtain⟨rfl,rfl,rfl⟩:=h;exact⟨τ,by simp only[bH,bG,dM],S⟩
   | cons y ys=>
    rw[dM] at h
    simp only[bH]
    rw[dM]
    cases hu:cV (g+1) σ x y with
    | none=>rw[hu] at h;cases h
    | some p=>
     obtain⟨r1,σ1,tr1⟩:=p
     rw[hu] at h
     obtain⟨τ1,e1,S1⟩:=one σ τ x y r1 σ1 tr1 hg hg' ho (hx x (by simp)) (hy y (by simp)) S hu
     rw[e1]
     cases r1 with
     | false=>
      simp only[Option.some.injEq,Prod.mk.injEq] at h ⊢
      obtain⟨rfl,rfl,rfl⟩:=h
      exact⟨τ1,⟨rfl,rfl,rfl⟩,S1⟩
     | true=>
      simp only at h ⊢
      cases hu2:dM (g+1) σ1 xs ys with
      | none=>rw[hu2] at h;cases h
      | some p2=>
       obtain⟨r2,σ2,tr2⟩:=p2
       rw[hu2] at h
       simp only[Option.some.injEq,Prod.mk.injEq] at h
       obtain⟨rfl,rfl,rfl⟩:=h
       have U1:=uY hg hu
       have U1':=uY hg' e1
       have ho1:=(KL (I2 N) (g+1)).1 σ x y true σ1 tr1 hg hu ho (hx x (by simp)) (hy y (by simp))
       obtain⟨τ2,e2,S2⟩:=ihx ys σ1 τ1 r2 σ2 tr2 U1.gA U1'.gA ho1 (fun z hz=>hx z (by simp [hz])) (fun z hz=>hy z (by simp [hz])) S1 hu2
       rw[e2]
       exact⟨τ2,by simp only[lB],S2⟩
theorem eR.iE(S:eR ρ N σ τ)(hg:cD σ)(hg':cD τ)(ho:cF (cB N) σ){a b:Tm}(ha:cB N a)(hb:cB N b){r:Bool}{σ':Sub}{tr:List Int}{g:Nat}(h:cV g σ a b=some (r,σ',tr)) :
 ∃τ',AW.iE τ (bP ρ a) (bP ρ b)=(r,τ',tr.map ρ)∧eR ρ N σ' τ'∧cD τ':=by
 obtain⟨τ',e,S'⟩:=(aXQ ρ N g).1 σ τ a b r σ' tr hg hg' ho ha hb S h
 exact⟨τ',aKF e,S',(uY hg' e).gA⟩
end
end Go.AW
namespace Go.AW
open Go.Proofs.Tryz
def iR(n:Int):Prop:= -999≤n∧n≤999
theorem aLZ(s:ByteArray)(a b:Int)(ha:iR a)(hb:iR b):iR (pU s a b).1:=by
 unfold pU iR
 split
 · exact OT _
 split
 · exact OT _
 split
 · exact OT _
 split
 · simp
 rename_i h0
 split
 · exact aFC a b ha hb h0
 · exact tdiv_le a b ha
theorem aMA{f:Int→Int→Int×Int}{x y:Int×Int}(h:iR (f x.1 y.1).1):iR (both f x y).1:=by
 unfold both iR
 split
 · simp
 split
 · simp
 · exact h
theorem Tm.sQ{N:Int}:∀t:Tm,cB N t→iR t.ev.1:=by
 intro t
 induction t using Tm.ind with
 | h k n s ts ih=>
  intro h
  obtain⟨h1,h2⟩:=h.all
  rw[Tm.vZ]
  split
  · rename_i hk;exact h1 hk
  split
  · simp [iR]
  split
  · match ts,h2,ih with
    | [],_,_=>simp [two,iR]
    | [x],_,_=>simp [two,iR]
    | [x,y],h2,ih=>exact aMA (aLZ _ _ _ (ih x (by simp) (h2 x (by simp))) (ih y (by simp) (h2 y (by simp))))
    | x::y::z::l,_,_=>simp [two,iR]
  · simp [iR]
theorem QA{ts:List Tm}(h:(ts.length:Int)=2):∃x y,ts= [x,y]:=by
 match ts,h with
 | [x,y],_=>exact⟨x,y,rfl⟩
 | [],h=>simp at h
 | [x],h=>simp at h
 | x::y::z::l,h=>simp at h;omega
abbrev uV:=zi tI_3 (zi zI_3 (zi aZ (zi tI_4 (zi zI_4 (zi cG (zi tI_9 (zi zI_9 (zi eF (zi tI_28 (zi zI_28 (zi aQ (zi bM (zi bO (zi cA (zi tI_52 (zi zI_52 (zi bX (zi bY (zi bZ (zi b7 (zi bV (zi tI_138 (zi zI_138 (zi vX (zi AJ (zi AM CB))))))))))))))))))))))))))
theorem GX{N:Int}:∀(t:Tm) (st:aA),cB N t→aD prog 229 [t.av] st (fun r st'=>r=.tup [.int .i64 t.ev.1,.int .i64 t.ev.2]∧st'=st)
 | .mk k n s ts,st,hok=>by
  obtain⟨h1,h2⟩:=hok.all
  have IH:=fun(x:Tm) (hx:x∈ts) st=>GX x st (h2 x hx)
  rw[Tm.vZ]
  simp only[a7]
  refine wF [1000000] 1 func229 ntmps229 rfl rfl ?_
  intro _
  simp -implicitDefEqProofs only[aB,seval,uV]
  refine aT (fun hk=>?_) (fun hk=>?_)
  · simp -implicitDefEqProofs only[aB,seval,uV]
    simp only[bL] at hk
    simp [hk]
  simp only[cI] at hk
  rw[aG hk]
  simp -implicitDefEqProofs only[aB,seval,uV]
  refine aT (fun hk1=>?_) (fun hk1=>?_)
  · simp -implicitDefEqProofs only[aB,seval]
    simp only[bL] at hk1
    simp [hk1]
  simp only[cI] at hk1
  rw[aG hk1]
  simp -implicitDefEqProofs only[aE,aB,seval,uV]
  have hty:∀s0:aA,ts.length≠2∨fK oP s=false→(if fK oP s=true then two (pU s) (ts.map Tm.ev) else(0,3))=((0:Int),(3:Int)):=fun _ h=>by
   split
   · rename_i h3
     rcases h with h | h
     · match ts,h with
       | [],_=>rfl
       | [x],_=>rfl
       | [x,y],h=>simp at h
       | x::y::z::l,_=>rfl
     · rw[h] at h3;cases h3
   · rfl
  refine cT (fun h=>?_) (fun h=>?_)
  case refine_2=>
   simp -implicitDefEqProofs only[h,aB,seval]
   rw[hty st (.inl (by simp at h;omega))]
  simp -implicitDefEqProofs only[h,aB,seval,uV]
  refine(LW oP s _).to ?_
  simp -implicitDefEqProofs only[aB,seval]
  refine aT (fun h3=>?_) (fun h3=>?_)
  · simp -implicitDefEqProofs only[aB,seval]
    rw[hty st (.inr (by simpa [fK] using h3))]
  have hin:fK oP s=true:=by simpa [fK] using h3
  rw[aK hin]
  clear hty
  obtain⟨x,y,rfl⟩:=QA (by simpa using h)
  have dS:dG prog 28 (.slice [x.av,y.av]) (.int .i64 0)=some (.pptr x.av):=bJ (av:=Tm.av) (l:=[x,y]) (i:=0) aQ rfl (aN x)
  have fU:dG prog 28 (.slice [x.av,y.av]) (.int .i64 1)=some (.pptr y.av):=bJ (av:=Tm.av) (l:=[x,y]) (i:=1) aQ rfl (aN y)
  have hx:=Tm.sQ x (h2 x (by simp))
  have hy:=Tm.sQ y (h2 y (by simp))
  have IHx:=fun st=>IH x (by simp) st
  have IHy:=fun st=>IH y (by simp) st
  simp -implicitDefEqProofs only[dS,bU,aN,aB,↓aX,seval,uV]
  refine(IHx _).to ?_
  simp only[two,both]
  generalize x.ev.1=a at *
  generalize x.ev.2=ca at *
  generalize y.ev.1=b at *
  generalize y.ev.2=cb at *
  simp -implicitDefEqProofs only[aB,seval]
  refine aT (fun h4=>?_) (fun h4=>?_)
  · simp -implicitDefEqProofs only[aB,seval]
    have h4':ca≠0:=by simpa using h4
    rw[aK h4']
  have h4':ca=0:=by simpa using h4
  subst h4'
  rw[aG (by simp)]
  simp -implicitDefEqProofs only[fU,bU,aN,aB,seval,uV]
  refine(IHy _).to ?_
  simp -implicitDefEqProofs only[aB,seval]
  refine aT (fun h5=>?_) (fun h5=>?_)
  · simp -implicitDefEqProofs only[aB,seval]
    have h5':cb≠0:=by simpa using h5
    rw[aK h5']
  have h5':cb=0:=by simpa using h5
  subst h5'
  rw[aG (by simp)]
  unfold iR at hx hy
  have hmul: -998001≤a*b∧a*b≤998001:=by
   have h6:(a*b).natAbs≤998001:=by
    rw[Int.natAbs_mul]
    have:=Nat.mul_le_mul (show a.natAbs≤999 by omega) (show b.natAbs≤999 by omega)
    omega
   omega
  have hw1:=bK (n:=a+b)
  have hw2:=bK (n:=a - b)
  have hw3:=bK (n:=a*b)
  have hrg:∀(v:Int) (st':aA),aD prog 87 [.int .i64 v,.int .i64 (-999),.int .i64 999] st' (fun r s'=>r=.bool (decide (iA v=(v,0)))∧s'=st'):=fun v st'=>by
   refine(xJ v (-999) 999 st').mono ?_
   rintro _ _ ⟨rfl,rfl⟩
   refine⟨?_,rfl⟩
   congr 1
   unfold iA
   split
   · rename_i h;simp [h.1,h.2]
   · rename_i h
     rw[show(decide (((0:Int),(5:Int))=(v,0)))=false from vW (by simp)]
     simp only[Bool.and_eq_false_iff,cI]
     omega
  have hrn:∀v,iA v≠(v,0)→iA v=(0,5):=fun v h=>by
   unfold iA at h ⊢
   split
   · rename_i h';rw[aK h'] at h;exact absurd rfl h
   · rfl
  unfold pU
  simp -implicitDefEqProofs only[aB,seval,uV]
  refine aT (fun h6=>?_) (fun h6=>?_)
  · simp -implicitDefEqProofs only[hw1,aB,seval]
    rw[aK (by simpa using h6)]
    refine(hrg (a+b) _).to ?_
    simp -implicitDefEqProofs only[aB,seval]
    refine aT (fun h8=>?_) (fun h8=>?_)
    · simp -implicitDefEqProofs only[aB,seval]
      rw[hrn _ (by simpa using h8)]
    · simp -implicitDefEqProofs only[aB,seval]
      rw[show iA (a+b)=(a+b,0) by simpa using h8]
  rw[aG (by simpa using h6)]
  simp -implicitDefEqProofs only[aB,seval]
  refine aT (fun h7=>?_) (fun h7=>?_)
  · simp -implicitDefEqProofs only[hw2,aB,seval]
    rw[aK (by simpa using h7)]
    refine(hrg (a - b) _).to ?_
    simp -implicitDefEqProofs only[aB,seval]
    refine aT (fun h8=>?_) (fun h8=>?_)
    · simp -implicitDefEqProofs only[aB,seval]
      rw[hrn _ (by simpa using h8)]
    · simp -implicitDefEqProofs only[aB,seval]
      rw[show iA (a - b)=(a - b,0) by simpa using h8]
  rw[aG (by simpa using h7)]
  simp -implicitDefEqProofs only[aB,seval]
  refine aT (fun h9=>?_) (fun h9=>?_)
  · simp -implicitDefEqProofs only[hw3,aB,seval]
    rw[aK (by simpa using h9)]
    refine(hrg (a*b) _).to ?_
    simp -implicitDefEqProofs only[aB,seval]
    refine aT (fun h8=>?_) (fun h8=>?_)
    · simp -implicitDefEqProofs only[aB,seval]
      rw[hrn _ (by simpa using h8)]
    · simp -implicitDefEqProofs only[aB,seval]
      rw[show iA (a*b)=(a*b,0) by simpa using h8]
  rw[aG (by simpa using h9)]
  simp -implicitDefEqProofs only[aB,seval]
  refine aT (fun h0=>?_) (fun h0=>?_)
  · simp -implicitDefEqProofs only[aB,seval]
    rw[aK (by simpa using h0)]
  have h0':b≠0:=by simpa using h0
  rw[aG h0']
  have hq:=tdiv_le a b hx
  have hr:=J0 a b h0'
  have hf:=aFC a b hx hy h0'
  have hfe:=aQN a b h0'
  have hw4:=bK (n:=a.tdiv b)
  have hw5:=bK (n:=a.tmod b+b)
  have aRZ:iA (a.tdiv b)=(a.tdiv b,0):=by unfold iA;rw[aK hq]
  have aR0:iA (oW a b)=(oW a b,0):=by unfold iA;rw[aK hf]
  simp -implicitDefEqProofs only[hw4,h0',aB,seval,uV]
  refine aT (fun h10=>?_) (fun h10=>?_)
  · simp -implicitDefEqProofs only[hw5,h0',hfe,aB,seval]
    rw[aK (by simpa using h10)]
    refine(hrg (oW a b) _).to ?_
    have hd:decide (iA (oW a b)=(oW a b,0))=true:=by rw[aR0];simp
    simp -implicitDefEqProofs only[hd,aB,seval]
  · simp -implicitDefEqProofs only[aB,seval]
    rw[aG (by simpa using h10)]
    refine(hrg (a.tdiv b) _).to ?_
    have hd:decide (iA (a.tdiv b)=(a.tdiv b,0))=true:=by rw[aRZ];simp
    simp -implicitDefEqProofs only[hd,aB,seval]
termination_by t=>SizeOf.sizeOf t
decreasing_by have:=List.sizeOf_lt_of_mem hx;simp only[Tm.mk.sizeOf_spec];omega
theorem L2(n:Int)(st:aA):aD prog 263 [.int .i64 n] st (fun r st'=>r=.tup [.int .i64 (iA n).1,.int .i64 (iA n).2]∧st'=st):=by
 refine wF [1000000] 1 func263 ntmps263 rfl rfl ?_
 intro _
 simp -implicitDefEqProofs only[aB,seval]
 refine cT (fun h=>?_) (fun h=>?_)
 · simp -implicitDefEqProofs only[h,aB,seval]
   have h1:¬n< -999:=by simpa using h
   refine aT (fun h2=>?_) (fun h2=>?_)
   · simp -implicitDefEqProofs only[aB,seval]
     have h2':999<n:=by simpa using h2
     unfold iA
     rw[aG (by omega)]
   · simp -implicitDefEqProofs only[aB,seval]
     have h2':¬ 999<n:=by simpa using h2
     unfold iA
     rw[aK (by omega)]
 · simp -implicitDefEqProofs only[h,aB,seval]
   have h1:n< -999:=by simpa using h
   unfold iA
   rw[aG (by omega)]
abbrev aWL:=zi tI_3 (zi zI_3 (zi aZ (zi tI_4 (zi zI_4 cG))))
theorem aN7(a b:Int)(ha:iR a)(hb:iR b)(h0:b≠0)(st:aA):aD prog 264 [.int .i64 a,.int .i64 b] st (fun r st'=>r=.int .i64 (oW a b)∧st'=st):=by
 have hl:=J0 a b h0
 unfold iR at ha hb
 have hw:=bK (n:=a.tmod b+b)
 refine wF [1000000] 2 func264 ntmps264 rfl rfl ?_
 intro _
 simp -implicitDefEqProofs only[h0,aB,seval]
 have hf:oW a b=if a.tmod b≠0∧decide (a.tmod b<0)≠decide (b<0) then a.tmod b+b else a.tmod b:=rfl
 rw[hf]
 clear hf
 generalize hm:a.tmod b=m at *
 refine cT (fun h=>?_) (fun h=>?_)
 · have h':m≠0:=by simpa using h
   simp -implicitDefEqProofs only[h,aB,seval,aWL]
   refine aT (fun h2=>?_) (fun h2=>?_)
   · simp -implicitDefEqProofs only[hw,aB,seval]
     rw[aK ⟨h',by simpa using h2⟩]
   · simp -implicitDefEqProofs only[aB,seval]
     rw[aG (by intro h3;exact h3.2 (by simpa using h2))]
 · have h':m=0:=by simpa using h
   simp -implicitDefEqProofs only[h,aB,seval]
   rw[aG (by intro h3;exact h3.1 h')]
theorem aN5(a b:Int)(ha:iR a)(hb:iR b)(h0:b≠0)(st:aA):aD prog 265 [.int .i64 a,.int .i64 b] st (fun r st'=>r=.int .i64 (a.tdiv b)∧st'=st):=by
 have hl:=tdiv_le a b ha
 have hw:=bK (n:=a.tdiv b)
 refine wF [1000000] 2 func265 ntmps265 rfl rfl ?_
 intro _
 simp -implicitDefEqProofs only[h0,hw,aB,seval]
theorem S5(s:ByteArray)(a b:Int)(hx:iR a)(hy:iR b)(st:aA):aD prog 243 [.str s,.int .i64 a,.int .i64 b] st (fun r st'=>r=.tup [.int .i64 (pU s a b).1,.int .i64 (pU s a b).2]∧st'=st):=by
 have hMod:=fun h0=>aN7 a b hx hy h0
 have hDiv:=fun h0=>aN5 a b hx hy h0
 unfold iR at hx hy
 have hmul: -998001≤a*b∧a*b≤998001:=by
  have h6:(a*b).natAbs≤998001:=by
   rw[Int.natAbs_mul]
   have:=Nat.mul_le_mul (show a.natAbs≤999 by omega) (show b.natAbs≤999 by omega)
   omega
  omega
 have hw1:=bK (n:=a+b)
 have hw2:=bK (n:=a - b)
 have hw3:=bK (n:=a*b)
 unfold pU
 refine wF [1000000] 3 func243 ntmps243 rfl rfl ?_
 intro _
 simp -implicitDefEqProofs only[aB,seval]
 refine aT (fun h6=>?_) (fun h6=>?_)
 · simp -implicitDefEqProofs only[hw1,aB,seval]
   rw[aK (by simpa using h6)]
   refine(L2 _ _).to ?_
   simp -implicitDefEqProofs only[aB,seval]
 rw[aG (by simpa using h6)]
 simp -implicitDefEqProofs only[aB,seval]
 refine aT (fun h7=>?_) (fun h7=>?_)
 · simp -implicitDefEqProofs only[hw2,aB,seval]
   rw[aK (by simpa using h7)]
   refine(L2 _ _).to ?_
   simp -implicitDefEqProofs only[aB,seval]
 rw[aG (by simpa using h7)]
 simp -implicitDefEqProofs only[aB,seval]
 refine aT (fun h9=>?_) (fun h9=>?_)
 · simp -implicitDefEqProofs only[hw3,aB,seval]
   rw[aK (by simpa using h9)]
   refine(L2 _ _).to ?_
   simp -implicitDefEqProofs only[aB,seval]
 rw[aG (by simpa using h9)]
 simp -implicitDefEqProofs only[aB,seval]
 refine aT (fun h0=>?_) (fun h0=>?_)
 · simp -implicitDefEqProofs only[aB,seval]
   rw[aK (by simpa using h0)]
 have h0':b≠0:=by simpa using h0
 rw[aG h0']
 simp -implicitDefEqProofs only[aB,seval]
 refine aT (fun h10=>?_) (fun h10=>?_)
 · simp -implicitDefEqProofs only[aB,seval]
   rw[aK (by simpa using h10)]
   refine(hMod h0' _).to ?_
   simp -implicitDefEqProofs only[aB,seval]
 · simp -implicitDefEqProofs only[aB,seval]
   rw[aG (by simpa using h10)]
   refine(hDiv h0' _).to ?_
   simp -implicitDefEqProofs only[aB,seval]
theorem GT(s:ByteArray):fK oP s=decide (kI s=1∨kI s=2):=by
 unfold fK oP kI
 simp only[zC,List.any_nil,Bool.or_false]
 by_cases h1:s=⟨#[43]⟩
 · subst h1;decide
 by_cases h2:s=⟨#[45]⟩
 · subst h2;decide
 by_cases h3:s=⟨#[42]⟩
 · subst h3;decide
 by_cases h4:s=⟨#[47,47]⟩
 · subst h4;decide
 by_cases h5:s=⟨#[109,111,100]⟩
 · subst h5;decide
 simp only[h1,h2,h3,h4,h5,eK,Bool.or_false,cond_false]
 cases (decide (s=⟨#[61]⟩)||decide (s=⟨#[92,61]⟩)||decide (s=⟨#[61,61]⟩)||decide (s=⟨#[60]⟩)||decide (s=⟨#[62]⟩)||decide (s=⟨#[61,60]⟩)||decide (s=⟨#[62,61]⟩)||decide (s=⟨#[61,58,61]⟩)||decide (s=⟨#[105,115]⟩))<;>rfl
abbrev qI:=zi tI_3 (zi zI_3 (zi aZ (zi tI_9 (zi zI_9 (zi eF (zi tI_28 (zi zI_28 (zi aQ (zi bM (zi bO (zi cA (zi tI_52 (zi zI_52 (zi bX (zi bY (zi bZ (zi b7 bV)))))))))))))))))
theorem G0{N:Int}:∀(t:Tm) (st:aA),cB N t→aD prog 205 [t.av] st (fun r st'=>r=.tup [.int .i64 t.ev.1,.int .i64 t.ev.2]∧st'=st)
 | .mk k n s ts,st,hok=>by
  obtain⟨h1,h2⟩:=hok.all
  have IH:=fun(x:Tm) (hx:x∈ts) st=>G0 x st (h2 x hx)
  rw[Tm.vZ]
  simp only[a7]
  refine wF [1000000] 1 func205 ntmps205 rfl rfl ?_
  intro _
  simp -implicitDefEqProofs only[aB,seval,qI]
  refine aT (fun hk1=>?_) (fun hk1=>?_)
  · simp -implicitDefEqProofs only[aB,seval]
    simp only[bL] at hk1
    rw[aG (by omega),aK hk1]
  simp only[cI] at hk1
  rw[aG hk1]
  simp -implicitDefEqProofs only[aB,seval]
  refine aT (fun hk=>?_) (fun hk=>?_)
  · simp -implicitDefEqProofs only[aB,seval,qI]
    simp only[bL] at hk
    simp [hk]
  simp only[cI] at hk
  rw[aG hk]
  simp -implicitDefEqProofs only[aB,seval,qI]
  refine(S0 s _).to ?_
  simp -implicitDefEqProofs only[aE,aB,seval,qI]
  have hty:∀s0:aA,ts.length≠2∨fK oP s=false→(if fK oP s=true then two (pU s) (ts.map Tm.ev) else(0,3))=((0:Int),(3:Int)):=fun _ h=>by
   split
   · rename_i h3
     rcases h with h | h
     · match ts,h with
       | [],_=>rfl
       | [x],_=>rfl
       | [x,y],h=>simp at h
       | x::y::z::l,_=>rfl
     · rw[h] at h3;cases h3
   · rfl
  refine cT (fun h=>?_) (fun h=>?_)
  case refine_2=>
   simp -implicitDefEqProofs only[h,aB,seval]
   rw[hty st (.inl (by simp at h;omega))]
  simp -implicitDefEqProofs only[h,aB,seval]
  have aGB:fK oP s=false→kI s≠1∧kI s≠2:=fun h=>by
   rw[GT] at h
   have:=of_decide_eq_false h
   omega
  refine cT (fun h3=>?_) (fun h3=>?_)
  · simp -implicitDefEqProofs only[h3,aB,seval]
    have h3':kI s≠1:=by simp at h3;omega
    refine aT (fun h6=>?_) (fun h6=>?_)
    · have h6':kI s≠2:=by simp at h6;omega
      simp -implicitDefEqProofs only[aB,seval]
      rw[hty st (.inr (by rw[GT];simp [h3',h6']))]
    · have h6':kI s=2:=by simp at h6;omega
      have hin:fK oP s=true:=by rw[GT];simp [h6']
      simp -implicitDefEqProofs only[aB,seval,qI]
      rw[aK hin]
      clear hty aGB
      obtain⟨x,y,rfl⟩:=QA (by simpa using h)
      have dS:dG prog 28 (.slice [x.av,y.av]) (.int .i64 0)=some (.pptr x.av):=bJ (av:=Tm.av) (l:=[x,y]) (i:=0) aQ rfl (aN x)
      have fU:dG prog 28 (.slice [x.av,y.av]) (.int .i64 1)=some (.pptr y.av):=bJ (av:=Tm.av) (l:=[x,y]) (i:=1) aQ rfl (aN y)
      have hx:=Tm.sQ x (h2 x (by simp))
      have hy:=Tm.sQ y (h2 y (by simp))
      have IHx:=fun st=>IH x (by simp) st
      have IHy:=fun st=>IH y (by simp) st
      simp only[bH,bG,two,both]
      simp -implicitDefEqProofs only[dS,bU,aN,aB,↓aX,seval,qI]
      refine(IHx _).to ?_
      generalize x.ev.1=a at *
      generalize x.ev.2=ca at *
      generalize y.ev.1=b at *
      generalize y.ev.2=cb at *
      simp -implicitDefEqProofs only[aB,seval]
      refine aT (fun h4=>?_) (fun h4=>?_)
      · simp -implicitDefEqProofs only[aB,seval]
        have h4':ca≠0:=by simpa using h4
        rw[aK h4']
      have h4':ca=0:=by simpa using h4
      subst h4'
      rw[aG (by simp)]
      simp -implicitDefEqProofs only[fU,bU,aN,aB,seval,qI]
      refine(IHy _).to ?_
      simp -implicitDefEqProofs only[aB,seval]
      refine aT (fun h5=>?_) (fun h5=>?_)
      · simp -implicitDefEqProofs only[aB,seval]
        have h5':cb≠0:=by simpa using h5
        rw[aK h5']
      have h5':cb=0:=by simpa using h5
      subst h5'
      rw[aG (by simp)]
      simp -implicitDefEqProofs only[aB,seval,qI]
      refine(S5 s a b hx hy _).to ?_
      simp -implicitDefEqProofs only[aB,seval]
  · have h3':kI s=1:=by simp at h3;omega
    have hin:fK oP s=true:=by rw[GT];simp [h3']
    simp -implicitDefEqProofs only[h3,aB,seval,qI]
    rw[aK hin]
    clear hty aGB
    obtain⟨x,y,rfl⟩:=QA (by simpa using h)
    have dS:dG prog 28 (.slice [x.av,y.av]) (.int .i64 0)=some (.pptr x.av):=bJ (av:=Tm.av) (l:=[x,y]) (i:=0) aQ rfl (aN x)
    have fU:dG prog 28 (.slice [x.av,y.av]) (.int .i64 1)=some (.pptr y.av):=bJ (av:=Tm.av) (l:=[x,y]) (i:=1) aQ rfl (aN y)
    have hx:=Tm.sQ x (h2 x (by simp))
    have hy:=Tm.sQ y (h2 y (by simp))
    have IHx:=fun st=>IH x (by simp) st
    have IHy:=fun st=>IH y (by simp) st
    simp only[bH,bG,two,both]
    simp -implicitDefEqProofs only[dS,bU,aN,aB,↓aX,seval,qI]
    refine(IHx _).to ?_
    generalize x.ev.1=a at *
    generalize x.ev.2=ca at *
    generalize y.ev.1=b at *
    generalize y.ev.2=cb at *
    simp -implicitDefEqProofs only[aB,seval]
    refine aT (fun h4=>?_) (fun h4=>?_)
    · simp -implicitDefEqProofs only[aB,seval]
      have h4':ca≠0:=by simpa using h4
      rw[aK h4']
    have h4':ca=0:=by simpa using h4
    subst h4'
    rw[aG (by simp)]
    simp -implicitDefEqProofs only[fU,bU,aN,aB,seval,qI]
    refine(IHy _).to ?_
    simp -implicitDefEqProofs only[aB,seval]
    refine aT (fun h5=>?_) (fun h5=>?_)
    · simp -implicitDefEqProofs only[aB,seval]
      have h5':cb≠0:=by simpa using h5
      rw[aK h5']
    have h5':cb=0:=by simpa using h5
    subst h5'
    rw[aG (by simp)]
    simp -implicitDefEqProofs only[aB,seval,qI]
    refine(S5 s a b hx hy _).to ?_
    simp -implicitDefEqProofs only[aB,seval]
termination_by t=>SizeOf.sizeOf t
decreasing_by have:=List.sizeOf_lt_of_mem hx;simp only[Tm.mk.sizeOf_spec];omega
abbrev aJU:=zi tI_3 (zi zI_3 (zi aZ (zi tI_40 (zi zI_40 (zi dC (zi fH (zi fJ fL)))))))
theorem SE(l:List Int)(v:Int)(st:aA):aD prog 239 [.slice (l.map iv),.int .i64 v] st (fun r st'=>r=.int .i64 (eE v l 0)∧st'=st):=by
 refine wF [] 2 func239 ntmps239 rfl rfl ?_
 simp only[dK,AV.fits,dZ,aE]
 intro ⟨hl,_⟩
 simp -implicitDefEqProofs only[aE,aB,seval,aJU]
 refine dW (σ:=Unit) [] [0,1,7] l (fun i _=>eE v l 0=eE v (l.drop i) i) (fun i _=>[(8,.int .i64 i)]) (fun _ _=>st) (by decide +kernel) ⟨(),rfl,aP.mk (by simp -implicitDefEqProofs only[aB,↓aX,seval])⟩ (fun i x _ hx hlt bF hdr hinv=>?_) (fun _ hge hinv=>?_)
 case refine_2=>
  simp -implicitDefEqProofs only[hge,aB,seval]
  rw[hinv,gU]
  try rfl
 rw[hdr,eE] at hinv
 have hw:=bK (n:=(i:Int)+1)
 simp -implicitDefEqProofs only[bF,bJ (av:=iv) dC hx rfl,aB,seval,aJU]
 refine aT (fun h=>?_) (fun h=>?_)
 · simp only[bL] at h
   rw[aK h] at hinv
   simp -implicitDefEqProofs only[hinv,aB,seval]
 · simp only[cI] at h
   rw[aG h] at hinv
   simp -implicitDefEqProofs only[aB,seval]
   exact⟨(),by rw[hinv],aP.mk (by simp -implicitDefEqProofs only[hw,aB,seval])⟩
theorem aML(l:List Int)(v:Int)(st:aA):aD prog 221 [.slice (l.map iv),.int .i64 v] st (fun r st'=>r=.bool (decide (v∈l))∧st'=st):=by
 refine wF [] 2 func221 ntmps221 rfl rfl ?_
 intro _
 simp -implicitDefEqProofs only[aB,seval]
 refine(SE l v st).to ?_
 simp -implicitDefEqProofs only[aGW v l 0 (Int.le_refl 0),aB,seval]
theorem aVR{st:aA}{b:Nat}{l:List Int}{os xs:List AV}(h:Seen (bE st b (l.map iv)) cY os xs):Seen (bE st b (l.map iv)) cY (bQ 1 b (l.map iv)::os) (.slice (l.map iv)::xs):=
 Seen.own (aHW (aU.flat (by simp [AV.flat])) (by intro e h;simp only[cE] at h;obtain⟨t,_,rfl⟩:=h;rfl)) h
def Grown(st:aA)(l:List Int)(r:AV)(st':aA):Prop:=∃b',r=bQ 1 b' (l.map iv)∧st'=bE st b' (l.map iv)∧(l.map iv≠[]→st b'=none)
abbrev qK:=zi tI_3 (zi zI_3 (zi aZ (zi tI_4 (zi zI_4 (zi cG (zi tI_28 (zi zI_28 (zi aQ (zi bM (zi bO (zi cA (zi tI_40 (zi zI_40 (zi dC (zi fH (zi fJ (zi fL (zi tI_52 (zi zI_52 (zi bX (zi bY (zi bZ (zi b7 bV)))))))))))))))))))))))
theorem SF:∀(t:Tm) (l:List Int) (b:Nat) (st:aA),(l.map iv≠[]→st b=none)→l.length+t.nodes≤1099511627776→aD prog 182 [t.av,bQ 1 b (l.map iv)] (bE st b (l.map iv)) (Grown st (t.vars l))
 | .mk k n s ts,l,b,st,hb,hsz=>by
  have IH:=fun(x:Tm) (hx:x∈ts)=>SF x
  simp only[Tm.vars]
  rw[Tm.jS] at hsz
  refine wF [] 2 func182 ntmps182 rfl rfl ?_
  simp only[a7,dK,AV.fits,dZ,aE]
  intro ⟨⟨_,_,_,hl,_⟩,_⟩
  simp -implicitDefEqProofs only[aB,seval,qK]
  refine cT (fun h=>?_) (fun h=>?_)
  · simp only[bL] at h
    subst h
    simp -implicitDefEqProofs only[aB,seval,qK]
    refine(aD.see (fun s=>aML l n s) (aVR (Seen.same .nil)) rfl).to ?_
    simp -implicitDefEqProofs only[aB,seval]
    refine aT (fun h=>?_) (fun h=>?_)
    · simp only[gH,cI] at h
      rw[aK h]
      simp -implicitDefEqProofs only[aB,seval,qK]
      refine fT dC fH fJ rfl rfl (g9 rfl rfl) (by intro e h;simp only[cE] at h;obtain⟨t,_,rfl⟩:=h;rfl) hb (by simp;omega) (by simp;omega) (fun b' hb'=>?_)
      rw[show l.map iv++ [AV.int .i64 n]=(l++ [n]).map iv by simp] at hb' ⊢
      simp -implicitDefEqProofs only[aB,seval,qK]
      refine dW (σ:=List Int×Nat) [] [4,23,24] ts (fun i p=>bR (ts.drop i) p.1=bR ts (l++ [n])∧p.1.length+aM Tm.nodes (ts.drop i)≤1099511627776∧(p.1.map iv≠[]→st p.2=none)) (fun i p=>[(1,bQ 1 p.2 (p.1.map iv)),(25,.int .i64 i)]) (fun _ p=>bE st p.2 (p.1.map iv)) (by decide +kernel)
       ⟨(l++ [n],b'),⟨rfl,by simp;omega,hb'⟩,aP.mk (by simp -implicitDefEqProofs only[aE,aB,↓aX,seval])⟩ (fun i x p hx hlt bF hdr hinv=>?_) (fun p hge hinv=>?_)
      case refine_2=>
       simp -implicitDefEqProofs only[aE,hge,aB,seval]
       rw[←hinv.1,gU]
       exact⟨p.2,rfl,rfl,hinv.2.2⟩
      obtain⟨acc,b⟩:=p
      rw[hdr] at hinv
      obtain⟨i1,i2,i3⟩:=hinv
      simp only[aM] at i2
      have hw:=bK (n:=(i:Int)+1)
      simp -implicitDefEqProofs only[aE,bF,bJ (av:=Tm.av) aQ hx (aN x),bU,aN,aB,seval,qK]
      intro b2 hb2
      obtain⟨hn2,hne⟩:=CX hb2
      have hc2: [AV.int IntKind.i64 0,AV.int IntKind.i64 0,AV.str ⟨#[]⟩,AV.fslice []].length=4:=rfl
      try simp -implicitDefEqProofs only[d4,wH (x:=x.av.cells) (Tm.fG x) hc2,Tm.fG,Tm.d8,pJ (Tm.fG x),oO (bU x),cQ,aB,↓aX,seval,qK]
      rw[kO hne]
      refine(IH x (cL hx) acc b _ (fun h=>by rw[aA.aF _ _ (dA (hne h))];exact i3 h) (by omega)).mono ?_
      rintro _ _ ⟨b',rfl,rfl,hb'⟩
      simp -implicitDefEqProofs only[hw,aB,seval]
      obtain⟨hd,xU⟩:=GO (o:=.cells x.av.cells) hn2 hb'
      have hvl:=Tm.CD x acc
      refine⟨(x.vars acc,b'),⟨i1,by simp only;omega,xU⟩,aP.drop hd (by simp -implicitDefEqProofs only[aB,seval])⟩
    · simp only[jY,bL] at h
      rw[aG (by simp [h])]
      simp -implicitDefEqProofs only[aB,seval,qK]
      refine dW (σ:=List Int×Nat) [] [4,23,24] ts (fun i p=>bR (ts.drop i) p.1=bR ts (l)∧p.1.length+aM Tm.nodes (ts.drop i)≤1099511627776∧(p.1.map iv≠[]→st p.2=none)) (fun i p=>[(1,bQ 1 p.2 (p.1.map iv)),(25,.int .i64 i)]) (fun _ p=>bE st p.2 (p.1.map iv)) (by decide +kernel)
       ⟨(l,b),⟨rfl,by simp;omega,hb⟩,aP.mk (by simp -implicitDefEqProofs only[aE,aB,↓aX,seval])⟩ (fun i x p hx hlt bF hdr hinv=>?_) (fun p hge hinv=>?_)
      case refine_2=>
       simp -implicitDefEqProofs only[aE,hge,aB,seval]
       rw[←hinv.1,gU]
       exact⟨p.2,rfl,rfl,hinv.2.2⟩
      obtain⟨acc,b⟩:=p
      rw[hdr] at hinv
      obtain⟨i1,i2,i3⟩:=hinv
      simp only[aM] at i2
      have hw:=bK (n:=(i:Int)+1)
      simp -implicitDefEqProofs only[aE,bF,bJ (av:=Tm.av) aQ hx (aN x),bU,aN,aB,seval,qK]
      intro b2 hb2
      obtain⟨hn2,hne⟩:=CX hb2
      have hc2: [AV.int IntKind.i64 0,AV.int IntKind.i64 0,AV.str ⟨#[]⟩,AV.fslice []].length=4:=rfl
      try simp -implicitDefEqProofs only[d4,wH (x:=x.av.cells) (Tm.fG x) hc2,Tm.fG,Tm.d8,pJ (Tm.fG x),oO (bU x),cQ,aB,↓aX,seval,qK]
      rw[kO hne]
      refine(IH x (cL hx) acc b _ (fun h=>by rw[aA.aF _ _ (dA (hne h))];exact i3 h) (by omega)).mono ?_
      rintro _ _ ⟨b',rfl,rfl,hb'⟩
      simp -implicitDefEqProofs only[hw,aB,seval]
      obtain⟨hd,xU⟩:=GO (o:=.cells x.av.cells) hn2 hb'
      have hvl:=Tm.CD x acc
      refine⟨(x.vars acc,b'),⟨i1,by simp only;omega,xU⟩,aP.drop hd (by simp -implicitDefEqProofs only[aB,seval])⟩
  · simp only[mY,cI] at h
    rw[aG (by simp [h])]
    simp -implicitDefEqProofs only[h,aB,seval,qK]
    refine dW (σ:=List Int×Nat) [] [4,23,24] ts (fun i p=>bR (ts.drop i) p.1=bR ts (l)∧p.1.length+aM Tm.nodes (ts.drop i)≤1099511627776∧(p.1.map iv≠[]→st p.2=none)) (fun i p=>[(1,bQ 1 p.2 (p.1.map iv)),(25,.int .i64 i)]) (fun _ p=>bE st p.2 (p.1.map iv)) (by decide +kernel)
     ⟨(l,b),⟨rfl,by simp;omega,hb⟩,aP.mk (by simp -implicitDefEqProofs only[aE,aB,↓aX,seval])⟩ (fun i x p hx hlt bF hdr hinv=>?_) (fun p hge hinv=>?_)
    case refine_2=>
     simp -implicitDefEqProofs only[aE,hge,aB,seval]
     rw[←hinv.1,gU]
     exact⟨p.2,rfl,rfl,hinv.2.2⟩
    obtain⟨acc,b⟩:=p
    rw[hdr] at hinv
    obtain⟨i1,i2,i3⟩:=hinv
    simp only[aM] at i2
    have hw:=bK (n:=(i:Int)+1)
    simp -implicitDefEqProofs only[aE,bF,bJ (av:=Tm.av) aQ hx (aN x),bU,aN,aB,seval,qK]
    intro b2 hb2
    obtain⟨hn2,hne⟩:=CX hb2
    have hc2: [AV.int IntKind.i64 0,AV.int IntKind.i64 0,AV.str ⟨#[]⟩,AV.fslice []].length=4:=rfl
    try simp -implicitDefEqProofs only[d4,wH (x:=x.av.cells) (Tm.fG x) hc2,Tm.fG,Tm.d8,pJ (Tm.fG x),oO (bU x),cQ,aB,↓aX,seval,qK]
    rw[kO hne]
    refine(IH x (cL hx) acc b _ (fun h=>by rw[aA.aF _ _ (dA (hne h))];exact i3 h) (by omega)).mono ?_
    rintro _ _ ⟨b',rfl,rfl,hb'⟩
    simp -implicitDefEqProofs only[hw,aB,seval]
    obtain⟨hd,xU⟩:=GO (o:=.cells x.av.cells) hn2 hb'
    have hvl:=Tm.CD x acc
    refine⟨(x.vars acc,b'),⟨i1,by simp only;omega,xU⟩,aP.drop hd (by simp -implicitDefEqProofs only[aB,seval])⟩
termination_by t=>SizeOf.sizeOf t
decreasing_by have:=List.sizeOf_lt_of_mem hx;simp only[Tm.mk.sizeOf_spec];omega
abbrev P2:=zi tI_3 (zi zI_3 (zi aZ (zi tI_28 (zi zI_28 (zi aQ (zi bM (zi bO (zi cA (zi tI_40 (zi zI_40 (zi dC (zi fH (zi fJ (zi fL (zi tI_52 (zi zI_52 (zi bX (zi bY (zi bZ (zi b7 bV))))))))))))))))))))
theorem MD(l:List Tm)(st:aA)(hsz:aM Tm.nodes l≤1099511627776):aD prog 150 [.slice (l.map Tm.av)] st (fun r st'=>r=.slice ((bR l []).map iv)∧st'=st):=by
 refine aD.fin ?_
 refine wF [] 1 func150 ntmps150 rfl rfl ?_
 simp only[dK,AV.fits,dZ,aE]
 intro ⟨hl,_⟩
 simp -implicitDefEqProofs only[aE,aB,seval,P2]
 refine dW (σ:=List Int×Nat) [] [2,6,7] l (fun i p=>bR (l.drop i) p.1=bR l ([])∧p.1.length+aM Tm.nodes (l.drop i)≤1099511627776∧(p.1.map iv≠[]→st p.2=none)) (fun i p=>[(3,bQ 1 p.2 (p.1.map iv)),(8,.int .i64 i)]) (fun _ p=>bE st p.2 (p.1.map iv)) (by decide +kernel)
  ⟨([],0),⟨rfl,by simp;omega,by simp⟩,aP.mk (by simp -implicitDefEqProofs only[bG,kP,aB,↓aX,seval])⟩ (fun i x p hx hlt bF hdr hinv=>?_) (fun p hge hinv=>?_)
 case refine_2=>
  simp -implicitDefEqProofs only[hge,aB,seval]
  rw[←hinv.1,gU]
  exact⟨p.2,p.1.map iv,st,rfl,hinv.2.2,by simp [AV.b9],⟨1,aG0 p.1⟩,m9,rfl⟩
 obtain⟨acc,b⟩:=p
 rw[hdr] at hinv
 obtain⟨i1,i2,i3⟩:=hinv
 simp only[aM] at i2
 have hw:=bK (n:=(i:Int)+1)
 simp -implicitDefEqProofs only[bF,bJ (av:=Tm.av) aQ hx (aN x),bU,aN,aB,seval,P2]
 intro b2 hb2
 obtain⟨hn2,hne⟩:=CX hb2
 have sX:∀zs:List AV,zs.length=4→aS zs 0 x.av.cells=x.av.cells:=fun zs h=>wH (Tm.fG x) h
 try simp -implicitDefEqProofs only[d4,sX,Tm.fG,Tm.d8,pJ (Tm.fG x),oO (bU x),cQ,aB,↓aX,seval,P2]
 rw[kO hne]
 refine(SF x acc b _ (fun h=>by rw[aA.aF _ _ (dA (hne h))];exact i3 h) (by omega)).mono ?_
 rintro _ _ ⟨b',rfl,rfl,hb'⟩
 simp -implicitDefEqProofs only[hw,aB,seval]
 obtain⟨hd,xU⟩:=GO (o:=.cells x.av.cells) hn2 hb'
 have hvl:=Tm.CD x acc
 exact⟨(x.vars acc,b'),⟨i1,by simp only;omega,xU⟩,aP.drop hd (by simp -implicitDefEqProofs only[aB,seval])⟩
abbrev FQ:=zi tI_3 (zi zI_3 (zi aZ (zi tI_28 (zi zI_28 (zi aQ (zi bM (zi bO (zi cA (zi tI_40 (zi zI_40 (zi dC (zi fH (zi fJ (zi fL (zi tI_52 (zi zI_52 (zi bX (zi bY (zi bZ (zi b7 bV))))))))))))))))))))
theorem DC:∀(t:Tm) (l:List Int) (b:Nat) (st:aA),t.wf=true→(l.map iv≠[]→st b=none)→l.length+t.nodes≤1099511627776→aD prog 157 [bQ 1 b (l.map iv),t.av] (bE st b (l.map iv)) (Grown st (t.vars l))
 | .mk k n s ts,l,b,st,hwf,hb,hsz=>by
  obtain⟨hk,aS2⟩:=Tm.QH hwf
  have IH:=fun(x:Tm) (hx:x∈ts) l b st=>DC x l b st (aS2 x hx)
  have haL:=CY (w:=1) (b:=b) (l:=l.map iv) fL
  simp only[Tm.vars]
  rw[Tm.jS] at hsz
  refine wF [] 2 func157 ntmps157 rfl rfl ?_
  simp only[a7,dK,AV.fits,dZ,aE]
  intro ⟨_,⟨_,_,_,hl,_⟩⟩
  simp -implicitDefEqProofs only[aB,seval,FQ]
  refine aT (fun h=>?_) (fun h=>?_)
  · simp only[bL] at h
    obtain rfl:=hk h
    subst h
    simp -implicitDefEqProofs only[aB,seval]
    have hnn:l.length≤1099511627776:=by omega
    refine dW (σ:=Unit) [] [0,3] l (fun i _=>∀y∈l.take i,y≠n) (fun i _=>[(5,.int .i64 i)]) (fun _ _=>bE st b (l.map iv)) (by decide +kernel) ⟨(),by simp,aP.mk (by simp -implicitDefEqProofs only[aB,↓aX,seval])⟩ (fun i x _ hx hlt bF hdr hinv=>?_) (fun _ hge hinv=>?_)
    case refine_2=>
     rw[eM] at hinv
     have fV:n∉l:=fun h=>hinv n h rfl
     simp -implicitDefEqProofs only[haL,aE,hge,aB,seval,FQ]
     refine fT dC fH fJ rfl rfl (g9 rfl rfl) (aG0 l) hb (by simp;omega) (by simp;omega) (fun b' hb'=>?_)
     rw[show l.map iv++ [AV.int .i64 n]=(l++ [n]).map iv by simp] at hb' ⊢
     simp -implicitDefEqProofs only[aB,seval]
     exact⟨b',by simp [bR,fV],by simp [bR,fV],by simp only[bR,fV,EY,d3];exact hb'⟩
    have hat:=RF (b:=b) (l:=l.map iv) (i:=i) (x:=iv x) dC (by rw[lX,hx];try rfl)
    obtain⟨gB,mN⟩:=RH (st:=st) (b:=b) hx
    have hw:=bK (n:=(i:Int)+1)
    simp -implicitDefEqProofs only[haL,aE,bF,aB,seval]
    refine z9 mixed (by decide +kernel) (by decide +kernel) ?_
    simp -implicitDefEqProofs only[hat,gB,mN,xA,aB,seval,FQ]
    refine aT (fun h=>?_) (fun h=>?_)
    · simp only[bL] at h
      subst h
      have fV:=cL hx
      simp -implicitDefEqProofs only[aB,seval]
      exact⟨b,by simp [bR,fV],by simp [bR,fV],by simp only[bR,fV,IY,cM];exact hb⟩
    · simp only[cI] at h
      simp -implicitDefEqProofs only[aB,seval]
      refine⟨(),?_,aP.mk (by simp -implicitDefEqProofs only[hw,aB,seval])⟩
      intro y hy
      rw[f8,hx] at hy
      rcases dQ.1 hy with hy | hy
      · exact hinv y hy
      · simp at hy;subst hy;exact h
  · simp only[cI] at h
    rw[aG (by simp [h])]
    simp -implicitDefEqProofs only[aB,seval]
    refine dW (σ:=List Int×Nat) [] [3,4] ts (fun i p=>bR (ts.drop i) p.1=bR ts l∧p.1.length+aM Tm.nodes (ts.drop i)≤1099511627776∧(p.1.map iv≠[]→st p.2=none)) (fun i p=>[(0,bQ 1 p.2 (p.1.map iv)),(6,.int .i64 i)]) (fun _ p=>bE st p.2 (p.1.map iv)) (by decide +kernel)
     ⟨(l,b),⟨rfl,by simp;omega,hb⟩,aP.mk (by simp -implicitDefEqProofs only[aB,↓aX,seval])⟩ (fun i x p hx hlt bF hdr hinv=>?_) (fun p hge hinv=>?_)
    case refine_2=>
     simp -implicitDefEqProofs only[aE,hge,aB,seval,FQ]
     rw[←hinv.1,gU]
     exact⟨p.2,rfl,rfl,hinv.2.2⟩
    obtain⟨acc,b⟩:=p
    rw[hdr] at hinv
    obtain⟨i1,i2,i3⟩:=hinv
    simp only[aM] at i2
    have hw:=bK (n:=(i:Int)+1)
    simp -implicitDefEqProofs only[aE,bF,bJ (av:=Tm.av) aQ hx (aN x),bU,aN,aB,seval,FQ]
    refine(IH x (cL hx) acc b st i3 (by omega)).mono ?_
    rintro _ _ ⟨b',rfl,rfl,hb'⟩
    have hvl:=Tm.CD x acc
    simp -implicitDefEqProofs only[hw,aB,seval]
    exact⟨(x.vars acc,b'),⟨i1,by simp only;omega,hb'⟩,aP.mk (by simp -implicitDefEqProofs only[aB,seval])⟩
termination_by t=>SizeOf.sizeOf t
decreasing_by have:=List.sizeOf_lt_of_mem hx;simp only[Tm.mk.sizeOf_spec];omega
theorem RV{A C B:List AV}{n:Nat}(hA:A.length=n)(hC:C.length=4) :
 (n+4≤(A++C++B).length)∧List.take 4 (List.drop n (A++C++B))=C∧(A++C++B)[n+0]?=C[0]?:=by
 refine⟨by simp only[dX];omega,?_,(wC (A:=A) (B:=B) hA).2.2.1 C 0 (by omega)⟩
 rw[←hA,lA,zD,←hC,CK]
abbrev OkN (t:Tm):Prop:=t.iQ=true∧t.nodes≤120
end Go.AW
namespace Go.AW
def mQ(n:Int):Tm:=.mk 2 n ⟨#[]⟩ []
theorem aTO{n:Int}(h:iR n):(mQ n).valid=true:=by
 have ho:(mQ n).iQ=true:=by
  unfold mQ
  rw[Tm.yB]
  simp [eH,h.1,h.2]
 rw[Tm.aKK ho]
 simp [mQ,Tm.jS,aM,Tm.t8]
def gJ(b:Bool):Int:=if b=true then 0 else 1
def G6(s:ByteArray)(a b:Int):Bool:=
 if s=⟨#[60]⟩ then decide (a<b) else if s=⟨#[62]⟩ then decide (b<a) else if s=⟨#[61,60]⟩ then decide (a≤b) else if s=⟨#[62,61]⟩ then decide (b≤a) else decide (a=b)
def rZ(s:ByteArray)(x:Tm):Bool:=
 if s=⟨#[118,97,114]⟩ then decide (x.k=1) else if s=⟨#[110,111,110,118,97,114]⟩ then !decide (x.k=1) else if s=⟨#[97,116,111,109]⟩ then decide (x.k=3)&&decide ((x.ts.length:Int)=0) else decide (x.k=2)
def vU(s:ByteArray)(x y:Tm):Int:=(both (fun a b=>(0,gJ (G6 s a b))) x.ev y.ev).2
def l8(x y:Tm):Option Tm:=if 1≤x.n∧x.n≤y.ts.length then y.ts[(x.n - 1).toNat]? else none
structure aYF (σ:Sub):Prop where
 gA:cD σ
 iQ:cF (fun t=>t.iQ=true) σ
 okN:cF OkN σ
theorem RP{x y u:Tm}(h:l8 x y=some u):u∈y.ts:=by
 unfold l8 at h
 split at h
 · exact cL h
 · cases h
theorem R7{s:ByteArray}{n:Nat}(h:isBuiltin s (n:Int)=true) :
 (n=2∧(fK pX s=true∨s=⟨#[61]⟩∨s=⟨#[92,61]⟩∨s=⟨#[61,61]⟩∨s=⟨#[105,115]⟩))∨(n=0∧(s=⟨#[116,114,117,101]⟩∨s=⟨#[102,97,105,108]⟩)) ∨
 (n=1∧(s=⟨#[118,97,114]⟩∨s=⟨#[110,111,110,118,97,114]⟩∨s=⟨#[97,116,111,109]⟩∨s=⟨#[105,110,116]⟩))∨(n=3∧s=⟨#[97,114,103]⟩):=by
 unfold isBuiltin at h
 simp only[cond_eq_ite] at h
 split at h
 · rename_i h1
   left
   refine⟨by simp at h;omega,?_⟩
   simp only[oJ,bL] at h1
   simp only[fK,pX,zC,List.any_nil,oJ,bL,jX,dN]
   rcases h1 with (((((((h1 | h1) | h1) | h1) | h1) | h1) | h1) | h1) | h1<;>simp [h1]
 split at h
 · rename_i h1
   right;left
   refine⟨by simp at h;omega,?_⟩
   simpa using h1
 split at h
 · rename_i h1
   right;right;left
   refine⟨by simp at h;omega,?_⟩
   simp only[oJ,bL] at h1
   rcases h1 with ((h1 | h1) | h1) | h1<;>simp [h1]
 split at h
 · rename_i h1
   right;right;right
   exact⟨by simp at h;omega,by simpa using h1⟩
 · cases h
noncomputable def qN(σ:Sub)(a b:Tm):Int×Sub×List Int:=(gJ (iE σ a b).1,(iE σ a b).2)
noncomputable def tV(σ:Sub)(x y z:Tm):Int×Sub×List Int:=
 if x.k=1∨y.k=1 then(2,σ,[]) else if x.k≠2∨y.k≠3∨y.ts.length=0 then(3,σ,[]) else match l8 x y with
  | some u=>qN σ z u
  | none=>(1,σ,[])
noncomputable def cS(σ:Sub)(s:ByteArray):List Tm→Int×Sub×List Int
 | []=>(gJ (decide (s=⟨#[116,114,117,101]⟩)),σ,[])
 | [x]=>(gJ (rZ s x),σ,[])
 | [x,y]=>if fK pX s=true then(vU s x y,σ,[]) else if s=⟨#[61]⟩ then qN σ x y else if s=⟨#[92,61]⟩ then(gJ (!(iE σ x y).1),σ,[])
  else if s=⟨#[61,61]⟩ then(gJ (x.same y),σ,[]) else if y.ev.2≠0 then(y.ev.2,σ,[]) else qN σ x (mQ y.ev.1)
 | [x,y,z]=>tV σ x y z
 | _=>(0,σ,[])
structure lZ (N:Int) (σ:Sub) (σ':Sub) (add:List Int):Prop where
 gA:cD σ'
 ok:cF (a9 N) σ'
 aV:∀n,n∉add→σ' n=σ n
 new:∀n∈add,σ n=none∧σ' n≠none
 nodup:add.Nodup
 fK:∀n∈add,0≤n∧n<N
theorem lZ.same{N:Int}{σ:Sub}(hg:cD σ)(ho:cF (a9 N) σ):lZ N σ σ []:=⟨hg,ho,fun _ _=>rfl,by simp,kM,by simp⟩
theorem xC.uR{N:Int}{σ:Sub}{a b:Tm}{r:Bool}{σ':Sub}{tr:List Int}(h:xC N σ a b r σ' tr):lZ N σ σ' tr:=⟨h.mG.gA,h.ok,h.mG.aV,h.mG.new,h.mG.nodup,h.fK⟩
theorem lZ.mG{N:Nat}{σ:Sub}{a b:Tm}(hg:cD σ)(ho:cF (a9 N) σ)(ha:a9 N a)(hb:a9 N b):lZ N σ (iE σ a b).2.1 (iE σ a b).2.2:=by
 obtain⟨r,σ',tr,h⟩:=sB hg ho ha hb
 rw[h.eq]
 exact h.uR
theorem IP{N:Int}{n:Int}(h:iR n):a9 N (mQ n):=by
 have h1:=aTO h
 have h2:=Tm.F0 h1
 refine⟨⟨h2.1,h2.2.1,fun v hv=>?_⟩,Tm.FZ h1⟩
 unfold mQ at hv
 rw[Tm.kL (by decide)] at hv
 obtain⟨t,ht,_⟩:=hv
 cases ht
theorem RQ{N:Int}{x y u:Tm}(hy:a9 N y)(hk:y.k≠1)(h:l8 x y=some u):a9 N u:=qD N y hk hy u (RP h)
theorem JH{N:Nat}{σ:Sub}(hg:cD σ)(ho:cF (a9 N) σ)(s:ByteArray)(ks:List Tm)(hv:∀x∈ks,a9 N x):lZ N σ (cS σ s ks).2.1 (cS σ s ks).2.2:=by
 have hs:=lZ.same hg ho
 match ks,hv with
 | [],_=>exact hs
 | [x],_=>exact hs
 | [x,y],hv=>
  have hx:=hv x (by simp)
  have hy:=hv y (by simp)
  simp only[cS]
  split
  · exact hs
  split
  · exact lZ.mG hg ho hx hy
  split
  · exact hs
  split
  · exact hs
  split
  · exact hs
  · exact lZ.mG hg ho hx (IP (Tm.sQ y hy.1))
 | [x,y,z],hv=>
  have hy:=hv y (by simp)
  have hz:=hv z (by simp)
  simp only[cS,tV]
  split
  · exact hs
  rename_i h1
  split
  · exact hs
  split
  · rename_i u hu
    exact lZ.mG hg ho hz (RQ hy (fun h=>h1 (.inr h)) hu)
  · exact hs
 | a::b::c::d::l,_=>exact hs
theorem aP4(ρ:Int→Int):∀t:Tm,(bP ρ t).ev=t.ev:=by
 intro t
 induction t using Tm.ind with
 | h k n s ts ih=>
  by_cases h1:k=1
  · rw[wG ρ (t:=.mk k n s ts) h1,vr,Tm.vZ,Tm.vZ,h1]
    simp
  rw[uO ρ h1,Tm.vZ,Tm.vZ,vF]
  have:ts.map (Tm.ev∘bP ρ)=ts.map Tm.ev:=pO fun x hx=>ih x hx
  rw[this]
section
variable {ρ:Int→Int} {N:Int} {σ τ:Sub}
theorem eR.back(S:eR ρ N σ τ):∃δ:Int→Int,∀v,0≤v→v<N→δ (ρ v)=v:=by
 refine⟨fun w=>open Classical in if h:∃v,0≤v∧v<N∧ρ v=w then h.choose else 0,fun v h0 h1=>?_⟩
 have h:∃u,0≤u∧u<N∧ρ u=ρ v:=⟨v,h0,h1,rfl⟩
 simp only[dif_pos h]
 obtain⟨a,b,c⟩:=h.choose_spec
 exact S.inj _ _ a b h0 h1 c
theorem eR.aVD(S:eR ρ N σ τ){x y:Tm}(hx:cB N x)(hy:cB N y)(e:bP ρ x=bP ρ y):x=y:=by
 obtain⟨δ,hδ⟩:=S.back
 have key:∀ {t:Tm},cB N t→bP δ (bP ρ t)=t:=fun {t} ht=>by
  rw[show bP δ (bP ρ t)=t.aJ fun v=>vr (δ (ρ v)) from E7 ρ _ t]
  rw[pE (g:=vr) t fun v hv=>by rw[hδ v (ht.2.2 v hv).1 (ht.2.2 v hv).2]]
  exact N4 t ht.2.1
 rw[←key hx,e,key hy]
theorem eR.same(S:eR ρ N σ τ){x y:Tm}(hx:cB N x)(hy:cB N y):(bP ρ x).same (bP ρ y)=x.same y:=by
 rw[wZ,Tm.yH,Tm.yH]
 exact⟨S.aVD hx hy,fun e=>by rw[e]⟩
theorem aWK(ρ:Int→Int)(s:ByteArray)(x:Tm):rZ s (bP ρ x)=rZ s x:=by
 unfold rZ
 rw[wE]
 by_cases h:x.k=1
 · rw[h];simp
 · have:(bP ρ x).ts.length=x.ts.length:=by
    rw[BW ρ h]
    simp only[Tm.ts,aE]
   rw[this]
theorem aL1(ρ:Int→Int){x y:Tm}(hx:x.k=2)(hy:y.k=3):l8 (bP ρ x) (bP ρ y)=(l8 x y).map (bP ρ):=by
 obtain⟨k,n,s,ts⟩:=x
 obtain⟨k',n',s',ts'⟩:=y
 simp only[Tm.k] at hx hy
 subst hx hy
 rw[uO ρ (by decide),uO ρ (by decide)]
 unfold l8
 show(if 1≤n∧n≤((ts'.map (bP ρ)).length:Int) then(ts'.map (bP ρ))[(n - 1).toNat]? else none)=Option.map (bP ρ) (if 1≤n∧n≤(ts'.length:Int) then ts'[(n - 1).toNat]? else none)
 by_cases h:1≤n∧n≤(ts'.length:Int)
 · rw[aK h,aK (by rw[aE];exact h),lX]
 · rw[aG h,aG (by rw[aE];exact h)];try rfl
def lH(ρ:Int→Int)(N:Int)(x y:Int×Sub×List Int):Prop:=y.1=x.1∧y.2.2=x.2.2.map ρ∧eR ρ N x.2.1 y.2.1
theorem lH.same(S:eR ρ N σ τ)(c:Int):lH ρ N (c,σ,[]) (c,τ,[]):=⟨rfl,rfl,S⟩
end
section
variable {ρ:Int→Int} {N:Nat} {σ τ:Sub}
theorem lH.mG(S:eR ρ N σ τ)(hg:cD σ)(hg':cD τ)(ho:cF (a9 N) σ){a b:Tm}(ha:a9 N a)(hb:a9 N b):lH ρ N (qN σ a b) (qN τ (bP ρ a) (bP ρ b)):=by
 obtain⟨r,σ',tr,h⟩:=sB hg ho ha hb
 obtain⟨g,hg2⟩:=h.run
 obtain⟨τ',e,S',_⟩:=S.iE hg hg' ho.kZ ha.1 hb.1 hg2
 unfold qN
 rw[h.eq,e]
 exact⟨rfl,rfl,S'⟩
theorem aVE(ρ:Int→Int)(n:Int):bP ρ (mQ n)=mQ n:=uO ρ (by decide)
theorem eR.cS(S:eR ρ N σ τ)(hg:cD σ)(hg':cD τ)(ho:cF (a9 N) σ)(s:ByteArray)(ks:List Tm)(hv:∀x∈ks,a9 N x):lH ρ N (AW.cS σ s ks) (AW.cS τ s (ks.map (bP ρ))):=by
 match ks,hv with
 | [],_=>exact lH.same S _
 | [x],_=>
  simp only[bH,bG,AW.cS,aWK]
  exact lH.same S _
 | [x,y],hv=>
  have hx:=hv x (by simp)
  have hy:=hv y (by simp)
  have hu:=lH.mG S hg hg' ho hx hy
  simp only[bH,bG,AW.cS,vU,aP4,S.same hx.1 hy.1]
  by_cases h1:fK pX s=true
  · rw[aK h1,aK h1];exact lH.same S _
  rw[aG h1,aG h1]
  by_cases h2:s=⟨#[61]⟩
  · rw[aK h2,aK h2];exact hu
  rw[aG h2,aG h2]
  by_cases h3:s=⟨#[92,61]⟩
  · rw[aK h3,aK h3]
    obtain⟨r,σ',tr,h⟩:=sB hg ho hx hy
    obtain⟨g,hg2⟩:=h.run
    obtain⟨τ',e,_,_⟩:=S.iE hg hg' ho.kZ hx.1 hy.1 hg2
    rw[h.eq,e]
    exact lH.same S _
  rw[aG h3,aG h3]
  by_cases h4:s=⟨#[61,61]⟩
  · rw[aK h4,aK h4];exact lH.same S _
  rw[aG h4,aG h4]
  by_cases h5:y.ev.2≠0
  · rw[aK h5,aK h5];exact lH.same S _
  rw[aG h5,aG h5]
  have:=lH.mG S hg hg' ho hx (IP (N:=N) (Tm.sQ y hy.1))
  rw[aVE] at this
  exact this
 | [x,y,z],hv=>
  have hy:=hv y (by simp)
  have hz:=hv z (by simp)
  simp only[bH,bG,AW.cS,tV,wE]
  by_cases h1:x.k=1∨y.k=1
  · rw[aK h1,aK h1];exact lH.same S _
  rw[aG h1,aG h1]
  have hl:(bP ρ y).ts.length=y.ts.length:=by
   rw[BW ρ (t:=y) (fun h=>h1 (.inr h))]
   simp only[Tm.ts,aE]
  rw[hl]
  by_cases h2:x.k≠2∨y.k≠3∨y.ts.length=0
  · rw[aK h2,aK h2];exact lH.same S _
  rw[aG h2,aG h2]
  have kx:x.k=2:=y9 fun h=>h2 (.inl h)
  have ky:y.k=3:=y9 fun h=>h2 (.inr (.inl h))
  rw[aL1 ρ kx ky]
  cases hu:l8 x y with
  | none=>exact lH.same S _
  | some u=>exact lH.mG S hg hg' ho hz (RQ hy (fun h=>h1 (.inr h)) hu)
 | a::b::c::d::l,_=>
  simp only[bH,AW.cS]
  exact lH.same S _
end
theorem aV5(σ:Sub)(s:ByteArray)(ks:List Tm):0≤(cS σ s ks).1:=by
 have hc:∀b,0≤gJ b:=fun b=>by unfold gJ;split<;>omega
 have hr:∀n,0≤(iA n).2:=fun n=>by unfold iA;split<;>simp
 have har:∀s a b,0≤(pU s a b).2:=fun s a b=>by
  unfold pU
  split
  · exact hr _
  split
  · exact hr _
  split
  · exact hr _
  split
  · simp
  split
  · simp
  · simp
 have hb:∀(f:Int→Int→Int×Int) (x y:Int×Int),(∀a b,0≤(f a b).2)→0≤x.2→0≤y.2→0≤(both f x y).2:=fun f x y hf hx hy=>by
  unfold both
  split
  · exact hx
  split
  · exact hy
  · exact hf _ _
 have he:∀t:Tm,0≤t.ev.2:=by
  intro t
  induction t using Tm.ind with
  | h k n s ts ih=>
   rw[Tm.vZ]
   split
   · simp
   split
   · simp
   split
   · match ts,ih with
     | [],_=>simp [two]
     | [x],_=>simp [two]
     | [x,y],ih=>exact hb _ _ _ (har s) (ih x (by simp)) (ih y (by simp))
     | x::y::z::l,_=>simp [two]
   · simp
 match ks with
 | []=>exact hc _
 | [x]=>exact hc _
 | [x,y]=>
  simp only[cS]
  split
  · exact hb _ _ _ (fun _ _=>hc _) (he x) (he y)
  split
  · exact hc _
  split
  · exact hc _
  split
  · exact hc _
  split
  · exact he y
  · exact hc _
 | [x,y,z]=>
  simp only[cS,tV]
  split
  · simp
  split
  · simp
  split
  · exact hc _
  · simp
 | a::b::c::d::l=>simp [cS]
abbrev Cl:=Tm×List Tm
def bD:Cl→AV
 | (.mk k n s ts,b)=>.agg [.int .i64 k,.int .i64 n,.str s,.slice (ts.map Tm.av),.slice (b.map Tm.av)]
theorem mK(k n:Int)(s:ByteArray)(ts b:List Tm):bD (.mk k n s ts,b)=.agg [.int .i64 k,.int .i64 n,.str s,.slice (ts.map Tm.av),.slice (b.map Tm.av)]:=rfl
theorem pW(c:Cl):(bD c).isAgg=true:=by obtain⟨⟨k,n,s,ts⟩,b⟩:=c;rfl
theorem gD(c:Cl):(bD c).width=5:=by obtain⟨⟨k,n,s,ts⟩,b⟩:=c;rfl
theorem MI(c:Cl):(bD c).cells.length=5:=by obtain⟨⟨k,n,s,ts⟩,b⟩:=c;rfl
theorem G5(c:Cl):(bD c).cells.all AV.storable=true:=by obtain⟨⟨k,n,s,ts⟩,b⟩:=c;rfl
theorem MJ(c:Cl):(bD c).b9=false:=by obtain⟨⟨k,n,s,ts⟩,b⟩:=c;rfl
def sJ(x y:Cl):Bool:=x.1.same y.1&&gK Tm.same x.2 y.2
theorem aPI(x:Cl):sJ x x=true:=by
 unfold sJ
 rw[(Tm.yH x.1 x.1).2 rfl,(AR (fun x _ y=>Tm.yH x y)).2 rfl]
 try rfl
def lL(c:Cl):Nat:=c.1.sz+(c.2.length+aM Tm.sz c.2)
def oS:Cl→Nat
 | (.mk _ _ _ ts,b)=>3+aM Tm.dB ts+aM Tm.dB b
def xK:Cl→Int→Cl
 | (.mk _ _ _ ts,b),j=>(.mk j (j+1) (mt (j+1+1)) (fB Tm.mark Tm.dB ts (j+1+1+1)),fB Tm.mark Tm.dB b (j+1+1+1+(aM Tm.dB ts:Nat)))
theorem MK(k n:Int)(s:ByteArray)(ts b:List Tm):oS (.mk k n s ts,b)=3+aM Tm.dB ts+aM Tm.dB b:=rfl
def OI:Tm→Bool | .mk k _ s ts=>pG k s (ts.length:Int)
def oT(c:Cl):Bool:=c.1.valid&&OI c.1&&(decide (c.2.length≤6)&&c.2.all Tm.goal)
def nI(p:List Cl):Bool:=decide (p.length≤20)&&p.all oT
theorem I6{st:aA}{k n:Int}{s:ByteArray}{ts b:List Tm}{o:AV}{bs:List Nat} :
 aR st (bD (.mk k n s ts,b)) o bs↔∃q b1 q' b2,o=.agg [.int .i64 k,.int .i64 n,.str s,q,q']∧bs=b1++b2∧aR st (.slice (ts.map Tm.av)) q b1∧aR st (.slice (b.map Tm.av)) q' b2:=by
 rw[mK]
 generalize AV.slice (ts.map Tm.av)=x
 generalize AV.slice (b.map Tm.av)=y
 simp only[aR,aU]
 constructor
 · rintro⟨os,rfl,o1,os1,b1,b1',rfl,rfl,⟨rfl,rfl⟩,o2,os2,b2,b2',rfl,rfl,⟨rfl,rfl⟩,o3,os3,b3,b3',rfl,rfl,⟨rfl,rfl⟩,o4,os4,b4,b4',rfl,rfl,h,o6,os6,b6,b6',rfl,rfl,h',rfl,rfl⟩
   exact⟨o4,b4,o6,b6,rfl,by simp,h,h'⟩
 · rintro⟨q,b1,q',b2,rfl,rfl,h,h'⟩
   exact⟨_,rfl,_,_,[],b1++b2,rfl,rfl,⟨rfl,rfl⟩,_,_,[],b1++b2,rfl,rfl,⟨rfl,rfl⟩,_,_,[],b1++b2,rfl,rfl,⟨rfl,rfl⟩,q,_,b1,b2,rfl,rfl,h,q',[],b2,[],rfl,by simp,h',rfl,rfl⟩
end Go.AW
