/- Unification comes to an end. -/
import Derived.Test.YthigelfjekcbmaaGreatDoorSlsj
import Derived.Test.YthigelfjekcbmaaGreatDoorSlsg
import Derived.Test.YthigelfjekcbmaaGreatDoorSlsi
set_option linter.unusedSimpArgs false
set_option linter.unusedVariables false
set_option maxRecDepth 100000
namespace Go.AW
theorem aIU(g g':Nat)(ih:∀σ a b x,cV g σ a b=some x→cV g' σ a b=some x):∀xs ys σ x,dH g σ xs ys=some x→dH g' σ xs ys=some x:=by
 intro xs
 induction xs with
 | nil=>intro ys σ x h;cases ys<;>simpa only[dH] using h
 | cons a xs ihx=>
  intro ys σ x h
  cases ys with
  | nil=>simpa only[dH] using h
  | cons b ys=>
   rw[dH] at h ⊢
   cases h1:cV g σ a b with
   | none=>rw[h1] at h;cases h
   | some p=>
    rw[h1] at h
    rw[ih _ _ _ _ h1]
    obtain⟨r1,σ1,tr1⟩:=p
    cases r1 with
    | false=>exact h
    | true=>
     simp only at h ⊢
     cases h2:dH g σ1 xs ys with
     | none=>rw[h2] at h;cases h
     | some p2=>rw[h2] at h;rw[ihx ys σ1 p2 h2];exact h
theorem aV6:∀(g:Nat) σ a b x,cV g σ a b=some x→cV (g+1) σ a b=some x:=by
 intro g
 induction g with
 | zero=>intro σ a b x h;simp only[cV] at h;cases h
 | succ g ih=>
  intro σ a b x h
  rw[cV] at h ⊢
  split
  · rename_i hc;rw[aK hc] at h;exact h
  · rename_i hc
    rw[aG hc] at h
    split
    · rename_i hc;rw[aK hc] at h;exact h
    · rename_i hc
      rw[aG hc] at h
      split
      · rename_i hc;rw[aK hc] at h;exact h
      · rename_i hc
        rw[aG hc] at h
        split
        · rename_i hc;rw[aK hc] at h;exact aIU g (g+1) ih _ _ _ _ h
        · rename_i hc;rw[aG hc] at h;exact h
theorem JI{g g':Nat}(hle:g≤g'){σ:Sub}{a b:Tm}{x:Bool×Sub×List Int}(h:cV g σ a b=some x):cV g' σ a b=some x:=by
 induction hle with
 | refl=>exact h
 | step _ ih=>exact aV6 _ _ _ _ _ ih
theorem aV9{g g':Nat}(hle:g≤g'){σ:Sub}{xs ys:List Tm}{x:Bool×Sub×List Int}(h:dH g σ xs ys=some x):dH g' σ xs ys=some x:=
 aIU g g' (fun _ _ _ _ h=>JI hle h) xs ys σ x h
def q9(σ:Sub)(V:List Int):Nat:=V.countP fun v=>(σ v).isNone
def gO(V:List Int)(t:Tm):Prop:=∀v∈t.vl,v∈V
def kI(V:List Int)(σ:Sub):Prop:=∀n u,σ n=some u→gO V u
theorem aV2{σ σ':Sub}{tr:List Int}{V:List Int}(aU:∀m,m∉tr→σ' m=σ m)(new:∀m∈tr,σ m=none∧σ' m≠none){m:Int}(hm:m∈tr)(hV:m∈V):q9 σ' V<q9 σ V:=by
 have mono:∀v,(σ' v).isNone=true→(σ v).isNone=true:=fun v h=>by
  by_cases hv:v∈tr
  · rw[(new v hv).1];try rfl
  · rw[←aU v hv];exact h
 have le:∀W:List Int,q9 σ' W≤q9 σ W:=fun W=>List.countP_mono_left fun v _ h=>mono v h
 unfold q9 at *
 induction V with
 | nil=>cases hV
 | cons v V ih=>
  simp only[List.countP_cons]
  have hle:=le V
  rcases cO.1 hV with rfl | hV
  · have h1:(σ m).isNone=true:=by rw[(new m hm).1];try rfl
    have h2:(σ' m).isNone=false:=by
     cases h:σ' m with
     | none=>exact absurd h (new m hm).2
     | some _=>rfl
    simp only[h1,h2,dP,jI,cJ]
    omega
  · have:=ih hV
    have h3:=mono v
    by_cases h4:(σ' v).isNone=true
    · rw[aK h4,aK (h3 h4)];omega
    · rw[aG h4];split<;>omega
theorem eU.DP{σ:Sub}{V:List Int}(hr:kI V σ){f:Nat}{t u:Tm}(h:eU σ f t u)(ht:gO V t):gO V u:=h.all (p:=gO V) (fun n u hu=>hr n u hu) ht
theorem gO.HM{V:List Int}{t x:Tm}(h:gO V t)(hk:t.k≠1)(hx:x∈t.ts):gO V x:=fun v hv=>h v (by cases t;exact(Tm.j0 hk).2 ⟨x,hx,hv⟩)
theorem aIS:∀(g:Nat),(∀σ a b r σ' tr V,cC σ→cV g σ a b=some (r,σ',tr)→kI V σ→gO V a→gO V b→kI V σ'∧∀m∈tr,m∈V) ∧
 ∀xs ys σ r σ' tr V,cC σ→xs.length=ys.length→dH g σ xs ys=some (r,σ',tr)→kI V σ→(∀x∈xs,gO V x)→(∀y∈ys,gO V y)→kI V σ'∧∀m∈tr,m∈V:=by
 intro g
 have list:∀g,(∀σ a b r σ' tr V,cC σ→cV g σ a b=some (r,σ',tr)→kI V σ→gO V a→gO V b→kI V σ'∧∀m∈tr,m∈V) →
  ∀xs ys σ r σ' tr V,cC σ→xs.length=ys.length→dH g σ xs ys=some (r,σ',tr)→kI V σ→(∀x∈xs,gO V x)→(∀y∈ys,gO V y)→kI V σ'∧∀m∈tr,m∈V:=by
  intro g ihU xs
  induction xs with
  | nil=>
   intro ys σ r σ' tr V hg hl h hr _ _
   cases ys with
   | cons _ _=>simp at hl
   | nil=>
    simp only[dH,Option.some.injEq,Prod.mk.injEq] at h
    obtain⟨rfl,rfl,rfl⟩:=h
    exact⟨hr,fun _ h=>absurd h (dD)⟩
  | cons a xs ih=>
   intro ys σ r σ' tr V hg hl h hr hx hy
   cases ys with
   | nil=>simp at hl
   | cons b ys=>
    rw[dH] at h
    cases h1:cV g σ a b with
    | none=>rw[h1] at h;cases h
    | some p=>
     obtain⟨r1,σ1,tr1⟩:=p
     have U1:=uE hg h1
     obtain⟨i1,i2⟩:=ihU σ a b r1 σ1 tr1 V hg h1 hr (hx a (by simp)) (hy b (by simp))
     rw[h1] at h
     cases r1 with
     | false=>
      simp only[Option.some.injEq,Prod.mk.injEq] at h
      obtain⟨rfl,rfl,rfl⟩:=h
      exact⟨i1,i2⟩
     | true=>
      simp only at h
      cases h2:dH g σ1 xs ys with
      | none=>rw[h2] at h;cases h
      | some p2=>
       obtain⟨r2,σ2,tr2⟩:=p2
       rw[h2] at h
       simp only[Option.some.injEq,Prod.mk.injEq] at h
       obtain⟨rfl,rfl,rfl⟩:=h
       obtain⟨j1,j2⟩:=ih ys σ1 r2 σ2 tr2 V U1.fO (by simpa using hl) h2 i1 (fun x h=>hx x (by simp [h])) (fun y h=>hy y (by simp [h]))
       exact⟨j1,fun m hm=>(dR.1 hm).elim (i2 m) (j2 m)⟩
 induction g with
 | zero=>
  have h0:∀σ a b r σ' tr V,cC σ→cV 0 σ a b=some (r,σ',tr)→kI V σ→gO V a→gO V b→kI V σ'∧∀m∈tr,m∈V:=fun σ a b r σ' tr V hg h=>by simp only[cV] at h;cases h
  exact⟨h0,list 0 h0⟩
 | succ g ih=>
  suffices hU:∀σ a b r σ' tr V,cC σ→cV (g+1) σ a b=some (r,σ',tr)→kI V σ→gO V a→gO V b→kI V σ'∧∀m∈tr,m∈V from ⟨hU,list _ hU⟩
  intro σ a b r σ' tr V hg h hr ha hb
  obtain⟨_,ihL⟩:=ih
  obtain⟨rk,B,G⟩:=hg.rs
  obtain⟨fa,wa⟩:=G.wk a
  obtain⟨fb,wb⟩:=G.wk b
  have va:=wa.DP hr ha
  have vb:=wb.DP hr hb
  have bn:∀n (t:Tm) r σ' tr,n∈V→gO V t→iP σ n t=(r,σ',tr)→kI V σ'∧∀m∈tr,m∈V:=by
   intro n t r σ' tr hn ht h
   unfold iP at h
   split at h<;>cases h
   · exact⟨hr,fun _ h=>absurd h (dD)⟩
   · refine⟨fun m u hu=>?_,fun m hm=>by simp only[cO,dD,dI] at hm;rw[hm];exact hn⟩
     simp only[Sub.set] at hu
     split at hu
     · cases hu;exact ht
     · exact hr m u hu
  rw[cV] at h
  generalize wk σ a=a at *
  generalize wk σ b=b at *
  split at h
  · simp only[Option.some.injEq,Prod.mk.injEq] at h
    obtain⟨rfl,rfl,rfl⟩:=h
    exact⟨hr,fun _ h=>absurd h (dD)⟩
  · split at h
    · rename_i hk
      exact bn _ _ _ _ _ (va _ (by rw[Tm.BF hk];simp)) vb (lV h)
    · rename_i hka
      split at h
      · rename_i hk
        exact bn _ _ _ _ _ (vb _ (by rw[Tm.BF hk];simp)) va (lV h)
      · rename_i hkb
        split at h
        · rename_i hh
          exact ihL a.ts b.ts σ r σ' tr V hg (qM.1 hh).2.2.2 h hr (fun x hx=>va.HM hka hx) (fun y hy=>vb.HM hkb hy)
        · simp only[Option.some.injEq,Prod.mk.injEq] at h
          obtain⟨rfl,rfl,rfl⟩:=h
          exact⟨hr,fun _ h=>absurd h (dD)⟩
def cD(p:Tm→Prop)(σ:Sub):Prop:=∀n u,σ n=some u→p u
theorem JJ{p:Tm→Prop}(hp:∀t:Tm,t.k≠1→p t→∀x∈t.ts,p x):∀(g:Nat),(∀σ a b r σ' tr,cC σ→cV g σ a b=some (r,σ',tr)→cD p σ→p a→p b→cD p σ') ∧
 ∀xs ys σ r σ' tr,cC σ→xs.length=ys.length→dH g σ xs ys=some (r,σ',tr)→cD p σ→(∀x∈xs,p x)→(∀y∈ys,p y)→cD p σ':=by
 intro g
 have list:∀g,(∀σ a b r σ' tr,cC σ→cV g σ a b=some (r,σ',tr)→cD p σ→p a→p b→cD p σ') →
  ∀xs ys σ r σ' tr,cC σ→xs.length=ys.length→dH g σ xs ys=some (r,σ',tr)→cD p σ→(∀x∈xs,p x)→(∀y∈ys,p y)→cD p σ':=by
  intro g ihU xs
  induction xs with
  | nil=>
   intro ys σ r σ' tr hg hl h hr _ _
   cases ys with
   | cons _ _=>simp at hl
   | nil=>
    simp only[dH,Option.some.injEq,Prod.mk.injEq] at h
    obtain⟨rfl,rfl,rfl⟩:=h
    exact hr
  | cons a xs ih=>
   intro ys σ r σ' tr hg hl h hr hx hy
   cases ys with
   | nil=>simp at hl
   | cons b ys=>
    rw[dH] at h
    cases h1:cV g σ a b with
    | none=>rw[h1] at h;cases h
    | some p=>
     obtain⟨r1,σ1,tr1⟩:=p
     have U1:=uE hg h1
     have i1:=ihU σ a b r1 σ1 tr1 hg h1 hr (hx a (by simp)) (hy b (by simp))
     rw[h1] at h
     cases r1 with
     | false=>
      simp only[Option.some.injEq,Prod.mk.injEq] at h
      obtain⟨rfl,rfl,rfl⟩:=h
      exact i1
     | true=>
      simp only at h
      cases h2:dH g σ1 xs ys with
      | none=>rw[h2] at h;cases h
      | some p2=>
       obtain⟨r2,σ2,tr2⟩:=p2
       rw[h2] at h
       simp only[Option.some.injEq,Prod.mk.injEq] at h
       obtain⟨rfl,rfl,rfl⟩:=h
       have j1:=ih ys σ1 r2 σ2 tr2 U1.fO (by simpa using hl) h2 i1 (fun x h=>hx x (by simp [h])) (fun y h=>hy y (by simp [h]))
       exact j1
 induction g with
 | zero=>
  have h0:∀σ a b r σ' tr,cC σ→cV 0 σ a b=some (r,σ',tr)→cD p σ→p a→p b→cD p σ':=fun σ a b r σ' tr hg h=>by simp only[cV] at h;cases h
  exact⟨h0,list 0 h0⟩
 | succ g ih=>
  suffices hU:∀σ a b r σ' tr,cC σ→cV (g+1) σ a b=some (r,σ',tr)→cD p σ→p a→p b→cD p σ' from ⟨hU,list _ hU⟩
  intro σ a b r σ' tr hg h hr ha hb
  obtain⟨_,ihL⟩:=ih
  obtain⟨rk,B,G⟩:=hg.rs
  obtain⟨fa,wa⟩:=G.wk a
  obtain⟨fb,wb⟩:=G.wk b
  have va:=wa.all hr ha
  have vb:=wb.all hr hb
  have bn:∀n (t:Tm) r σ' tr,p t→iP σ n t=(r,σ',tr)→cD p σ':=by
   intro n t r σ' tr ht h
   unfold iP at h
   split at h<;>cases h
   · exact hr
   · intro m u hu
     simp only[Sub.set] at hu
     split at hu
     · cases hu;exact ht
     · exact hr m u hu
  rw[cV] at h
  generalize wk σ a=a at *
  generalize wk σ b=b at *
  split at h
  · simp only[Option.some.injEq,Prod.mk.injEq] at h
    obtain⟨rfl,rfl,rfl⟩:=h
    exact hr
  · split at h
    · rename_i hk
      exact bn _ _ _ _ _ vb (lV h)
    · rename_i hka
      split at h
      · rename_i hk
        exact bn _ _ _ _ _ va (lV h)
      · rename_i hkb
        split at h
        · rename_i hh
          exact ihL a.ts b.ts σ r σ' tr hg (qM.1 hh).2.2.2 h hr (fun x hx=>hp _ hka va x hx) (fun y hy=>hp _ hkb vb y hy)
        · simp only[Option.some.injEq,Prod.mk.injEq] at h
          obtain⟨rfl,rfl,rfl⟩:=h
          exact hr
theorem aV7(V:List Int):∀(N M:Nat) (σ:Sub) (a b:Tm),cC σ→kI V σ→gO V a→gO V b→q9 σ V≤N→(a.aH (rs σ)).nodes≤M→∃g x,cV g σ a b=some x:=by
 intro N
 induction N using Nat.strongRecOn with
 | _ N ihN=>
 intro M
 induction M using Nat.strongRecOn with
 | _ M ihM=>
 intro σ a b hg hr ha hb hN hM
 have list:∀(xs ys:List Tm) (σ1:Sub),xs.length=ys.length→cC σ1→kI V σ1→(σ1=σ∨q9 σ1 V<q9 σ V)→(∀x∈xs,gO V x∧(x.aH (rs σ)).nodes<M)→(∀y∈ys,gO V y)→∃g x,dH g σ1 xs ys=some x:=by
  intro xs
  induction xs with
  | nil=>
   intro ys σ1 hl _ _ _ _ _
   cases ys with
   | cons _ _=>simp at hl
   | nil=>exact⟨0,(true,σ1,[]),by simp only[dH]⟩
  | cons x xs ih=>
   intro ys σ1 hl hg1 hr1 hc hx hy
   cases ys with
   | nil=>simp at hl
   | cons y ys=>
    have h1:∃g p,cV g σ1 x y=some p:=by
     rcases hc with rfl | hlt
     · exact ihM _ (hx x (by simp)).2 σ1 x y hg1 hr1 (hx x (by simp)).1 (hy y (by simp)) hN (cT _)
     · exact ihN (q9 σ1 V) (by omega) _ σ1 x y hg1 hr1 (hx x (by simp)).1 (hy y (by simp)) (cT _) (cT _)
    obtain⟨g1,⟨r1,σ2,tr1⟩,h1⟩:=h1
    have U1:=uE hg1 h1
    obtain⟨i1,i2⟩:=(aIS g1).1 σ1 x y r1 σ2 tr1 V hg1 h1 hr1 (hx x (by simp)).1 (hy y (by simp))
    cases r1 with
    | false=>exact⟨g1,(false,σ2,tr1),by rw[dH,h1]⟩
    | true=>
     have hc2:σ2=σ∨q9 σ2 V<q9 σ V:=by
      cases htr:tr1 with
      | nil=>rw[U1.same htr];exact hc
      | cons m _=>
       have:=aV2 (V:=V) U1.aU U1.new (m:=m) (by rw[htr];simp) (i2 m (by rw[htr];simp))
       rcases hc with rfl | hlt
       · exact .inr this
       · exact .inr (Nat.lt_trans this hlt)
     obtain⟨g2,p2,h2⟩:=ih ys σ2 (by simpa using hl) U1.fO i1 hc2 (fun z hz=>hx z (by simp [hz])) (fun z hz=>hy z (by simp [hz]))
     obtain⟨r2,σ3,tr2⟩:=p2
     refine⟨max g1 g2,(r2,σ3,tr1++tr2),?_⟩
     rw[dH,JI (Nat.le_max_left g1 g2) h1]
     simp only
     rw[aV9 (Nat.le_max_right g1 g2) h2]
 obtain⟨rk,B,G⟩:=hg.rs
 obtain⟨fa,wa⟩:=G.wk a
 obtain⟨fb,wb⟩:=G.wk b
 have va:=wa.DP hr ha
 have vb:=wb.DP hr hb
 have hma:=wa.aH G.tR
 rw[←hma] at hM
 by_cases h1:(wk σ a).k=1∧(wk σ b).k=1∧(wk σ a).n=(wk σ b).n
 · exact⟨1,_,by rw[cV,aK h1]⟩
 by_cases h2:(wk σ a).k=1
 · exact⟨1,_,by rw[cV,aG h1,aK h2]⟩
 by_cases h3:(wk σ b).k=1
 · exact⟨1,_,by rw[cV,aG h1,aG h2,aK h3]⟩
 by_cases h4:rX (wk σ a) (wk σ b)=true
 · have aQS:∀x∈(wk σ a).ts,gO V x∧(x.aH (rs σ)).nodes<M:=fun x hx=>by
    refine⟨va.HM h2 hx,?_⟩
    rw[Tm.pI _ h2,Tm.jE] at hM
    have:=pN (f:=Tm.nodes) (cE.2 ⟨x,hx,rfl⟩:x.aH (rs σ)∈(wk σ a).ts.map (Tm.aH (rs σ)))
    omega
   obtain⟨g,x,h⟩:=list (wk σ a).ts (wk σ b).ts σ (qM.1 h4).2.2.2 hg hr (.inl rfl) aQS (fun y hy=>vb.HM h3 hy)
   exact⟨g+1,x,by rw[cV,aG h1,aG h2,aG h3,aK h4];exact h⟩
 · exact⟨1,_,by rw[cV,aG h1,aG h2,aG h3,aG h4]⟩
mutual
def Tm.flat:Tm→Nat→Bool
 | .mk _ _ _ _,0=>false
 | .mk _ _ _ ts,d+1=>I2 ts d
def I2:List Tm→Nat→Bool
 | [],_=>true
 | t::ts,d=>t.flat d&&I2 ts d
end
theorem aIC:∀(ts:List Tm) (d:Nat),I2 ts d=ts.all fun t=>t.flat d
 | [],_=>rfl
 | t::ts,d=>by simp only[I2,iW,aIC ts d]
theorem Tm.C7(t:Tm):t.flat 0=false:=by cases t;simp only[Tm.flat]
theorem Tm.tJ(k n:Int)(s:ByteArray)(ts:List Tm)(d:Nat):(Tm.mk k n s ts).flat (d+1)=ts.all fun t=>t.flat d:=by simp only[Tm.flat,aIC]
mutual
def Tm.iI:Tm→Bool
 | .mk k n s ts=>d9 k n s ts.length&&I6 ts
def I6:List Tm→Bool
 | []=>true
 | t::ts=>t.iI&&I6 ts
end
theorem aIG:∀(ts:List Tm),I6 ts=ts.all Tm.iI
 | []=>rfl
 | t::ts=>by simp only[I6,iW,aIG ts]
theorem Tm.xH(k n:Int)(s:ByteArray)(ts:List Tm):(Tm.mk k n s ts).iI=(d9 k n s ts.length&&ts.all Tm.iI):=by simp only[Tm.iI,aIG]
theorem QD{α:Type}(p q:α→Bool):∀l:List α,(l.all fun x=>p x&&q x)=(l.all p&&l.all q)
 | []=>rfl
 | x::l=>by simp only[iW,QD p q l];cases p x<;>cases q x<;>cases l.all p<;>simp
theorem Tm.aGU:∀(t:Tm) (d:Nat),t.shape (d:Int)=(t.iI&&t.flat d):=by
 intro t
 induction t using Tm.ind with
 | h k n s ts ih=>
  intro d
  cases d with
  | zero=>rw[Tm.C7,wA,Tm.EA];try rfl
  | succ d=>
   rw[Tm.EA,Tm.xH,Tm.tJ,show decide ((1:Int)≤((d+1:Nat):Int))=true by simp;omega,iC,Bool.and_assoc,←QD]
   congr 1
   rw[show(((d+1:Nat):Int) - 1)=(d:Int) by omega]
   have:∀l:List Tm,(∀x∈l,x∈ts)→(l.all fun t=>t.shape (d:Int))=l.all fun x=>x.iI&&x.flat d:=by
    intro l
    induction l with
    | nil=>intro _;rfl
    | cons x l ihl=>intro h;rw[iW,iW,ih x (h x (by simp)),ihl fun y hy=>h y (by simp [hy])]
   exact this ts fun _ h=>h
theorem Tm.aWE{t:Tm}(h:t.valid=true):t.iI=true:=by
 simp only[Tm.valid,cL] at h
 have:=h.1
 rw[show(30:Int)=((30:Nat):Int) from rfl,Tm.aGU,cL] at this
 exact this.1
theorem Tm.aIW{t:Tm}(h:t.iI=true):t.valid=(t.flat 30&&decide (t.nodes≤120)):=by
 unfold Tm.valid
 rw[show(30:Int)=((30:Nat):Int) from rfl,Tm.aGU,h,iC]
theorem Tm.HU{k n:Int}{s:ByteArray}{ts:List Tm}(h:(Tm.mk k n s ts).iI=true):d9 k n s ts.length=true∧∀x∈ts,x.iI=true:=by
 rw[Tm.xH,cL] at h
 exact⟨h.1,eE.1 h.2⟩
theorem aF7{n:Int}{s:ByteArray}{len:Int}(h:d9 1 n s len=true):0≤n∧n≤25∧s=⟨#[]⟩∧len=0:=by
 simp [d9] at h
 exact⟨h.1.1.1,h.1.1.2,h.1.2,h.2⟩
theorem aTI{k n:Int}{s:ByteArray}{len:Int}(h:d9 k n s len=true):(k=1∨k=2∨k=3)∧len≤4:=by
 unfold d9 at h
 by_cases h1:k=1
 · simp [h1] at h;omega
 · by_cases h2:k=2
   · simp [h2] at h;omega
   · by_cases h3:k=3
     · simp [h3] at h;omega
     · simp [h1,h2,h3] at h
theorem Tm.aTC:∀(t:Tm),t.iI=true→t.cv=true:=by
 intro t
 induction t using Tm.ind with
 | h k n s ts ih=>
  intro h
  obtain⟨h1,h2⟩:=Tm.HU h
  refine Tm.n8.2 ⟨fun hk=>?_,fun x hx=>ih x hx (h2 x hx)⟩
  subst hk
  obtain⟨_,_,h3,h4⟩:=aF7 h1
  exact⟨h3,pY (by omega)⟩
def yM:List Int:=(List.range 26).map fun i:Nat=>(i:Int)
theorem DS{n:Int}:n∈yM↔0≤n∧n≤25:=by
 simp only[yM,cE,uM]
 constructor
 · rintro⟨i,h,rfl⟩;omega
 · intro h;exact⟨n.toNat,by omega,by omega⟩
theorem Tm.aTD:∀(t:Tm),t.iI=true→gO yM t:=by
 intro t
 induction t using Tm.ind with
 | h k n s ts ih=>
  intro h v hv
  obtain⟨h1,h2⟩:=Tm.HU h
  by_cases hk:k=1
  · rw[Tm.lP hk] at hv
    simp only[cO,dD,dI] at hv
    subst hv hk
    obtain⟨h3,h4,_⟩:=aF7 h1
    exact DS.2 ⟨h3,h4⟩
  · obtain⟨x,hx,hvx⟩:=(Tm.j0 hk).1 hv
    exact ih x hx (h2 x hx) v hvx
theorem aSW{f:Int→Tm}:∀(t:Tm),t.iI=true→(∀v∈t.vl,(f v).iI=true)→(t.aH f).iI=true:=by
 intro t
 induction t using Tm.ind with
 | h k n s ts ih=>
  intro h hf
  obtain⟨h1,h2⟩:=Tm.HU h
  by_cases hk:k=1
  · rw[Tm.lH f hk];exact hf n (by rw[Tm.lP hk];simp)
  · rw[Tm.kB f hk,Tm.xH,aE,h1,iC,List.all_map,eE]
    exact fun x hx=>ih x hx (h2 x hx) fun v hv=>hf v ((Tm.j0 hk).2 ⟨x,hx,hv⟩)
theorem aI0{n:Int}(h:n∈yM):(vr n).iI=true:=by
 rw[DS] at h
 rw[vr,Tm.xH]
 simp [d9,h]
theorem aV5{g g':Nat}{σ:Sub}{a b:Tm}{x y:Bool×Sub×List Int}(h:cV g σ a b=some x)(h':cV g' σ a b=some y):x=y:=by
 have h1:=JI (Nat.le_max_left g g') h
 rw[JI (Nat.le_max_right g g') h'] at h1
 exact(lV h1).symm
structure aWX (a b:Tm) (r:Bool) (σ:Sub) (tr:List Int):Prop where
 run:∃g,cV g Sub.none a b=some (r,σ,tr)
 lO:mF Sub.none [a] [b] r σ tr
 iI:cD (fun t=>t.iI=true) σ
 DP:kI yM σ
 trV:∀m∈tr,m∈yM
theorem aFU:∀ {l V:List Int},l.Nodup→(∀x∈l,x∈V)→l.length≤V.length
 | [],_,_,_=>mV _
 | x::l,V,h,hV=>by
  rw[BK] at h
  have hx:=hV x (by simp)
  have:=aFU (V:=V.erase x) h.2 fun y hy=>(List.mem_erase_of_ne (by rintro rfl;exact h.1 hy)).2 (hV y (by simp [hy]))
  rw[List.length_erase_of_mem hx] at this
  have:=List.length_pos_of_mem hx
  simp only[bA]
  omega
structure aWR (a b:Tm) (bs:List Bd):Prop where
 va:a.valid=true
 vb:b.valid=true
 vs:(bs.all fun x=>x.2.valid)=true
 eq:a.aH (N2 bs)=b.aH (N2 bs)
 idem:∀x∈bs,x.2.aH (N2 bs)=x.2
 sorted:bs.Pairwise fun x y=>x.1<y.1
abbrev zt:AV:=.agg [.int .i64 0,.int .i64 0,.str ⟨#[]⟩,.fslice []]
def mapOf(σ:Sub):Int→Option AV:=fun n=>(σ n).map Tm.av
def found:Option Tm→AV
 | some u=>.tup [u.av,.bool true]
 | none=>.tup [zt,.bool false]
theorem aSL{P:Program}{st:aA}{m:Nat}{σ:Sub}{t kt et:TypeId}{n:Int}(hm:st m=some (.map (mapOf σ)))(hu:P.underlying t=some (.map kt et))(hk:P.underlying kt=some (.int .i64))(hz:zV P et=some zt) :
 mW P st t true (.map m) (.int .i64 n)=some (found (σ n)):=by
 unfold mW
 simp only[hm,hu,hk,mapOf]
 cases h:σ n with
 | none=>simp [hz,found,AV.cA]
 | some u=>simp [found,Tm.eG]
theorem aWC{P:Program}{st:aA}{m:Nat}{σ:Sub}{t kt et:TypeId}{n:Int}{u:Tm}{K:AV→aA→Prop}(hm:st m=some (.map (mapOf σ)))(hu:P.underlying t=some (.map kt et))(hk:P.underlying kt=some (.int .i64))
 (h:K .undef (st.aC m (.map (mapOf (σ.set n u))))):qA P t st (.map m) (.int .i64 n) u.av K:=by
 unfold qA
 simp only[hu,hm,hk]
 refine⟨Tm.eG u,?_⟩
 have:l8 (mapOf σ) n (some u.av)=mapOf (σ.set n u):=by
  funext x
  unfold l8 mapOf Sub.set
  split<;>rfl
 rw[this]
 exact h
structure gQ (st:aA) (c m:Nat) (q:AV) (σ:Sub):Prop where
 cells:st c=some (.cells [.map m,q])
 map:st m=some (.map (mapOf σ))
theorem gQ.aC{st:aA}{c m b:Nat}{q:AV}{σ:Sub}{o:AO}(h:gQ st c m q σ)(hb:st b=none):gQ (st.aC b o) c m q σ:=
 ⟨(by rw[aA.aF _ _ (by rintro rfl;rw[h.cells] at hb;cases hb)];exact h.cells),(by rw[aA.aF _ _ (by rintro rfl;rw[h.map] at hb;cases hb)];exact h.map)⟩
theorem gQ.JK{st:aA}{c m b:Nat}{q:AV}{σ:Sub}{o:AO}(h:gQ st c m q σ)(h1:b≠c)(h2:b≠m):gQ (st.aC b o) c m q σ:=
 ⟨(by rw[aA.aF _ _ (c9 h1)];exact h.cells),by rw[aA.aF _ _ (c9 h2)];exact h.map⟩
theorem gQ.ne{st:aA}{c m b:Nat}{q:AV}{σ:Sub}(h:gQ st c m q σ)(hb:st b=none):b≠c∧b≠m:=⟨(by rintro rfl;rw[h.cells] at hb;cases hb),(by rintro rfl;rw[h.map] at hb;cases hb)⟩
theorem gQ.cm{st:aA}{c m:Nat}{q:AV}{σ:Sub}(h:gQ st c m q σ):c≠m:=by rintro rfl;have:=h.cells;rw[h.map] at this;cases this
def kC(M:List Int):Int→Option AV:=fun x=>if x∈M then some (.bool true) else none
theorem aSK{P:Program}{st:aA}{mm:Nat}{M:List Int}{t kt et:TypeId}{n:Int}(hm:st mm=some (.map (kC M)))(hu:P.underlying t=some (.map kt et))(hk:P.underlying kt=some (.int .i64))(hz:zV P et=some (.bool false)) :
 mW P st t false (.map mm) (.int .i64 n)=some (.bool (decide (n∈M))):=by
 unfold mW
 simp only[hm,hu,hk,kC]
 by_cases h:n∈M
 · simp [h,AV.cA]
 · simp [h,hz,AV.cA]
theorem aWA{P:Program}{st:aA}{mm:Nat}{M:List Int}{t kt et:TypeId}{n:Int}{K:AV→aA→Prop}(hm:st mm=some (.map (kC M)))(hu:P.underlying t=some (.map kt et))(hk:P.underlying kt=some (.int .i64))
 (h:K .undef (st.aC mm (.map (kC (n::M))))):qA P t st (.map mm) (.int .i64 n) (.bool true) K:=by
 unfold qA
 simp only[hu,hm,hk]
 refine⟨rfl,?_⟩
 have:l8 (kC M) n (some (.bool true))=kC (n::M):=by
  funext x
  unfold l8 kC
  by_cases e:x=n
  · simp [e]
  · simp [e]
 rw[this]
 exact h
theorem aSZ:kC []=fun _=>none:=by funext x;simp [kC]
theorem O7(t:Tm):t.wf=true→∀l:List Int,(∀v,v∈t.vars l↔v∈l∨v∈t.vl)∧(l.Nodup→(t.vars l).Nodup)∧∃m,t.vars l=l++m:=by
 induction t using Tm.ind with
 | h k n s ts ih=>
  intro h l
  obtain⟨hk,hw⟩:=Tm.O9 h
  have list:∀xs:List Tm,(∀x∈xs,x∈ts)→∀l:List Int,(∀v,v∈bO xs l↔v∈l∨∃x∈xs,v∈x.vl)∧(l.Nodup→(bO xs l).Nodup)∧∃m,bO xs l=l++m:=by
   intro xs
   induction xs with
   | nil=>intro _ l;exact⟨by simp [bO],fun h=>h,[],by simp [bO]⟩
   | cons x xs ihx=>
    intro hs l
    obtain⟨a1,a2,m1,a3⟩:=ih x (hs x (by simp)) (hw x (hs x (by simp))) l
    obtain⟨b1,b2,m2,b3⟩:=ihx (fun y hy=>hs y (by simp [hy])) (x.vars l)
    simp only[bO]
    refine⟨fun v=>?_,fun hn=>b2 (a2 hn),m1++m2,by rw[b3,a3,kW]⟩
    rw[b1,a1]
    simp [or_assoc]
  rw[Tm.vars]
  by_cases hk1:k=1
  · obtain rfl:=hk hk1
    rw[Tm.lP hk1]
    simp only[bO]
    split
    · rename_i hc
      refine⟨fun v=>by simp,fun hn=>?_,[n],rfl⟩
      rw[jO]
      refine⟨hn,by simp,fun x hx y hy e=>?_⟩
      simp only[cO,dD,dI] at hy
      subst hy e
      exact hc.2 hx
    · rename_i hc
      refine⟨fun v=>?_,fun hn=>hn,[],by simp⟩
      have hm:n∈l:=yA fun h=>hc ⟨hk1,h⟩
      simp only[cO,dD,dI]
      exact⟨.inl,fun h=>h.elim id fun e=>e▸hm⟩
  · rw[aG (by simp [hk1])]
    obtain⟨c1,c2,c3⟩:=list ts (fun _ h=>h) l
    exact⟨fun v=>by rw[c1,Tm.j0 hk1],c2,c3⟩
theorem Tm.aWG{v:Int}:∀(t:Tm) (l:List Int),t.cv=true→(v∈t.vars l↔v∈l∨v∈t.vl):=by
 intro t
 induction t using Tm.ind with
 | h k n s ts ih=>
  intro l hcv
  obtain⟨h1,h2⟩:=Tm.n8.1 hcv
  have key:∀(ts:List Tm) (l:List Int),(∀t∈ts,∀l,v∈t.vars l↔v∈l∨v∈t.vl)→(v∈bO ts l↔v∈l∨∃t∈ts,v∈t.vl):=by
   intro ts
   induction ts with
   | nil=>intro l _;simp [bO]
   | cons t ts iht=>
    intro l h
    simp only[bO]
    rw[iht _ (fun x hx=>h x (by simp [hx])),h t (by simp)]
    simp [or_assoc]
  simp only[Tm.vars]
  rw[key ts _ (fun t ht l=>ih t ht l (h2 t ht))]
  by_cases hk:k=1
  · obtain⟨rfl,rfl⟩:=h1 hk
    rw[Tm.lP hk]
    by_cases hn:n∈l
    · simp [hk,hn];exact fun e=>e▸hn
    · simp [hk,hn]
  · rw[Tm.j0 hk];simp [hk]
theorem v4{v:Int}:∀(ts:List Tm) (l:List Int),(∀t∈ts,t.cv=true)→(v∈bO ts l↔v∈l∨∃t∈ts,v∈t.vl)
 | [],l,_=>by simp [bO]
 | t::ts,l,h=>by
  simp only[bO]
  rw[v4 ts _ (fun x hx=>h x (by simp [hx])),Tm.aWG t l (h t (by simp))]
  simp [or_assoc]
theorem aWK{σ:Sub}{R:Int→Tm}{rk:Int→Nat}{B:Nat}(G:Good σ R rk B){n:Int}{W:List Int}(hW:∀w∈W,w≠n∧∀u,σ w=some u→∀v∈u.vl,v∈W):∀w∈W,n∉(R w).vl:=by
 refine fun w=>G.ind (p:=fun w=>w∈W→n∉(R w).vl) (fun w h hw hm=>?_) (fun w u h ih hw hm=>?_) w
 · rw[G.free h,v7] at hm
   simp only[cO,dD,dI] at hm
   exact(hW w hw).1 hm.symm
 · rw[G.bound h] at hm
   obtain⟨v,hv,hnv⟩:=(v6 u).1 hm
   exact ih v hv ((hW w hw).2 u h v hv) hnv
theorem aPB{w:Nat}{l:List AV}{i:Nat}{e:AV}(hw:∀e∈l,e.width=w)(h:l[i]?=some e) :
 ∃A B,l.flatMap AV.cells=A++e.cells++B∧A.length=i*w∧∀e',(l.set i e').flatMap AV.cells=A++e'.cells++B:=by
 obtain⟨hi,he⟩:=eS.1 h
 refine⟨(l.take i).flatMap AV.cells,(l.drop (i+1)).flatMap AV.cells,?_,?_,fun e'=>?_⟩
 · have:l=l.take i++e::l.drop (i+1):=by rw[←he,←oV hi,mT]
   conv=>lhs;rw[this]
   simp
 · rw[m9 (fun e he=>hw e (mS he)),dX,jJ (by omega)]
 · rw[List.set_eq_take_append_cons_drop,aK hi]
   simp
def cellOf:Option Tm→AV
 | some u=>u.av
 | none=>zt
theorem FY(o:Option Tm):(cellOf o).width=4:=by cases o<;>first | rfl | exact aO _
theorem aNP(o:Option Tm):(cellOf o).cells.length=4:=by rw[rM,FY]
theorem MU:∀t:Tm,t.cv=true→t.aH vr=t:=by
 intro t
 induction t using Tm.ind with
 | h k n s ts ih=>
  intro h
  obtain⟨h1,h2⟩:=Tm.n8.1 h
  by_cases hk:k=1
  · obtain⟨rfl,rfl⟩:=h1 hk
    rw[Tm.lH vr hk,hk];try rfl
  · rw[Tm.kB vr hk]
    congr 1
    have:∀l:List Tm,(∀x∈l,x∈ts)→l.map (Tm.aH vr)=l:=by
     intro l
     induction l with
     | nil=>intro _;rfl
     | cons x l ihl=>intro hl;rw[bK,ih x (hl x (by simp)) (h2 x (hl x (by simp))),ihl fun y hy=>hl y (by simp [hy])]
    exact this ts fun _ h=>h
def nL(l:List Tm):List Tm:=l.map fun t=>t.aH fun v=>vr (d5 v (bO l []) 0)
theorem aWF{D:Int→Prop}{h:Int→Int}(inj:∀v w,D v→D w→h v=h w→v=w){f:Int→Tm}(hf:∀v,D v→f v=vr (h v)) :
 ∀(t:Tm),t.wf=true→(∀v∈t.vl,D v)→∀l:List Int,(∀v∈l,D v)→(t.aH f).vars (l.map h)=(t.vars l).map h∧∀v∈t.vars l,D v:=by
 intro t
 induction t using Tm.ind with
 | h k n s ts ih=>
  intro hw hD l hl
  obtain⟨hk1,hws⟩:=Tm.O9 hw
  by_cases hk:k=1
  · obtain rfl:=hk1 hk
    have hDn:D n:=hD n (by rw[Tm.lP hk];simp)
    have fG:h n∈l.map h↔n∈l:=by
     rw[cE]
     exact⟨fun⟨m,hm,e⟩=>by rw[←inj m n (hl m hm) hDn e];exact hm,fun hm=>⟨n,hm,rfl⟩⟩
    rw[Tm.lH f hk,hf n hDn,vr,Tm.vars,Tm.vars]
    simp only[bO,hk,true_and,fG]
    split
    · exact⟨by simp,fun v hv=>by
       rcases dR.1 hv with hv | hv
       · exact hl v hv
       · simp only[cO,dD,dI] at hv;rw[hv];exact hDn⟩
    · exact⟨rfl,hl⟩
  · rw[Tm.kB f hk,Tm.vars,Tm.vars,aG (fun h=>hk h.1),aG (fun h=>hk h.1)]
    have:∀xs:List Tm,(∀x∈xs,x∈ts)→∀l:List Int,(∀v∈l,D v)→bO (xs.map (Tm.aH f)) (l.map h)=(bO xs l).map h∧∀v∈bO xs l,D v:=by
     intro xs
     induction xs with
     | nil=>intro _ l hl;exact⟨rfl,hl⟩
     | cons x xs ihx=>
      intro hs l hl
      have hx:=hs x (by simp)
      obtain⟨e1,e2⟩:=ih x hx (hws x hx) (fun v hv=>hD v ((Tm.j0 hk).2 ⟨x,hx,hv⟩)) l hl
      simp only[bK,bO]
      rw[e1]
      exact ihx (fun y hy=>hs y (by simp [hy])) _ e2
    exact this ts (fun _ h=>h) l hl
theorem aFA{D:Int→Prop}{h:Int→Int}(inj:∀v w,D v→D w→h v=h w→v=w)(v:Int)(hv:D v):∀(l:List Int) (i:Int),(∀w∈l,D w)→d5 (h v) (l.map h) i=d5 v l i
 | [],i,_=>rfl
 | x::l,i,hl=>by
  simp only[bK,d5]
  by_cases e:v=x
  · rw[aK e,aK (by rw[e])]
  · rw[aG e,aG (fun e2=>e (inj v x hv (hl x (by simp)) e2))]
    exact aFA inj v hv l (i+1) fun w hw=>hl w (by simp [hw])
def nY:List ByteArray:=[⟨#[43]⟩,⟨#[45]⟩,⟨#[42]⟩,⟨#[47,47]⟩,⟨#[109,111,100]⟩]
def pB:List ByteArray:=[⟨#[60]⟩,⟨#[62]⟩,⟨#[61,60]⟩,⟨#[62,61]⟩,⟨#[61,58,61]⟩]
def eW(l:List ByteArray)(s:ByteArray):Bool:=l.any fun x=>decide (s=x)
def gT(n:Int):Int×Int:=if -999≤n∧n≤999 then(n,0) else(0,5)
def oB(a b:Int):Int:=if a.tmod b≠0∧decide (a.tmod b<0)≠decide (b<0) then a.tmod b+b else a.tmod b
def o7(s:ByteArray)(a b:Int):Int×Int:=
 if s=⟨#[43]⟩ then gT (a+b) else if s=⟨#[45]⟩ then gT (a - b) else if s=⟨#[42]⟩ then gT (a*b) else if b=0 then(0,4) else if s=⟨#[109,111,100]⟩ then(oB a b,0) else(a.tdiv b,0)
def both(f:Int→Int→Int×Int)(x y:Int×Int):Int×Int:=if x.2≠0 then(0,x.2) else if y.2≠0 then(0,y.2) else f x.1 y.1
def two(f:Int→Int→Int×Int):List (Int×Int)→Int×Int
 | [x,y]=>both f x y
 | _=>(0,3)
mutual
def Tm.ev:Tm→Int×Int
 | .mk k n s ts=>if k=2 then(n,0) else if k=1 then(0,2) else if eW nY s=true then two (o7 s) (I1 ts) else(0,3)
def I1:List Tm→List (Int×Int)
 | []=>[]
 | t::ts=>t.ev::I1 ts
end
theorem aIB:∀ts:List Tm,I1 ts=ts.map Tm.ev
 | []=>rfl
 | t::ts=>by simp only[I1,bK,aIB ts]
theorem Tm.vF(k n:Int)(s:ByteArray)(ts:List Tm):(Tm.mk k n s ts).ev=if k=2 then(n,0) else if k=1 then(0,2) else if eW nY s=true then two (o7 s) (ts.map Tm.ev) else(0,3):=by simp only[Tm.ev,aIB]
theorem IY(a b:Int)(hb:b≠0):(0<b→-b<a.tmod b∧a.tmod b<b)∧(b<0→b<a.tmod b∧a.tmod b< -b):=by
 have h1:=JS (-a) (b:=b)
 have h2:=JS a (b:=b)
 have h3:=JS (-a) (b:= -b)
 have h4:=JS a (b:= -b)
 rw[Int.tmod_neg] at h3 h4
 rw[Int.neg_tmod] at h1 h3
 constructor
 · intro h;exact⟨by have:=h1 h;omega,h2 h⟩
 · intro h;exact⟨by have:=h3 (by omega);omega,h4 (by omega)⟩
theorem tdiv_le(a b:Int)(ha: -999≤a∧a≤999): -999≤a.tdiv b∧a.tdiv b≤999:=by
 have:(a.tdiv b).natAbs≤a.natAbs:=by rw[Int.natAbs_tdiv];exact Nat.div_le_self _ _
 omega
theorem NN(n:Int): -999≤(gT n).1∧(gT n).1≤999:=by unfold gT;split<;>simp_all
theorem aDU(a b:Int)(ha: -999≤a∧a≤999)(hb: -999≤b∧b≤999)(h0:b≠0): -999≤oB a b∧oB a b≤999:=by
 have h1:=IY a b h0
 unfold oB
 split
 · rename_i h
   have h2:=h.2
   by_cases hb':b<0
   · have:¬a.tmod b<0:=by intro hc;simp [hb',hc] at h2
     have:=h1.2 hb'
     omega
   · have:a.tmod b<0:=by
      apply yA;intro hc;simp [hb',hc] at h2
     have:=h1.1 (by omega)
     omega
 · rcases Int.lt_or_gt_of_ne h0 with h | h
   · have:=h1.2 h;omega
   · have:=h1.1 h;omega
theorem QB(m b:Int)(h1:0≤m)(h2:m<b):(m+b).tmod b=m:=by
 obtain⟨x,rfl⟩:∃x:Nat,m=x:=⟨m.toNat,by omega⟩
 obtain⟨y,rfl⟩:∃y:Nat,b=y:=⟨b.toNat,by omega⟩
 rw[show(x:Int)+(y:Int)=((x+y:Nat):Int) by omega,←Int.ofNat_tmod,Nat.add_mod_right,Nat.mod_eq_of_lt (by omega)]
theorem aPC(a b:Int)(h0:b≠0):(a.tmod b+b).tmod b=oB a b:=by
 have h1:=IY a b h0
 have hs:∀x:Int,0≤x→x<b→x.tmod b=x:=fun x h2 h3=>Int.tmod_eq_of_lt h2 h3
 have hn:∀x:Int,x≤0→b<x→x.tmod b=x:=fun x h2 h3=>by
  have:=Int.tmod_eq_of_lt (a:= -x) (b:= -b) (by omega) (by omega)
  rw[Int.tmod_neg,Int.neg_tmod] at this
  omega
 unfold oB
 generalize a.tmod b=m at *
 by_cases hb:b<0
 · have h2:=h1.2 hb
   by_cases hm:m<0
   · rw[aG (by simp [hb,hm])]
     rw[show m+b=b+m by omega]
     have e:(b+m).tmod b=((-b)+(-m)).tmod (-b)*(-1):=by
      rw[show(-b)+(-m)= -(b+m) by omega,Int.neg_tmod,Int.tmod_neg];omega
     rw[e,Int.add_comm,QB (-m) (-b) (by omega) (by omega)]
     omega
   · by_cases hm0:m=0
     · subst hm0;rw[aG (by simp),Int.zero_add,Int.tmod_self]
     · rw[aK ⟨hm0,by simp [hb,hm]⟩]
       exact hn _ (by omega) (by omega)
 · have h2:=h1.1 (by omega)
   by_cases hm:m<0
   · rw[aK ⟨by omega,by simp [hb,hm]⟩]
     exact hs _ (by omega) (by omega)
   · rw[aG (by simp [hb,hm])]
     rw[QB m b (by omega) (by omega)]
def cB(N:Int)(t:Tm):Prop:=(t.aH fun _=>vr 0).iI=true∧t.cv=true∧∀v∈t.vl,0≤v∧v<N
theorem cB.mono{N M:Int}{t:Tm}(h:cB N t)(hm:N≤M):cB M t:=⟨h.1,h.2.1,fun v hv=>⟨(h.2.2 v hv).1,by have:=(h.2.2 v hv).2;omega⟩⟩
theorem cB.own{N k n:Int}{s:ByteArray}{ts:List Tm}(h:cB N (.mk k n s ts))(hk:k≠1):d9 k n s ts.length=true∧∀x∈ts,cB N x:=by
 obtain⟨h1,h2,h3⟩:=h
 rw[Tm.kB _ hk] at h1
 obtain⟨h4,h5⟩:=Tm.HU h1
 rw[aE] at h4
 exact⟨h4,fun x hx=>⟨h5 _ (cE.2 ⟨x,hx,rfl⟩),(Tm.n8.1 h2).2 x hx,fun v hv=>h3 v ((Tm.j0 hk).2 ⟨x,hx,hv⟩)⟩⟩
theorem cB.var{N n:Int}{s:ByteArray}{ts:List Tm}(h:cB N (.mk 1 n s ts)):0≤n∧n<N∧s=⟨#[]⟩∧ts= []:=by
 obtain⟨_,h2,h3⟩:=h
 obtain⟨h4,h5⟩:=(Tm.n8.1 h2).1 rfl
 obtain⟨h6,h7⟩:=h3 n (by rw[Tm.lP rfl];simp)
 exact⟨h6,h7,h4,h5⟩
theorem HV(N:Int):∀t:Tm,t.k≠1→cB N t→∀x∈t.ts,cB N x:=fun t hk h x hx=>by
 cases t
 exact(h.own hk).2 x hx
theorem cB.kind{N k n:Int}{s:ByteArray}{ts:List Tm}(h:cB N (.mk k n s ts)):(k=1∨k=2∨k=3)∧ts.length≤4:=by
 by_cases hk:k=1
 · subst hk
   rw[h.var.2.2.2]
   simp
 · have:=aTI (h.own hk).1
   omega
theorem aTH{n:Int}{s:ByteArray}{len:Int}(h:d9 2 n s len=true): -999≤n∧n≤999:=by
 simp [d9] at h
 omega
theorem cB.all{N k n:Int}{s:ByteArray}{ts:List Tm}(h:cB N (.mk k n s ts)):(k=2→-999≤n∧n≤999)∧∀x∈ts,cB N x:=by
 by_cases hk:k=1
 · subst hk
   rw[h.var.2.2.2]
   simp
 · obtain⟨h1,h2⟩:=h.own hk
   refine⟨fun h2=>?_,h2⟩
   subst h2
   exact aTH h1
theorem cB.small{N:Int}:∀ {t:Tm},cB N t→t.small=true:=by
 intro t
 induction t using Tm.ind with
 | h k n s ts ih=>
  intro h
  have h4:=h.kind.2
  simp only[Tm.small,EQ,cL,bM,eE]
  refine⟨by omega,fun x hx=>?_⟩
  by_cases hk:k=1
  · subst hk;rw[h.var.2.2.2] at hx;cases hx
  · exact ih x hx ((h.own hk).2 x hx)
theorem cB.aH{N M:Int}{f:Int→Tm}{t:Tm}(h:cB N t)(hf:∀v∈t.vl,cB M (f v)):cB M (t.aH f):=by
 induction t using Tm.ind with
 | h k n s ts ih=>
  by_cases hk:k=1
  · rw[Tm.lH f hk];exact hf n (by rw[Tm.lP hk];simp)
  · obtain⟨h1,h2⟩:=h.own hk
    have key:∀x∈ts,cB M (x.aH f):=fun x hx=>ih x hx (h2 x hx) fun v hv=>hf v ((Tm.j0 hk).2 ⟨x,hx,hv⟩)
    rw[Tm.kB f hk]
    refine⟨?_,Tm.n8.2 ⟨fun h=>absurd h hk,fun y hy=>?_⟩,fun v hv=>?_⟩
    · rw[Tm.kB _ hk,Tm.xH,aE,aE,h1,iC,eE]
      intro y hy
      simp only[uL,cE,BG] at hy
      obtain⟨x,hx,rfl⟩:=hy
      exact(key x hx).1
    · obtain⟨x,hx,rfl⟩:=cE.1 hy
      exact(key x hx).2.1
    · obtain⟨y,hy,hv⟩:=(Tm.j0 hk).1 hv
      obtain⟨x,hx,rfl⟩:=cE.1 hy
      exact(key x hx).2.2 v hv
theorem DZ{N n:Int}(h0:0≤n)(h1:n<N):cB N (vr n):=by
 refine⟨by rw[tT];exact aI0 (DS.2 (by omega)),Tm.n8.2 ⟨fun _=>⟨rfl,rfl⟩,by simp⟩,fun v hv=>?_⟩
 rw[v7] at hv
 simp only[cO,dD,dI] at hv
 omega
theorem aF5{t:Tm}:t.iI=true↔cB 26 t:=by
 constructor
 · intro h
   refine⟨aSW t h fun v _=>aI0 (DS.2 (by omega)),Tm.aTC t h,fun v hv=>?_⟩
   have:=DS.1 (Tm.aTD t h v hv)
   omega
 · induction t using Tm.ind with
   | h k n s ts ih=>
    intro h
    rw[Tm.xH]
    by_cases hk:k=1
    · subst hk
      obtain⟨h0,h1,rfl,rfl⟩:=h.var
      have h1':n≤25:=by omega
      simp [d9,h0,h1']
    · obtain⟨h1,h2⟩:=h.own hk
      rw[h1,iC,eE]
      exact fun x hx=>ih x hx (h2 x hx)
theorem Tm.EX{t:Tm}(h:t.valid=true):cB 26 t:=aF5.1 (Tm.aWE h)
theorem Good.kD{σ:Sub}{R:Int→Tm}{rk:Int→Nat}{B:Nat}(G:Good σ R rk B){N:Int}(ho:cD (cB N) σ):∀n,0≤n→n<N→cB N (R n):=by
 refine fun n=>G.ind (p:=fun n=>0≤n→n<N→cB N (R n)) (fun n h h0 h1=>?_) (fun n u h ih h0 h1=>?_) n
 · rw[G.free h];exact DZ h0 h1
 · rw[G.bound h]
   exact(ho n u h).aH fun v hv=>ih v hv ((ho n u h).2.2 v hv).1 ((ho n u h).2.2 v hv).2
theorem Good.M5{σ:Sub}{R:Int→Tm}{rk:Int→Nat}{B:Nat}(G:Good σ R rk B){N:Int}(ho:cD (cB N) σ){t:Tm}(h:cB N t):cB N (t.aH R):=
 h.aH fun v hv=>G.kD ho v (h.2.2 v hv).1 (h.2.2 v hv).2
def a8(N:Int)(t:Tm):Prop:=cB N t∧t.nodes≤120
theorem pL(N:Int):∀t:Tm,t.k≠1→a8 N t→∀x∈t.ts,a8 N x:=fun t hk h x hx=>by
 refine⟨HV N t hk h.1 x hx,?_⟩
 have h2:=h.2
 cases t
 rw[Tm.jE] at h2
 have:=pN (f:=Tm.nodes) hx
 simp only[Tm.ts] at this
 omega
theorem a8.mono{N M:Int}{t:Tm}(h:a8 N t)(hm:N≤M):a8 M t:=⟨h.1.mono hm,h.2⟩
theorem cD.kD{N:Int}{σ:Sub}(h:cD (a8 N) σ):cD (cB N) σ:=fun n u e=>(h n u e).1
theorem cD.imp{p q:Tm→Prop}{σ:Sub}(h:cD p σ)(hpq:∀t,p t→q t):cD q σ:=fun n u e=>hpq u (h n u e)
open Classical in
noncomputable def gW(σ:Sub)(a b:Tm):Bool×Sub×List Int:=if h:∃x g,cV g σ a b=some x then h.choose else(false,σ,[])
theorem aIR{g:Nat}{σ:Sub}{a b:Tm}{x:Bool×Sub×List Int}(h:cV g σ a b=some x):gW σ a b=x:=by
 unfold gW
 have h':∃x g,cV g σ a b=some x:=⟨x,g,h⟩
 rw[dif_pos h']
 obtain⟨g',h''⟩:=h'.choose_spec
 exact aV5 h'' h
def VN(N:Nat):List Int:=(List.range N).map fun i:Nat=>(i:Int)
theorem tU{N:Nat}{n:Int}:n∈VN N↔0≤n∧n<N:=by
 simp only[VN,cE,uM]
 constructor
 · rintro⟨i,h,rfl⟩;omega
 · intro h;exact⟨n.toNat,by omega,by omega⟩
theorem AP{N:Nat}{tr:List Int}(h:tr.Nodup)(hV:∀m∈tr,0≤m∧m<N):tr.length≤N:=by
 have:=aFU (V:=VN N) h fun x hx=>tU.2 (hV x hx)
 simpa [VN] using this
structure wK (N:Int) (σ:Sub) (a b:Tm) (r:Bool) (σ':Sub) (tr:List Int):Prop where
 run:∃g,cV g σ a b=some (r,σ',tr)
 eq:gW σ a b=(r,σ',tr)
 lO:mF σ [a] [b] r σ' tr
 ok:cD (a8 N) σ'
 eW:∀m∈tr,0≤m∧m<N
theorem rA{N:Nat}{σ:Sub}{a b:Tm}(hg:cC σ)(ho:cD (a8 N) σ)(ha:a8 N a)(hb:a8 N b):∃r σ' tr,wK N σ a b r σ' tr:=by
 have hin:∀ {t:Tm},a8 N t→gO (VN N) t:=fun h v hv=>tU.2 (h.1.2.2 v hv)
 have hr:kI (VN N) σ:=fun n u e=>hin (ho n u e)
 obtain⟨g,⟨r,σ',tr⟩,h⟩:=aV7 (VN N) _ _ σ a b hg hr (hin ha) (hin hb) (cT _) (cT _)
 obtain⟨h1,h2⟩:=(aIS g).1 σ a b r σ' tr (VN N) hg h hr (hin ha) (hin hb)
 exact⟨r,σ',tr,⟨g,h⟩,aIR h,uE hg h,(JJ (pL N) g).1 σ a b r σ' tr hg h ho ha hb,fun m hm=>tU.1 (h2 m hm)⟩
theorem wK.out{N:Int}{σ:Sub}{a b:Tm}{r:Bool}{σ':Sub}{tr:List Int}(h:wK N σ a b r σ' tr)(n:Int):(if n∈tr then none else σ' n)=σ n:=by
 split
 · rename_i hn;exact((h.lO.new n hn).1).symm
 · rename_i hn;exact h.lO.aU n hn
def Sub.out(σ:Sub)(l:List Int):Sub:=fun n=>if n∈l then Option.none else σ n
theorem Sub.aTE(σ:Sub)(l m:List Int):(σ.out l).out m=σ.out (l++m):=by
 funext n
 unfold Sub.out
 by_cases h1:n∈m
 · rw[aK h1,aK (by simp [h1])]
 · rw[aG h1]
   by_cases h2:n∈l
   · rw[aK h2,aK (by simp [h2])]
   · rw[aG h2,aG (by simp [h1,h2])]
theorem Sub.aTF(σ:Sub){l m:List Int}(h:∀n,n∈l↔n∈m):σ.out l=σ.out m:=by
 funext n
 unfold Sub.out
 simp only[h n]
def bH(ρ:Int→Int)(t:Tm):Tm:=t.aH fun v=>vr (ρ v)
theorem aT3(ρ:Int→Int)(n:Int):bH ρ (vr n)=vr (ρ n):=tT _ n
theorem tZ(ρ:Int→Int){k n:Int}{s:ByteArray}{ts:List Tm}(h:k≠1):bH ρ (.mk k n s ts)=.mk k n s (ts.map (bH ρ)):=Tm.kB _ h
theorem vS(ρ:Int→Int){t:Tm}(h:t.k=1):bH ρ t=vr (ρ t.n):=Tm.AJ _ h
theorem A2(ρ:Int→Int){t:Tm}(h:t.k≠1):bH ρ t=.mk t.k t.n t.s (t.ts.map (bH ρ)):=Tm.pI _ h
theorem vR(ρ:Int→Int)(t:Tm):(bH ρ t).k=t.k:=by
 by_cases h:t.k=1
 · rw[vS ρ h,h];try rfl
 · rw[A2 ρ h];try rfl
theorem H4(ρ:Int→Int){t:Tm}(hc:t.cv=true):(bH ρ t).nodes=t.nodes:=by
 induction t using Tm.ind with
 | h k n s ts ih=>
  obtain⟨h1,h2⟩:=Tm.n8.1 hc
  by_cases hk:k=1
  · obtain⟨_,rfl⟩:=h1 hk
    rw[vS ρ (t:=.mk k n s []) hk,vr,Tm.jE,Tm.jE]
  · rw[tZ ρ hk,Tm.jE,Tm.jE]
    congr 1
    have:∀l:List Tm,(∀x∈l,x∈ts)→aJ Tm.nodes (l.map (bH ρ))=aJ Tm.nodes l:=by
     intro l
     induction l with
     | nil=>intro _;rfl
     | cons x l ihl=>intro h;simp only[bK,aJ];rw[ih x (h x (by simp)) (h2 x (h x (by simp))),ihl fun y hy=>h y (by simp [hy])]
    exact this ts fun _ h=>h
theorem NR(ρ:Int→Int){t:Tm}(hc:t.cv=true):∀d,(bH ρ t).flat d=t.flat d:=by
 induction t using Tm.ind with
 | h k n s ts ih=>
  intro d
  obtain⟨h1,h2⟩:=Tm.n8.1 hc
  cases d with
  | zero=>rw[Tm.C7,Tm.C7]
  | succ d=>
   by_cases hk:k=1
   · obtain⟨_,rfl⟩:=h1 hk
     rw[vS ρ (t:=.mk k n s []) hk,vr,Tm.tJ,Tm.tJ]
   · rw[tZ ρ hk,Tm.tJ,Tm.tJ,List.all_map]
     rw[wC,eE,eE]
     constructor
     · intro h x hx;rw[←ih x hx (h2 x hx) d];exact h x hx
     · intro h x hx;simp only[BG];rw[ih x hx (h2 x hx) d];exact h x hx
theorem aWH{ρ:Int→Int}{t:Tm}{w:Int}:w∈(bH ρ t).vl↔∃v∈t.vl,w=ρ v:=by
 unfold bH
 rw[v6]
 simp only[v7,cO,dD,dI]
theorem NQ{ρ ρ':Int→Int}{t:Tm}(h:∀v∈t.vl,ρ v=ρ' v):bH ρ t=bH ρ' t:=oL t fun v hv=>by rw[h v hv]
theorem D5(ρ:Int→Int)(f:Int→Tm)(t:Tm):(bH ρ t).aH f=t.aH fun v=>f (ρ v):=by
 unfold bH
 rw[vO]
 exact oL t fun v _=>tT f (ρ v)
theorem aFO(ρ:Int→Int)(f:Int→Tm)(t:Tm):bH ρ (t.aH f)=t.aH fun v=>bH ρ (f v):=by
 unfold bH
 rw[vO]
theorem cB.bH{N M:Int}{ρ:Int→Int}{t:Tm}(h:cB N t)(hr:∀v∈t.vl,0≤ρ v∧ρ v<M):cB M (AW.bH ρ t):=h.aH fun v hv=>DZ (hr v hv).1 (hr v hv).2
theorem a8.bH{N M:Int}{ρ:Int→Int}{t:Tm}(h:a8 N t)(hr:∀v∈t.vl,0≤ρ v∧ρ v<M):a8 M (AW.bH ρ t):=⟨h.1.bH hr,by rw[H4 ρ h.1.2.1];exact h.2⟩
structure eK (ρ:Int→Int) (N:Int) (σ τ:Sub):Prop where
 inj:∀v w,0≤v→v<N→0≤w→w<N→ρ v=ρ w→v=w
 map:∀v,0≤v→v<N→τ (ρ v)=(σ v).map (bH ρ)
section
variable {ρ:Int→Int} {N:Int} {σ τ:Sub}
theorem eK.wk(S:eK ρ N σ τ)(ho:cD (cB N) σ){f:Nat}{t u:Tm}(h:eU σ f t u):cB N t→eU τ f (bH ρ t) (bH ρ u):=by
 induction h with
 | @stop t h=>
  intro ht
  refine .stop fun hk=>?_
  rw[vR] at hk
  have hr:=ht.2.2 t.n (by rw[Tm.BF hk];simp)
  rw[vS ρ hk]
  show τ (ρ t.n)=none
  rw[S.map _ hr.1 hr.2,h hk];try rfl
 | @go f t u v h1 h2 _ ih=>
  intro ht
  have hr:=ht.2.2 t.n (by rw[Tm.BF h1];simp)
  refine .go (u:=bH ρ u) (by rw[vR];exact h1) ?_ (ih (ho _ _ h2))
  rw[vS ρ h1]
  show τ (ρ t.n)=_
  rw[S.map _ hr.1 hr.2,h2];try rfl
theorem eK.rs(S:eK ρ N σ τ)(hg:cC σ)(hg':cC τ)(ho:cD (cB N) σ):∀v,0≤v→v<N→rs τ (ρ v)=bH ρ (rs σ v):=by
 obtain⟨rk,B,G⟩:=hg.rs
 obtain⟨rk',B',G'⟩:=hg'.rs
 refine fun v=>G.ind (p:=fun v=>0≤v→v<N→AW.rs τ (ρ v)=bH ρ (AW.rs σ v)) (fun v h h0 h1=>?_) (fun v u h ih h0 h1=>?_) v
 · rw[G.free h,aT3,G'.free (by rw[S.map v h0 h1,h];try rfl)]
 · rw[G.bound h,aFO,G'.bound (u:=bH ρ u) (by rw[S.map v h0 h1,h];try rfl),D5]
   refine oL u fun w hw=>?_
   have:=(ho v u h).2.2 w hw
   exact ih w hw this.1 this.2
theorem eK.rsT(S:eK ρ N σ τ)(hg:cC σ)(hg':cC τ)(ho:cD (cB N) σ){t:Tm}(ht:cB N t):(bH ρ t).aH (AW.rs τ)=bH ρ (t.aH (AW.rs σ)):=by
 rw[D5,aFO]
 exact oL t fun v hv=>S.rs hg hg' ho v (ht.2.2 v hv).1 (ht.2.2 v hv).2
theorem eK.mem(S:eK ρ N σ τ){t:Tm}(ht:cB N t){n:Int}(h0:0≤n)(h1:n<N):ρ n∈(bH ρ t).vl↔n∈t.vl:=by
 rw[aWH]
 constructor
 · rintro⟨v,hv,e⟩
   rw[S.inj n v h0 h1 (ht.2.2 v hv).1 (ht.2.2 v hv).2 e];exact hv
 · exact fun h=>⟨n,h,rfl⟩
theorem eK.set(S:eK ρ N σ τ){n:Int}(h0:0≤n)(h1:n<N)(t:Tm):eK ρ N (σ.set n t) (τ.set (ρ n) (bH ρ t)):=by
 refine⟨S.inj,fun v hv0 hv1=>?_⟩
 unfold Sub.set
 by_cases h:v=n
 · subst h;simp
 · rw[aG (fun e=>h (S.inj v n hv0 hv1 h0 h1 e)),aG h,S.map v hv0 hv1]
theorem eK.iP(S:eK ρ N σ τ)(hg:cC σ)(hg':cC τ)(ho:cD (cB N) σ){n:Int}(h0:0≤n)(h1:n<N){t:Tm}(ht:cB N t){r:Bool}{σ':Sub}{tr:List Int}(h:iP σ n t=(r,σ',tr)) :
 ∃τ',AW.iP τ (ρ n) (bH ρ t)=(r,τ',tr.map ρ)∧eK ρ N σ' τ':=by
 obtain⟨rk,B,G⟩:=hg.rs
 have e:=S.mem (G.M5 ho ht) h0 h1
 rw[←S.rsT hg hg' ho ht] at e
 unfold AW.iP at h ⊢
 by_cases hm:n∈(t.aH (AW.rs σ)).vl
 · rw[aK hm] at h
   rw[aK (e.2 hm)]
   cases h
   exact⟨τ,rfl,S⟩
 · rw[aG hm] at h
   rw[aG (fun h=>hm (e.1 h))]
   cases h
   exact⟨_,rfl,S.set h0 h1 t⟩
theorem aEL{a b:Tm}(ha:a.k≠1)(hb:b.k≠1):rX (bH ρ a) (bH ρ b)=rX a b:=by
 obtain⟨k,n,s,ts⟩:=a
 obtain⟨k',n',s',ts'⟩:=b
 simp only[Tm.k] at ha hb
 rw[tZ ρ ha,tZ ρ hb,wC,qM,qM]
 simp only[Tm.k,Tm.n,Tm.s,Tm.ts,aE]
theorem eK.aI1(S:eK ρ N σ τ)(hg:cC σ)(ho:cD (cB N) σ){t:Tm}(ht:cB N t):AW.wk τ (bH ρ t)=bH ρ (AW.wk σ t):=by
 obtain⟨rk,B,G⟩:=hg.rs
 obtain⟨f,h⟩:=G.wk t
 exact(S.wk ho h ht).wk
theorem aV8(ρ:Int→Int)(N:Int):∀g:Nat,(∀(σ τ:Sub) (a b:Tm) (r:Bool) (σ':Sub) (tr:List Int),cC σ→cC τ→cD (cB N) σ→cB N a→cB N b→eK ρ N σ τ→cV g σ a b=some (r,σ',tr)→∃τ',cV g τ (bH ρ a) (bH ρ b)=some (r,τ',tr.map ρ)∧eK ρ N σ' τ') ∧
 (∀(xs ys:List Tm) (σ τ:Sub) (r:Bool) (σ':Sub) (tr:List Int),cC σ→cC τ→cD (cB N) σ→(∀x∈xs,cB N x)→(∀y∈ys,cB N y)→eK ρ N σ τ→dH g σ xs ys=some (r,σ',tr)→∃τ',dH g τ (xs.map (bH ρ)) (ys.map (bH ρ))=some (r,τ',tr.map ρ)∧eK ρ N σ' τ'):=by
 intro g
 induction g with
 | zero=>
  refine⟨fun σ τ a b r σ' tr _ _ _ _ _ _ h=>(by simp only[cV] at h;cases h),?_⟩
  intro xs ys σ τ r σ' tr _ _ _ _ _ S h
  match xs,ys with
  | [],_=>simp only[dH,Option.some.injEq,Prod.mk.injEq] at h;obtain⟨rfl,rfl,rfl⟩:=h;exact⟨τ,by simp only[bL,dH],S⟩
  | x::xs,[]=>simp only[dH,Option.some.injEq,Prod.mk.injEq] at h;obtain⟨rfl,rfl,rfl⟩:=h;exact⟨τ,by simp only[bK,bL,dH],S⟩
  | x::xs,y::ys=>simp only[dH,cV] at h;cases h
 | succ g ih=>
  have one:∀(σ τ:Sub) (a b:Tm) (r:Bool) (σ':Sub) (tr:List Int),cC σ→cC τ→cD (cB N) σ→cB N a→cB N b→eK ρ N σ τ→cV (g+1) σ a b=some (r,σ',tr)→∃τ',cV (g+1) τ (bH ρ a) (bH ρ b)=some (r,τ',tr.map ρ)∧eK ρ N σ' τ':=by
   intro σ τ a b r σ' tr hg hg' ho ha hb S h
   obtain⟨rk,B,G⟩:=hg.rs
   obtain⟨fa,wa⟩:=G.wk a
   obtain⟨fb,wb⟩:=G.wk b
   have oa:=wa.all (p:=cB N) ho ha
   have ob:=wb.all (p:=cB N) ho hb
   have ea:=S.aI1 hg ho ha
   have eb:=S.aI1 hg ho hb
   have h:=JH h
   generalize AW.wk σ a=a1 at *
   generalize AW.wk σ b=b1 at *
   rw[cV,ea,eb,vR,vR]
   have rng:∀ {t:Tm},cB N t→t.k=1→0≤t.n∧t.n<N:=fun ht hk=>ht.2.2 _ (by rw[Tm.BF hk];simp)
   have nn:∀ {t:Tm},t.k=1→(bH ρ t).n=ρ t.n:=fun hk=>by rw[vS ρ hk];try rfl
   rcases h with ⟨h1,h2,h3,rfl,rfl,rfl⟩ | ⟨h1,h2,h3⟩ | ⟨h1,h2,h3⟩ | ⟨h1,h2,h3,h4⟩ | ⟨h1,h2,h3,rfl,rfl,rfl⟩
   · exact⟨τ,by rw[aK ⟨h1,h2,by rw[nn h1,nn h2,h3]⟩];try rfl,S⟩
   · have ra:=rng oa h1
     obtain⟨τ',e,S'⟩:=S.iP hg hg' ho ra.1 ra.2 ob h3
     refine⟨τ',?_,S'⟩
     rw[aG,aK h1,nn h1,e]
     rintro⟨_,h5,h6⟩
     have rb:=rng ob h5
     rw[nn h1,nn h5] at h6
     exact h2 ⟨h5,S.inj _ _ ra.1 ra.2 rb.1 rb.2 h6⟩
   · have rb:=rng ob h2
     obtain⟨τ',e,S'⟩:=S.iP hg hg' ho rb.1 rb.2 oa h3
     refine⟨τ',?_,S'⟩
     rw[aG (fun h=>h1 h.1),aG h1,aK h2,nn h2,e]
   · obtain⟨τ',e,S'⟩:=ih.2 a1.ts b1.ts σ τ r σ' tr hg hg' ho (HV N a1 h1 oa) (HV N b1 h2 ob) S h4
     refine⟨τ',?_,S'⟩
     rw[aG (fun h=>h1 h.1),aG h1,aG h2,aK (by rw[aEL h1 h2];exact h3),A2 ρ h1,A2 ρ h2]
     exact e
   · refine⟨τ,?_,S⟩
     rw[aG (fun h=>h1 h.1),aG h1,aG h2,aG (by rw[aEL h1 h2,h3];simp)]
     try rfl
  refine⟨one,?_⟩
  intro xs
  induction xs with
  | nil=>
   intro ys σ τ r σ' tr _ _ _ _ _ S h
   simp only[dH,Option.some.injEq,Prod.mk.injEq] at h;obtain⟨rfl,rfl,rfl⟩:=h;exact⟨τ,by simp only[bL,dH],S⟩
  | cons x xs ihx=>
   intro ys σ τ r σ' tr hg hg' ho hx hy S h
   cases ys with
   | nil=>simp only[dH,Option.some.injEq,Prod.mk.injEq] at h;obtain⟨rfl,rfl,rfl⟩:=h;exact⟨τ,by simp only[bK,bL,dH],S⟩
   | cons y ys=>
    rw[dH] at h
    simp only[bK]
    rw[dH]
    cases hu:cV (g+1) σ x y with
    | none=>rw[hu] at h;cases h
    | some p=>
     obtain⟨r1,σ1,tr1⟩:=p
     rw[hu] at h
     obtain⟨τ1,e1,S1⟩:=one σ τ x y r1 σ1 tr1 hg hg' ho (hx x (by simp)) (hy y (by simp)) S hu
     rw[e1]
     cases r1 with
     | false=>
      simp only[Option.some.injEq,Prod.mk.injEq] at h ⊢
      obtain⟨rfl,rfl,rfl⟩:=h
      exact⟨τ1,⟨rfl,rfl,rfl⟩,S1⟩
     | true=>
      simp only at h ⊢
      cases hu2:dH (g+1) σ1 xs ys with
      | none=>rw[hu2] at h;cases h
      | some p2=>
       obtain⟨r2,σ2,tr2⟩:=p2
       rw[hu2] at h
       simp only[Option.some.injEq,Prod.mk.injEq] at h
       obtain⟨rfl,rfl,rfl⟩:=h
       have U1:=uE hg hu
       have U1':=uE hg' e1
       have ho1:=(JJ (HV N) (g+1)).1 σ x y true σ1 tr1 hg hu ho (hx x (by simp)) (hy y (by simp))
       obtain⟨τ2,e2,S2⟩:=ihx ys σ1 τ1 r2 σ2 tr2 U1.fO U1'.fO ho1 (fun z hz=>hx z (by simp [hz])) (fun z hz=>hy z (by simp [hz])) S1 hu2
       rw[e2]
       exact⟨τ2,by simp only[pZ],S2⟩
theorem eK.gW(S:eK ρ N σ τ)(hg:cC σ)(hg':cC τ)(ho:cD (cB N) σ){a b:Tm}(ha:cB N a)(hb:cB N b){r:Bool}{σ':Sub}{tr:List Int}{g:Nat}(h:cV g σ a b=some (r,σ',tr)) :
 ∃τ',AW.gW τ (bH ρ a) (bH ρ b)=(r,τ',tr.map ρ)∧eK ρ N σ' τ'∧cC τ':=by
 obtain⟨τ',e,S'⟩:=(aV8 ρ N g).1 σ τ a b r σ' tr hg hg' ho ha hb S h
 exact⟨τ',aIR e,S',(uE hg' e).fO⟩
end
end Go.AW
namespace Go.AW
open Go.Proofs.Tryz
def iK(n:Int):Prop:= -999≤n∧n≤999
theorem aKE(s:ByteArray)(a b:Int)(ha:iK a)(hb:iK b):iK (o7 s a b).1:=by
 unfold o7 iK
 split
 · exact NN _
 split
 · exact NN _
 split
 · exact NN _
 split
 · simp
 rename_i h0
 split
 · exact aDU a b ha hb h0
 · exact tdiv_le a b ha
theorem aKQ{f:Int→Int→Int×Int}{x y:Int×Int}(h:iK (f x.1 y.1).1):iK (both f x y).1:=by
 unfold both iK
 split
 · simp
 split
 · simp
 · exact h
theorem Tm.rU{N:Int}:∀t:Tm,cB N t→iK t.ev.1:=by
 intro t
 induction t using Tm.ind with
 | h k n s ts ih=>
  intro h
  obtain⟨h1,h2⟩:=h.all
  rw[Tm.vF]
  split
  · rename_i hk;exact h1 hk
  split
  · simp [iK]
  split
  · match ts,h2,ih with
    | [],_,_=>simp [two,iK]
    | [x],_,_=>simp [two,iK]
    | [x,y],h2,ih=>exact aKQ (aKE _ _ _ (ih x (by simp) (h2 x (by simp))) (ih y (by simp) (h2 y (by simp))))
    | x::y::z::l,_,_=>simp [two,iK]
  · simp [iK]
theorem O1{ts:List Tm}(h:(ts.length:Int)=2):∃x y,ts= [x,y]:=by
 match ts,h with
 | [x,y],_=>exact⟨x,y,rfl⟩
 | [],h=>simp at h
 | [x],h=>simp at h
 | x::y::z::l,h=>simp at h;omega
abbrev uC:=zi tI_3 (zi zI_3 (zi aY (zi tI_4 (zi zI_4 (zi cG (zi tI_9 (zi zI_9 (zi d4 (zi tI_28 (zi zI_28 (zi aP (zi bE (zi bF (zi b9 (zi tI_52 (zi zI_52 (zi bU (zi bV (zi bX (zi bY (zi bT (zi tI_138 (zi zI_138 (zi vD (zi zG (zi zL BC))))))))))))))))))))))))))
theorem FS{N:Int}:∀(t:Tm) (st:aA),cB N t→aD prog 229 [t.av] st (fun r st'=>r=.tup [.int .i64 t.ev.1,.int .i64 t.ev.2]∧st'=st)
 | .mk k n s ts,st,hok=>by
  obtain⟨h1,h2⟩:=hok.all
  have IH:=fun(x:Tm) (hx:x∈ts) st=>FS x st (h2 x hx)
  rw[Tm.vF]
  simp only[aX]
  refine wF [1000000] 1 func229 ntmps229 rfl rfl ?_
  intro _
  simp -implicitDefEqProofs only[aB,seval,uC]
  refine aT (fun hk=>?_) (fun hk=>?_)
  · simp -implicitDefEqProofs only[aB,seval,uC]
    simp only[bM] at hk
    simp [hk]
  simp only[cM] at hk
  rw[aG hk]
  simp -implicitDefEqProofs only[aB,seval,uC]
  refine aT (fun hk1=>?_) (fun hk1=>?_)
  · simp -implicitDefEqProofs only[aB,seval]
    simp only[bM] at hk1
    simp [hk1]
  simp only[cM] at hk1
  rw[aG hk1]
  simp -implicitDefEqProofs only[aE,aB,seval,uC]
  have hty:∀s0:aA,ts.length≠2∨eW nY s=false→(if eW nY s=true then two (o7 s) (ts.map Tm.ev) else(0,3))=((0:Int),(3:Int)):=fun _ h=>by
   split
   · rename_i h3
     rcases h with h | h
     · match ts,h with
       | [],_=>rfl
       | [x],_=>rfl
       | [x,y],h=>simp at h
       | x::y::z::l,_=>rfl
     · rw[h] at h3;cases h3
   · rfl
  refine cS (fun h=>?_) (fun h=>?_)
  case refine_2=>
   simp -implicitDefEqProofs only[h,aB,seval]
   rw[hty st (.inl (by simp at h;omega))]
  simp -implicitDefEqProofs only[h,aB,seval,uC]
  refine(KR nY s _).to ?_
  simp -implicitDefEqProofs only[aB,seval]
  refine aT (fun h3=>?_) (fun h3=>?_)
  · simp -implicitDefEqProofs only[aB,seval]
    rw[hty st (.inr (by simpa [eW] using h3))]
  have hin:eW nY s=true:=by simpa [eW] using h3
  rw[aK hin]
  clear hty
  obtain⟨x,y,rfl⟩:=O1 (by simpa using h)
  have dL:dF prog 28 (.slice [x.av,y.av]) (.int .i64 0)=some (.pptr x.av):=bG (av:=Tm.av) (l:=[x,y]) (i:=0) aP rfl (aO x)
  have fF:dF prog 28 (.slice [x.av,y.av]) (.int .i64 1)=some (.pptr y.av):=bG (av:=Tm.av) (l:=[x,y]) (i:=1) aP rfl (aO y)
  have hx:=Tm.rU x (h2 x (by simp))
  have hy:=Tm.rU y (h2 y (by simp))
  have IHx:=fun st=>IH x (by simp) st
  have IHy:=fun st=>IH y (by simp) st
  simp -implicitDefEqProofs only[dL,b7,aO,aB,↓aW,seval,uC]
  refine(IHx _).to ?_
  simp only[two,both]
  generalize x.ev.1=a at *
  generalize x.ev.2=ca at *
  generalize y.ev.1=b at *
  generalize y.ev.2=cb at *
  simp -implicitDefEqProofs only[aB,seval]
  refine aT (fun h4=>?_) (fun h4=>?_)
  · simp -implicitDefEqProofs only[aB,seval]
    have h4':ca≠0:=by simpa using h4
    rw[aK h4']
  have h4':ca=0:=by simpa using h4
  subst h4'
  rw[aG (by simp)]
  simp -implicitDefEqProofs only[fF,b7,aO,aB,seval,uC]
  refine(IHy _).to ?_
  simp -implicitDefEqProofs only[aB,seval]
  refine aT (fun h5=>?_) (fun h5=>?_)
  · simp -implicitDefEqProofs only[aB,seval]
    have h5':cb≠0:=by simpa using h5
    rw[aK h5']
  have h5':cb=0:=by simpa using h5
  subst h5'
  rw[aG (by simp)]
  unfold iK at hx hy
  have hmul: -998001≤a*b∧a*b≤998001:=by
   have h6:(a*b).natAbs≤998001:=by
    rw[Int.natAbs_mul]
    have:=Nat.mul_le_mul (show a.natAbs≤999 by omega) (show b.natAbs≤999 by omega)
    omega
   omega
  have hw1:=bJ (n:=a+b)
  have hw2:=bJ (n:=a - b)
  have hw3:=bJ (n:=a*b)
  have hrg:∀(v:Int) (st':aA),aD prog 87 [.int .i64 v,.int .i64 (-999),.int .i64 999] st' (fun r s'=>r=.bool (decide (gT v=(v,0)))∧s'=st'):=fun v st'=>by
   refine(wS v (-999) 999 st').mono ?_
   rintro _ _ ⟨rfl,rfl⟩
   refine⟨?_,rfl⟩
   congr 1
   unfold gT
   split
   · rename_i h;simp [h.1,h.2]
   · rename_i h
     rw[show(decide (((0:Int),(5:Int))=(v,0)))=false from vC (by simp)]
     simp only[Bool.and_eq_false_iff,cM]
     omega
  have hrn:∀v,gT v≠(v,0)→gT v=(0,5):=fun v h=>by
   unfold gT at h ⊢
   split
   · rename_i h';rw[aK h'] at h;exact absurd rfl h
   · rfl
  unfold o7
  simp -implicitDefEqProofs only[aB,seval,uC]
  refine aT (fun h6=>?_) (fun h6=>?_)
  · simp -implicitDefEqProofs only[hw1,aB,seval]
    rw[aK (by simpa using h6)]
    refine(hrg (a+b) _).to ?_
    simp -implicitDefEqProofs only[aB,seval]
    refine aT (fun h8=>?_) (fun h8=>?_)
    · simp -implicitDefEqProofs only[aB,seval]
      rw[hrn _ (by simpa using h8)]
    · simp -implicitDefEqProofs only[aB,seval]
      rw[show gT (a+b)=(a+b,0) by simpa using h8]
  rw[aG (by simpa using h6)]
  simp -implicitDefEqProofs only[aB,seval]
  refine aT (fun h7=>?_) (fun h7=>?_)
  · simp -implicitDefEqProofs only[hw2,aB,seval]
    rw[aK (by simpa using h7)]
    refine(hrg (a - b) _).to ?_
    simp -implicitDefEqProofs only[aB,seval]
    refine aT (fun h8=>?_) (fun h8=>?_)
    · simp -implicitDefEqProofs only[aB,seval]
      rw[hrn _ (by simpa using h8)]
    · simp -implicitDefEqProofs only[aB,seval]
      rw[show gT (a - b)=(a - b,0) by simpa using h8]
  rw[aG (by simpa using h7)]
  simp -implicitDefEqProofs only[aB,seval]
  refine aT (fun h9=>?_) (fun h9=>?_)
  · simp -implicitDefEqProofs only[hw3,aB,seval]
    rw[aK (by simpa using h9)]
    refine(hrg (a*b) _).to ?_
    simp -implicitDefEqProofs only[aB,seval]
    refine aT (fun h8=>?_) (fun h8=>?_)
    · simp -implicitDefEqProofs only[aB,seval]
      rw[hrn _ (by simpa using h8)]
    · simp -implicitDefEqProofs only[aB,seval]
      rw[show gT (a*b)=(a*b,0) by simpa using h8]
  rw[aG (by simpa using h9)]
  simp -implicitDefEqProofs only[aB,seval]
  refine aT (fun h0=>?_) (fun h0=>?_)
  · simp -implicitDefEqProofs only[aB,seval]
    rw[aK (by simpa using h0)]
  have h0':b≠0:=by simpa using h0
  rw[aG h0']
  have hq:=tdiv_le a b hx
  have hr:=IY a b h0'
  have hf:=aDU a b hx hy h0'
  have hfe:=aPC a b h0'
  have hw4:=bJ (n:=a.tdiv b)
  have hw5:=bJ (n:=a.tmod b+b)
  have aQM:gT (a.tdiv b)=(a.tdiv b,0):=by unfold gT;rw[aK hq]
  have aQN:gT (oB a b)=(oB a b,0):=by unfold gT;rw[aK hf]
  simp -implicitDefEqProofs only[hw4,h0',aB,seval,uC]
  refine aT (fun h10=>?_) (fun h10=>?_)
  · simp -implicitDefEqProofs only[hw5,h0',hfe,aB,seval]
    rw[aK (by simpa using h10)]
    refine(hrg (oB a b) _).to ?_
    have hd:decide (gT (oB a b)=(oB a b,0))=true:=by rw[aQN];simp
    simp -implicitDefEqProofs only[hd,aB,seval]
  · simp -implicitDefEqProofs only[aB,seval]
    rw[aG (by simpa using h10)]
    refine(hrg (a.tdiv b) _).to ?_
    have hd:decide (gT (a.tdiv b)=(a.tdiv b,0))=true:=by rw[aQM];simp
    simp -implicitDefEqProofs only[hd,aB,seval]
termination_by t=>SizeOf.sizeOf t
decreasing_by have:=List.sizeOf_lt_of_mem hx;simp only[Tm.mk.sizeOf_spec];omega
theorem KV(n:Int)(st:aA):aD prog 263 [.int .i64 n] st (fun r st'=>r=.tup [.int .i64 (gT n).1,.int .i64 (gT n).2]∧st'=st):=by
 refine wF [1000000] 1 func263 ntmps263 rfl rfl ?_
 intro _
 simp -implicitDefEqProofs only[aB,seval]
 refine cS (fun h=>?_) (fun h=>?_)
 · simp -implicitDefEqProofs only[h,aB,seval]
   have h1:¬n< -999:=by simpa using h
   refine aT (fun h2=>?_) (fun h2=>?_)
   · simp -implicitDefEqProofs only[aB,seval]
     have h2':999<n:=by simpa using h2
     unfold gT
     rw[aG (by omega)]
   · simp -implicitDefEqProofs only[aB,seval]
     have h2':¬ 999<n:=by simpa using h2
     unfold gT
     rw[aK (by omega)]
 · simp -implicitDefEqProofs only[h,aB,seval]
   have h1:n< -999:=by simpa using h
   unfold gT
   rw[aG (by omega)]
abbrev aU6:=zi tI_3 (zi zI_3 (zi aY (zi tI_4 (zi zI_4 cG))))
theorem aMO(a b:Int)(ha:iK a)(hb:iK b)(h0:b≠0)(st:aA):aD prog 264 [.int .i64 a,.int .i64 b] st (fun r st'=>r=.int .i64 (oB a b)∧st'=st):=by
 have hl:=IY a b h0
 unfold iK at ha hb
 have hw:=bJ (n:=a.tmod b+b)
 refine wF [1000000] 2 func264 ntmps264 rfl rfl ?_
 intro _
 simp -implicitDefEqProofs only[h0,aB,seval]
 have hf:oB a b=if a.tmod b≠0∧decide (a.tmod b<0)≠decide (b<0) then a.tmod b+b else a.tmod b:=rfl
 rw[hf]
 clear hf
 generalize hm:a.tmod b=m at *
 refine cS (fun h=>?_) (fun h=>?_)
 · have h':m≠0:=by simpa using h
   simp -implicitDefEqProofs only[h,aB,seval,aU6]
   refine aT (fun h2=>?_) (fun h2=>?_)
   · simp -implicitDefEqProofs only[hw,aB,seval]
     rw[aK ⟨h',by simpa using h2⟩]
   · simp -implicitDefEqProofs only[aB,seval]
     rw[aG (by intro h3;exact h3.2 (by simpa using h2))]
 · have h':m=0:=by simpa using h
   simp -implicitDefEqProofs only[h,aB,seval]
   rw[aG (by intro h3;exact h3.1 h')]
theorem aMM(a b:Int)(ha:iK a)(hb:iK b)(h0:b≠0)(st:aA):aD prog 265 [.int .i64 a,.int .i64 b] st (fun r st'=>r=.int .i64 (a.tdiv b)∧st'=st):=by
 have hl:=tdiv_le a b ha
 have hw:=bJ (n:=a.tdiv b)
 refine wF [1000000] 2 func265 ntmps265 rfl rfl ?_
 intro _
 simp -implicitDefEqProofs only[h0,hw,aB,seval]
theorem RQ(s:ByteArray)(a b:Int)(hx:iK a)(hy:iK b)(st:aA):aD prog 243 [.str s,.int .i64 a,.int .i64 b] st (fun r st'=>r=.tup [.int .i64 (o7 s a b).1,.int .i64 (o7 s a b).2]∧st'=st):=by
 have hMod:=fun h0=>aMO a b hx hy h0
 have hDiv:=fun h0=>aMM a b hx hy h0
 unfold iK at hx hy
 have hmul: -998001≤a*b∧a*b≤998001:=by
  have h6:(a*b).natAbs≤998001:=by
   rw[Int.natAbs_mul]
   have:=Nat.mul_le_mul (show a.natAbs≤999 by omega) (show b.natAbs≤999 by omega)
   omega
  omega
 have hw1:=bJ (n:=a+b)
 have hw2:=bJ (n:=a - b)
 have hw3:=bJ (n:=a*b)
 unfold o7
 refine wF [1000000] 3 func243 ntmps243 rfl rfl ?_
 intro _
 simp -implicitDefEqProofs only[aB,seval]
 refine aT (fun h6=>?_) (fun h6=>?_)
 · simp -implicitDefEqProofs only[hw1,aB,seval]
   rw[aK (by simpa using h6)]
   refine(KV _ _).to ?_
   simp -implicitDefEqProofs only[aB,seval]
 rw[aG (by simpa using h6)]
 simp -implicitDefEqProofs only[aB,seval]
 refine aT (fun h7=>?_) (fun h7=>?_)
 · simp -implicitDefEqProofs only[hw2,aB,seval]
   rw[aK (by simpa using h7)]
   refine(KV _ _).to ?_
   simp -implicitDefEqProofs only[aB,seval]
 rw[aG (by simpa using h7)]
 simp -implicitDefEqProofs only[aB,seval]
 refine aT (fun h9=>?_) (fun h9=>?_)
 · simp -implicitDefEqProofs only[hw3,aB,seval]
   rw[aK (by simpa using h9)]
   refine(KV _ _).to ?_
   simp -implicitDefEqProofs only[aB,seval]
 rw[aG (by simpa using h9)]
 simp -implicitDefEqProofs only[aB,seval]
 refine aT (fun h0=>?_) (fun h0=>?_)
 · simp -implicitDefEqProofs only[aB,seval]
   rw[aK (by simpa using h0)]
 have h0':b≠0:=by simpa using h0
 rw[aG h0']
 simp -implicitDefEqProofs only[aB,seval]
 refine aT (fun h10=>?_) (fun h10=>?_)
 · simp -implicitDefEqProofs only[aB,seval]
   rw[aK (by simpa using h10)]
   refine(hMod h0' _).to ?_
   simp -implicitDefEqProofs only[aB,seval]
 · simp -implicitDefEqProofs only[aB,seval]
   rw[aG (by simpa using h10)]
   refine(hDiv h0' _).to ?_
   simp -implicitDefEqProofs only[aB,seval]
theorem FO(s:ByteArray):eW nY s=decide (jW s=1∨jW s=2):=by
 unfold eW nY jW
 simp only[yD,List.any_nil,Bool.or_false]
 by_cases h1:s=⟨#[43]⟩
 · subst h1;decide
 by_cases h2:s=⟨#[45]⟩
 · subst h2;decide
 by_cases h3:s=⟨#[42]⟩
 · subst h3;decide
 by_cases h4:s=⟨#[47,47]⟩
 · subst h4;decide
 by_cases h5:s=⟨#[109,111,100]⟩
 · subst h5;decide
 simp only[h1,h2,h3,h4,h5,eN,Bool.or_false,cond_false]
 cases (decide (s=⟨#[61]⟩)||decide (s=⟨#[92,61]⟩)||decide (s=⟨#[61,61]⟩)||decide (s=⟨#[60]⟩)||decide (s=⟨#[62]⟩)||decide (s=⟨#[61,60]⟩)||decide (s=⟨#[62,61]⟩)||decide (s=⟨#[61,58,61]⟩)||decide (s=⟨#[105,115]⟩))<;>rfl
abbrev pQ:=zi tI_3 (zi zI_3 (zi aY (zi tI_9 (zi zI_9 (zi d4 (zi tI_28 (zi zI_28 (zi aP (zi bE (zi bF (zi b9 (zi tI_52 (zi zI_52 (zi bU (zi bV (zi bX (zi bY bT)))))))))))))))))
theorem FV{N:Int}:∀(t:Tm) (st:aA),cB N t→aD prog 205 [t.av] st (fun r st'=>r=.tup [.int .i64 t.ev.1,.int .i64 t.ev.2]∧st'=st)
 | .mk k n s ts,st,hok=>by
  obtain⟨h1,h2⟩:=hok.all
  have IH:=fun(x:Tm) (hx:x∈ts) st=>FV x st (h2 x hx)
  rw[Tm.vF]
  simp only[aX]
  refine wF [1000000] 1 func205 ntmps205 rfl rfl ?_
  intro _
  simp -implicitDefEqProofs only[aB,seval,pQ]
  refine aT (fun hk1=>?_) (fun hk1=>?_)
  · simp -implicitDefEqProofs only[aB,seval]
    simp only[bM] at hk1
    rw[aG (by omega),aK hk1]
  simp only[cM] at hk1
  rw[aG hk1]
  simp -implicitDefEqProofs only[aB,seval]
  refine aT (fun hk=>?_) (fun hk=>?_)
  · simp -implicitDefEqProofs only[aB,seval,pQ]
    simp only[bM] at hk
    simp [hk]
  simp only[cM] at hk
  rw[aG hk]
  simp -implicitDefEqProofs only[aB,seval,pQ]
  refine(RM s _).to ?_
  simp -implicitDefEqProofs only[aE,aB,seval,pQ]
  have hty:∀s0:aA,ts.length≠2∨eW nY s=false→(if eW nY s=true then two (o7 s) (ts.map Tm.ev) else(0,3))=((0:Int),(3:Int)):=fun _ h=>by
   split
   · rename_i h3
     rcases h with h | h
     · match ts,h with
       | [],_=>rfl
       | [x],_=>rfl
       | [x,y],h=>simp at h
       | x::y::z::l,_=>rfl
     · rw[h] at h3;cases h3
   · rfl
  refine cS (fun h=>?_) (fun h=>?_)
  case refine_2=>
   simp -implicitDefEqProofs only[h,aB,seval]
   rw[hty st (.inl (by simp at h;omega))]
  simp -implicitDefEqProofs only[h,aB,seval]
  have aET:eW nY s=false→jW s≠1∧jW s≠2:=fun h=>by
   rw[FO] at h
   have:=of_decide_eq_false h
   omega
  refine cS (fun h3=>?_) (fun h3=>?_)
  · simp -implicitDefEqProofs only[h3,aB,seval]
    have h3':jW s≠1:=by simp at h3;omega
    refine aT (fun h6=>?_) (fun h6=>?_)
    · have h6':jW s≠2:=by simp at h6;omega
      simp -implicitDefEqProofs only[aB,seval]
      rw[hty st (.inr (by rw[FO];simp [h3',h6']))]
    · have h6':jW s=2:=by simp at h6;omega
      have hin:eW nY s=true:=by rw[FO];simp [h6']
      simp -implicitDefEqProofs only[aB,seval,pQ]
      rw[aK hin]
      clear hty aET
      obtain⟨x,y,rfl⟩:=O1 (by simpa using h)
      have dL:dF prog 28 (.slice [x.av,y.av]) (.int .i64 0)=some (.pptr x.av):=bG (av:=Tm.av) (l:=[x,y]) (i:=0) aP rfl (aO x)
      have fF:dF prog 28 (.slice [x.av,y.av]) (.int .i64 1)=some (.pptr y.av):=bG (av:=Tm.av) (l:=[x,y]) (i:=1) aP rfl (aO y)
      have hx:=Tm.rU x (h2 x (by simp))
      have hy:=Tm.rU y (h2 y (by simp))
      have IHx:=fun st=>IH x (by simp) st
      have IHy:=fun st=>IH y (by simp) st
      simp only[bK,bL,two,both]
      simp -implicitDefEqProofs only[dL,b7,aO,aB,↓aW,seval,pQ]
      refine(IHx _).to ?_
      generalize x.ev.1=a at *
      generalize x.ev.2=ca at *
      generalize y.ev.1=b at *
      generalize y.ev.2=cb at *
      simp -implicitDefEqProofs only[aB,seval]
      refine aT (fun h4=>?_) (fun h4=>?_)
      · simp -implicitDefEqProofs only[aB,seval]
        have h4':ca≠0:=by simpa using h4
        rw[aK h4']
      have h4':ca=0:=by simpa using h4
      subst h4'
      rw[aG (by simp)]
      simp -implicitDefEqProofs only[fF,b7,aO,aB,seval,pQ]
      refine(IHy _).to ?_
      simp -implicitDefEqProofs only[aB,seval]
      refine aT (fun h5=>?_) (fun h5=>?_)
      · simp -implicitDefEqProofs only[aB,seval]
        have h5':cb≠0:=by simpa using h5
        rw[aK h5']
      have h5':cb=0:=by simpa using h5
      subst h5'
      rw[aG (by simp)]
      simp -implicitDefEqProofs only[aB,seval,pQ]
      refine(RQ s a b hx hy _).to ?_
      simp -implicitDefEqProofs only[aB,seval]
  · have h3':jW s=1:=by simp at h3;omega
    have hin:eW nY s=true:=by rw[FO];simp [h3']
    simp -implicitDefEqProofs only[h3,aB,seval,pQ]
    rw[aK hin]
    clear hty aET
    obtain⟨x,y,rfl⟩:=O1 (by simpa using h)
    have dL:dF prog 28 (.slice [x.av,y.av]) (.int .i64 0)=some (.pptr x.av):=bG (av:=Tm.av) (l:=[x,y]) (i:=0) aP rfl (aO x)
    have fF:dF prog 28 (.slice [x.av,y.av]) (.int .i64 1)=some (.pptr y.av):=bG (av:=Tm.av) (l:=[x,y]) (i:=1) aP rfl (aO y)
    have hx:=Tm.rU x (h2 x (by simp))
    have hy:=Tm.rU y (h2 y (by simp))
    have IHx:=fun st=>IH x (by simp) st
    have IHy:=fun st=>IH y (by simp) st
    simp only[bK,bL,two,both]
    simp -implicitDefEqProofs only[dL,b7,aO,aB,↓aW,seval,pQ]
    refine(IHx _).to ?_
    generalize x.ev.1=a at *
    generalize x.ev.2=ca at *
    generalize y.ev.1=b at *
    generalize y.ev.2=cb at *
    simp -implicitDefEqProofs only[aB,seval]
    refine aT (fun h4=>?_) (fun h4=>?_)
    · simp -implicitDefEqProofs only[aB,seval]
      have h4':ca≠0:=by simpa using h4
      rw[aK h4']
    have h4':ca=0:=by simpa using h4
    subst h4'
    rw[aG (by simp)]
    simp -implicitDefEqProofs only[fF,b7,aO,aB,seval,pQ]
    refine(IHy _).to ?_
    simp -implicitDefEqProofs only[aB,seval]
    refine aT (fun h5=>?_) (fun h5=>?_)
    · simp -implicitDefEqProofs only[aB,seval]
      have h5':cb≠0:=by simpa using h5
      rw[aK h5']
    have h5':cb=0:=by simpa using h5
    subst h5'
    rw[aG (by simp)]
    simp -implicitDefEqProofs only[aB,seval,pQ]
    refine(RQ s a b hx hy _).to ?_
    simp -implicitDefEqProofs only[aB,seval]
termination_by t=>SizeOf.sizeOf t
decreasing_by have:=List.sizeOf_lt_of_mem hx;simp only[Tm.mk.sizeOf_spec];omega
abbrev aH6:=zi tI_3 (zi zI_3 (zi aY (zi tI_40 (zi zI_40 (zi dS (zi fV (zi fW f9)))))))
theorem QY(l:List Int)(v:Int)(st:aA):aD prog 239 [.slice (l.map iv),.int .i64 v] st (fun r st'=>r=.int .i64 (d5 v l 0)∧st'=st):=by
 refine wF [] 2 func239 ntmps239 rfl rfl ?_
 simp only[dK,AV.fits,dO,aE]
 intro ⟨hl,_⟩
 simp -implicitDefEqProofs only[aE,aB,seval,aH6]
 refine dQ (σ:=Unit) [] [0,1,7] l (fun i _=>d5 v l 0=d5 v (l.drop i) i) (fun i _=>[(8,.int .i64 i)]) (fun _ _=>st) (by decide +kernel) ⟨(),rfl,aR.mk (by simp -implicitDefEqProofs only[aB,↓aW,seval])⟩ (fun i x _ hx hlt bD hdr hinv=>?_) (fun _ hge hinv=>?_)
 case refine_2=>
  simp -implicitDefEqProofs only[hge,aB,seval]
  rw[hinv,iD]
  try rfl
 rw[hdr,d5] at hinv
 have hw:=bJ (n:=(i:Int)+1)
 simp -implicitDefEqProofs only[bD,bG (av:=iv) dS hx rfl,aB,seval,aH6]
 refine aT (fun h=>?_) (fun h=>?_)
 · simp only[bM] at h
   rw[aK h] at hinv
   simp -implicitDefEqProofs only[hinv,aB,seval]
 · simp only[cM] at h
   rw[aG h] at hinv
   simp -implicitDefEqProofs only[aB,seval]
   exact⟨(),by rw[hinv],aR.mk (by simp -implicitDefEqProofs only[hw,aB,seval])⟩
theorem aK1(l:List Int)(v:Int)(st:aA):aD prog 221 [.slice (l.map iv),.int .i64 v] st (fun r st'=>r=.bool (decide (v∈l))∧st'=st):=by
 refine wF [] 2 func221 ntmps221 rfl rfl ?_
 intro _
 simp -implicitDefEqProofs only[aB,seval]
 refine(QY l v st).to ?_
 simp -implicitDefEqProofs only[aFB v l 0 (Int.le_refl 0),aB,seval]
theorem aUF{st:aA}{b:Nat}{l:List Int}{os xs:List AV}(h:Seen (bS st b (l.map iv)) c8 os xs):Seen (bS st b (l.map iv)) c8 (bR 1 b (l.map iv)::os) (.slice (l.map iv)::xs):=
 Seen.own (aTJ (a7.flat (by simp [AV.flat])) (by intro e h;simp only[cE] at h;obtain⟨t,_,rfl⟩:=h;rfl)) h
def Grown(st:aA)(l:List Int)(r:AV)(st':aA):Prop:=∃b',r=bR 1 b' (l.map iv)∧st'=bS st b' (l.map iv)∧(l.map iv≠[]→st b'=none)
abbrev pS:=zi tI_3 (zi zI_3 (zi aY (zi tI_4 (zi zI_4 (zi cG (zi tI_28 (zi zI_28 (zi aP (zi bE (zi bF (zi b9 (zi tI_40 (zi zI_40 (zi dS (zi fV (zi fW (zi f9 (zi tI_52 (zi zI_52 (zi bU (zi bV (zi bX (zi bY bT)))))))))))))))))))))))
theorem QZ:∀(t:Tm) (l:List Int) (b:Nat) (st:aA),(l.map iv≠[]→st b=none)→l.length+t.nodes≤1099511627776→aD prog 182 [t.av,bR 1 b (l.map iv)] (bS st b (l.map iv)) (Grown st (t.vars l))
 | .mk k n s ts,l,b,st,hb,hsz=>by
  have IH:=fun(x:Tm) (hx:x∈ts)=>QZ x
  simp only[Tm.vars]
  rw[Tm.jE] at hsz
  refine wF [] 2 func182 ntmps182 rfl rfl ?_
  simp only[aX,dK,AV.fits,dO,aE]
  intro ⟨⟨_,_,_,hl,_⟩,_⟩
  simp -implicitDefEqProofs only[aB,seval,pS]
  refine cS (fun h=>?_) (fun h=>?_)
  · simp only[bM] at h
    subst h
    simp -implicitDefEqProofs only[aB,seval,pS]
    refine(aD.see (fun s=>aK1 l n s) (aUF (Seen.same .nil)) rfl).to ?_
    simp -implicitDefEqProofs only[aB,seval]
    refine aT (fun h=>?_) (fun h=>?_)
    · simp only[gN,cM] at h
      rw[aK h]
      simp -implicitDefEqProofs only[aB,seval,pS]
      refine gJ dS fV fW rfl rfl (gS rfl rfl) (by intro e h;simp only[cE] at h;obtain⟨t,_,rfl⟩:=h;rfl) hb (by simp;omega) (by simp;omega) (fun b' hb'=>?_)
      rw[show l.map iv++ [AV.int .i64 n]=(l++ [n]).map iv by simp] at hb' ⊢
      simp -implicitDefEqProofs only[aB,seval,pS]
      refine dQ (σ:=List Int×Nat) [] [4,23,24] ts (fun i p=>bO (ts.drop i) p.1=bO ts (l++ [n])∧p.1.length+aJ Tm.nodes (ts.drop i)≤1099511627776∧(p.1.map iv≠[]→st p.2=none)) (fun i p=>[(1,bR 1 p.2 (p.1.map iv)),(25,.int .i64 i)]) (fun _ p=>bS st p.2 (p.1.map iv)) (by decide +kernel)
       ⟨(l++ [n],b'),⟨rfl,by simp;omega,hb'⟩,aR.mk (by simp -implicitDefEqProofs only[aE,aB,↓aW,seval])⟩ (fun i x p hx hlt bD hdr hinv=>?_) (fun p hge hinv=>?_)
      case refine_2=>
       simp -implicitDefEqProofs only[aE,hge,aB,seval]
       rw[←hinv.1,iD]
       exact⟨p.2,rfl,rfl,hinv.2.2⟩
      obtain⟨acc,b⟩:=p
      rw[hdr] at hinv
      obtain⟨i1,i2,i3⟩:=hinv
      simp only[aJ] at i2
      have hw:=bJ (n:=(i:Int)+1)
      simp -implicitDefEqProofs only[aE,bD,bG (av:=Tm.av) aP hx (aO x),b7,aO,aB,seval,pS]
      intro b2 hb2
      obtain⟨hn2,hne⟩:=FJ hb2
      have hc2: [AV.int IntKind.i64 0,AV.int IntKind.i64 0,AV.str ⟨#[]⟩,AV.fslice []].length=4:=rfl
      try simp -implicitDefEqProofs only[eH,vT (x:=x.av.cells) (Tm.eV x) hc2,Tm.eV,Tm.dY,oP (Tm.eV x),nX (b7 x),cT,aB,↓aW,seval,pS]
      rw[sY hne]
      refine(IH x (cI hx) acc b _ (fun h=>by rw[aA.aF _ _ (c9 (hne h))];exact i3 h) (by omega)).mono ?_
      rintro _ _ ⟨b',rfl,rfl,hb'⟩
      simp -implicitDefEqProofs only[hw,aB,seval]
      obtain⟨hd,w7⟩:=FI (o:=.cells x.av.cells) hn2 hb'
      have hvl:=Tm.BE x acc
      refine⟨(x.vars acc,b'),⟨i1,by simp only;omega,w7⟩,aR.drop hd (by simp -implicitDefEqProofs only[aB,seval])⟩
    · simp only[j3,bM] at h
      rw[aG (by simp [h])]
      simp -implicitDefEqProofs only[aB,seval,pS]
      refine dQ (σ:=List Int×Nat) [] [4,23,24] ts (fun i p=>bO (ts.drop i) p.1=bO ts (l)∧p.1.length+aJ Tm.nodes (ts.drop i)≤1099511627776∧(p.1.map iv≠[]→st p.2=none)) (fun i p=>[(1,bR 1 p.2 (p.1.map iv)),(25,.int .i64 i)]) (fun _ p=>bS st p.2 (p.1.map iv)) (by decide +kernel)
       ⟨(l,b),⟨rfl,by simp;omega,hb⟩,aR.mk (by simp -implicitDefEqProofs only[aE,aB,↓aW,seval])⟩ (fun i x p hx hlt bD hdr hinv=>?_) (fun p hge hinv=>?_)
      case refine_2=>
       simp -implicitDefEqProofs only[aE,hge,aB,seval]
       rw[←hinv.1,iD]
       exact⟨p.2,rfl,rfl,hinv.2.2⟩
      obtain⟨acc,b⟩:=p
      rw[hdr] at hinv
      obtain⟨i1,i2,i3⟩:=hinv
      simp only[aJ] at i2
      have hw:=bJ (n:=(i:Int)+1)
      simp -implicitDefEqProofs only[aE,bD,bG (av:=Tm.av) aP hx (aO x),b7,aO,aB,seval,pS]
      intro b2 hb2
      obtain⟨hn2,hne⟩:=FJ hb2
      have hc2: [AV.int IntKind.i64 0,AV.int IntKind.i64 0,AV.str ⟨#[]⟩,AV.fslice []].length=4:=rfl
      try simp -implicitDefEqProofs only[eH,vT (x:=x.av.cells) (Tm.eV x) hc2,Tm.eV,Tm.dY,oP (Tm.eV x),nX (b7 x),cT,aB,↓aW,seval,pS]
      rw[sY hne]
      refine(IH x (cI hx) acc b _ (fun h=>by rw[aA.aF _ _ (c9 (hne h))];exact i3 h) (by omega)).mono ?_
      rintro _ _ ⟨b',rfl,rfl,hb'⟩
      simp -implicitDefEqProofs only[hw,aB,seval]
      obtain⟨hd,w7⟩:=FI (o:=.cells x.av.cells) hn2 hb'
      have hvl:=Tm.BE x acc
      refine⟨(x.vars acc,b'),⟨i1,by simp only;omega,w7⟩,aR.drop hd (by simp -implicitDefEqProofs only[aB,seval])⟩
  · simp only[kU,cM] at h
    rw[aG (by simp [h])]
    simp -implicitDefEqProofs only[h,aB,seval,pS]
    refine dQ (σ:=List Int×Nat) [] [4,23,24] ts (fun i p=>bO (ts.drop i) p.1=bO ts (l)∧p.1.length+aJ Tm.nodes (ts.drop i)≤1099511627776∧(p.1.map iv≠[]→st p.2=none)) (fun i p=>[(1,bR 1 p.2 (p.1.map iv)),(25,.int .i64 i)]) (fun _ p=>bS st p.2 (p.1.map iv)) (by decide +kernel)
     ⟨(l,b),⟨rfl,by simp;omega,hb⟩,aR.mk (by simp -implicitDefEqProofs only[aE,aB,↓aW,seval])⟩ (fun i x p hx hlt bD hdr hinv=>?_) (fun p hge hinv=>?_)
    case refine_2=>
     simp -implicitDefEqProofs only[aE,hge,aB,seval]
     rw[←hinv.1,iD]
     exact⟨p.2,rfl,rfl,hinv.2.2⟩
    obtain⟨acc,b⟩:=p
    rw[hdr] at hinv
    obtain⟨i1,i2,i3⟩:=hinv
    simp only[aJ] at i2
    have hw:=bJ (n:=(i:Int)+1)
    simp -implicitDefEqProofs only[aE,bD,bG (av:=Tm.av) aP hx (aO x),b7,aO,aB,seval,pS]
    intro b2 hb2
    obtain⟨hn2,hne⟩:=FJ hb2
    have hc2: [AV.int IntKind.i64 0,AV.int IntKind.i64 0,AV.str ⟨#[]⟩,AV.fslice []].length=4:=rfl
    try simp -implicitDefEqProofs only[eH,vT (x:=x.av.cells) (Tm.eV x) hc2,Tm.eV,Tm.dY,oP (Tm.eV x),nX (b7 x),cT,aB,↓aW,seval,pS]
    rw[sY hne]
    refine(IH x (cI hx) acc b _ (fun h=>by rw[aA.aF _ _ (c9 (hne h))];exact i3 h) (by omega)).mono ?_
    rintro _ _ ⟨b',rfl,rfl,hb'⟩
    simp -implicitDefEqProofs only[hw,aB,seval]
    obtain⟨hd,w7⟩:=FI (o:=.cells x.av.cells) hn2 hb'
    have hvl:=Tm.BE x acc
    refine⟨(x.vars acc,b'),⟨i1,by simp only;omega,w7⟩,aR.drop hd (by simp -implicitDefEqProofs only[aB,seval])⟩
termination_by t=>SizeOf.sizeOf t
decreasing_by have:=List.sizeOf_lt_of_mem hx;simp only[Tm.mk.sizeOf_spec];omega
abbrev OS:=zi tI_3 (zi zI_3 (zi aY (zi tI_28 (zi zI_28 (zi aP (zi bE (zi bF (zi b9 (zi tI_40 (zi zI_40 (zi dS (zi fV (zi fW (zi f9 (zi tI_52 (zi zI_52 (zi bU (zi bV (zi bX (zi bY bT))))))))))))))))))))
theorem K5(l:List Tm)(st:aA)(hsz:aJ Tm.nodes l≤1099511627776):aD prog 150 [.slice (l.map Tm.av)] st (fun r st'=>r=.slice ((bO l []).map iv)∧st'=st):=by
 refine aD.fin ?_
 refine wF [] 1 func150 ntmps150 rfl rfl ?_
 simp only[dK,AV.fits,dO,aE]
 intro ⟨hl,_⟩
 simp -implicitDefEqProofs only[aE,aB,seval,OS]
 refine dQ (σ:=List Int×Nat) [] [2,6,7] l (fun i p=>bO (l.drop i) p.1=bO l ([])∧p.1.length+aJ Tm.nodes (l.drop i)≤1099511627776∧(p.1.map iv≠[]→st p.2=none)) (fun i p=>[(3,bR 1 p.2 (p.1.map iv)),(8,.int .i64 i)]) (fun _ p=>bS st p.2 (p.1.map iv)) (by decide +kernel)
  ⟨([],0),⟨rfl,by simp;omega,by simp⟩,aR.mk (by simp -implicitDefEqProofs only[bL,kZ,aB,↓aW,seval])⟩ (fun i x p hx hlt bD hdr hinv=>?_) (fun p hge hinv=>?_)
 case refine_2=>
  simp -implicitDefEqProofs only[hge,aB,seval]
  rw[←hinv.1,iD]
  exact⟨p.2,p.1.map iv,st,rfl,hinv.2.2,by simp [AV.cA],⟨1,aFF p.1⟩,mH,rfl⟩
 obtain⟨acc,b⟩:=p
 rw[hdr] at hinv
 obtain⟨i1,i2,i3⟩:=hinv
 simp only[aJ] at i2
 have hw:=bJ (n:=(i:Int)+1)
 simp -implicitDefEqProofs only[bD,bG (av:=Tm.av) aP hx (aO x),b7,aO,aB,seval,OS]
 intro b2 hb2
 obtain⟨hn2,hne⟩:=FJ hb2
 have r8:∀zs:List AV,zs.length=4→aS zs 0 x.av.cells=x.av.cells:=fun zs h=>vT (Tm.eV x) h
 try simp -implicitDefEqProofs only[eH,r8,Tm.eV,Tm.dY,oP (Tm.eV x),nX (b7 x),cT,aB,↓aW,seval,OS]
 rw[sY hne]
 refine(QZ x acc b _ (fun h=>by rw[aA.aF _ _ (c9 (hne h))];exact i3 h) (by omega)).mono ?_
 rintro _ _ ⟨b',rfl,rfl,hb'⟩
 simp -implicitDefEqProofs only[hw,aB,seval]
 obtain⟨hd,w7⟩:=FI (o:=.cells x.av.cells) hn2 hb'
 have hvl:=Tm.BE x acc
 exact⟨(x.vars acc,b'),⟨i1,by simp only;omega,w7⟩,aR.drop hd (by simp -implicitDefEqProofs only[aB,seval])⟩
abbrev EN:=zi tI_3 (zi zI_3 (zi aY (zi tI_28 (zi zI_28 (zi aP (zi bE (zi bF (zi b9 (zi tI_40 (zi zI_40 (zi dS (zi fV (zi fW (zi f9 (zi tI_52 (zi zI_52 (zi bU (zi bV (zi bX (zi bY bT))))))))))))))))))))
theorem CC:∀(t:Tm) (l:List Int) (b:Nat) (st:aA),t.wf=true→(l.map iv≠[]→st b=none)→l.length+t.nodes≤1099511627776→aD prog 157 [bR 1 b (l.map iv),t.av] (bS st b (l.map iv)) (Grown st (t.vars l))
 | .mk k n s ts,l,b,st,hwf,hb,hsz=>by
  obtain⟨hk,aRN⟩:=Tm.O9 hwf
  have IH:=fun(x:Tm) (hx:x∈ts) l b st=>CC x l b st (aRN x hx)
  have haL:=BZ (w:=1) (b:=b) (l:=l.map iv) f9
  simp only[Tm.vars]
  rw[Tm.jE] at hsz
  refine wF [] 2 func157 ntmps157 rfl rfl ?_
  simp only[aX,dK,AV.fits,dO,aE]
  intro ⟨_,⟨_,_,_,hl,_⟩⟩
  simp -implicitDefEqProofs only[aB,seval,EN]
  refine aT (fun h=>?_) (fun h=>?_)
  · simp only[bM] at h
    obtain rfl:=hk h
    subst h
    simp -implicitDefEqProofs only[aB,seval]
    have hnn:l.length≤1099511627776:=by omega
    refine dQ (σ:=Unit) [] [0,3] l (fun i _=>∀y∈l.take i,y≠n) (fun i _=>[(5,.int .i64 i)]) (fun _ _=>bS st b (l.map iv)) (by decide +kernel) ⟨(),by simp,aR.mk (by simp -implicitDefEqProofs only[aB,↓aW,seval])⟩ (fun i x _ hx hlt bD hdr hinv=>?_) (fun _ hge hinv=>?_)
    case refine_2=>
     rw[eD] at hinv
     have fG:n∉l:=fun h=>hinv n h rfl
     simp -implicitDefEqProofs only[haL,aE,hge,aB,seval,EN]
     refine gJ dS fV fW rfl rfl (gS rfl rfl) (aFF l) hb (by simp;omega) (by simp;omega) (fun b' hb'=>?_)
     rw[show l.map iv++ [AV.int .i64 n]=(l++ [n]).map iv by simp] at hb' ⊢
     simp -implicitDefEqProofs only[aB,seval]
     exact⟨b',by simp [bO,fG],by simp [bO,fG],by simp only[bO,fG,DX,dP];exact hb'⟩
    have hat:=P9 (b:=b) (l:=l.map iv) (i:=i) (x:=iv x) dS (by rw[lS,hx];try rfl)
    obtain⟨fS,nC⟩:=QA (st:=st) (b:=b) hx
    have hw:=bJ (n:=(i:Int)+1)
    simp -implicitDefEqProofs only[haL,aE,bD,aB,seval]
    refine B5 mixed (by decide +kernel) (by decide +kernel) ?_
    simp -implicitDefEqProofs only[hat,fS,nC,yK,aB,seval,EN]
    refine aT (fun h=>?_) (fun h=>?_)
    · simp only[bM] at h
      subst h
      have fG:=cI hx
      simp -implicitDefEqProofs only[aB,seval]
      exact⟨b,by simp [bO,fG],by simp [bO,fG],by simp only[bO,fG,HR,cJ];exact hb⟩
    · simp only[cM] at h
      simp -implicitDefEqProofs only[aB,seval]
      refine⟨(),?_,aR.mk (by simp -implicitDefEqProofs only[hw,aB,seval])⟩
      intro y hy
      rw[fP,hx] at hy
      rcases dR.1 hy with hy | hy
      · exact hinv y hy
      · simp at hy;subst hy;exact h
  · simp only[cM] at h
    rw[aG (by simp [h])]
    simp -implicitDefEqProofs only[aB,seval]
    refine dQ (σ:=List Int×Nat) [] [3,4] ts (fun i p=>bO (ts.drop i) p.1=bO ts l∧p.1.length+aJ Tm.nodes (ts.drop i)≤1099511627776∧(p.1.map iv≠[]→st p.2=none)) (fun i p=>[(0,bR 1 p.2 (p.1.map iv)),(6,.int .i64 i)]) (fun _ p=>bS st p.2 (p.1.map iv)) (by decide +kernel)
     ⟨(l,b),⟨rfl,by simp;omega,hb⟩,aR.mk (by simp -implicitDefEqProofs only[aB,↓aW,seval])⟩ (fun i x p hx hlt bD hdr hinv=>?_) (fun p hge hinv=>?_)
    case refine_2=>
     simp -implicitDefEqProofs only[aE,hge,aB,seval,EN]
     rw[←hinv.1,iD]
     exact⟨p.2,rfl,rfl,hinv.2.2⟩
    obtain⟨acc,b⟩:=p
    rw[hdr] at hinv
    obtain⟨i1,i2,i3⟩:=hinv
    simp only[aJ] at i2
    have hw:=bJ (n:=(i:Int)+1)
    simp -implicitDefEqProofs only[aE,bD,bG (av:=Tm.av) aP hx (aO x),b7,aO,aB,seval,EN]
    refine(IH x (cI hx) acc b st i3 (by omega)).mono ?_
    rintro _ _ ⟨b',rfl,rfl,hb'⟩
    have hvl:=Tm.BE x acc
    simp -implicitDefEqProofs only[hw,aB,seval]
    exact⟨(x.vars acc,b'),⟨i1,by simp only;omega,hb'⟩,aR.mk (by simp -implicitDefEqProofs only[aB,seval])⟩
termination_by t=>SizeOf.sizeOf t
decreasing_by have:=List.sizeOf_lt_of_mem hx;simp only[Tm.mk.sizeOf_spec];omega
theorem QL{A C B:List AV}{n:Nat}(hA:A.length=n)(hC:C.length=4) :
 (n+4≤(A++C++B).length)∧List.take 4 (List.drop n (A++C++B))=C∧(A++C++B)[n+0]?=C[0]?:=by
 refine⟨by simp only[eC];omega,?_,(AK (A:=A) (B:=B) hA).2.2.1 C 0 (by omega)⟩
 rw[←hA,kW,BH,←hC,BM]
abbrev OkN (t:Tm):Prop:=t.iI=true∧t.nodes≤120
end Go.AW
namespace Go.AW
def lZ(n:Int):Tm:=.mk 2 n ⟨#[]⟩ []
theorem aR9{n:Int}(h:iK n):(lZ n).valid=true:=by
 have ho:(lZ n).iI=true:=by
  unfold lZ
  rw[Tm.xH]
  simp [d9,h.1,h.2]
 rw[Tm.aIW ho]
 simp [lZ,Tm.jE,aJ,Tm.tJ]
def gD(b:Bool):Int:=if b=true then 0 else 1
def F4(s:ByteArray)(a b:Int):Bool:=
 if s=⟨#[60]⟩ then decide (a<b) else if s=⟨#[62]⟩ then decide (b<a) else if s=⟨#[61,60]⟩ then decide (a≤b) else if s=⟨#[62,61]⟩ then decide (b≤a) else decide (a=b)
def qW(s:ByteArray)(x:Tm):Bool:=
 if s=⟨#[118,97,114]⟩ then decide (x.k=1) else if s=⟨#[110,111,110,118,97,114]⟩ then !decide (x.k=1) else if s=⟨#[97,116,111,109]⟩ then decide (x.k=3)&&decide ((x.ts.length:Int)=0) else decide (x.k=2)
def vA(s:ByteArray)(x y:Tm):Int:=(both (fun a b=>(0,gD (F4 s a b))) x.ev y.ev).2
def k7(x y:Tm):Option Tm:=if 1≤x.n∧x.n≤y.ts.length then y.ts[(x.n - 1).toNat]? else none
structure aWW (σ:Sub):Prop where
 fO:cC σ
 iI:cD (fun t=>t.iI=true) σ
 okN:cD OkN σ
theorem QH{x y u:Tm}(h:k7 x y=some u):u∈y.ts:=by
 unfold k7 at h
 split at h
 · exact cI h
 · cases h
theorem QR{s:ByteArray}{n:Nat}(h:isBuiltin s (n:Int)=true) :
 (n=2∧(eW pB s=true∨s=⟨#[61]⟩∨s=⟨#[92,61]⟩∨s=⟨#[61,61]⟩∨s=⟨#[105,115]⟩))∨(n=0∧(s=⟨#[116,114,117,101]⟩∨s=⟨#[102,97,105,108]⟩)) ∨
 (n=1∧(s=⟨#[118,97,114]⟩∨s=⟨#[110,111,110,118,97,114]⟩∨s=⟨#[97,116,111,109]⟩∨s=⟨#[105,110,116]⟩))∨(n=3∧s=⟨#[97,114,103]⟩):=by
 unfold isBuiltin at h
 simp only[cond_eq_ite] at h
 split at h
 · rename_i h1
   left
   refine⟨by simp at h;omega,?_⟩
   simp only[oU,bM] at h1
   simp only[eW,pB,yD,List.any_nil,oU,bM,jI,dI]
   rcases h1 with (((((((h1 | h1) | h1) | h1) | h1) | h1) | h1) | h1) | h1<;>simp [h1]
 split at h
 · rename_i h1
   right;left
   refine⟨by simp at h;omega,?_⟩
   simpa using h1
 split at h
 · rename_i h1
   right;right;left
   refine⟨by simp at h;omega,?_⟩
   simp only[oU,bM] at h1
   rcases h1 with ((h1 | h1) | h1) | h1<;>simp [h1]
 split at h
 · rename_i h1
   right;right;right
   exact⟨by simp at h;omega,by simpa using h1⟩
 · cases h
noncomputable def pV(σ:Sub)(a b:Tm):Int×Sub×List Int:=(gD (gW σ a b).1,(gW σ a b).2)
noncomputable def s8(σ:Sub)(x y z:Tm):Int×Sub×List Int:=
 if x.k=1∨y.k=1 then(2,σ,[]) else if x.k≠2∨y.k≠3∨y.ts.length=0 then(3,σ,[]) else match k7 x y with
  | some u=>pV σ z u
  | none=>(1,σ,[])
noncomputable def cQ(σ:Sub)(s:ByteArray):List Tm→Int×Sub×List Int
 | []=>(gD (decide (s=⟨#[116,114,117,101]⟩)),σ,[])
 | [x]=>(gD (qW s x),σ,[])
 | [x,y]=>if eW pB s=true then(vA s x y,σ,[]) else if s=⟨#[61]⟩ then pV σ x y else if s=⟨#[92,61]⟩ then(gD (!(gW σ x y).1),σ,[])
  else if s=⟨#[61,61]⟩ then(gD (x.same y),σ,[]) else if y.ev.2≠0 then(y.ev.2,σ,[]) else pV σ x (lZ y.ev.1)
 | [x,y,z]=>s8 σ x y z
 | _=>(0,σ,[])
structure kX (N:Int) (σ:Sub) (σ':Sub) (add:List Int):Prop where
 fO:cC σ'
 ok:cD (a8 N) σ'
 aU:∀n,n∉add→σ' n=σ n
 new:∀n∈add,σ n=none∧σ' n≠none
 nodup:add.Nodup
 eW:∀n∈add,0≤n∧n<N
theorem kX.same{N:Int}{σ:Sub}(hg:cC σ)(ho:cD (a8 N) σ):kX N σ σ []:=⟨hg,ho,fun _ _=>rfl,by simp,lT,by simp⟩
theorem wK.t8{N:Int}{σ:Sub}{a b:Tm}{r:Bool}{σ':Sub}{tr:List Int}(h:wK N σ a b r σ' tr):kX N σ σ' tr:=⟨h.lO.fO,h.ok,h.lO.aU,h.lO.new,h.lO.nodup,h.eW⟩
theorem kX.lO{N:Nat}{σ:Sub}{a b:Tm}(hg:cC σ)(ho:cD (a8 N) σ)(ha:a8 N a)(hb:a8 N b):kX N σ (gW σ a b).2.1 (gW σ a b).2.2:=by
 obtain⟨r,σ',tr,h⟩:=rA hg ho ha hb
 rw[h.eq]
 exact h.t8
theorem HK{N:Int}{n:Int}(h:iK n):a8 N (lZ n):=by
 have h1:=aR9 h
 have h2:=Tm.EX h1
 refine⟨⟨h2.1,h2.2.1,fun v hv=>?_⟩,Tm.EW h1⟩
 unfold lZ at hv
 rw[Tm.j0 (by decide)] at hv
 obtain⟨t,ht,_⟩:=hv
 cases ht
theorem QI{N:Int}{x y u:Tm}(hy:a8 N y)(hk:y.k≠1)(h:k7 x y=some u):a8 N u:=pL N y hk hy u (QH h)
theorem H8{N:Nat}{σ:Sub}(hg:cC σ)(ho:cD (a8 N) σ)(s:ByteArray)(ks:List Tm)(hv:∀x∈ks,a8 N x):kX N σ (cQ σ s ks).2.1 (cQ σ s ks).2.2:=by
 have hs:=kX.same hg ho
 match ks,hv with
 | [],_=>exact hs
 | [x],_=>exact hs
 | [x,y],hv=>
  have hx:=hv x (by simp)
  have hy:=hv y (by simp)
  simp only[cQ]
  split
  · exact hs
  split
  · exact kX.lO hg ho hx hy
  split
  · exact hs
  split
  · exact hs
  split
  · exact hs
  · exact kX.lO hg ho hx (HK (Tm.rU y hy.1))
 | [x,y,z],hv=>
  have hy:=hv y (by simp)
  have hz:=hv z (by simp)
  simp only[cQ,s8]
  split
  · exact hs
  rename_i h1
  split
  · exact hs
  split
  · rename_i u hu
    exact kX.lO hg ho hz (QI hy (fun h=>h1 (.inr h)) hu)
  · exact hs
 | a::b::c::d::l,_=>exact hs
theorem aOI(ρ:Int→Int):∀t:Tm,(bH ρ t).ev=t.ev:=by
 intro t
 induction t using Tm.ind with
 | h k n s ts ih=>
  by_cases h1:k=1
  · rw[vS ρ (t:=.mk k n s ts) h1,vr,Tm.vF,Tm.vF,h1]
    simp
  rw[tZ ρ h1,Tm.vF,Tm.vF,uL]
  have:ts.map (Tm.ev∘bH ρ)=ts.map Tm.ev:=oW fun x hx=>ih x hx
  rw[this]
section
variable {ρ:Int→Int} {N:Int} {σ τ:Sub}
theorem eK.back(S:eK ρ N σ τ):∃δ:Int→Int,∀v,0≤v→v<N→δ (ρ v)=v:=by
 refine⟨fun w=>open Classical in if h:∃v,0≤v∧v<N∧ρ v=w then h.choose else 0,fun v h0 h1=>?_⟩
 have h:∃u,0≤u∧u<N∧ρ u=ρ v:=⟨v,h0,h1,rfl⟩
 simp only[dif_pos h]
 obtain⟨a,b,c⟩:=h.choose_spec
 exact S.inj _ _ a b h0 h1 c
theorem eK.aT1(S:eK ρ N σ τ){x y:Tm}(hx:cB N x)(hy:cB N y)(e:bH ρ x=bH ρ y):x=y:=by
 obtain⟨δ,hδ⟩:=S.back
 have key:∀ {t:Tm},cB N t→bH δ (bH ρ t)=t:=fun {t} ht=>by
  rw[show bH δ (bH ρ t)=t.aH fun v=>vr (δ (ρ v)) from D5 ρ _ t]
  rw[oL (g:=vr) t fun v hv=>by rw[hδ v (ht.2.2 v hv).1 (ht.2.2 v hv).2]]
  exact MU t ht.2.1
 rw[←key hx,e,key hy]
theorem eK.same(S:eK ρ N σ τ){x y:Tm}(hx:cB N x)(hy:cB N y):(bH ρ x).same (bH ρ y)=x.same y:=by
 rw[wC,Tm.xN,Tm.xN]
 exact⟨S.aT1 hx hy,fun e=>by rw[e]⟩
theorem aU5(ρ:Int→Int)(s:ByteArray)(x:Tm):qW s (bH ρ x)=qW s x:=by
 unfold qW
 rw[vR]
 by_cases h:x.k=1
 · rw[h];simp
 · have:(bH ρ x).ts.length=x.ts.length:=by
    rw[A2 ρ h]
    simp only[Tm.ts,aE]
   rw[this]
theorem aKG(ρ:Int→Int){x y:Tm}(hx:x.k=2)(hy:y.k=3):k7 (bH ρ x) (bH ρ y)=(k7 x y).map (bH ρ):=by
 obtain⟨k,n,s,ts⟩:=x
 obtain⟨k',n',s',ts'⟩:=y
 simp only[Tm.k] at hx hy
 subst hx hy
 rw[tZ ρ (by decide),tZ ρ (by decide)]
 unfold k7
 show(if 1≤n∧n≤((ts'.map (bH ρ)).length:Int) then(ts'.map (bH ρ))[(n - 1).toNat]? else none)=Option.map (bH ρ) (if 1≤n∧n≤(ts'.length:Int) then ts'[(n - 1).toNat]? else none)
 by_cases h:1≤n∧n≤(ts'.length:Int)
 · rw[aK h,aK (by rw[aE];exact h),lS]
 · rw[aG h,aG (by rw[aE];exact h)];try rfl
def kK(ρ:Int→Int)(N:Int)(x y:Int×Sub×List Int):Prop:=y.1=x.1∧y.2.2=x.2.2.map ρ∧eK ρ N x.2.1 y.2.1
theorem kK.same(S:eK ρ N σ τ)(c:Int):kK ρ N (c,σ,[]) (c,τ,[]):=⟨rfl,rfl,S⟩
end
section
variable {ρ:Int→Int} {N:Nat} {σ τ:Sub}
theorem kK.lO(S:eK ρ N σ τ)(hg:cC σ)(hg':cC τ)(ho:cD (a8 N) σ){a b:Tm}(ha:a8 N a)(hb:a8 N b):kK ρ N (pV σ a b) (pV τ (bH ρ a) (bH ρ b)):=by
 obtain⟨r,σ',tr,h⟩:=rA hg ho ha hb
 obtain⟨g,hg2⟩:=h.run
 obtain⟨τ',e,S',_⟩:=S.gW hg hg' ho.kD ha.1 hb.1 hg2
 unfold pV
 rw[h.eq,e]
 exact⟨rfl,rfl,S'⟩
theorem aT2(ρ:Int→Int)(n:Int):bH ρ (lZ n)=lZ n:=tZ ρ (by decide)
theorem eK.cQ(S:eK ρ N σ τ)(hg:cC σ)(hg':cC τ)(ho:cD (a8 N) σ)(s:ByteArray)(ks:List Tm)(hv:∀x∈ks,a8 N x):kK ρ N (AW.cQ σ s ks) (AW.cQ τ s (ks.map (bH ρ))):=by
 match ks,hv with
 | [],_=>exact kK.same S _
 | [x],_=>
  simp only[bK,bL,AW.cQ,aU5]
  exact kK.same S _
 | [x,y],hv=>
  have hx:=hv x (by simp)
  have hy:=hv y (by simp)
  have hu:=kK.lO S hg hg' ho hx hy
  simp only[bK,bL,AW.cQ,vA,aOI,S.same hx.1 hy.1]
  by_cases h1:eW pB s=true
  · rw[aK h1,aK h1];exact kK.same S _
  rw[aG h1,aG h1]
  by_cases h2:s=⟨#[61]⟩
  · rw[aK h2,aK h2];exact hu
  rw[aG h2,aG h2]
  by_cases h3:s=⟨#[92,61]⟩
  · rw[aK h3,aK h3]
    obtain⟨r,σ',tr,h⟩:=rA hg ho hx hy
    obtain⟨g,hg2⟩:=h.run
    obtain⟨τ',e,_,_⟩:=S.gW hg hg' ho.kD hx.1 hy.1 hg2
    rw[h.eq,e]
    exact kK.same S _
  rw[aG h3,aG h3]
  by_cases h4:s=⟨#[61,61]⟩
  · rw[aK h4,aK h4];exact kK.same S _
  rw[aG h4,aG h4]
  by_cases h5:y.ev.2≠0
  · rw[aK h5,aK h5];exact kK.same S _
  rw[aG h5,aG h5]
  have:=kK.lO S hg hg' ho hx (HK (N:=N) (Tm.rU y hy.1))
  rw[aT2] at this
  exact this
 | [x,y,z],hv=>
  have hy:=hv y (by simp)
  have hz:=hv z (by simp)
  simp only[bK,bL,AW.cQ,s8,vR]
  by_cases h1:x.k=1∨y.k=1
  · rw[aK h1,aK h1];exact kK.same S _
  rw[aG h1,aG h1]
  have hl:(bH ρ y).ts.length=y.ts.length:=by
   rw[A2 ρ (t:=y) (fun h=>h1 (.inr h))]
   simp only[Tm.ts,aE]
  rw[hl]
  by_cases h2:x.k≠2∨y.k≠3∨y.ts.length=0
  · rw[aK h2,aK h2];exact kK.same S _
  rw[aG h2,aG h2]
  have kx:x.k=2:=yA fun h=>h2 (.inl h)
  have ky:y.k=3:=yA fun h=>h2 (.inr (.inl h))
  rw[aKG ρ kx ky]
  cases hu:k7 x y with
  | none=>exact kK.same S _
  | some u=>exact kK.lO S hg hg' ho hz (QI hy (fun h=>h1 (.inr h)) hu)
 | a::b::c::d::l,_=>
  simp only[bK,AW.cQ]
  exact kK.same S _
end
theorem aUT(σ:Sub)(s:ByteArray)(ks:List Tm):0≤(cQ σ s ks).1:=by
 have hc:∀b,0≤gD b:=fun b=>by unfold gD;split<;>omega
 have hr:∀n,0≤(gT n).2:=fun n=>by unfold gT;split<;>simp
 have har:∀s a b,0≤(o7 s a b).2:=fun s a b=>by
  unfold o7
  split
  · exact hr _
  split
  · exact hr _
  split
  · exact hr _
  split
  · simp
  split
  · simp
  · simp
 have hb:∀(f:Int→Int→Int×Int) (x y:Int×Int),(∀a b,0≤(f a b).2)→0≤x.2→0≤y.2→0≤(both f x y).2:=fun f x y hf hx hy=>by
  unfold both
  split
  · exact hx
  split
  · exact hy
  · exact hf _ _
 have he:∀t:Tm,0≤t.ev.2:=by
  intro t
  induction t using Tm.ind with
  | h k n s ts ih=>
   rw[Tm.vF]
   split
   · simp
   split
   · simp
   split
   · match ts,ih with
     | [],_=>simp [two]
     | [x],_=>simp [two]
     | [x,y],ih=>exact hb _ _ _ (har s) (ih x (by simp)) (ih y (by simp))
     | x::y::z::l,_=>simp [two]
   · simp
 match ks with
 | []=>exact hc _
 | [x]=>exact hc _
 | [x,y]=>
  simp only[cQ]
  split
  · exact hb _ _ _ (fun _ _=>hc _) (he x) (he y)
  split
  · exact hc _
  split
  · exact hc _
  split
  · exact hc _
  split
  · exact he y
  · exact hc _
 | [x,y,z]=>
  simp only[cQ,s8]
  split
  · simp
  split
  · simp
  split
  · exact hc _
  · simp
 | a::b::c::d::l=>simp [cQ]
abbrev Cl:=Tm×List Tm
def bB:Cl→AV
 | (.mk k n s ts,b)=>.agg [.int .i64 k,.int .i64 n,.str s,.slice (ts.map Tm.av),.slice (b.map Tm.av)]
theorem k9(k n:Int)(s:ByteArray)(ts b:List Tm):bB (.mk k n s ts,b)=.agg [.int .i64 k,.int .i64 n,.str s,.slice (ts.map Tm.av),.slice (b.map Tm.av)]:=rfl
theorem pA(c:Cl):(bB c).isAgg=true:=by obtain⟨⟨k,n,s,ts⟩,b⟩:=c;rfl
theorem fQ(c:Cl):(bB c).width=5:=by obtain⟨⟨k,n,s,ts⟩,b⟩:=c;rfl
theorem K9(c:Cl):(bB c).cells.length=5:=by obtain⟨⟨k,n,s,ts⟩,b⟩:=c;rfl
theorem F1(c:Cl):(bB c).cells.all AV.storable=true:=by obtain⟨⟨k,n,s,ts⟩,b⟩:=c;rfl
theorem LA(c:Cl):(bB c).cA=false:=by obtain⟨⟨k,n,s,ts⟩,b⟩:=c;rfl
def rN(x y:Cl):Bool:=x.1.same y.1&&gF Tm.same x.2 y.2
theorem aNX(x:Cl):rN x x=true:=by
 unfold rN
 rw[(Tm.xN x.1 x.1).2 rfl,(zP (fun x _ y=>Tm.xN x y)).2 rfl]
 try rfl
def kM(c:Cl):Nat:=c.1.sz+(c.2.length+aJ Tm.sz c.2)
def g8:Cl→Nat
 | (.mk _ _ _ ts,b)=>3+aJ Tm.cP ts+aJ Tm.cP b
def n6:Cl→Int→Cl
 | (.mk _ _ _ ts,b),j=>(.mk j (j+1) (mt (j+1+1)) (dU Tm.mark Tm.cP ts (j+1+1+1)),dU Tm.mark Tm.cP b (j+1+1+1+(aJ Tm.cP ts:Nat)))
theorem F3(k n:Int)(s:ByteArray)(ts b:List Tm):g8 (.mk k n s ts,b)=3+aJ Tm.cP ts+aJ Tm.cP b:=rfl
def NB:Tm→Bool | .mk k _ s ts=>oN k s (ts.length:Int)
def n7(c:Cl):Bool:=c.1.valid&&NB c.1&&(decide (c.2.length≤6)&&c.2.all Tm.goal)
def mN(p:List Cl):Bool:=decide (p.length≤20)&&p.all n7
theorem HZ{st:aA}{k n:Int}{s:ByteArray}{ts b:List Tm}{o:AV}{bs:List Nat} :
 aQ st (bB (.mk k n s ts,b)) o bs↔∃q b1 q' b2,o=.agg [.int .i64 k,.int .i64 n,.str s,q,q']∧bs=b1++b2∧aQ st (.slice (ts.map Tm.av)) q b1∧aQ st (.slice (b.map Tm.av)) q' b2:=by
 rw[k9]
 generalize AV.slice (ts.map Tm.av)=x
 generalize AV.slice (b.map Tm.av)=y
 simp only[aQ,a7]
 constructor
 · rintro⟨os,rfl,o1,os1,b1,b1',rfl,rfl,⟨rfl,rfl⟩,o2,os2,b2,b2',rfl,rfl,⟨rfl,rfl⟩,o3,os3,b3,b3',rfl,rfl,⟨rfl,rfl⟩,o4,os4,b4,b4',rfl,rfl,h,o6,os6,b6,b6',rfl,rfl,h',rfl,rfl⟩
   exact⟨o4,b4,o6,b6,rfl,by simp,h,h'⟩
 · rintro⟨q,b1,q',b2,rfl,rfl,h,h'⟩
   exact⟨_,rfl,_,_,[],b1++b2,rfl,rfl,⟨rfl,rfl⟩,_,_,[],b1++b2,rfl,rfl,⟨rfl,rfl⟩,_,_,[],b1++b2,rfl,rfl,⟨rfl,rfl⟩,q,_,b1,b2,rfl,rfl,h,q',[],b2,[],rfl,by simp,h',rfl,rfl⟩
end Go.AW
