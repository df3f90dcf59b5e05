/- Unification comes to an end. -/
import Derived.Test.YtimfffmcljmfgaaGreatDoorUyj
import Derived.Test.YtimfffmcljmfgaaGreatDoorUyg
import Derived.Test.YtimfffmcljmfgaaGreatDoorUyi
set_option linter.unusedSimpArgs false
set_option linter.unusedVariables false
set_option maxRecDepth 100000
namespace Go.AW
theorem aNR(g g':Nat)(ih:∀σ a b x,c9 g σ a b=some x→c9 g' σ a b=some x):∀xs ys σ x,dR g σ xs ys=some x→dR g' σ xs ys=some x:=by
 intro xs
 induction xs with
 | nil=>intro ys σ x h;cases ys<;>simpa only[dR] using h
 | cons a xs ihx=>
  intro ys σ x h
  cases ys with
  | nil=>simpa only[dR] using h
  | cons b ys=>
   rw[dR] at h ⊢
   cases h1:c9 g σ a b with
   | none=>rw[h1] at h;cases h
   | some p=>
    rw[h1] at h
    rw[ih _ _ _ _ h1]
    obtain⟨r1,σ1,tr1⟩:=p
    cases r1 with
    | false=>exact h
    | true=>
     simp only at h ⊢
     cases h2:dR g σ1 xs ys with
     | none=>rw[h2] at h;cases h
     | some p2=>rw[h2] at h;rw[ihx ys σ1 p2 h2];exact h
theorem a3R:∀(g:Nat) σ a b x,c9 g σ a b=some x→c9 (g+1) σ a b=some x:=by
 intro g
 induction g with
 | zero=>intro σ a b x h;simp only[c9] at h;cases h
 | succ g ih=>
  intro σ a b x h
  rw[c9] at h ⊢
  split
  · rename_i hc;rw[aH hc] at h;exact h
  · rename_i hc
    rw[aG hc] at h
    split
    · rename_i hc;rw[aH hc] at h;exact h
    · rename_i hc
      rw[aG hc] at h
      split
      · rename_i hc;rw[aH hc] at h;exact h
      · rename_i hc
        rw[aG hc] at h
        split
        · rename_i hc;rw[aH hc] at h;exact aNR g (g+1) ih _ _ _ _ h
        · rename_i hc;rw[aG hc] at h;exact h
theorem ME{g g':Nat}(hle:g≤g'){σ:Sub}{a b:Tm}{x:Bool×Sub×List Int}(h:c9 g σ a b=some x):c9 g' σ a b=some x:=by
 induction hle with
 | refl=>exact h
 | step _ ih=>exact a3R _ _ _ _ _ ih
theorem a3U{g g':Nat}(hle:g≤g'){σ:Sub}{xs ys:List Tm}{x:Bool×Sub×List Int}(h:dR g σ xs ys=some x):dR g' σ xs ys=some x:=
 aNR g g' (fun _ _ _ _ h=>ME hle h) xs ys σ x h
def tC(σ:Sub)(V:List Int):Nat:=V.countP fun v=>(σ v).isNone
def iF(V:List Int)(t:Tm):Prop:=∀v∈t.vl,v∈V
def lT(V:List Int)(σ:Sub):Prop:=∀n u,σ n=some u→iF V u
theorem a3N{σ σ':Sub}{tr:List Int}{V:List Int}(aU:∀m,m∉tr→σ' m=σ m)(new:∀m∈tr,σ m=none∧σ' m≠none){m:Int}(hm:m∈tr)(hV:m∈V):tC σ' V<tC σ V:=by
 have mono:∀v,(σ' v).isNone=true→(σ v).isNone=true:=fun v h=>by
  by_cases hv:v∈tr
  · rw[(new v hv).1];try rfl
  · rw[←aU v hv];exact h
 have le:∀W:List Int,tC σ' W≤tC σ W:=fun W=>List.countP_mono_left fun v _ h=>mono v h
 unfold tC at *
 induction V with
 | nil=>cases hV
 | cons v V ih=>
  simp only[List.countP_cons]
  have hle:=le V
  rcases cQ.1 hV with rfl | hV
  · have h1:(σ m).isNone=true:=by rw[(new m hm).1];try rfl
    have h2:(σ' m).isNone=false:=by
     cases h:σ' m with
     | none=>exact absurd h (new m hm).2
     | some _=>rfl
    simp only[h1,h2,dX,jF,cS]
    omega
  · have:=ih hV
    have h3:=mono v
    by_cases h4:(σ' v).isNone=true
    · rw[aH h4,aH (h3 h4)];omega
    · rw[aG h4];split<;>omega
theorem fM.F6{σ:Sub}{V:List Int}(hr:lT V σ){f:Nat}{t u:Tm}(h:fM σ f t u)(ht:iF V t):iF V u:=h.all (p:=iF V) (fun n u hu=>hr n u hu) ht
theorem iF.t6{V:List Int}{t x:Tm}(h:iF V t)(hk:t.k≠1)(hx:x∈t.ts):iF V x:=fun v hv=>h v (by cases t;exact(Tm.lH hk).2 ⟨x,hx,hv⟩)
theorem aNP:∀(g:Nat),(∀σ a b r σ' tr V,cJ σ→c9 g σ a b=some (r,σ',tr)→lT V σ→iF V a→iF V b→lT V σ'∧∀m∈tr,m∈V) ∧
 ∀xs ys σ r σ' tr V,cJ σ→xs.length=ys.length→dR g σ xs ys=some (r,σ',tr)→lT V σ→(∀x∈xs,iF V x)→(∀y∈ys,iF V y)→lT V σ'∧∀m∈tr,m∈V:=by
 intro g
 have list:∀g,(∀σ a b r σ' tr V,cJ σ→c9 g σ a b=some (r,σ',tr)→lT V σ→iF V a→iF V b→lT V σ'∧∀m∈tr,m∈V) →
  ∀xs ys σ r σ' tr V,cJ σ→xs.length=ys.length→dR g σ xs ys=some (r,σ',tr)→lT V σ→(∀x∈xs,iF V x)→(∀y∈ys,iF V y)→lT V σ'∧∀m∈tr,m∈V:=by
  intro g ihU xs
  induction xs with
  | nil=>
   intro ys σ r σ' tr V hg hl h hr _ _
   cases ys with
   | cons _ _=>simp at hl
   | nil=>
    simp only[dR,Option.some.injEq,Prod.mk.injEq] at h
    obtain⟨rfl,rfl,rfl⟩:=h
    exact⟨hr,fun _ h=>absurd h (dD)⟩
  | cons a xs ih=>
   intro ys σ r σ' tr V hg hl h hr hx hy
   cases ys with
   | nil=>simp at hl
   | cons b ys=>
    rw[dR] at h
    cases h1:c9 g σ a b with
    | none=>rw[h1] at h;cases h
    | some p=>
     obtain⟨r1,σ1,tr1⟩:=p
     have U1:=wA hg h1
     obtain⟨i1,i2⟩:=ihU σ a b r1 σ1 tr1 V hg h1 hr (hx a (by simp)) (hy b (by simp))
     rw[h1] at h
     cases r1 with
     | false=>
      simp only[Option.some.injEq,Prod.mk.injEq] at h
      obtain⟨rfl,rfl,rfl⟩:=h
      exact⟨i1,i2⟩
     | true=>
      simp only at h
      cases h2:dR g σ1 xs ys with
      | none=>rw[h2] at h;cases h
      | some p2=>
       obtain⟨r2,σ2,tr2⟩:=p2
       rw[h2] at h
       simp only[Option.some.injEq,Prod.mk.injEq] at h
       obtain⟨rfl,rfl,rfl⟩:=h
       obtain⟨j1,j2⟩:=ih ys σ1 r2 σ2 tr2 V U1.gJ (by simpa using hl) h2 i1 (fun x h=>hx x (by simp [h])) (fun y h=>hy y (by simp [h]))
       exact⟨j1,fun m hm=>(dS.1 hm).elim (i2 m) (j2 m)⟩
 induction g with
 | zero=>
  have h0:∀σ a b r σ' tr V,cJ σ→c9 0 σ a b=some (r,σ',tr)→lT V σ→iF V a→iF V b→lT V σ'∧∀m∈tr,m∈V:=fun σ a b r σ' tr V hg h=>by simp only[c9] at h;cases h
  exact⟨h0,list 0 h0⟩
 | succ g ih=>
  suffices hU:∀σ a b r σ' tr V,cJ σ→c9 (g+1) σ a b=some (r,σ',tr)→lT V σ→iF V a→iF V b→lT V σ'∧∀m∈tr,m∈V from ⟨hU,list _ hU⟩
  intro σ a b r σ' tr V hg h hr ha hb
  obtain⟨_,ihL⟩:=ih
  obtain⟨rk,B,G⟩:=hg.rs
  obtain⟨fa,wa⟩:=G.wk a
  obtain⟨fb,wb⟩:=G.wk b
  have va:=wa.F6 hr ha
  have vb:=wb.F6 hr hb
  have bn:∀n (t:Tm) r σ' tr,n∈V→iF V t→jO σ n t=(r,σ',tr)→lT V σ'∧∀m∈tr,m∈V:=by
   intro n t r σ' tr hn ht h
   unfold jO at h
   split at h<;>cases h
   · exact⟨hr,fun _ h=>absurd h (dD)⟩
   · refine⟨fun m u hu=>?_,fun m hm=>by simp only[cQ,dD,dN] at hm;rw[hm];exact hn⟩
     simp only[Sub.set] at hu
     split at hu
     · cases hu;exact ht
     · exact hr m u hu
  rw[c9] at h
  generalize wk σ a=a at *
  generalize wk σ b=b at *
  split at h
  · simp only[Option.some.injEq,Prod.mk.injEq] at h
    obtain⟨rfl,rfl,rfl⟩:=h
    exact⟨hr,fun _ h=>absurd h (dD)⟩
  · split at h
    · rename_i hk
      exact bn _ _ _ _ _ (va _ (by rw[Tm.DV hk];simp)) vb (mZ h)
    · rename_i hka
      split at h
      · rename_i hk
        exact bn _ _ _ _ _ (vb _ (by rw[Tm.DV hk];simp)) va (mZ h)
      · rename_i hkb
        split at h
        · rename_i hh
          exact ihL a.ts b.ts σ r σ' tr V hg (sR.1 hh).2.2.2 h hr (fun x hx=>va.t6 hka hx) (fun y hy=>vb.t6 hkb hy)
        · simp only[Option.some.injEq,Prod.mk.injEq] at h
          obtain⟨rfl,rfl,rfl⟩:=h
          exact⟨hr,fun _ h=>absurd h (dD)⟩
def cK(p:Tm→Prop)(σ:Sub):Prop:=∀n u,σ n=some u→p u
theorem MF{p:Tm→Prop}(hp:∀t:Tm,t.k≠1→p t→∀x∈t.ts,p x):∀(g:Nat),(∀σ a b r σ' tr,cJ σ→c9 g σ a b=some (r,σ',tr)→cK p σ→p a→p b→cK p σ') ∧
 ∀xs ys σ r σ' tr,cJ σ→xs.length=ys.length→dR g σ xs ys=some (r,σ',tr)→cK p σ→(∀x∈xs,p x)→(∀y∈ys,p y)→cK p σ':=by
 intro g
 have list:∀g,(∀σ a b r σ' tr,cJ σ→c9 g σ a b=some (r,σ',tr)→cK p σ→p a→p b→cK p σ') →
  ∀xs ys σ r σ' tr,cJ σ→xs.length=ys.length→dR g σ xs ys=some (r,σ',tr)→cK p σ→(∀x∈xs,p x)→(∀y∈ys,p y)→cK p σ':=by
  intro g ihU xs
  induction xs with
  | nil=>
   intro ys σ r σ' tr hg hl h hr _ _
   cases ys with
   | cons _ _=>simp at hl
   | nil=>
    simp only[dR,Option.some.injEq,Prod.mk.injEq] at h
    obtain⟨rfl,rfl,rfl⟩:=h
    exact hr
  | cons a xs ih=>
   intro ys σ r σ' tr hg hl h hr hx hy
   cases ys with
   | nil=>simp at hl
   | cons b ys=>
    rw[dR] at h
    cases h1:c9 g σ a b with
    | none=>rw[h1] at h;cases h
    | some p=>
     obtain⟨r1,σ1,tr1⟩:=p
     have U1:=wA hg h1
     have i1:=ihU σ a b r1 σ1 tr1 hg h1 hr (hx a (by simp)) (hy b (by simp))
     rw[h1] at h
     cases r1 with
     | false=>
      simp only[Option.some.injEq,Prod.mk.injEq] at h
      obtain⟨rfl,rfl,rfl⟩:=h
      exact i1
     | true=>
      simp only at h
      cases h2:dR g σ1 xs ys with
      | none=>rw[h2] at h;cases h
      | some p2=>
       obtain⟨r2,σ2,tr2⟩:=p2
       rw[h2] at h
       simp only[Option.some.injEq,Prod.mk.injEq] at h
       obtain⟨rfl,rfl,rfl⟩:=h
       have j1:=ih ys σ1 r2 σ2 tr2 U1.gJ (by simpa using hl) h2 i1 (fun x h=>hx x (by simp [h])) (fun y h=>hy y (by simp [h]))
       exact j1
 induction g with
 | zero=>
  have h0:∀σ a b r σ' tr,cJ σ→c9 0 σ a b=some (r,σ',tr)→cK p σ→p a→p b→cK p σ':=fun σ a b r σ' tr hg h=>by simp only[c9] at h;cases h
  exact⟨h0,list 0 h0⟩
 | succ g ih=>
  suffices hU:∀σ a b r σ' tr,cJ σ→c9 (g+1) σ a b=some (r,σ',tr)→cK p σ→p a→p b→cK p σ' from ⟨hU,list _ hU⟩
  intro σ a b r σ' tr hg h hr ha hb
  obtain⟨_,ihL⟩:=ih
  obtain⟨rk,B,G⟩:=hg.rs
  obtain⟨fa,wa⟩:=G.wk a
  obtain⟨fb,wb⟩:=G.wk b
  have va:=wa.all hr ha
  have vb:=wb.all hr hb
  have bn:∀n (t:Tm) r σ' tr,p t→jO σ n t=(r,σ',tr)→cK p σ':=by
   intro n t r σ' tr ht h
   unfold jO at h
   split at h<;>cases h
   · exact hr
   · intro m u hu
     simp only[Sub.set] at hu
     split at hu
     · cases hu;exact ht
     · exact hr m u hu
  rw[c9] at h
  generalize wk σ a=a at *
  generalize wk σ b=b at *
  split at h
  · simp only[Option.some.injEq,Prod.mk.injEq] at h
    obtain⟨rfl,rfl,rfl⟩:=h
    exact hr
  · split at h
    · rename_i hk
      exact bn _ _ _ _ _ vb (mZ h)
    · rename_i hka
      split at h
      · rename_i hk
        exact bn _ _ _ _ _ va (mZ h)
      · rename_i hkb
        split at h
        · rename_i hh
          exact ihL a.ts b.ts σ r σ' tr hg (sR.1 hh).2.2.2 h hr (fun x hx=>hp _ hka va x hx) (fun y hy=>hp _ hkb vb y hy)
        · simp only[Option.some.injEq,Prod.mk.injEq] at h
          obtain⟨rfl,rfl,rfl⟩:=h
          exact hr
theorem a3S(V:List Int):∀(N M:Nat) (σ:Sub) (a b:Tm),cJ σ→lT V σ→iF V a→iF V b→tC σ V≤N→(a.aK (rs σ)).nodes≤M→∃g x,c9 g σ a b=some x:=by
 intro N
 induction N using Nat.strongRecOn with
 | _ N ihN=>
 intro M
 induction M using Nat.strongRecOn with
 | _ M ihM=>
 intro σ a b hg hr ha hb hN hM
 have list:∀(xs ys:List Tm) (σ1:Sub),xs.length=ys.length→cJ σ1→lT V σ1→(σ1=σ∨tC σ1 V<tC σ V)→(∀x∈xs,iF V x∧(x.aK (rs σ)).nodes<M)→(∀y∈ys,iF V y)→∃g x,dR g σ1 xs ys=some x:=by
  intro xs
  induction xs with
  | nil=>
   intro ys σ1 hl _ _ _ _ _
   cases ys with
   | cons _ _=>simp at hl
   | nil=>exact⟨0,(true,σ1,[]),by simp only[dR]⟩
  | cons x xs ih=>
   intro ys σ1 hl hg1 hr1 hc hx hy
   cases ys with
   | nil=>simp at hl
   | cons y ys=>
    have h1:∃g p,c9 g σ1 x y=some p:=by
     rcases hc with rfl | hlt
     · exact ihM _ (hx x (by simp)).2 σ1 x y hg1 hr1 (hx x (by simp)).1 (hy y (by simp)) hN (cO _)
     · exact ihN (tC σ1 V) (by omega) _ σ1 x y hg1 hr1 (hx x (by simp)).1 (hy y (by simp)) (cO _) (cO _)
    obtain⟨g1,⟨r1,σ2,tr1⟩,h1⟩:=h1
    have U1:=wA hg1 h1
    obtain⟨i1,i2⟩:=(aNP g1).1 σ1 x y r1 σ2 tr1 V hg1 h1 hr1 (hx x (by simp)).1 (hy y (by simp))
    cases r1 with
    | false=>exact⟨g1,(false,σ2,tr1),by rw[dR,h1]⟩
    | true=>
     have hc2:σ2=σ∨tC σ2 V<tC σ V:=by
      cases htr:tr1 with
      | nil=>rw[U1.same htr];exact hc
      | cons m _=>
       have:=a3N (V:=V) U1.aU U1.new (m:=m) (by rw[htr];simp) (i2 m (by rw[htr];simp))
       rcases hc with rfl | hlt
       · exact .inr this
       · exact .inr (Nat.lt_trans this hlt)
     obtain⟨g2,p2,h2⟩:=ih ys σ2 (by simpa using hl) U1.gJ i1 hc2 (fun z hz=>hx z (by simp [hz])) (fun z hz=>hy z (by simp [hz]))
     obtain⟨r2,σ3,tr2⟩:=p2
     refine⟨max g1 g2,(r2,σ3,tr1++tr2),?_⟩
     rw[dR,ME (Nat.le_max_left g1 g2) h1]
     simp only
     rw[a3U (Nat.le_max_right g1 g2) h2]
 obtain⟨rk,B,G⟩:=hg.rs
 obtain⟨fa,wa⟩:=G.wk a
 obtain⟨fb,wb⟩:=G.wk b
 have va:=wa.F6 hr ha
 have vb:=wb.F6 hr hb
 have hma:=wa.aK G.vL
 rw[←hma] at hM
 by_cases h1:(wk σ a).k=1∧(wk σ b).k=1∧(wk σ a).n=(wk σ b).n
 · exact⟨1,_,by rw[c9,aH h1]⟩
 by_cases h2:(wk σ a).k=1
 · exact⟨1,_,by rw[c9,aG h1,aH h2]⟩
 by_cases h3:(wk σ b).k=1
 · exact⟨1,_,by rw[c9,aG h1,aG h2,aH h3]⟩
 by_cases h4:tV (wk σ a) (wk σ b)=true
 · have aWT:∀x∈(wk σ a).ts,iF V x∧(x.aK (rs σ)).nodes<M:=fun x hx=>by
    refine⟨va.t6 h2 hx,?_⟩
    rw[Tm.rJ _ h2,Tm.kG] at hM
    have:=qF (f:=Tm.nodes) (bY.2 ⟨x,hx,rfl⟩:x.aK (rs σ)∈(wk σ a).ts.map (Tm.aK (rs σ)))
    omega
   obtain⟨g,x,h⟩:=list (wk σ a).ts (wk σ b).ts σ (sR.1 h4).2.2.2 hg hr (.inl rfl) aWT (fun y hy=>vb.t6 h3 hy)
   exact⟨g+1,x,by rw[c9,aG h1,aG h2,aG h3,aH h4];exact h⟩
 · exact⟨1,_,by rw[c9,aG h1,aG h2,aG h3,aG h4]⟩
mutual
def Tm.flat:Tm→Nat→Bool
 | .mk _ _ _ _,0=>false
 | .mk _ _ _ ts,d+1=>LT ts d
def LT:List Tm→Nat→Bool
 | [],_=>true
 | t::ts,d=>t.flat d&&LT ts d
end
theorem aM8:∀(ts:List Tm) (d:Nat),LT ts d=ts.all fun t=>t.flat d
 | [],_=>rfl
 | t::ts,d=>by simp only[LT,jI,aM8 ts d]
theorem Tm.FM(t:Tm):t.flat 0=false:=by cases t;simp only[Tm.flat]
theorem Tm.vD(k n:Int)(s:ByteArray)(ts:List Tm)(d:Nat):(Tm.mk k n s ts).flat (d+1)=ts.all fun t=>t.flat d:=by simp only[Tm.flat,aM8]
mutual
def Tm.jC:Tm→Bool
 | .mk k n s ts=>eM k n s ts.length&&LY ts
def LY:List Tm→Bool
 | []=>true
 | t::ts=>t.jC&&LY ts
end
theorem aNC:∀(ts:List Tm),LY ts=ts.all Tm.jC
 | []=>rfl
 | t::ts=>by simp only[LY,jI,aNC ts]
theorem Tm.zQ(k n:Int)(s:ByteArray)(ts:List Tm):(Tm.mk k n s ts).jC=(eM k n s ts.length&&ts.all Tm.jC):=by simp only[Tm.jC,aNC]
theorem UJ{α:Type}(p q:α→Bool):∀l:List α,(l.all fun x=>p x&&q x)=(l.all p&&l.all q)
 | []=>rfl
 | x::l=>by simp only[jI,UJ p q l];cases p x<;>cases q x<;>cases l.all p<;>simp
theorem Tm.aLH:∀(t:Tm) (d:Nat),t.shape (d:Int)=(t.jC&&t.flat d):=by
 intro t
 induction t using Tm.ind with
 | h k n s ts ih=>
  intro d
  cases d with
  | zero=>rw[Tm.FM,x8,Tm.GS];try rfl
  | succ d=>
   rw[Tm.GS,Tm.zQ,Tm.vD,show decide ((1:Int)≤((d+1:Nat):Int))=true by simp;omega,iY,Bool.and_assoc,←UJ]
   congr 1
   rw[show(((d+1:Nat):Int) - 1)=(d:Int) by omega]
   have:∀l:List Tm,(∀x∈l,x∈ts)→(l.all fun t=>t.shape (d:Int))=l.all fun x=>x.jC&&x.flat d:=by
    intro l
    induction l with
    | nil=>intro _;rfl
    | cons x l ihl=>intro h;rw[jI,jI,ih x (h x (by simp)),ihl fun y hy=>h y (by simp [hy])]
   exact this ts fun _ h=>h
theorem Tm.a31{t:Tm}(h:t.valid=true):t.jC=true:=by
 simp only[Tm.valid,cT] at h
 have:=h.1
 rw[show(30:Int)=((30:Nat):Int) from rfl,Tm.aLH,cT] at this
 exact this.1
theorem Tm.aNT{t:Tm}(h:t.jC=true):t.valid=(t.flat 30&&decide (t.nodes≤120)):=by
 unfold Tm.valid
 rw[show(30:Int)=((30:Nat):Int) from rfl,Tm.aLH,h,iY]
theorem Tm.KK{k n:Int}{s:ByteArray}{ts:List Tm}(h:(Tm.mk k n s ts).jC=true):eM k n s ts.length=true∧∀x∈ts,x.jC=true:=by
 rw[Tm.zQ,cT] at h
 exact⟨h.1,eD.1 h.2⟩
theorem aKP{n:Int}{s:ByteArray}{len:Int}(h:eM 1 n s len=true):0≤n∧n≤25∧s=⟨#[]⟩∧len=0:=by
 simp [eM] at h
 exact⟨h.1.1.1,h.1.1.2,h.1.2,h.2⟩
theorem aZ7{k n:Int}{s:ByteArray}{len:Int}(h:eM k n s len=true):(k=1∨k=2∨k=3)∧len≤4:=by
 unfold eM at h
 by_cases h1:k=1
 · simp [h1] at h;omega
 · by_cases h2:k=2
   · simp [h2] at h;omega
   · by_cases h3:k=3
     · simp [h3] at h;omega
     · simp [h1,h2,h3] at h
theorem Tm.aZZ:∀(t:Tm),t.jC=true→t.cv=true:=by
 intro t
 induction t using Tm.ind with
 | h k n s ts ih=>
  intro h
  obtain⟨h1,h2⟩:=Tm.KK h
  refine Tm.pP.2 ⟨fun hk=>?_,fun x hx=>ih x hx (h2 x hx)⟩
  subst hk
  obtain⟨_,_,h3,h4⟩:=aKP h1
  exact⟨h3,nG (by omega)⟩
def BB:List Int:=(List.range 26).map fun i:Nat=>(i:Int)
theorem GD{n:Int}:n∈BB↔0≤n∧n≤25:=by
 simp only[BB,bY,uL]
 constructor
 · rintro⟨i,h,rfl⟩;omega
 · intro h;exact⟨n.toNat,by omega,by omega⟩
theorem Tm.aZ0:∀(t:Tm),t.jC=true→iF BB t:=by
 intro t
 induction t using Tm.ind with
 | h k n s ts ih=>
  intro h v hv
  obtain⟨h1,h2⟩:=Tm.KK h
  by_cases hk:k=1
  · rw[Tm.mV hk] at hv
    simp only[cQ,dD,dN] at hv
    subst hv hk
    obtain⟨h3,h4,_⟩:=aKP h1
    exact GD.2 ⟨h3,h4⟩
  · obtain⟨x,hx,hvx⟩:=(Tm.lH hk).1 hv
    exact ih x hx (h2 x hx) v hvx
theorem aY9{f:Int→Tm}:∀(t:Tm),t.jC=true→(∀v∈t.vl,(f v).jC=true)→(t.aK f).jC=true:=by
 intro t
 induction t using Tm.ind with
 | h k n s ts ih=>
  intro h hf
  obtain⟨h1,h2⟩:=Tm.KK h
  by_cases hk:k=1
  · rw[Tm.mK f hk];exact hf n (by rw[Tm.mV hk];simp)
  · rw[Tm.lN f hk,Tm.zQ,aE,h1,iY,List.all_map,eD]
    exact fun x hx=>ih x hx (h2 x hx) fun v hv=>hf v ((Tm.lH hk).2 ⟨x,hx,hv⟩)
theorem aNX{n:Int}(h:n∈BB):(vr n).jC=true:=by
 rw[GD] at h
 rw[vr,Tm.zQ]
 simp [eM,h]
theorem a3Q{g g':Nat}{σ:Sub}{a b:Tm}{x y:Bool×Sub×List Int}(h:c9 g σ a b=some x)(h':c9 g' σ a b=some y):x=y:=by
 have h1:=ME (Nat.le_max_left g g') h
 rw[ME (Nat.le_max_right g g') h'] at h1
 exact(mZ h1).symm
structure a4O (a b:Tm) (r:Bool) (σ:Sub) (tr:List Int):Prop where
 run:∃g,c9 g Sub.none a b=some (r,σ,tr)
 mU:nK Sub.none [a] [b] r σ tr
 jC:cK (fun t=>t.jC=true) σ
 F6:lT BB σ
 trV:∀m∈tr,m∈BB
theorem aKA:∀ {l V:List Int},l.Nodup→(∀x∈l,x∈V)→l.length≤V.length
 | [],_,_,_=>nI _
 | x::l,V,h,hV=>by
  rw[yF] at h
  have hx:=hV x (by simp)
  have:=aKA (V:=V.erase x) h.2 fun y hy=>(List.mem_erase_of_ne (by rintro rfl;exact h.1 hy)).2 (hV y (by simp [hy]))
  rw[List.length_erase_of_mem hx] at this
  have:=List.length_pos_of_mem hx
  simp only[a8]
  omega
structure a4H (a b:Tm) (bs:List Bd):Prop where
 va:a.valid=true
 vb:b.valid=true
 vs:(bs.all fun x=>x.2.valid)=true
 eq:a.aK (RN bs)=b.aK (RN bs)
 idem:∀x∈bs,x.2.aK (RN bs)=x.2
 sorted:bs.Pairwise fun x y=>x.1<y.1
abbrev zt:AV:=.agg [.int .i64 0,.int .i64 0,.str ⟨#[]⟩,.fslice []]
def mapOf(σ:Sub):Int→Option AV:=fun n=>(σ n).map Tm.av
def found:Option Tm→AV
 | some u=>.tup [u.av,.bool true]
 | none=>.tup [zt,.bool false]
theorem aY0{P:Program}{st:aA}{m:Nat}{σ:Sub}{t kt et:TypeId}{n:Int}(hm:st m=some (.map (mapOf σ)))(hu:P.underlying t=some (.map kt et))(hk:P.underlying kt=some (.int .i64))(hz:zV P et=some zt) :
 oC P st t true (.map m) (.int .i64 n)=some (found (σ n)):=by
 unfold oC
 simp only[hm,hu,hk,mapOf]
 cases h:σ n with
 | none=>simp [hz,found,AV.cD]
 | some u=>simp [found,Tm.eN]
theorem a3X{P:Program}{st:aA}{m:Nat}{σ:Sub}{t kt et:TypeId}{n:Int}{u:Tm}{K:AV→aA→Prop}(hm:st m=some (.map (mapOf σ)))(hu:P.underlying t=some (.map kt et))(hk:P.underlying kt=some (.int .i64))
 (h:K .undef (st.aC m (.map (mapOf (σ.set n u))))):sD P t st (.map m) (.int .i64 n) u.av K:=by
 unfold sD
 simp only[hu,hm,hk]
 refine⟨Tm.eN u,?_⟩
 have:nD (mapOf σ) n (some u.av)=mapOf (σ.set n u):=by
  funext x
  unfold nD mapOf Sub.set
  split<;>rfl
 rw[this]
 exact h
structure iG (st:aA) (c m:Nat) (q:AV) (σ:Sub):Prop where
 cells:st c=some (.cells [.map m,q])
 map:st m=some (.map (mapOf σ))
theorem iG.aC{st:aA}{c m b:Nat}{q:AV}{σ:Sub}{o:AO}(h:iG st c m q σ)(hb:st b=none):iG (st.aC b o) c m q σ:=
 ⟨(by rw[aA.aF _ _ (by rintro rfl;rw[h.cells] at hb;cases hb)];exact h.cells),(by rw[aA.aF _ _ (by rintro rfl;rw[h.map] at hb;cases hb)];exact h.map)⟩
theorem iG.MG{st:aA}{c m b:Nat}{q:AV}{σ:Sub}{o:AO}(h:iG st c m q σ)(h1:b≠c)(h2:b≠m):iG (st.aC b o) c m q σ:=
 ⟨(by rw[aA.aF _ _ (dF h1)];exact h.cells),by rw[aA.aF _ _ (dF h2)];exact h.map⟩
theorem iG.ne{st:aA}{c m b:Nat}{q:AV}{σ:Sub}(h:iG st c m q σ)(hb:st b=none):b≠c∧b≠m:=⟨(by rintro rfl;rw[h.cells] at hb;cases hb),(by rintro rfl;rw[h.map] at hb;cases hb)⟩
theorem iG.cm{st:aA}{c m:Nat}{q:AV}{σ:Sub}(h:iG st c m q σ):c≠m:=by rintro rfl;have:=h.cells;rw[h.map] at this;cases this
def lO(M:List Int):Int→Option AV:=fun x=>if x∈M then some (.bool true) else none
theorem aYZ{P:Program}{st:aA}{mm:Nat}{M:List Int}{t kt et:TypeId}{n:Int}(hm:st mm=some (.map (lO M)))(hu:P.underlying t=some (.map kt et))(hk:P.underlying kt=some (.int .i64))(hz:zV P et=some (.bool false)) :
 oC P st t false (.map mm) (.int .i64 n)=some (.bool (decide (n∈M))):=by
 unfold oC
 simp only[hm,hu,hk,lO]
 by_cases h:n∈M
 · simp [h,AV.cD]
 · simp [h,hz,AV.cD]
theorem a3V{P:Program}{st:aA}{mm:Nat}{M:List Int}{t kt et:TypeId}{n:Int}{K:AV→aA→Prop}(hm:st mm=some (.map (lO M)))(hu:P.underlying t=some (.map kt et))(hk:P.underlying kt=some (.int .i64))
 (h:K .undef (st.aC mm (.map (lO (n::M))))):sD P t st (.map mm) (.int .i64 n) (.bool true) K:=by
 unfold sD
 simp only[hu,hm,hk]
 refine⟨rfl,?_⟩
 have:nD (lO M) n (some (.bool true))=lO (n::M):=by
  funext x
  unfold nD lO
  by_cases e:x=n
  · simp [e]
  · simp [e]
 rw[this]
 exact h
theorem aZC:lO []=fun _=>none:=by funext x;simp [lO]
theorem S5(t:Tm):t.wf=true→∀l:List Int,(∀v,v∈t.vars l↔v∈l∨v∈t.vl)∧(l.Nodup→(t.vars l).Nodup)∧∃m,t.vars l=l++m:=by
 induction t using Tm.ind with
 | h k n s ts ih=>
  intro h l
  obtain⟨hk,hw⟩:=Tm.S7 h
  have list:∀xs:List Tm,(∀x∈xs,x∈ts)→∀l:List Int,(∀v,v∈bX xs l↔v∈l∨∃x∈xs,v∈x.vl)∧(l.Nodup→(bX xs l).Nodup)∧∃m,bX xs l=l++m:=by
   intro xs
   induction xs with
   | nil=>intro _ l;exact⟨by simp [bX],fun h=>h,[],by simp [bX]⟩
   | cons x xs ihx=>
    intro hs l
    obtain⟨a1,a2,m1,a3⟩:=ih x (hs x (by simp)) (hw x (hs x (by simp))) l
    obtain⟨b1,b2,m2,b3⟩:=ihx (fun y hy=>hs y (by simp [hy])) (x.vars l)
    simp only[bX]
    refine⟨fun v=>?_,fun hn=>b2 (a2 hn),m1++m2,by rw[b3,a3,kK]⟩
    rw[b1,a1]
    simp [or_assoc]
  rw[Tm.vars]
  by_cases hk1:k=1
  · obtain rfl:=hk hk1
    rw[Tm.mV hk1]
    simp only[bX]
    split
    · rename_i hc
      refine⟨fun v=>by simp,fun hn=>?_,[n],rfl⟩
      rw[jW]
      refine⟨hn,by simp,fun x hx y hy e=>?_⟩
      simp only[cQ,dD,dN] at hy
      subst hy e
      exact hc.2 hx
    · rename_i hc
      refine⟨fun v=>?_,fun hn=>hn,[],by simp⟩
      have hm:n∈l:=AY fun h=>hc ⟨hk1,h⟩
      simp only[cQ,dD,dN]
      exact⟨.inl,fun h=>h.elim id fun e=>e▸hm⟩
  · rw[aG (by simp [hk1])]
    obtain⟨c1,c2,c3⟩:=list ts (fun _ h=>h) l
    exact⟨fun v=>by rw[c1,Tm.lH hk1],c2,c3⟩
theorem Tm.a33{v:Int}:∀(t:Tm) (l:List Int),t.cv=true→(v∈t.vars l↔v∈l∨v∈t.vl):=by
 intro t
 induction t using Tm.ind with
 | h k n s ts ih=>
  intro l hcv
  obtain⟨h1,h2⟩:=Tm.pP.1 hcv
  have key:∀(ts:List Tm) (l:List Int),(∀t∈ts,∀l,v∈t.vars l↔v∈l∨v∈t.vl)→(v∈bX ts l↔v∈l∨∃t∈ts,v∈t.vl):=by
   intro ts
   induction ts with
   | nil=>intro l _;simp [bX]
   | cons t ts iht=>
    intro l h
    simp only[bX]
    rw[iht _ (fun x hx=>h x (by simp [hx])),h t (by simp)]
    simp [or_assoc]
  simp only[Tm.vars]
  rw[key ts _ (fun t ht l=>ih t ht l (h2 t ht))]
  by_cases hk:k=1
  · obtain⟨rfl,rfl⟩:=h1 hk
    rw[Tm.mV hk]
    by_cases hn:n∈l
    · simp [hk,hn];exact fun e=>e▸hn
    · simp [hk,hn]
  · rw[Tm.lH hk];simp [hk]
theorem xV{v:Int}:∀(ts:List Tm) (l:List Int),(∀t∈ts,t.cv=true)→(v∈bX ts l↔v∈l∨∃t∈ts,v∈t.vl)
 | [],l,_=>by simp [bX]
 | t::ts,l,h=>by
  simp only[bX]
  rw[xV ts _ (fun x hx=>h x (by simp [hx])),Tm.a33 t l (h t (by simp))]
  simp [or_assoc]
theorem a38{σ:Sub}{R:Int→Tm}{rk:Int→Nat}{B:Nat}(G:Good σ R rk B){n:Int}{W:List Int}(hW:∀w∈W,w≠n∧∀u,σ w=some u→∀v∈u.vl,v∈W):∀w∈W,n∉(R w).vl:=by
 refine fun w=>G.ind (p:=fun w=>w∈W→n∉(R w).vl) (fun w h hw hm=>?_) (fun w u h ih hw hm=>?_) w
 · rw[G.free h,xY] at hm
   simp only[cQ,dD,dN] at hm
   exact(hW w hw).1 hm.symm
 · rw[G.bound h] at hm
   obtain⟨v,hv,hnv⟩:=(xX u).1 hm
   exact ih v hv ((hW w hw).2 u h v hv) hnv
theorem aU6{w:Nat}{l:List AV}{i:Nat}{e:AV}(hw:∀e∈l,e.width=w)(h:l[i]?=some e) :
 ∃A B,l.flatMap AV.cells=A++e.cells++B∧A.length=i*w∧∀e',(l.set i e').flatMap AV.cells=A++e'.cells++B:=by
 obtain⟨hi,he⟩:=eE.1 h
 refine⟨(l.take i).flatMap AV.cells,(l.drop (i+1)).flatMap AV.cells,?_,?_,fun e'=>?_⟩
 · have:l=l.take i++e::l.drop (i+1):=by rw[←he,←pE hi,n9]
   conv=>lhs;rw[this]
   simp
 · rw[lK (fun e he=>hw e (pG he)),dI,jX (by omega)]
 · rw[TJ,aH hi]
   simp
def cellOf:Option Tm→AV
 | some u=>u.av
 | none=>zt
theorem IP(o:Option Tm):(cellOf o).width=4:=by cases o<;>first | rfl | exact aO _
theorem aTC(o:Option Tm):(cellOf o).cells.length=4:=by rw[pN,IP]
theorem P9:∀t:Tm,t.cv=true→t.aK vr=t:=by
 intro t
 induction t using Tm.ind with
 | h k n s ts ih=>
  intro h
  obtain⟨h1,h2⟩:=Tm.pP.1 h
  by_cases hk:k=1
  · obtain⟨rfl,rfl⟩:=h1 hk
    rw[Tm.mK vr hk,hk];try rfl
  · rw[Tm.lN vr hk]
    congr 1
    have:∀l:List Tm,(∀x∈l,x∈ts)→l.map (Tm.aK vr)=l:=by
     intro l
     induction l with
     | nil=>intro _;rfl
     | cons x l ihl=>intro hl;rw[bR,ih x (hl x (by simp)) (h2 x (hl x (by simp))),ihl fun y hy=>hl y (by simp [hy])]
    exact this ts fun _ h=>h
def oZ(l:List Tm):List Tm:=l.map fun t=>t.aK fun v=>vr (eQ v (bX l []) 0)
theorem a32{D:Int→Prop}{h:Int→Int}(inj:∀v w,D v→D w→h v=h w→v=w){f:Int→Tm}(hf:∀v,D v→f v=vr (h v)) :
 ∀(t:Tm),t.wf=true→(∀v∈t.vl,D v)→∀l:List Int,(∀v∈l,D v)→(t.aK f).vars (l.map h)=(t.vars l).map h∧∀v∈t.vars l,D v:=by
 intro t
 induction t using Tm.ind with
 | h k n s ts ih=>
  intro hw hD l hl
  obtain⟨hk1,hws⟩:=Tm.S7 hw
  by_cases hk:k=1
  · obtain rfl:=hk1 hk
    have hDn:D n:=hD n (by rw[Tm.mV hk];simp)
    have eX:h n∈l.map h↔n∈l:=by
     rw[bY]
     exact⟨fun⟨m,hm,e⟩=>by rw[←inj m n (hl m hm) hDn e];exact hm,fun hm=>⟨n,hm,rfl⟩⟩
    rw[Tm.mK f hk,hf n hDn,vr,Tm.vars,Tm.vars]
    simp only[bX,hk,true_and,eX]
    split
    · exact⟨by simp,fun v hv=>by
       rcases dS.1 hv with hv | hv
       · exact hl v hv
       · simp only[cQ,dD,dN] at hv;rw[hv];exact hDn⟩
    · exact⟨rfl,hl⟩
  · rw[Tm.lN f hk,Tm.vars,Tm.vars,aG (fun h=>hk h.1),aG (fun h=>hk h.1)]
    have:∀xs:List Tm,(∀x∈xs,x∈ts)→∀l:List Int,(∀v∈l,D v)→bX (xs.map (Tm.aK f)) (l.map h)=(bX xs l).map h∧∀v∈bX xs l,D v:=by
     intro xs
     induction xs with
     | nil=>intro _ l hl;exact⟨rfl,hl⟩
     | cons x xs ihx=>
      intro hs l hl
      have hx:=hs x (by simp)
      obtain⟨e1,e2⟩:=ih x hx (hws x hx) (fun v hv=>hD v ((Tm.lH hk).2 ⟨x,hx,hv⟩)) l hl
      simp only[bR,bX]
      rw[e1]
      exact ihx (fun y hy=>hs y (by simp [hy])) _ e2
    exact this ts (fun _ h=>h) l hl
theorem aJH{D:Int→Prop}{h:Int→Int}(inj:∀v w,D v→D w→h v=h w→v=w)(v:Int)(hv:D v):∀(l:List Int) (i:Int),(∀w∈l,D w)→eQ (h v) (l.map h) i=eQ v l i
 | [],i,_=>rfl
 | x::l,i,hl=>by
  simp only[bR,eQ]
  by_cases e:v=x
  · rw[aH e,aH (by rw[e])]
  · rw[aG e,aG (fun e2=>e (inj v x hv (hl x (by simp)) e2))]
    exact aJH inj v hv l (i+1) fun w hw=>hl w (by simp [hw])
def pM:List ByteArray:=[⟨#[43]⟩,⟨#[45]⟩,⟨#[42]⟩,⟨#[47,47]⟩,⟨#[109,111,100]⟩]
def qZ:List ByteArray:=[⟨#[60]⟩,⟨#[62]⟩,⟨#[61,60]⟩,⟨#[62,61]⟩,⟨#[61,58,61]⟩]
def fP(l:List ByteArray)(s:ByteArray):Bool:=l.any fun x=>decide (s=x)
def iM(n:Int):Int×Int:=if -999≤n∧n≤999 then(n,0) else(0,5)
def pS(a b:Int):Int:=if a.tmod b≠0∧decide (a.tmod b<0)≠decide (b<0) then a.tmod b+b else a.tmod b
def qV(s:ByteArray)(a b:Int):Int×Int:=
 if s=⟨#[43]⟩ then iM (a+b) else if s=⟨#[45]⟩ then iM (a - b) else if s=⟨#[42]⟩ then iM (a*b) else if b=0 then(0,4) else if s=⟨#[109,111,100]⟩ then(pS a b,0) else(a.tdiv b,0)
def both(f:Int→Int→Int×Int)(x y:Int×Int):Int×Int:=if x.2≠0 then(0,x.2) else if y.2≠0 then(0,y.2) else f x.1 y.1
def two(f:Int→Int→Int×Int):List (Int×Int)→Int×Int
 | [x,y]=>both f x y
 | _=>(0,3)
mutual
def Tm.ev:Tm→Int×Int
 | .mk k n s ts=>if k=2 then(n,0) else if k=1 then(0,2) else if fP pM s=true then two (qV s) (LS ts) else(0,3)
def LS:List Tm→List (Int×Int)
 | []=>[]
 | t::ts=>t.ev::LS ts
end
theorem aM7:∀ts:List Tm,LS ts=ts.map Tm.ev
 | []=>rfl
 | t::ts=>by simp only[LS,bR,aM7 ts]
theorem Tm.wZ(k n:Int)(s:ByteArray)(ts:List Tm):(Tm.mk k n s ts).ev=if k=2 then(n,0) else if k=1 then(0,2) else if fP pM s=true then two (qV s) (ts.map Tm.ev) else(0,3):=by simp only[Tm.ev,aM7]
theorem LP(a b:Int)(hb:b≠0):(0<b→-b<a.tmod b∧a.tmod b<b)∧(b<0→b<a.tmod b∧a.tmod b< -b):=by
 have h1:=MO (-a) (b:=b)
 have h2:=MO a (b:=b)
 have h3:=MO (-a) (b:= -b)
 have h4:=MO a (b:= -b)
 rw[Int.tmod_neg] at h3 h4
 rw[Int.neg_tmod] at h1 h3
 constructor
 · intro h;exact⟨by have:=h1 h;omega,h2 h⟩
 · intro h;exact⟨by have:=h3 (by omega);omega,h4 (by omega)⟩
theorem tdiv_le(a b:Int)(ha: -999≤a∧a≤999): -999≤a.tdiv b∧a.tdiv b≤999:=by
 have:(a.tdiv b).natAbs≤a.natAbs:=by rw[Int.natAbs_tdiv];exact Nat.div_le_self _ _
 omega
theorem Q4(n:Int): -999≤(iM n).1∧(iM n).1≤999:=by unfold iM;split<;>simp_all
theorem aHS(a b:Int)(ha: -999≤a∧a≤999)(hb: -999≤b∧b≤999)(h0:b≠0): -999≤pS a b∧pS a b≤999:=by
 have h1:=LP a b h0
 unfold pS
 split
 · rename_i h
   have h2:=h.2
   by_cases hb':b<0
   · have:¬a.tmod b<0:=by intro hc;simp [hb',hc] at h2
     have:=h1.2 hb'
     omega
   · have:a.tmod b<0:=by
      apply AY;intro hc;simp [hb',hc] at h2
     have:=h1.1 (by omega)
     omega
 · rcases Int.lt_or_gt_of_ne h0 with h | h
   · have:=h1.2 h;omega
   · have:=h1.1 h;omega
theorem UH(m b:Int)(h1:0≤m)(h2:m<b):(m+b).tmod b=m:=by
 obtain⟨x,rfl⟩:∃x:Nat,m=x:=⟨m.toNat,by omega⟩
 obtain⟨y,rfl⟩:∃y:Nat,b=y:=⟨b.toNat,by omega⟩
 rw[show(x:Int)+(y:Int)=((x+y:Nat):Int) by omega,←Int.ofNat_tmod,Nat.add_mod_right,Nat.mod_eq_of_lt (by omega)]
theorem aU7(a b:Int)(h0:b≠0):(a.tmod b+b).tmod b=pS a b:=by
 have h1:=LP a b h0
 have hs:∀x:Int,0≤x→x<b→x.tmod b=x:=fun x h2 h3=>Int.tmod_eq_of_lt h2 h3
 have hn:∀x:Int,x≤0→b<x→x.tmod b=x:=fun x h2 h3=>by
  have:=Int.tmod_eq_of_lt (a:= -x) (b:= -b) (by omega) (by omega)
  rw[Int.tmod_neg,Int.neg_tmod] at this
  omega
 unfold pS
 generalize a.tmod b=m at *
 by_cases hb:b<0
 · have h2:=h1.2 hb
   by_cases hm:m<0
   · rw[aG (by simp [hb,hm])]
     rw[show m+b=b+m by omega]
     have e:(b+m).tmod b=((-b)+(-m)).tmod (-b)*(-1):=by
      rw[show(-b)+(-m)= -(b+m) by omega,Int.neg_tmod,Int.tmod_neg];omega
     rw[e,Int.add_comm,UH (-m) (-b) (by omega) (by omega)]
     omega
   · by_cases hm0:m=0
     · subst hm0;rw[aG (by simp),Int.zero_add,Int.tmod_self]
     · rw[aH ⟨hm0,by simp [hb,hm]⟩]
       exact hn _ (by omega) (by omega)
 · have h2:=h1.1 (by omega)
   by_cases hm:m<0
   · rw[aH ⟨by omega,by simp [hb,hm]⟩]
     exact hs _ (by omega) (by omega)
   · rw[aG (by simp [hb,hm])]
     rw[UH m b (by omega) (by omega)]
def cH(N:Int)(t:Tm):Prop:=(t.aK fun _=>vr 0).jC=true∧t.cv=true∧∀v∈t.vl,0≤v∧v<N
theorem cH.mono{N M:Int}{t:Tm}(h:cH N t)(hm:N≤M):cH M t:=⟨h.1,h.2.1,fun v hv=>⟨(h.2.2 v hv).1,by have:=(h.2.2 v hv).2;omega⟩⟩
theorem cH.own{N k n:Int}{s:ByteArray}{ts:List Tm}(h:cH N (.mk k n s ts))(hk:k≠1):eM k n s ts.length=true∧∀x∈ts,cH N x:=by
 obtain⟨h1,h2,h3⟩:=h
 rw[Tm.lN _ hk] at h1
 obtain⟨h4,h5⟩:=Tm.KK h1
 rw[aE] at h4
 exact⟨h4,fun x hx=>⟨h5 _ (bY.2 ⟨x,hx,rfl⟩),(Tm.pP.1 h2).2 x hx,fun v hv=>h3 v ((Tm.lH hk).2 ⟨x,hx,hv⟩)⟩⟩
theorem cH.var{N n:Int}{s:ByteArray}{ts:List Tm}(h:cH N (.mk 1 n s ts)):0≤n∧n<N∧s=⟨#[]⟩∧ts= []:=by
 obtain⟨_,h2,h3⟩:=h
 obtain⟨h4,h5⟩:=(Tm.pP.1 h2).1 rfl
 obtain⟨h6,h7⟩:=h3 n (by rw[Tm.mV rfl];simp)
 exact⟨h6,h7,h4,h5⟩
theorem KL(N:Int):∀t:Tm,t.k≠1→cH N t→∀x∈t.ts,cH N x:=fun t hk h x hx=>by
 cases t
 exact(h.own hk).2 x hx
theorem cH.kind{N k n:Int}{s:ByteArray}{ts:List Tm}(h:cH N (.mk k n s ts)):(k=1∨k=2∨k=3)∧ts.length≤4:=by
 by_cases hk:k=1
 · subst hk
   rw[h.var.2.2.2]
   simp
 · have:=aZ7 (h.own hk).1
   omega
theorem aZ6{n:Int}{s:ByteArray}{len:Int}(h:eM 2 n s len=true): -999≤n∧n≤999:=by
 simp [eM] at h
 omega
theorem cH.all{N k n:Int}{s:ByteArray}{ts:List Tm}(h:cH N (.mk k n s ts)):(k=2→-999≤n∧n≤999)∧∀x∈ts,cH N x:=by
 by_cases hk:k=1
 · subst hk
   rw[h.var.2.2.2]
   simp
 · obtain⟨h1,h2⟩:=h.own hk
   refine⟨fun h2=>?_,h2⟩
   subst h2
   exact aZ6 h1
theorem cH.small{N:Int}:∀ {t:Tm},cH N t→t.small=true:=by
 intro t
 induction t using Tm.ind with
 | h k n s ts ih=>
  intro h
  have h4:=h.kind.2
  simp only[Tm.small,G7,cT,bM,eD]
  refine⟨by omega,fun x hx=>?_⟩
  by_cases hk:k=1
  · subst hk;rw[h.var.2.2.2] at hx;cases hx
  · exact ih x hx ((h.own hk).2 x hx)
theorem cH.aK{N M:Int}{f:Int→Tm}{t:Tm}(h:cH N t)(hf:∀v∈t.vl,cH M (f v)):cH M (t.aK f):=by
 induction t using Tm.ind with
 | h k n s ts ih=>
  by_cases hk:k=1
  · rw[Tm.mK f hk];exact hf n (by rw[Tm.mV hk];simp)
  · obtain⟨h1,h2⟩:=h.own hk
    have key:∀x∈ts,cH M (x.aK f):=fun x hx=>ih x hx (h2 x hx) fun v hv=>hf v ((Tm.lH hk).2 ⟨x,hx,hv⟩)
    rw[Tm.lN f hk]
    refine⟨?_,Tm.pP.2 ⟨fun h=>absurd h hk,fun y hy=>?_⟩,fun v hv=>?_⟩
    · rw[Tm.lN _ hk,Tm.zQ,aE,aE,h1,iY,eD]
      intro y hy
      simp only[r8,bY,DY] at hy
      obtain⟨x,hx,rfl⟩:=hy
      exact(key x hx).1
    · obtain⟨x,hx,rfl⟩:=bY.1 hy
      exact(key x hx).2.1
    · obtain⟨y,hy,hv⟩:=(Tm.lH hk).1 hv
      obtain⟨x,hx,rfl⟩:=bY.1 hy
      exact(key x hx).2.2 v hv
theorem GH{N n:Int}(h0:0≤n)(h1:n<N):cH N (vr n):=by
 refine⟨by rw[vN];exact aNX (GD.2 (by omega)),Tm.pP.2 ⟨fun _=>⟨rfl,rfl⟩,by simp⟩,fun v hv=>?_⟩
 rw[xY] at hv
 simp only[cQ,dD,dN] at hv
 omega
theorem aKN{t:Tm}:t.jC=true↔cH 26 t:=by
 constructor
 · intro h
   refine⟨aY9 t h fun v _=>aNX (GD.2 (by omega)),Tm.aZZ t h,fun v hv=>?_⟩
   have:=GD.1 (Tm.aZ0 t h v hv)
   omega
 · induction t using Tm.ind with
   | h k n s ts ih=>
    intro h
    rw[Tm.zQ]
    by_cases hk:k=1
    · subst hk
      obtain⟨h0,h1,rfl,rfl⟩:=h.var
      have h1':n≤25:=by omega
      simp [eM,h0,h1']
    · obtain⟨h1,h2⟩:=h.own hk
      rw[h1,iY,eD]
      exact fun x hx=>ih x hx (h2 x hx)
theorem Tm.HF{t:Tm}(h:t.valid=true):cH 26 t:=aKN.1 (Tm.a31 h)
theorem Good.lP{σ:Sub}{R:Int→Tm}{rk:Int→Nat}{B:Nat}(G:Good σ R rk B){N:Int}(ho:cK (cH N) σ):∀n,0≤n→n<N→cH N (R n):=by
 refine fun n=>G.ind (p:=fun n=>0≤n→n<N→cH N (R n)) (fun n h h0 h1=>?_) (fun n u h ih h0 h1=>?_) n
 · rw[G.free h];exact GH h0 h1
 · rw[G.bound h]
   exact(ho n u h).aK fun v hv=>ih v hv ((ho n u h).2.2 v hv).1 ((ho n u h).2.2 v hv).2
theorem Good.QK{σ:Sub}{R:Int→Tm}{rk:Int→Nat}{B:Nat}(G:Good σ R rk B){N:Int}(ho:cK (cH N) σ){t:Tm}(h:cH N t):cH N (t.aK R):=
 h.aK fun v hv=>G.lP ho v (h.2.2 v hv).1 (h.2.2 v hv).2
def bD(N:Int)(t:Tm):Prop:=cH N t∧t.nodes≤120
theorem p9(N:Int):∀t:Tm,t.k≠1→bD N t→∀x∈t.ts,bD N x:=fun t hk h x hx=>by
 refine⟨KL N t hk h.1 x hx,?_⟩
 have h2:=h.2
 cases t
 rw[Tm.kG] at h2
 have:=qF (f:=Tm.nodes) hx
 simp only[Tm.ts] at this
 omega
theorem bD.mono{N M:Int}{t:Tm}(h:bD N t)(hm:N≤M):bD M t:=⟨h.1.mono hm,h.2⟩
theorem cK.lP{N:Int}{σ:Sub}(h:cK (bD N) σ):cK (cH N) σ:=fun n u e=>(h n u e).1
theorem cK.imp{p q:Tm→Prop}{σ:Sub}(h:cK p σ)(hpq:∀t,p t→q t):cK q σ:=fun n u e=>hpq u (h n u e)
open Classical in
noncomputable def iQ(σ:Sub)(a b:Tm):Bool×Sub×List Int:=if h:∃x g,c9 g σ a b=some x then h.choose else(false,σ,[])
theorem aNO{g:Nat}{σ:Sub}{a b:Tm}{x:Bool×Sub×List Int}(h:c9 g σ a b=some x):iQ σ a b=x:=by
 unfold iQ
 have h':∃x g,c9 g σ a b=some x:=⟨x,g,h⟩
 rw[dif_pos h']
 obtain⟨g',h''⟩:=h'.choose_spec
 exact a3Q h'' h
def VN(N:Nat):List Int:=(List.range N).map fun i:Nat=>(i:Int)
theorem vO{N:Nat}{n:Int}:n∈VN N↔0≤n∧n<N:=by
 simp only[VN,bY,uL]
 constructor
 · rintro⟨i,h,rfl⟩;omega
 · intro h;exact⟨n.toNat,by omega,by omega⟩
theorem CW{N:Nat}{tr:List Int}(h:tr.Nodup)(hV:∀m∈tr,0≤m∧m<N):tr.length≤N:=by
 have:=aKA (V:=VN N) h fun x hx=>vO.2 (hV x hx)
 simpa [VN] using this
structure yL (N:Int) (σ:Sub) (a b:Tm) (r:Bool) (σ':Sub) (tr:List Int):Prop where
 run:∃g,c9 g σ a b=some (r,σ',tr)
 eq:iQ σ a b=(r,σ',tr)
 mU:nK σ [a] [b] r σ' tr
 ok:cK (bD N) σ'
 fP:∀m∈tr,0≤m∧m<N
theorem tD{N:Nat}{σ:Sub}{a b:Tm}(hg:cJ σ)(ho:cK (bD N) σ)(ha:bD N a)(hb:bD N b):∃r σ' tr,yL N σ a b r σ' tr:=by
 have hin:∀ {t:Tm},bD N t→iF (VN N) t:=fun h v hv=>vO.2 (h.1.2.2 v hv)
 have hr:lT (VN N) σ:=fun n u e=>hin (ho n u e)
 obtain⟨g,⟨r,σ',tr⟩,h⟩:=a3S (VN N) _ _ σ a b hg hr (hin ha) (hin hb) (cO _) (cO _)
 obtain⟨h1,h2⟩:=(aNP g).1 σ a b r σ' tr (VN N) hg h hr (hin ha) (hin hb)
 exact⟨r,σ',tr,⟨g,h⟩,aNO h,wA hg h,(MF (p9 N) g).1 σ a b r σ' tr hg h ho ha hb,fun m hm=>vO.1 (h2 m hm)⟩
theorem yL.out{N:Int}{σ:Sub}{a b:Tm}{r:Bool}{σ':Sub}{tr:List Int}(h:yL N σ a b r σ' tr)(n:Int):(if n∈tr then none else σ' n)=σ n:=by
 split
 · rename_i hn;exact((h.mU.new n hn).1).symm
 · rename_i hn;exact h.mU.aU n hn
def Sub.out(σ:Sub)(l:List Int):Sub:=fun n=>if n∈l then Option.none else σ n
theorem Sub.aZ2(σ:Sub)(l m:List Int):(σ.out l).out m=σ.out (l++m):=by
 funext n
 unfold Sub.out
 by_cases h1:n∈m
 · rw[aH h1,aH (by simp [h1])]
 · rw[aG h1]
   by_cases h2:n∈l
   · rw[aH h2,aH (by simp [h2])]
   · rw[aG h2,aG (by simp [h1,h2])]
theorem Sub.aZ3(σ:Sub){l m:List Int}(h:∀n,n∈l↔n∈m):σ.out l=σ.out m:=by
 funext n
 unfold Sub.out
 simp only[h n]
def bT(ρ:Int→Int)(t:Tm):Tm:=t.aK fun v=>vr (ρ v)
theorem a0W(ρ:Int→Int)(n:Int):bT ρ (vr n)=vr (ρ n):=vN _ n
theorem vT(ρ:Int→Int){k n:Int}{s:ByteArray}{ts:List Tm}(h:k≠1):bT ρ (.mk k n s ts)=.mk k n s (ts.map (bT ρ)):=Tm.lN _ h
theorem xN(ρ:Int→Int){t:Tm}(h:t.k=1):bT ρ t=vr (ρ t.n):=Tm.CT _ h
theorem C9(ρ:Int→Int){t:Tm}(h:t.k≠1):bT ρ t=.mk t.k t.n t.s (t.ts.map (bT ρ)):=Tm.rJ _ h
theorem xM(ρ:Int→Int)(t:Tm):(bT ρ t).k=t.k:=by
 by_cases h:t.k=1
 · rw[xN ρ h,h];try rfl
 · rw[C9 ρ h];try rfl
theorem KW(ρ:Int→Int){t:Tm}(hc:t.cv=true):(bT ρ t).nodes=t.nodes:=by
 induction t using Tm.ind with
 | h k n s ts ih=>
  obtain⟨h1,h2⟩:=Tm.pP.1 hc
  by_cases hk:k=1
  · obtain⟨_,rfl⟩:=h1 hk
    rw[xN ρ (t:=.mk k n s []) hk,vr,Tm.kG,Tm.kG]
  · rw[vT ρ hk,Tm.kG,Tm.kG]
    congr 1
    have:∀l:List Tm,(∀x∈l,x∈ts)→aL Tm.nodes (l.map (bT ρ))=aL Tm.nodes l:=by
     intro l
     induction l with
     | nil=>intro _;rfl
     | cons x l ihl=>intro h;simp only[bR,aL];rw[ih x (h x (by simp)) (h2 x (h x (by simp))),ihl fun y hy=>h y (by simp [hy])]
    exact this ts fun _ h=>h
theorem Q7(ρ:Int→Int){t:Tm}(hc:t.cv=true):∀d,(bT ρ t).flat d=t.flat d:=by
 induction t using Tm.ind with
 | h k n s ts ih=>
  intro d
  obtain⟨h1,h2⟩:=Tm.pP.1 hc
  cases d with
  | zero=>rw[Tm.FM,Tm.FM]
  | succ d=>
   by_cases hk:k=1
   · obtain⟨_,rfl⟩:=h1 hk
     rw[xN ρ (t:=.mk k n s []) hk,vr,Tm.vD,Tm.vD]
   · rw[vT ρ hk,Tm.vD,Tm.vD,List.all_map]
     rw[x9,eD,eD]
     constructor
     · intro h x hx;rw[←ih x hx (h2 x hx) d];exact h x hx
     · intro h x hx;simp only[DY];rw[ih x hx (h2 x hx) d];exact h x hx
theorem a34{ρ:Int→Int}{t:Tm}{w:Int}:w∈(bT ρ t).vl↔∃v∈t.vl,w=ρ v:=by
 unfold bT
 rw[xX]
 simp only[xY,cQ,dD,dN]
theorem Q6{ρ ρ':Int→Int}{t:Tm}(h:∀v∈t.vl,ρ v=ρ' v):bT ρ t=bT ρ' t:=p8 t fun v hv=>by rw[h v hv]
theorem GO(ρ:Int→Int)(f:Int→Tm)(t:Tm):(bT ρ t).aK f=t.aK fun v=>f (ρ v):=by
 unfold bT
 rw[xJ]
 exact p8 t fun v _=>vN f (ρ v)
theorem aJZ(ρ:Int→Int)(f:Int→Tm)(t:Tm):bT ρ (t.aK f)=t.aK fun v=>bT ρ (f v):=by
 unfold bT
 rw[xJ]
theorem cH.bT{N M:Int}{ρ:Int→Int}{t:Tm}(h:cH N t)(hr:∀v∈t.vl,0≤ρ v∧ρ v<M):cH M (AW.bT ρ t):=h.aK fun v hv=>GH (hr v hv).1 (hr v hv).2
theorem bD.bT{N M:Int}{ρ:Int→Int}{t:Tm}(h:bD N t)(hr:∀v∈t.vl,0≤ρ v∧ρ v<M):bD M (AW.bT ρ t):=⟨h.1.bT hr,by rw[KW ρ h.1.2.1];exact h.2⟩
structure fB (ρ:Int→Int) (N:Int) (σ τ:Sub):Prop where
 inj:∀v w,0≤v→v<N→0≤w→w<N→ρ v=ρ w→v=w
 map:∀v,0≤v→v<N→τ (ρ v)=(σ v).map (bT ρ)
section
variable {ρ:Int→Int} {N:Int} {σ τ:Sub}
theorem fB.wk(S:fB ρ N σ τ)(ho:cK (cH N) σ){f:Nat}{t u:Tm}(h:fM σ f t u):cH N t→fM τ f (bT ρ t) (bT ρ u):=by
 induction h with
 | @stop t h=>
  intro ht
  refine .stop fun hk=>?_
  rw[xM] at hk
  have hr:=ht.2.2 t.n (by rw[Tm.DV hk];simp)
  rw[xN ρ hk]
  show τ (ρ t.n)=none
  rw[S.map _ hr.1 hr.2,h hk];try rfl
 | @go f t u v h1 h2 _ ih=>
  intro ht
  have hr:=ht.2.2 t.n (by rw[Tm.DV h1];simp)
  refine .go (u:=bT ρ u) (by rw[xM];exact h1) ?_ (ih (ho _ _ h2))
  rw[xN ρ h1]
  show τ (ρ t.n)=_
  rw[S.map _ hr.1 hr.2,h2];try rfl
theorem fB.rs(S:fB ρ N σ τ)(hg:cJ σ)(hg':cJ τ)(ho:cK (cH N) σ):∀v,0≤v→v<N→rs τ (ρ v)=bT ρ (rs σ v):=by
 obtain⟨rk,B,G⟩:=hg.rs
 obtain⟨rk',B',G'⟩:=hg'.rs
 refine fun v=>G.ind (p:=fun v=>0≤v→v<N→AW.rs τ (ρ v)=bT ρ (AW.rs σ v)) (fun v h h0 h1=>?_) (fun v u h ih h0 h1=>?_) v
 · rw[G.free h,a0W,G'.free (by rw[S.map v h0 h1,h];try rfl)]
 · rw[G.bound h,aJZ,G'.bound (u:=bT ρ u) (by rw[S.map v h0 h1,h];try rfl),GO]
   refine p8 u fun w hw=>?_
   have:=(ho v u h).2.2 w hw
   exact ih w hw this.1 this.2
theorem fB.rsT(S:fB ρ N σ τ)(hg:cJ σ)(hg':cJ τ)(ho:cK (cH N) σ){t:Tm}(ht:cH N t):(bT ρ t).aK (AW.rs τ)=bT ρ (t.aK (AW.rs σ)):=by
 rw[GO,aJZ]
 exact p8 t fun v hv=>S.rs hg hg' ho v (ht.2.2 v hv).1 (ht.2.2 v hv).2
theorem fB.mem(S:fB ρ N σ τ){t:Tm}(ht:cH N t){n:Int}(h0:0≤n)(h1:n<N):ρ n∈(bT ρ t).vl↔n∈t.vl:=by
 rw[a34]
 constructor
 · rintro⟨v,hv,e⟩
   rw[S.inj n v h0 h1 (ht.2.2 v hv).1 (ht.2.2 v hv).2 e];exact hv
 · exact fun h=>⟨n,h,rfl⟩
theorem fB.set(S:fB ρ N σ τ){n:Int}(h0:0≤n)(h1:n<N)(t:Tm):fB ρ N (σ.set n t) (τ.set (ρ n) (bT ρ t)):=by
 refine⟨S.inj,fun v hv0 hv1=>?_⟩
 unfold Sub.set
 by_cases h:v=n
 · subst h;simp
 · rw[aG (fun e=>h (S.inj v n hv0 hv1 h0 h1 e)),aG h,S.map v hv0 hv1]
theorem fB.jO(S:fB ρ N σ τ)(hg:cJ σ)(hg':cJ τ)(ho:cK (cH N) σ){n:Int}(h0:0≤n)(h1:n<N){t:Tm}(ht:cH N t){r:Bool}{σ':Sub}{tr:List Int}(h:jO σ n t=(r,σ',tr)) :
 ∃τ',AW.jO τ (ρ n) (bT ρ t)=(r,τ',tr.map ρ)∧fB ρ N σ' τ':=by
 obtain⟨rk,B,G⟩:=hg.rs
 have e:=S.mem (G.QK ho ht) h0 h1
 rw[←S.rsT hg hg' ho ht] at e
 unfold AW.jO at h ⊢
 by_cases hm:n∈(t.aK (AW.rs σ)).vl
 · rw[aH hm] at h
   rw[aH (e.2 hm)]
   cases h
   exact⟨τ,rfl,S⟩
 · rw[aG hm] at h
   rw[aG (fun h=>hm (e.1 h))]
   cases h
   exact⟨_,rfl,S.set h0 h1 t⟩
theorem aIN{a b:Tm}(ha:a.k≠1)(hb:b.k≠1):tV (bT ρ a) (bT ρ b)=tV a b:=by
 obtain⟨k,n,s,ts⟩:=a
 obtain⟨k',n',s',ts'⟩:=b
 simp only[Tm.k] at ha hb
 rw[vT ρ ha,vT ρ hb,x9,sR,sR]
 simp only[Tm.k,Tm.n,Tm.s,Tm.ts,aE]
theorem fB.aNY(S:fB ρ N σ τ)(hg:cJ σ)(ho:cK (cH N) σ){t:Tm}(ht:cH N t):AW.wk τ (bT ρ t)=bT ρ (AW.wk σ t):=by
 obtain⟨rk,B,G⟩:=hg.rs
 obtain⟨f,h⟩:=G.wk t
 exact(S.wk ho h ht).wk
theorem a3T(ρ:Int→Int)(N:Int):∀g:Nat,(∀(σ τ:Sub) (a b:Tm) (r:Bool) (σ':Sub) (tr:List Int),cJ σ→cJ τ→cK (cH N) σ→cH N a→cH N b→fB ρ N σ τ→c9 g σ a b=some (r,σ',tr)→∃τ',c9 g τ (bT ρ a) (bT ρ b)=some (r,τ',tr.map ρ)∧fB ρ N σ' τ') ∧
 (∀(xs ys:List Tm) (σ τ:Sub) (r:Bool) (σ':Sub) (tr:List Int),cJ σ→cJ τ→cK (cH N) σ→(∀x∈xs,cH N x)→(∀y∈ys,cH N y)→fB ρ N σ τ→dR g σ xs ys=some (r,σ',tr)→∃τ',dR g τ (xs.map (bT ρ)) (ys.map (bT ρ))=some (r,τ',tr.map ρ)∧fB ρ N σ' τ'):=by
 intro g
 induction g with
 | zero=>
  refine⟨fun σ τ a b r σ' tr _ _ _ _ _ _ h=>(by simp only[c9] at h;cases h),?_⟩
  intro xs ys σ τ r σ' tr _ _ _ _ _ S h
  match xs,ys with
  | [],_=>simp only[dR,Option.some.injEq,Prod.mk.injEq] at h;obtain⟨rfl,rfl,rfl⟩:=h;exact⟨τ,by simp only[bQ,dR],S⟩
  | x::xs,[]=>simp only[dR,Option.some.injEq,Prod.mk.injEq] at h;obtain⟨rfl,rfl,rfl⟩:=h;exact⟨τ,by simp only[bR,bQ,dR],S⟩
  | x::xs,y::ys=>simp only[dR,c9] at h;cases h
 | succ g ih=>
  have one:∀(σ τ:Sub) (a b:Tm) (r:Bool) (σ':Sub) (tr:List Int),cJ σ→cJ τ→cK (cH N) σ→cH N a→cH N b→fB ρ N σ τ→c9 (g+1) σ a b=some (r,σ',tr)→∃τ',c9 (g+1) τ (bT ρ a) (bT ρ b)=some (r,τ',tr.map ρ)∧fB ρ N σ' τ':=by
   intro σ τ a b r σ' tr hg hg' ho ha hb S h
   obtain⟨rk,B,G⟩:=hg.rs
   obtain⟨fa,wa⟩:=G.wk a
   obtain⟨fb,wb⟩:=G.wk b
   have oa:=wa.all (p:=cH N) ho ha
   have ob:=wb.all (p:=cH N) ho hb
   have ea:=S.aNY hg ho ha
   have eb:=S.aNY hg ho hb
   have h:=MD h
   generalize AW.wk σ a=a1 at *
   generalize AW.wk σ b=b1 at *
   rw[c9,ea,eb,xM,xM]
   have rng:∀ {t:Tm},cH N t→t.k=1→0≤t.n∧t.n<N:=fun ht hk=>ht.2.2 _ (by rw[Tm.DV hk];simp)
   have nn:∀ {t:Tm},t.k=1→(bT ρ t).n=ρ t.n:=fun hk=>by rw[xN ρ hk];try rfl
   rcases h with ⟨h1,h2,h3,rfl,rfl,rfl⟩ | ⟨h1,h2,h3⟩ | ⟨h1,h2,h3⟩ | ⟨h1,h2,h3,h4⟩ | ⟨h1,h2,h3,rfl,rfl,rfl⟩
   · exact⟨τ,by rw[aH ⟨h1,h2,by rw[nn h1,nn h2,h3]⟩];try rfl,S⟩
   · have ra:=rng oa h1
     obtain⟨τ',e,S'⟩:=S.jO hg hg' ho ra.1 ra.2 ob h3
     refine⟨τ',?_,S'⟩
     rw[aG,aH h1,nn h1,e]
     rintro⟨_,h5,h6⟩
     have rb:=rng ob h5
     rw[nn h1,nn h5] at h6
     exact h2 ⟨h5,S.inj _ _ ra.1 ra.2 rb.1 rb.2 h6⟩
   · have rb:=rng ob h2
     obtain⟨τ',e,S'⟩:=S.jO hg hg' ho rb.1 rb.2 oa h3
     refine⟨τ',?_,S'⟩
     rw[aG (fun h=>h1 h.1),aG h1,aH h2,nn h2,e]
   · obtain⟨τ',e,S'⟩:=ih.2 a1.ts b1.ts σ τ r σ' tr hg hg' ho (KL N a1 h1 oa) (KL N b1 h2 ob) S h4
     refine⟨τ',?_,S'⟩
     rw[aG (fun h=>h1 h.1),aG h1,aG h2,aH (by rw[aIN h1 h2];exact h3),C9 ρ h1,C9 ρ h2]
     exact e
   · refine⟨τ,?_,S⟩
     rw[aG (fun h=>h1 h.1),aG h1,aG h2,aG (by rw[aIN h1 h2,h3];simp)]
     try rfl
  refine⟨one,?_⟩
  intro xs
  induction xs with
  | nil=>
   intro ys σ τ r σ' tr _ _ _ _ _ S h
   simp only[dR,Option.some.injEq,Prod.mk.injEq] at h;obtain⟨rfl,rfl,rfl⟩:=h;exact⟨τ,by simp only[bQ,dR],S⟩
  | cons x xs ihx=>
   intro ys σ τ r σ' tr hg hg' ho hx hy S h
   cases ys with
   | nil=>simp only[dR,Option.some.injEq,Prod.mk.injEq] at h;obtain⟨rfl,rfl,rfl⟩:=h;exact⟨τ,by simp only[bR,bQ,dR],S⟩
   | cons y ys=>
    rw[dR] at h
    simp only[bR]
    rw[dR]
    cases hu:c9 (g+1) σ x y with
    | none=>rw[hu] at h;cases h
    | some p=>
     obtain⟨r1,σ1,tr1⟩:=p
     rw[hu] at h
     obtain⟨τ1,e1,S1⟩:=one σ τ x y r1 σ1 tr1 hg hg' ho (hx x (by simp)) (hy y (by simp)) S hu
     rw[e1]
     cases r1 with
     | false=>
      simp only[Option.some.injEq,Prod.mk.injEq] at h ⊢
      obtain⟨rfl,rfl,rfl⟩:=h
      exact⟨τ1,⟨rfl,rfl,rfl⟩,S1⟩
     | true=>
      simp only at h ⊢
      cases hu2:dR (g+1) σ1 xs ys with
      | none=>rw[hu2] at h;cases h
      | some p2=>
       obtain⟨r2,σ2,tr2⟩:=p2
       rw[hu2] at h
       simp only[Option.some.injEq,Prod.mk.injEq] at h
       obtain⟨rfl,rfl,rfl⟩:=h
       have U1:=wA hg hu
       have U1':=wA hg' e1
       have ho1:=(MF (KL N) (g+1)).1 σ x y true σ1 tr1 hg hu ho (hx x (by simp)) (hy y (by simp))
       obtain⟨τ2,e2,S2⟩:=ihx ys σ1 τ1 r2 σ2 tr2 U1.gJ U1'.gJ ho1 (fun z hz=>hx z (by simp [hz])) (fun z hz=>hy z (by simp [hz])) S1 hu2
       rw[e2]
       exact⟨τ2,by simp only[mX],S2⟩
theorem fB.iQ(S:fB ρ N σ τ)(hg:cJ σ)(hg':cJ τ)(ho:cK (cH N) σ){a b:Tm}(ha:cH N a)(hb:cH N b){r:Bool}{σ':Sub}{tr:List Int}{g:Nat}(h:c9 g σ a b=some (r,σ',tr)) :
 ∃τ',AW.iQ τ (bT ρ a) (bT ρ b)=(r,τ',tr.map ρ)∧fB ρ N σ' τ'∧cJ τ':=by
 obtain⟨τ',e,S'⟩:=(a3T ρ N g).1 σ τ a b r σ' tr hg hg' ho ha hb S h
 exact⟨τ',aNO e,S',(wA hg' e).gJ⟩
end
end Go.AW
namespace Go.AW
open Go.Proofs.Tryz
def jH(n:Int):Prop:= -999≤n∧n≤999
theorem aPH(s:ByteArray)(a b:Int)(ha:jH a)(hb:jH b):jH (qV s a b).1:=by
 unfold qV jH
 split
 · exact Q4 _
 split
 · exact Q4 _
 split
 · exact Q4 _
 split
 · simp
 rename_i h0
 split
 · exact aHS a b ha hb h0
 · exact tdiv_le a b ha
theorem aPV{f:Int→Int→Int×Int}{x y:Int×Int}(h:jH (f x.1 y.1).1):jH (both f x y).1:=by
 unfold both jH
 split
 · simp
 split
 · simp
 · exact h
theorem Tm.tR{N:Int}:∀t:Tm,cH N t→jH t.ev.1:=by
 intro t
 induction t using Tm.ind with
 | h k n s ts ih=>
  intro h
  obtain⟨h1,h2⟩:=h.all
  rw[Tm.wZ]
  split
  · rename_i hk;exact h1 hk
  split
  · simp [jH]
  split
  · match ts,h2,ih with
    | [],_,_=>simp [two,jH]
    | [x],_,_=>simp [two,jH]
    | [x,y],h2,ih=>exact aPV (aPH _ _ _ (ih x (by simp) (h2 x (by simp))) (ih y (by simp) (h2 y (by simp))))
    | x::y::z::l,_,_=>simp [two,jH]
  · simp [jH]
theorem SW{ts:List Tm}(h:(ts.length:Int)=2):∃x y,ts= [x,y]:=by
 match ts,h with
 | [x,y],_=>exact⟨x,y,rfl⟩
 | [],h=>simp at h
 | [x],h=>simp at h
 | x::y::z::l,h=>simp at h;omega
abbrev v7:=zi tI_3 (zi zI_3 (zi a7 (zi tI_4 (zi zI_4 (zi cL (zi tI_9 (zi zI_9 (zi d9 (zi tI_31 (zi zI_31 (zi aR (zi bO (zi bP (zi cF (zi tI_66 (zi zI_66 (zi b9 (zi cA (zi cB (zi cC (zi bZ (zi tI_147 (zi zI_147 (zi wW (zi B1 (zi B4 DS))))))))))))))))))))))))))
theorem IE{N:Int}:∀(t:Tm) (st:aA),cH N t→aD prog 361 [t.av] st (fun r st'=>r=.tup [.int .i64 t.ev.1,.int .i64 t.ev.2]∧st'=st)
 | .mk k n s ts,st,hok=>by
  obtain⟨h1,h2⟩:=hok.all
  have IH:=fun(x:Tm) (hx:x∈ts) st=>IE x st (h2 x hx)
  rw[Tm.wZ]
  simp only[bA]
  refine wF [1000000] 1 func361 ntmps361 rfl rfl ?_
  intro _
  simp -implicitDefEqProofs only[aB,seval,v7]
  refine aT (fun hk=>?_) (fun hk=>?_)
  · simp -implicitDefEqProofs only[aB,seval,v7]
    simp only[bM] at hk
    simp [hk]
  simp only[cM] at hk
  rw[aG hk]
  simp -implicitDefEqProofs only[aB,seval,v7]
  refine aT (fun hk1=>?_) (fun hk1=>?_)
  · simp -implicitDefEqProofs only[aB,seval]
    simp only[bM] at hk1
    simp [hk1]
  simp only[cM] at hk1
  rw[aG hk1]
  simp -implicitDefEqProofs only[aE,aB,seval,v7]
  have hty:∀s0:aA,ts.length≠2∨fP pM s=false→(if fP pM s=true then two (qV s) (ts.map Tm.ev) else(0,3))=((0:Int),(3:Int)):=fun _ h=>by
   split
   · rename_i h3
     rcases h with h | h
     · match ts,h with
       | [],_=>rfl
       | [x],_=>rfl
       | [x,y],h=>simp at h
       | x::y::z::l,_=>rfl
     · rw[h] at h3;cases h3
   · rfl
  refine cU (fun h=>?_) (fun h=>?_)
  case refine_2=>
   simp -implicitDefEqProofs only[h,aB,seval]
   rw[hty st (.inl (by simp at h;omega))]
  simp -implicitDefEqProofs only[h,aB,seval,v7]
  refine(NR pM s _).to ?_
  simp -implicitDefEqProofs only[aB,seval]
  refine aT (fun h3=>?_) (fun h3=>?_)
  · simp -implicitDefEqProofs only[aB,seval]
    rw[hty st (.inr (by simpa [fP] using h3))]
  have hin:fP pM s=true:=by simpa [fP] using h3
  rw[aH hin]
  clear hty
  obtain⟨x,y,rfl⟩:=SW (by simpa using h)
  have dW:dM prog 31 (.slice [x.av,y.av]) (.int .i64 0)=some (.pptr x.av):=bH (av:=Tm.av) (l:=[x,y]) (i:=0) aR rfl (aO x)
  have f8:dM prog 31 (.slice [x.av,y.av]) (.int .i64 1)=some (.pptr y.av):=bH (av:=Tm.av) (l:=[x,y]) (i:=1) aR rfl (aO y)
  have hx:=Tm.tR x (h2 x (by simp))
  have hy:=Tm.tR y (h2 y (by simp))
  have IHx:=fun st=>IH x (by simp) st
  have IHy:=fun st=>IH y (by simp) st
  simp -implicitDefEqProofs only[dW,cE,aO,aB,↓aY,seval,v7]
  refine(IHx _).to ?_
  simp only[two,both]
  generalize x.ev.1=a at *
  generalize x.ev.2=ca at *
  generalize y.ev.1=b at *
  generalize y.ev.2=cb at *
  simp -implicitDefEqProofs only[aB,seval]
  refine aT (fun h4=>?_) (fun h4=>?_)
  · simp -implicitDefEqProofs only[aB,seval]
    have h4':ca≠0:=by simpa using h4
    rw[aH h4']
  have h4':ca=0:=by simpa using h4
  subst h4'
  rw[aG (by simp)]
  simp -implicitDefEqProofs only[f8,cE,aO,aB,seval,v7]
  refine(IHy _).to ?_
  simp -implicitDefEqProofs only[aB,seval]
  refine aT (fun h5=>?_) (fun h5=>?_)
  · simp -implicitDefEqProofs only[aB,seval]
    have h5':cb≠0:=by simpa using h5
    rw[aH h5']
  have h5':cb=0:=by simpa using h5
  subst h5'
  rw[aG (by simp)]
  unfold jH at hx hy
  have hmul: -998001≤a*b∧a*b≤998001:=by
   have h6:(a*b).natAbs≤998001:=by
    rw[Int.natAbs_mul]
    have:=HO (show a.natAbs≤999 by omega) (show b.natAbs≤999 by omega)
    omega
   omega
  have hw1:=bG (n:=a+b)
  have hw2:=bG (n:=a - b)
  have hw3:=bG (n:=a*b)
  have hrg:∀(v:Int) (st':aA),aD prog 170 [.int .i64 v,.int .i64 (-999),.int .i64 999] st' (fun r s'=>r=.bool (decide (iM v=(v,0)))∧s'=st'):=fun v st'=>by
   refine(yS v (-999) 999 st').mono ?_
   rintro _ _ ⟨rfl,rfl⟩
   refine⟨?_,rfl⟩
   congr 1
   unfold iM
   split
   · rename_i h;simp [h.1,h.2]
   · rename_i h
     rw[show(decide (((0:Int),(5:Int))=(v,0)))=false from rB (by simp)]
     simp only[Bool.and_eq_false_iff,cM]
     omega
  have hrn:∀v,iM v≠(v,0)→iM v=(0,5):=fun v h=>by
   unfold iM at h ⊢
   split
   · rename_i h';rw[aH h'] at h;exact absurd rfl h
   · rfl
  unfold qV
  simp -implicitDefEqProofs only[aB,seval,v7]
  refine aT (fun h6=>?_) (fun h6=>?_)
  · simp -implicitDefEqProofs only[hw1,aB,seval]
    rw[aH (by simpa using h6)]
    refine(hrg (a+b) _).to ?_
    simp -implicitDefEqProofs only[aB,seval]
    refine aT (fun h8=>?_) (fun h8=>?_)
    · simp -implicitDefEqProofs only[aB,seval]
      rw[hrn _ (by simpa using h8)]
    · simp -implicitDefEqProofs only[aB,seval]
      rw[show iM (a+b)=(a+b,0) by simpa using h8]
  rw[aG (by simpa using h6)]
  simp -implicitDefEqProofs only[aB,seval]
  refine aT (fun h7=>?_) (fun h7=>?_)
  · simp -implicitDefEqProofs only[hw2,aB,seval]
    rw[aH (by simpa using h7)]
    refine(hrg (a - b) _).to ?_
    simp -implicitDefEqProofs only[aB,seval]
    refine aT (fun h8=>?_) (fun h8=>?_)
    · simp -implicitDefEqProofs only[aB,seval]
      rw[hrn _ (by simpa using h8)]
    · simp -implicitDefEqProofs only[aB,seval]
      rw[show iM (a - b)=(a - b,0) by simpa using h8]
  rw[aG (by simpa using h7)]
  simp -implicitDefEqProofs only[aB,seval]
  refine aT (fun h9=>?_) (fun h9=>?_)
  · simp -implicitDefEqProofs only[hw3,aB,seval]
    rw[aH (by simpa using h9)]
    refine(hrg (a*b) _).to ?_
    simp -implicitDefEqProofs only[aB,seval]
    refine aT (fun h8=>?_) (fun h8=>?_)
    · simp -implicitDefEqProofs only[aB,seval]
      rw[hrn _ (by simpa using h8)]
    · simp -implicitDefEqProofs only[aB,seval]
      rw[show iM (a*b)=(a*b,0) by simpa using h8]
  rw[aG (by simpa using h9)]
  simp -implicitDefEqProofs only[aB,seval]
  refine aT (fun h0=>?_) (fun h0=>?_)
  · simp -implicitDefEqProofs only[aB,seval]
    rw[aH (by simpa using h0)]
  have h0':b≠0:=by simpa using h0
  rw[aG h0']
  have hq:=tdiv_le a b hx
  have hr:=LP a b h0'
  have hf:=aHS a b hx hy h0'
  have hfe:=aU7 a b h0'
  have hw4:=bG (n:=a.tdiv b)
  have hw5:=bG (n:=a.tmod b+b)
  have aWO:iM (a.tdiv b)=(a.tdiv b,0):=by unfold iM;rw[aH hq]
  have aWP:iM (pS a b)=(pS a b,0):=by unfold iM;rw[aH hf]
  simp -implicitDefEqProofs only[hw4,h0',aB,seval,v7]
  refine aT (fun h10=>?_) (fun h10=>?_)
  · simp -implicitDefEqProofs only[hw5,h0',hfe,aB,seval]
    rw[aH (by simpa using h10)]
    refine(hrg (pS a b) _).to ?_
    have hd:decide (iM (pS a b)=(pS a b,0))=true:=by rw[aWP];simp
    simp -implicitDefEqProofs only[hd,aB,seval]
  · simp -implicitDefEqProofs only[aB,seval]
    rw[aG (by simpa using h10)]
    refine(hrg (a.tdiv b) _).to ?_
    have hd:decide (iM (a.tdiv b)=(a.tdiv b,0))=true:=by rw[aWO];simp
    simp -implicitDefEqProofs only[hd,aB,seval]
termination_by t=>SizeOf.sizeOf t
decreasing_by have:=List.sizeOf_lt_of_mem hx;simp only[Tm.mk.sizeOf_spec];omega
theorem NV(n:Int)(st:aA):aD prog 392 [.int .i64 n] st (fun r st'=>r=.tup [.int .i64 (iM n).1,.int .i64 (iM n).2]∧st'=st):=by
 refine wF [1000000] 1 func392 ntmps392 rfl rfl ?_
 intro _
 simp -implicitDefEqProofs only[aB,seval]
 refine cU (fun h=>?_) (fun h=>?_)
 · simp -implicitDefEqProofs only[h,aB,seval]
   have h1:¬n< -999:=by simpa using h
   refine aT (fun h2=>?_) (fun h2=>?_)
   · simp -implicitDefEqProofs only[aB,seval]
     have h2':999<n:=by simpa using h2
     unfold iM
     rw[aG (by omega)]
   · simp -implicitDefEqProofs only[aB,seval]
     have h2':¬ 999<n:=by simpa using h2
     unfold iM
     rw[aH (by omega)]
 · simp -implicitDefEqProofs only[h,aB,seval]
   have h1:n< -999:=by simpa using h
   unfold iM
   rw[aG (by omega)]
abbrev a2C:=zi tI_3 (zi zI_3 (zi a7 (zi tI_4 (zi zI_4 cL))))
theorem aR6(a b:Int)(ha:jH a)(hb:jH b)(h0:b≠0)(st:aA):aD prog 393 [.int .i64 a,.int .i64 b] st (fun r st'=>r=.int .i64 (pS a b)∧st'=st):=by
 have hl:=LP a b h0
 unfold jH at ha hb
 have hw:=bG (n:=a.tmod b+b)
 refine wF [1000000] 2 func393 ntmps393 rfl rfl ?_
 intro _
 simp -implicitDefEqProofs only[h0,aB,seval]
 have hf:pS a b=if a.tmod b≠0∧decide (a.tmod b<0)≠decide (b<0) then a.tmod b+b else a.tmod b:=rfl
 rw[hf]
 clear hf
 generalize hm:a.tmod b=m at *
 refine cU (fun h=>?_) (fun h=>?_)
 · have h':m≠0:=by simpa using h
   simp -implicitDefEqProofs only[h,aB,seval,a2C]
   refine aT (fun h2=>?_) (fun h2=>?_)
   · simp -implicitDefEqProofs only[hw,aB,seval]
     rw[aH ⟨h',by simpa using h2⟩]
   · simp -implicitDefEqProofs only[aB,seval]
     rw[aG (by intro h3;exact h3.2 (by simpa using h2))]
 · have h':m=0:=by simpa using h
   simp -implicitDefEqProofs only[h,aB,seval]
   rw[aG (by intro h3;exact h3.1 h')]
theorem aR4(a b:Int)(ha:jH a)(hb:jH b)(h0:b≠0)(st:aA):aD prog 394 [.int .i64 a,.int .i64 b] st (fun r st'=>r=.int .i64 (a.tdiv b)∧st'=st):=by
 have hl:=tdiv_le a b ha
 have hw:=bG (n:=a.tdiv b)
 refine wF [1000000] 2 func394 ntmps394 rfl rfl ?_
 intro _
 simp -implicitDefEqProofs only[h0,hw,aB,seval]
theorem VX(s:ByteArray)(a b:Int)(hx:jH a)(hy:jH b)(st:aA):aD prog 371 [.str s,.int .i64 a,.int .i64 b] st (fun r st'=>r=.tup [.int .i64 (qV s a b).1,.int .i64 (qV s a b).2]∧st'=st):=by
 have hMod:=fun h0=>aR6 a b hx hy h0
 have hDiv:=fun h0=>aR4 a b hx hy h0
 unfold jH at hx hy
 have hmul: -998001≤a*b∧a*b≤998001:=by
  have h6:(a*b).natAbs≤998001:=by
   rw[Int.natAbs_mul]
   have:=HO (show a.natAbs≤999 by omega) (show b.natAbs≤999 by omega)
   omega
  omega
 have hw1:=bG (n:=a+b)
 have hw2:=bG (n:=a - b)
 have hw3:=bG (n:=a*b)
 unfold qV
 refine wF [1000000] 3 func371 ntmps371 rfl rfl ?_
 intro _
 simp -implicitDefEqProofs only[aB,seval]
 refine aT (fun h6=>?_) (fun h6=>?_)
 · simp -implicitDefEqProofs only[hw1,aB,seval]
   rw[aH (by simpa using h6)]
   refine(NV _ _).to ?_
   simp -implicitDefEqProofs only[aB,seval]
 rw[aG (by simpa using h6)]
 simp -implicitDefEqProofs only[aB,seval]
 refine aT (fun h7=>?_) (fun h7=>?_)
 · simp -implicitDefEqProofs only[hw2,aB,seval]
   rw[aH (by simpa using h7)]
   refine(NV _ _).to ?_
   simp -implicitDefEqProofs only[aB,seval]
 rw[aG (by simpa using h7)]
 simp -implicitDefEqProofs only[aB,seval]
 refine aT (fun h9=>?_) (fun h9=>?_)
 · simp -implicitDefEqProofs only[hw3,aB,seval]
   rw[aH (by simpa using h9)]
   refine(NV _ _).to ?_
   simp -implicitDefEqProofs only[aB,seval]
 rw[aG (by simpa using h9)]
 simp -implicitDefEqProofs only[aB,seval]
 refine aT (fun h0=>?_) (fun h0=>?_)
 · simp -implicitDefEqProofs only[aB,seval]
   rw[aH (by simpa using h0)]
 have h0':b≠0:=by simpa using h0
 rw[aG h0']
 simp -implicitDefEqProofs only[aB,seval]
 refine aT (fun h10=>?_) (fun h10=>?_)
 · simp -implicitDefEqProofs only[aB,seval]
   rw[aH (by simpa using h10)]
   refine(hMod h0' _).to ?_
   simp -implicitDefEqProofs only[aB,seval]
 · simp -implicitDefEqProofs only[aB,seval]
   rw[aG (by simpa using h10)]
   refine(hDiv h0' _).to ?_
   simp -implicitDefEqProofs only[aB,seval]
theorem H7(s:ByteArray):fP pM s=decide (jD s=1∨jD s=2):=by
 unfold fP pM jD
 simp only[yA,List.any_nil,AU]
 by_cases h1:s=⟨#[43]⟩
 · subst h1;decide
 by_cases h2:s=⟨#[45]⟩
 · subst h2;decide
 by_cases h3:s=⟨#[42]⟩
 · subst h3;decide
 by_cases h4:s=⟨#[47,47]⟩
 · subst h4;decide
 by_cases h5:s=⟨#[109,111,100]⟩
 · subst h5;decide
 simp only[h1,h2,h3,h4,h5,gB,AU,cond_false]
 cases (decide (s=⟨#[61]⟩)||decide (s=⟨#[92,61]⟩)||decide (s=⟨#[61,61]⟩)||decide (s=⟨#[60]⟩)||decide (s=⟨#[62]⟩)||decide (s=⟨#[61,60]⟩)||decide (s=⟨#[62,61]⟩)||decide (s=⟨#[61,58,61]⟩)||decide (s=⟨#[105,115]⟩))<;>rfl
abbrev rP:=zi tI_3 (zi zI_3 (zi a7 (zi tI_9 (zi zI_9 (zi d9 (zi tI_31 (zi zI_31 (zi aR (zi bO (zi bP (zi cF (zi tI_66 (zi zI_66 (zi b9 (zi cA (zi cB (zi cC bZ)))))))))))))))))
theorem IM{N:Int}:∀(t:Tm) (st:aA),cH N t→aD prog 327 [t.av] st (fun r st'=>r=.tup [.int .i64 t.ev.1,.int .i64 t.ev.2]∧st'=st)
 | .mk k n s ts,st,hok=>by
  obtain⟨h1,h2⟩:=hok.all
  have IH:=fun(x:Tm) (hx:x∈ts) st=>IM x st (h2 x hx)
  rw[Tm.wZ]
  simp only[bA]
  refine wF [1000000] 1 func327 ntmps327 rfl rfl ?_
  intro _
  simp -implicitDefEqProofs only[aB,seval,rP]
  refine aT (fun hk1=>?_) (fun hk1=>?_)
  · simp -implicitDefEqProofs only[aB,seval]
    simp only[bM] at hk1
    rw[aG (by omega),aH hk1]
  simp only[cM] at hk1
  rw[aG hk1]
  simp -implicitDefEqProofs only[aB,seval]
  refine aT (fun hk=>?_) (fun hk=>?_)
  · simp -implicitDefEqProofs only[aB,seval,rP]
    simp only[bM] at hk
    simp [hk]
  simp only[cM] at hk
  rw[aG hk]
  simp -implicitDefEqProofs only[aB,seval,rP]
  refine(VU s _).to ?_
  simp -implicitDefEqProofs only[aE,aB,seval,rP]
  have hty:∀s0:aA,ts.length≠2∨fP pM s=false→(if fP pM s=true then two (qV s) (ts.map Tm.ev) else(0,3))=((0:Int),(3:Int)):=fun _ h=>by
   split
   · rename_i h3
     rcases h with h | h
     · match ts,h with
       | [],_=>rfl
       | [x],_=>rfl
       | [x,y],h=>simp at h
       | x::y::z::l,_=>rfl
     · rw[h] at h3;cases h3
   · rfl
  refine cU (fun h=>?_) (fun h=>?_)
  case refine_2=>
   simp -implicitDefEqProofs only[h,aB,seval]
   rw[hty st (.inl (by simp at h;omega))]
  simp -implicitDefEqProofs only[h,aB,seval]
  have aIV:fP pM s=false→jD s≠1∧jD s≠2:=fun h=>by
   rw[H7] at h
   have:=of_decide_eq_false h
   omega
  refine cU (fun h3=>?_) (fun h3=>?_)
  · simp -implicitDefEqProofs only[h3,aB,seval]
    have h3':jD s≠1:=by simp at h3;omega
    refine aT (fun h6=>?_) (fun h6=>?_)
    · have h6':jD s≠2:=by simp at h6;omega
      simp -implicitDefEqProofs only[aB,seval]
      rw[hty st (.inr (by rw[H7];simp [h3',h6']))]
    · have h6':jD s=2:=by simp at h6;omega
      have hin:fP pM s=true:=by rw[H7];simp [h6']
      simp -implicitDefEqProofs only[aB,seval,rP]
      rw[aH hin]
      clear hty aIV
      obtain⟨x,y,rfl⟩:=SW (by simpa using h)
      have dW:dM prog 31 (.slice [x.av,y.av]) (.int .i64 0)=some (.pptr x.av):=bH (av:=Tm.av) (l:=[x,y]) (i:=0) aR rfl (aO x)
      have f8:dM prog 31 (.slice [x.av,y.av]) (.int .i64 1)=some (.pptr y.av):=bH (av:=Tm.av) (l:=[x,y]) (i:=1) aR rfl (aO y)
      have hx:=Tm.tR x (h2 x (by simp))
      have hy:=Tm.tR y (h2 y (by simp))
      have IHx:=fun st=>IH x (by simp) st
      have IHy:=fun st=>IH y (by simp) st
      simp only[bR,bQ,two,both]
      simp -implicitDefEqProofs only[dW,cE,aO,aB,↓aY,seval,rP]
      refine(IHx _).to ?_
      generalize x.ev.1=a at *
      generalize x.ev.2=ca at *
      generalize y.ev.1=b at *
      generalize y.ev.2=cb at *
      simp -implicitDefEqProofs only[aB,seval]
      refine aT (fun h4=>?_) (fun h4=>?_)
      · simp -implicitDefEqProofs only[aB,seval]
        have h4':ca≠0:=by simpa using h4
        rw[aH h4']
      have h4':ca=0:=by simpa using h4
      subst h4'
      rw[aG (by simp)]
      simp -implicitDefEqProofs only[f8,cE,aO,aB,seval,rP]
      refine(IHy _).to ?_
      simp -implicitDefEqProofs only[aB,seval]
      refine aT (fun h5=>?_) (fun h5=>?_)
      · simp -implicitDefEqProofs only[aB,seval]
        have h5':cb≠0:=by simpa using h5
        rw[aH h5']
      have h5':cb=0:=by simpa using h5
      subst h5'
      rw[aG (by simp)]
      simp -implicitDefEqProofs only[aB,seval,rP]
      refine(VX s a b hx hy _).to ?_
      simp -implicitDefEqProofs only[aB,seval]
  · have h3':jD s=1:=by simp at h3;omega
    have hin:fP pM s=true:=by rw[H7];simp [h3']
    simp -implicitDefEqProofs only[h3,aB,seval,rP]
    rw[aH hin]
    clear hty aIV
    obtain⟨x,y,rfl⟩:=SW (by simpa using h)
    have dW:dM prog 31 (.slice [x.av,y.av]) (.int .i64 0)=some (.pptr x.av):=bH (av:=Tm.av) (l:=[x,y]) (i:=0) aR rfl (aO x)
    have f8:dM prog 31 (.slice [x.av,y.av]) (.int .i64 1)=some (.pptr y.av):=bH (av:=Tm.av) (l:=[x,y]) (i:=1) aR rfl (aO y)
    have hx:=Tm.tR x (h2 x (by simp))
    have hy:=Tm.tR y (h2 y (by simp))
    have IHx:=fun st=>IH x (by simp) st
    have IHy:=fun st=>IH y (by simp) st
    simp only[bR,bQ,two,both]
    simp -implicitDefEqProofs only[dW,cE,aO,aB,↓aY,seval,rP]
    refine(IHx _).to ?_
    generalize x.ev.1=a at *
    generalize x.ev.2=ca at *
    generalize y.ev.1=b at *
    generalize y.ev.2=cb at *
    simp -implicitDefEqProofs only[aB,seval]
    refine aT (fun h4=>?_) (fun h4=>?_)
    · simp -implicitDefEqProofs only[aB,seval]
      have h4':ca≠0:=by simpa using h4
      rw[aH h4']
    have h4':ca=0:=by simpa using h4
    subst h4'
    rw[aG (by simp)]
    simp -implicitDefEqProofs only[f8,cE,aO,aB,seval,rP]
    refine(IHy _).to ?_
    simp -implicitDefEqProofs only[aB,seval]
    refine aT (fun h5=>?_) (fun h5=>?_)
    · simp -implicitDefEqProofs only[aB,seval]
      have h5':cb≠0:=by simpa using h5
      rw[aH h5']
    have h5':cb=0:=by simpa using h5
    subst h5'
    rw[aG (by simp)]
    simp -implicitDefEqProofs only[aB,seval,rP]
    refine(VX s a b hx hy _).to ?_
    simp -implicitDefEqProofs only[aB,seval]
termination_by t=>SizeOf.sizeOf t
decreasing_by have:=List.sizeOf_lt_of_mem hx;simp only[Tm.mk.sizeOf_spec];omega
abbrev aM2:=zi tI_3 (zi zI_3 (zi a7 (zi tI_46 (zi zI_46 (zi cW (zi eJ (zi eF eY)))))))
theorem U6(l:List Int)(v:Int)(st:aA):aD prog 128 [.slice (l.map iv),.int .i64 v] st (fun r st'=>r=.int .i64 (eQ v l 0)∧st'=st):=by
 refine wF [] 2 func128 ntmps128 rfl rfl ?_
 simp only[dK,AV.fits,dT,aE]
 intro ⟨hl,_⟩
 simp -implicitDefEqProofs only[aE,aB,seval,aM2]
 refine dL (σ:=Unit) [] [0,1,7] l (fun i _=>eQ v l 0=eQ v (l.drop i) i) (fun i _=>[(8,.int .i64 i)]) (fun _ _=>st) (by decide +kernel) ⟨(),rfl,aN.mk (by simp -implicitDefEqProofs only[aB,↓aY,seval])⟩ (fun i x _ hx hlt bB hdr hinv=>?_) (fun _ hge hinv=>?_)
 case refine_2=>
  simp -implicitDefEqProofs only[hge,aB,seval]
  rw[hinv,gT]
  try rfl
 rw[hdr,eQ] at hinv
 have hw:=bG (n:=(i:Int)+1)
 simp -implicitDefEqProofs only[bB,bH (av:=iv) cW hx rfl,aB,seval,aM2]
 refine aT (fun h=>?_) (fun h=>?_)
 · simp only[bM] at h
   rw[aH h] at hinv
   simp -implicitDefEqProofs only[hinv,aB,seval]
 · simp only[cM] at h
   rw[aG h] at hinv
   simp -implicitDefEqProofs only[aB,seval]
   exact⟨(),by rw[hinv],aN.mk (by simp -implicitDefEqProofs only[hw,aB,seval])⟩
theorem aP7(l:List Int)(v:Int)(st:aA):aD prog 272 [.slice (l.map iv),.int .i64 v] st (fun r st'=>r=.bool (decide (v∈l))∧st'=st):=by
 refine wF [] 2 func272 ntmps272 rfl rfl ?_
 intro _
 simp -implicitDefEqProofs only[aB,seval]
 refine(U6 l v st).to ?_
 simp -implicitDefEqProofs only[aJI v l 0 (Int.le_refl 0),aB,seval]
theorem a1A{st:aA}{b:Nat}{l:List Int}{os xs:List AV}(h:Seen (bV st b (l.map iv)) dH os xs):Seen (bV st b (l.map iv)) dH (bS 1 b (l.map iv)::os) (.slice (l.map iv)::xs):=
 Seen.own (aZ8 (aW.flat (by simp [AV.flat])) (by intro e h;simp only[bY] at h;obtain⟨t,_,rfl⟩:=h;rfl)) h
def Grown(st:aA)(l:List Int)(r:AV)(st':aA):Prop:=∃b',r=bS 1 b' (l.map iv)∧st'=bV st b' (l.map iv)∧(l.map iv≠[]→st b'=none)
abbrev rS:=zi tI_3 (zi zI_3 (zi a7 (zi tI_4 (zi zI_4 (zi cL (zi tI_31 (zi zI_31 (zi aR (zi bO (zi bP (zi cF (zi tI_46 (zi zI_46 (zi cW (zi eJ (zi eF (zi eY (zi tI_66 (zi zI_66 (zi b9 (zi cA (zi cB (zi cC bZ)))))))))))))))))))))))
theorem U7:∀(t:Tm) (l:List Int) (b:Nat) (st:aA),(l.map iv≠[]→st b=none)→l.length+t.nodes≤1099511627776→aD prog 209 [t.av,bS 1 b (l.map iv)] (bV st b (l.map iv)) (Grown st (t.vars l))
 | .mk k n s ts,l,b,st,hb,hsz=>by
  have IH:=fun(x:Tm) (hx:x∈ts)=>U7 x
  simp only[Tm.vars]
  rw[Tm.kG] at hsz
  refine wF [] 2 func209 ntmps209 rfl rfl ?_
  simp only[bA,dK,AV.fits,dT,aE]
  intro ⟨⟨_,_,_,hl,_⟩,_⟩
  simp -implicitDefEqProofs only[aB,seval,rS]
  refine cU (fun h=>?_) (fun h=>?_)
  · simp only[bM] at h
    subst h
    simp -implicitDefEqProofs only[aB,seval,rS]
    refine(aD.see (fun s=>aP7 l n s) (a1A (Seen.same .nil)) rfl).to ?_
    simp -implicitDefEqProofs only[aB,seval]
    refine aT (fun h=>?_) (fun h=>?_)
    · simp only[gW,cM] at h
      rw[aH h]
      simp -implicitDefEqProofs only[aB,seval,rS]
      refine f9 cW eJ eF rfl rfl (g9 rfl rfl) (by intro e h;simp only[bY] at h;obtain⟨t,_,rfl⟩:=h;rfl) hb (by simp;omega) (by simp;omega) (fun b' hb'=>?_)
      rw[show l.map iv++ [AV.int .i64 n]=(l++ [n]).map iv by simp] at hb' ⊢
      simp -implicitDefEqProofs only[aB,seval,rS]
      refine dL (σ:=List Int×Nat) [] [4,23,24] ts (fun i p=>bX (ts.drop i) p.1=bX ts (l++ [n])∧p.1.length+aL Tm.nodes (ts.drop i)≤1099511627776∧(p.1.map iv≠[]→st p.2=none)) (fun i p=>[(1,bS 1 p.2 (p.1.map iv)),(25,.int .i64 i)]) (fun _ p=>bV st p.2 (p.1.map iv)) (by decide +kernel)
       ⟨(l++ [n],b'),⟨rfl,by simp;omega,hb'⟩,aN.mk (by simp -implicitDefEqProofs only[aE,aB,↓aY,seval])⟩ (fun i x p hx hlt bB hdr hinv=>?_) (fun p hge hinv=>?_)
      case refine_2=>
       simp -implicitDefEqProofs only[aE,hge,aB,seval]
       rw[←hinv.1,gT]
       exact⟨p.2,rfl,rfl,hinv.2.2⟩
      obtain⟨acc,b⟩:=p
      rw[hdr] at hinv
      obtain⟨i1,i2,i3⟩:=hinv
      simp only[aL] at i2
      have hw:=bG (n:=(i:Int)+1)
      simp -implicitDefEqProofs only[aE,bB,bH (av:=Tm.av) aR hx (aO x),cE,aO,aB,seval,rS]
      intro b2 hb2
      obtain⟨hn2,hne⟩:=H2 hb2
      have hc2: [AV.int IntKind.i64 0,AV.int IntKind.i64 0,AV.str ⟨#[]⟩,AV.fslice []].length=4:=rfl
      try simp -implicitDefEqProofs only[eA,z7 (x:=x.av.cells) (Tm.fN x) hc2,Tm.fN,Tm.d5,rO (Tm.fN x),qU (cE x),cO,aB,↓aY,seval,rS]
      rw[uT hne]
      refine(IH x (cG hx) acc b _ (fun h=>by rw[aA.aF _ _ (dF (hne h))];exact i3 h) (by omega)).mono ?_
      rintro _ _ ⟨b',rfl,rfl,hb'⟩
      simp -implicitDefEqProofs only[hw,aB,seval]
      obtain⟨hd,zA⟩:=H1 (o:=.cells x.av.cells) hn2 hb'
      have hvl:=Tm.DU x acc
      refine⟨(x.vars acc,b'),⟨i1,by simp only;omega,zA⟩,aN.drop hd (by simp -implicitDefEqProofs only[aB,seval])⟩
    · simp only[kJ,bM] at h
      rw[aG (by simp [h])]
      simp -implicitDefEqProofs only[aB,seval,rS]
      refine dL (σ:=List Int×Nat) [] [4,23,24] ts (fun i p=>bX (ts.drop i) p.1=bX ts (l)∧p.1.length+aL Tm.nodes (ts.drop i)≤1099511627776∧(p.1.map iv≠[]→st p.2=none)) (fun i p=>[(1,bS 1 p.2 (p.1.map iv)),(25,.int .i64 i)]) (fun _ p=>bV st p.2 (p.1.map iv)) (by decide +kernel)
       ⟨(l,b),⟨rfl,by simp;omega,hb⟩,aN.mk (by simp -implicitDefEqProofs only[aE,aB,↓aY,seval])⟩ (fun i x p hx hlt bB hdr hinv=>?_) (fun p hge hinv=>?_)
      case refine_2=>
       simp -implicitDefEqProofs only[aE,hge,aB,seval]
       rw[←hinv.1,gT]
       exact⟨p.2,rfl,rfl,hinv.2.2⟩
      obtain⟨acc,b⟩:=p
      rw[hdr] at hinv
      obtain⟨i1,i2,i3⟩:=hinv
      simp only[aL] at i2
      have hw:=bG (n:=(i:Int)+1)
      simp -implicitDefEqProofs only[aE,bB,bH (av:=Tm.av) aR hx (aO x),cE,aO,aB,seval,rS]
      intro b2 hb2
      obtain⟨hn2,hne⟩:=H2 hb2
      have hc2: [AV.int IntKind.i64 0,AV.int IntKind.i64 0,AV.str ⟨#[]⟩,AV.fslice []].length=4:=rfl
      try simp -implicitDefEqProofs only[eA,z7 (x:=x.av.cells) (Tm.fN x) hc2,Tm.fN,Tm.d5,rO (Tm.fN x),qU (cE x),cO,aB,↓aY,seval,rS]
      rw[uT hne]
      refine(IH x (cG hx) acc b _ (fun h=>by rw[aA.aF _ _ (dF (hne h))];exact i3 h) (by omega)).mono ?_
      rintro _ _ ⟨b',rfl,rfl,hb'⟩
      simp -implicitDefEqProofs only[hw,aB,seval]
      obtain⟨hd,zA⟩:=H1 (o:=.cells x.av.cells) hn2 hb'
      have hvl:=Tm.DU x acc
      refine⟨(x.vars acc,b'),⟨i1,by simp only;omega,zA⟩,aN.drop hd (by simp -implicitDefEqProofs only[aB,seval])⟩
  · simp only[mC,cM] at h
    rw[aG (by simp [h])]
    simp -implicitDefEqProofs only[h,aB,seval,rS]
    refine dL (σ:=List Int×Nat) [] [4,23,24] ts (fun i p=>bX (ts.drop i) p.1=bX ts (l)∧p.1.length+aL Tm.nodes (ts.drop i)≤1099511627776∧(p.1.map iv≠[]→st p.2=none)) (fun i p=>[(1,bS 1 p.2 (p.1.map iv)),(25,.int .i64 i)]) (fun _ p=>bV st p.2 (p.1.map iv)) (by decide +kernel)
     ⟨(l,b),⟨rfl,by simp;omega,hb⟩,aN.mk (by simp -implicitDefEqProofs only[aE,aB,↓aY,seval])⟩ (fun i x p hx hlt bB hdr hinv=>?_) (fun p hge hinv=>?_)
    case refine_2=>
     simp -implicitDefEqProofs only[aE,hge,aB,seval]
     rw[←hinv.1,gT]
     exact⟨p.2,rfl,rfl,hinv.2.2⟩
    obtain⟨acc,b⟩:=p
    rw[hdr] at hinv
    obtain⟨i1,i2,i3⟩:=hinv
    simp only[aL] at i2
    have hw:=bG (n:=(i:Int)+1)
    simp -implicitDefEqProofs only[aE,bB,bH (av:=Tm.av) aR hx (aO x),cE,aO,aB,seval,rS]
    intro b2 hb2
    obtain⟨hn2,hne⟩:=H2 hb2
    have hc2: [AV.int IntKind.i64 0,AV.int IntKind.i64 0,AV.str ⟨#[]⟩,AV.fslice []].length=4:=rfl
    try simp -implicitDefEqProofs only[eA,z7 (x:=x.av.cells) (Tm.fN x) hc2,Tm.fN,Tm.d5,rO (Tm.fN x),qU (cE x),cO,aB,↓aY,seval,rS]
    rw[uT hne]
    refine(IH x (cG hx) acc b _ (fun h=>by rw[aA.aF _ _ (dF (hne h))];exact i3 h) (by omega)).mono ?_
    rintro _ _ ⟨b',rfl,rfl,hb'⟩
    simp -implicitDefEqProofs only[hw,aB,seval]
    obtain⟨hd,zA⟩:=H1 (o:=.cells x.av.cells) hn2 hb'
    have hvl:=Tm.DU x acc
    refine⟨(x.vars acc,b'),⟨i1,by simp only;omega,zA⟩,aN.drop hd (by simp -implicitDefEqProofs only[aB,seval])⟩
termination_by t=>SizeOf.sizeOf t
decreasing_by have:=List.sizeOf_lt_of_mem hx;simp only[Tm.mk.sizeOf_spec];omega
abbrev SP:=zi tI_3 (zi zI_3 (zi a7 (zi tI_31 (zi zI_31 (zi aR (zi bO (zi bP (zi cF (zi tI_46 (zi zI_46 (zi cW (zi eJ (zi eF (zi eY (zi tI_66 (zi zI_66 (zi b9 (zi cA (zi cB (zi cC bZ))))))))))))))))))))
theorem N6(l:List Tm)(st:aA)(hsz:aL Tm.nodes l≤1099511627776):aD prog 126 [.slice (l.map Tm.av)] st (fun r st'=>r=.slice ((bX l []).map iv)∧st'=st):=by
 refine aD.fin ?_
 refine wF [] 1 func126 ntmps126 rfl rfl ?_
 simp only[dK,AV.fits,dT,aE]
 intro ⟨hl,_⟩
 simp -implicitDefEqProofs only[aE,aB,seval,SP]
 refine dL (σ:=List Int×Nat) [] [2,6,7] l (fun i p=>bX (l.drop i) p.1=bX l ([])∧p.1.length+aL Tm.nodes (l.drop i)≤1099511627776∧(p.1.map iv≠[]→st p.2=none)) (fun i p=>[(3,bS 1 p.2 (p.1.map iv)),(8,.int .i64 i)]) (fun _ p=>bV st p.2 (p.1.map iv)) (by decide +kernel)
  ⟨([],0),⟨rfl,by simp;omega,by simp⟩,aN.mk (by simp -implicitDefEqProofs only[bQ,lJ,aB,↓aY,seval])⟩ (fun i x p hx hlt bB hdr hinv=>?_) (fun p hge hinv=>?_)
 case refine_2=>
  simp -implicitDefEqProofs only[hge,aB,seval]
  rw[←hinv.1,gT]
  exact⟨p.2,p.1.map iv,st,rfl,hinv.2.2,by simp [AV.cD],⟨1,aJO p.1⟩,nL,rfl⟩
 obtain⟨acc,b⟩:=p
 rw[hdr] at hinv
 obtain⟨i1,i2,i3⟩:=hinv
 simp only[aL] at i2
 have hw:=bG (n:=(i:Int)+1)
 simp -implicitDefEqProofs only[bB,bH (av:=Tm.av) aR hx (aO x),cE,aO,aB,seval,SP]
 intro b2 hb2
 obtain⟨hn2,hne⟩:=H2 hb2
 have mJ:∀zs:List AV,zs.length=4→aP zs 0 x.av.cells=x.av.cells:=fun zs h=>z7 (Tm.fN x) h
 try simp -implicitDefEqProofs only[eA,mJ,Tm.fN,Tm.d5,rO (Tm.fN x),qU (cE x),cO,aB,↓aY,seval,SP]
 rw[uT hne]
 refine(U7 x acc b _ (fun h=>by rw[aA.aF _ _ (dF (hne h))];exact i3 h) (by omega)).mono ?_
 rintro _ _ ⟨b',rfl,rfl,hb'⟩
 simp -implicitDefEqProofs only[hw,aB,seval]
 obtain⟨hd,zA⟩:=H1 (o:=.cells x.av.cells) hn2 hb'
 have hvl:=Tm.DU x acc
 exact⟨(x.vars acc,b'),⟨i1,by simp only;omega,zA⟩,aN.drop hd (by simp -implicitDefEqProofs only[aB,seval])⟩
abbrev G5:=zi tI_3 (zi zI_3 (zi a7 (zi tI_31 (zi zI_31 (zi aR (zi bO (zi bP (zi cF (zi tI_46 (zi zI_46 (zi cW (zi eJ (zi eF (zi eY (zi tI_66 (zi zI_66 (zi b9 (zi cA (zi cB (zi cC bZ))))))))))))))))))))
theorem ET:∀(t:Tm) (l:List Int) (b:Nat) (st:aA),t.wf=true→(l.map iv≠[]→st b=none)→l.length+t.nodes≤1099511627776→aD prog 236 [bS 1 b (l.map iv),t.av] (bV st b (l.map iv)) (Grown st (t.vars l))
 | .mk k n s ts,l,b,st,hwf,hb,hsz=>by
  obtain⟨hk,aXS⟩:=Tm.S7 hwf
  have IH:=fun(x:Tm) (hx:x∈ts) l b st=>ET x l b st (aXS x hx)
  have haL:=BN (w:=1) (b:=b) (l:=l.map iv) eY
  simp only[Tm.vars]
  rw[Tm.kG] at hsz
  refine wF [] 2 func236 ntmps236 rfl rfl ?_
  simp only[bA,dK,AV.fits,dT,aE]
  intro ⟨_,⟨_,_,_,hl,_⟩⟩
  simp -implicitDefEqProofs only[aB,seval,G5]
  refine aT (fun h=>?_) (fun h=>?_)
  · simp only[bM] at h
    obtain rfl:=hk h
    subst h
    simp -implicitDefEqProofs only[aB,seval]
    have hnn:l.length≤1099511627776:=by omega
    refine dL (σ:=Unit) [] [0,3] l (fun i _=>∀y∈l.take i,y≠n) (fun i _=>[(5,.int .i64 i)]) (fun _ _=>bV st b (l.map iv)) (by decide +kernel) ⟨(),by simp,aN.mk (by simp -implicitDefEqProofs only[aB,↓aY,seval])⟩ (fun i x _ hx hlt bB hdr hinv=>?_) (fun _ hge hinv=>?_)
    case refine_2=>
     rw[dQ] at hinv
     have eX:n∉l:=fun h=>hinv n h rfl
     simp -implicitDefEqProofs only[haL,aE,hge,aB,seval,G5]
     refine f9 cW eJ eF rfl rfl (g9 rfl rfl) (aJO l) hb (by simp;omega) (by simp;omega) (fun b' hb'=>?_)
     rw[show l.map iv++ [AV.int .i64 n]=(l++ [n]).map iv by simp] at hb' ⊢
     simp -implicitDefEqProofs only[aB,seval]
     exact⟨b',by simp [bX,eX],by simp [bX,eX],by simp only[bX,eX,GG,dX];exact hb'⟩
    have hat:=UF (b:=b) (l:=l.map iv) (i:=i) (x:=iv x) cW (by rw[kS,hx];try rfl)
    obtain⟨fO,lZ⟩:=UG (st:=st) (b:=b) hx
    have hw:=bG (n:=(i:Int)+1)
    simp -implicitDefEqProofs only[haL,aE,bB,aB,seval]
    refine yQ mixed (by decide +kernel) (by decide +kernel) ?_
    simp -implicitDefEqProofs only[hat,fO,lZ,uM,aB,seval,G5]
    refine aT (fun h=>?_) (fun h=>?_)
    · simp only[bM] at h
      subst h
      have eX:=cG hx
      simp -implicitDefEqProofs only[aB,seval]
      exact⟨b,by simp [bX,eX],by simp [bX,eX],by simp only[bX,eX,KJ,cS];exact hb⟩
    · simp only[cM] at h
      simp -implicitDefEqProofs only[aB,seval]
      refine⟨(),?_,aN.mk (by simp -implicitDefEqProofs only[hw,aB,seval])⟩
      intro y hy
      rw[eH,hx] at hy
      rcases dS.1 hy with hy | hy
      · exact hinv y hy
      · simp at hy;subst hy;exact h
  · simp only[cM] at h
    rw[aG (by simp [h])]
    simp -implicitDefEqProofs only[aB,seval]
    refine dL (σ:=List Int×Nat) [] [3,4] ts (fun i p=>bX (ts.drop i) p.1=bX ts l∧p.1.length+aL Tm.nodes (ts.drop i)≤1099511627776∧(p.1.map iv≠[]→st p.2=none)) (fun i p=>[(0,bS 1 p.2 (p.1.map iv)),(6,.int .i64 i)]) (fun _ p=>bV st p.2 (p.1.map iv)) (by decide +kernel)
     ⟨(l,b),⟨rfl,by simp;omega,hb⟩,aN.mk (by simp -implicitDefEqProofs only[aB,↓aY,seval])⟩ (fun i x p hx hlt bB hdr hinv=>?_) (fun p hge hinv=>?_)
    case refine_2=>
     simp -implicitDefEqProofs only[aE,hge,aB,seval,G5]
     rw[←hinv.1,gT]
     exact⟨p.2,rfl,rfl,hinv.2.2⟩
    obtain⟨acc,b⟩:=p
    rw[hdr] at hinv
    obtain⟨i1,i2,i3⟩:=hinv
    simp only[aL] at i2
    have hw:=bG (n:=(i:Int)+1)
    simp -implicitDefEqProofs only[aE,bB,bH (av:=Tm.av) aR hx (aO x),cE,aO,aB,seval,G5]
    refine(IH x (cG hx) acc b st i3 (by omega)).mono ?_
    rintro _ _ ⟨b',rfl,rfl,hb'⟩
    have hvl:=Tm.DU x acc
    simp -implicitDefEqProofs only[hw,aB,seval]
    exact⟨(x.vars acc,b'),⟨i1,by simp only;omega,hb'⟩,aN.mk (by simp -implicitDefEqProofs only[aB,seval])⟩
termination_by t=>SizeOf.sizeOf t
decreasing_by have:=List.sizeOf_lt_of_mem hx;simp only[Tm.mk.sizeOf_spec];omega
theorem UQ{A C B:List AV}{n:Nat}(hA:A.length=n)(hC:C.length=4) :
 (n+4≤(A++C++B).length)∧List.take 4 (List.drop n (A++C++B))=C∧(A++C++B)[n+0]?=C[0]?:=by
 refine⟨by simp only[dP];omega,?_,(xK (A:=A) (B:=B) hA).2.2.1 C 0 (by omega)⟩
 rw[←hA,kK,A1,←hC,D4]
abbrev OkN (t:Tm):Prop:=t.jC=true∧t.nodes≤120
end Go.AW
namespace Go.AW
def nB(n:Int):Tm:=.mk 2 n ⟨#[]⟩ []
theorem aYE{n:Int}(h:jH n):(nB n).valid=true:=by
 have ho:(nB n).jC=true:=by
  unfold nB
  rw[Tm.zQ]
  simp [eM,h.1,h.2]
 rw[Tm.aNT ho]
 simp [nB,Tm.kG,aL,Tm.vD]
def gZ(b:Bool):Int:=if b=true then 0 else 1
def IV(s:ByteArray)(a b:Int):Bool:=
 if s=⟨#[60]⟩ then decide (a<b) else if s=⟨#[62]⟩ then decide (b<a) else if s=⟨#[61,60]⟩ then decide (a≤b) else if s=⟨#[62,61]⟩ then decide (b≤a) else decide (a=b)
def s8(s:ByteArray)(x:Tm):Bool:=
 if s=⟨#[118,97,114]⟩ then decide (x.k=1) else if s=⟨#[110,111,110,118,97,114]⟩ then !decide (x.k=1) else if s=⟨#[97,116,111,109]⟩ then decide (x.k=3)&&decide ((x.ts.length:Int)=0) else decide (x.k=2)
def wU(s:ByteArray)(x y:Tm):Int:=(both (fun a b=>(0,gZ (IV s a b))) x.ev y.ev).2
def mG(x y:Tm):Option Tm:=if 1≤x.n∧x.n≤y.ts.length then y.ts[(x.n - 1).toNat]? else none
structure a4N (σ:Sub):Prop where
 gJ:cJ σ
 jC:cK (fun t=>t.jC=true) σ
 okN:cK OkN σ
theorem UM{x y u:Tm}(h:mG x y=some u):u∈y.ts:=by
 unfold mG at h
 split at h
 · exact cG h
 · cases h
theorem UX{s:ByteArray}{n:Nat}(h:isBuiltin s (n:Int)=true) :
 (n=2∧(fP qZ s=true∨s=⟨#[61]⟩∨s=⟨#[92,61]⟩∨s=⟨#[61,61]⟩∨s=⟨#[105,115]⟩))∨(n=0∧(s=⟨#[116,114,117,101]⟩∨s=⟨#[102,97,105,108]⟩)) ∨
 (n=1∧(s=⟨#[118,97,114]⟩∨s=⟨#[110,111,110,118,97,114]⟩∨s=⟨#[97,116,111,109]⟩∨s=⟨#[105,110,116]⟩))∨(n=3∧s=⟨#[97,114,103]⟩):=by
 unfold isBuiltin at h
 simp only[cond_eq_ite] at h
 split at h
 · rename_i h1
   left
   refine⟨by simp at h;omega,?_⟩
   simp only[n7,bM] at h1
   simp only[fP,qZ,yA,List.any_nil,n7,bM,jF,dN]
   rcases h1 with (((((((h1 | h1) | h1) | h1) | h1) | h1) | h1) | h1) | h1<;>simp [h1]
 split at h
 · rename_i h1
   right;left
   refine⟨by simp at h;omega,?_⟩
   simpa using h1
 split at h
 · rename_i h1
   right;right;left
   refine⟨by simp at h;omega,?_⟩
   simp only[n7,bM] at h1
   rcases h1 with ((h1 | h1) | h1) | h1<;>simp [h1]
 split at h
 · rename_i h1
   right;right;right
   exact⟨by simp at h;omega,by simpa using h1⟩
 · cases h
noncomputable def rW(σ:Sub)(a b:Tm):Int×Sub×List Int:=(gZ (iQ σ a b).1,(iQ σ a b).2)
noncomputable def uW(σ:Sub)(x y z:Tm):Int×Sub×List Int:=
 if x.k=1∨y.k=1 then(2,σ,[]) else if x.k≠2∨y.k≠3∨y.ts.length=0 then(3,σ,[]) else match mG x y with
  | some u=>rW σ z u
  | none=>(1,σ,[])
noncomputable def cZ(σ:Sub)(s:ByteArray):List Tm→Int×Sub×List Int
 | []=>(gZ (decide (s=⟨#[116,114,117,101]⟩)),σ,[])
 | [x]=>(gZ (s8 s x),σ,[])
 | [x,y]=>if fP qZ s=true then(wU s x y,σ,[]) else if s=⟨#[61]⟩ then rW σ x y else if s=⟨#[92,61]⟩ then(gZ (!(iQ σ x y).1),σ,[])
  else if s=⟨#[61,61]⟩ then(gZ (x.same y),σ,[]) else if y.ev.2≠0 then(y.ev.2,σ,[]) else rW σ x (nB y.ev.1)
 | [x,y,z]=>uW σ x y z
 | _=>(0,σ,[])
structure mE (N:Int) (σ:Sub) (σ':Sub) (add:List Int):Prop where
 gJ:cJ σ'
 ok:cK (bD N) σ'
 aU:∀n,n∉add→σ' n=σ n
 new:∀n∈add,σ n=none∧σ' n≠none
 nodup:add.Nodup
 fP:∀n∈add,0≤n∧n<N
theorem mE.same{N:Int}{σ:Sub}(hg:cJ σ)(ho:cK (bD N) σ):mE N σ σ []:=⟨hg,ho,fun _ _=>rfl,by simp,lS,by simp⟩
theorem yL.vW{N:Int}{σ:Sub}{a b:Tm}{r:Bool}{σ':Sub}{tr:List Int}(h:yL N σ a b r σ' tr):mE N σ σ' tr:=⟨h.mU.gJ,h.ok,h.mU.aU,h.mU.new,h.mU.nodup,h.fP⟩
theorem mE.mU{N:Nat}{σ:Sub}{a b:Tm}(hg:cJ σ)(ho:cK (bD N) σ)(ha:bD N a)(hb:bD N b):mE N σ (iQ σ a b).2.1 (iQ σ a b).2.2:=by
 obtain⟨r,σ',tr,h⟩:=tD hg ho ha hb
 rw[h.eq]
 exact h.vW
theorem KD{N:Int}{n:Int}(h:jH n):bD N (nB n):=by
 have h1:=aYE h
 have h2:=Tm.HF h1
 refine⟨⟨h2.1,h2.2.1,fun v hv=>?_⟩,Tm.HE h1⟩
 unfold nB at hv
 rw[Tm.lH (by decide)] at hv
 obtain⟨t,ht,_⟩:=hv
 cases ht
theorem UN{N:Int}{x y u:Tm}(hy:bD N y)(hk:y.k≠1)(h:mG x y=some u):bD N u:=p9 N y hk hy u (UM h)
theorem K1{N:Nat}{σ:Sub}(hg:cJ σ)(ho:cK (bD N) σ)(s:ByteArray)(ks:List Tm)(hv:∀x∈ks,bD N x):mE N σ (cZ σ s ks).2.1 (cZ σ s ks).2.2:=by
 have hs:=mE.same hg ho
 match ks,hv with
 | [],_=>exact hs
 | [x],_=>exact hs
 | [x,y],hv=>
  have hx:=hv x (by simp)
  have hy:=hv y (by simp)
  simp only[cZ]
  split
  · exact hs
  split
  · exact mE.mU hg ho hx hy
  split
  · exact hs
  split
  · exact hs
  split
  · exact hs
  · exact mE.mU hg ho hx (KD (Tm.tR y hy.1))
 | [x,y,z],hv=>
  have hy:=hv y (by simp)
  have hz:=hv z (by simp)
  simp only[cZ,uW]
  split
  · exact hs
  rename_i h1
  split
  · exact hs
  split
  · rename_i u hu
    exact mE.mU hg ho hz (UN hy (fun h=>h1 (.inr h)) hu)
  · exact hs
 | a::b::c::d::l,_=>exact hs
theorem aUG(ρ:Int→Int):∀t:Tm,(bT ρ t).ev=t.ev:=by
 intro t
 induction t using Tm.ind with
 | h k n s ts ih=>
  by_cases h1:k=1
  · rw[xN ρ (t:=.mk k n s ts) h1,vr,Tm.wZ,Tm.wZ,h1]
    simp
  rw[vT ρ h1,Tm.wZ,Tm.wZ,r8]
  have:ts.map (Tm.ev∘bT ρ)=ts.map Tm.ev:=qM fun x hx=>ih x hx
  rw[this]
section
variable {ρ:Int→Int} {N:Int} {σ τ:Sub}
theorem fB.back(S:fB ρ N σ τ):∃δ:Int→Int,∀v,0≤v→v<N→δ (ρ v)=v:=by
 refine⟨fun w=>open Classical in if h:∃v,0≤v∧v<N∧ρ v=w then h.choose else 0,fun v h0 h1=>?_⟩
 have h:∃u,0≤u∧u<N∧ρ u=ρ v:=⟨v,h0,h1,rfl⟩
 simp only[dif_pos h]
 obtain⟨a,b,c⟩:=h.choose_spec
 exact S.inj _ _ a b h0 h1 c
theorem fB.a0U(S:fB ρ N σ τ){x y:Tm}(hx:cH N x)(hy:cH N y)(e:bT ρ x=bT ρ y):x=y:=by
 obtain⟨δ,hδ⟩:=S.back
 have key:∀ {t:Tm},cH N t→bT δ (bT ρ t)=t:=fun {t} ht=>by
  rw[show bT δ (bT ρ t)=t.aK fun v=>vr (δ (ρ v)) from GO ρ _ t]
  rw[p8 (g:=vr) t fun v hv=>by rw[hδ v (ht.2.2 v hv).1 (ht.2.2 v hv).2]]
  exact P9 t ht.2.1
 rw[←key hx,e,key hy]
theorem fB.same(S:fB ρ N σ τ){x y:Tm}(hx:cH N x)(hy:cH N y):(bT ρ x).same (bT ρ y)=x.same y:=by
 rw[x9,Tm.zZ,Tm.zZ]
 exact⟨S.a0U hx hy,fun e=>by rw[e]⟩
theorem a2B(ρ:Int→Int)(s:ByteArray)(x:Tm):s8 s (bT ρ x)=s8 s x:=by
 unfold s8
 rw[xM]
 by_cases h:x.k=1
 · rw[h];simp
 · have:(bT ρ x).ts.length=x.ts.length:=by
    rw[C9 ρ h]
    simp only[Tm.ts,aE]
   rw[this]
theorem aPJ(ρ:Int→Int){x y:Tm}(hx:x.k=2)(hy:y.k=3):mG (bT ρ x) (bT ρ y)=(mG x y).map (bT ρ):=by
 obtain⟨k,n,s,ts⟩:=x
 obtain⟨k',n',s',ts'⟩:=y
 simp only[Tm.k] at hx hy
 subst hx hy
 rw[vT ρ (by decide),vT ρ (by decide)]
 unfold mG
 show(if 1≤n∧n≤((ts'.map (bT ρ)).length:Int) then(ts'.map (bT ρ))[(n - 1).toNat]? else none)=Option.map (bT ρ) (if 1≤n∧n≤(ts'.length:Int) then ts'[(n - 1).toNat]? else none)
 by_cases h:1≤n∧n≤(ts'.length:Int)
 · rw[aH h,aH (by rw[aE];exact h),kS]
 · rw[aG h,aG (by rw[aE];exact h)];try rfl
def lV(ρ:Int→Int)(N:Int)(x y:Int×Sub×List Int):Prop:=y.1=x.1∧y.2.2=x.2.2.map ρ∧fB ρ N x.2.1 y.2.1
theorem lV.same(S:fB ρ N σ τ)(c:Int):lV ρ N (c,σ,[]) (c,τ,[]):=⟨rfl,rfl,S⟩
end
section
variable {ρ:Int→Int} {N:Nat} {σ τ:Sub}
theorem lV.mU(S:fB ρ N σ τ)(hg:cJ σ)(hg':cJ τ)(ho:cK (bD N) σ){a b:Tm}(ha:bD N a)(hb:bD N b):lV ρ N (rW σ a b) (rW τ (bT ρ a) (bT ρ b)):=by
 obtain⟨r,σ',tr,h⟩:=tD hg ho ha hb
 obtain⟨g,hg2⟩:=h.run
 obtain⟨τ',e,S',_⟩:=S.iQ hg hg' ho.lP ha.1 hb.1 hg2
 unfold rW
 rw[h.eq,e]
 exact⟨rfl,rfl,S'⟩
theorem a0V(ρ:Int→Int)(n:Int):bT ρ (nB n)=nB n:=vT ρ (by decide)
theorem fB.cZ(S:fB ρ N σ τ)(hg:cJ σ)(hg':cJ τ)(ho:cK (bD N) σ)(s:ByteArray)(ks:List Tm)(hv:∀x∈ks,bD N x):lV ρ N (AW.cZ σ s ks) (AW.cZ τ s (ks.map (bT ρ))):=by
 match ks,hv with
 | [],_=>exact lV.same S _
 | [x],_=>
  simp only[bR,bQ,AW.cZ,a2B]
  exact lV.same S _
 | [x,y],hv=>
  have hx:=hv x (by simp)
  have hy:=hv y (by simp)
  have hu:=lV.mU S hg hg' ho hx hy
  simp only[bR,bQ,AW.cZ,wU,aUG,S.same hx.1 hy.1]
  by_cases h1:fP qZ s=true
  · rw[aH h1,aH h1];exact lV.same S _
  rw[aG h1,aG h1]
  by_cases h2:s=⟨#[61]⟩
  · rw[aH h2,aH h2];exact hu
  rw[aG h2,aG h2]
  by_cases h3:s=⟨#[92,61]⟩
  · rw[aH h3,aH h3]
    obtain⟨r,σ',tr,h⟩:=tD hg ho hx hy
    obtain⟨g,hg2⟩:=h.run
    obtain⟨τ',e,_,_⟩:=S.iQ hg hg' ho.lP hx.1 hy.1 hg2
    rw[h.eq,e]
    exact lV.same S _
  rw[aG h3,aG h3]
  by_cases h4:s=⟨#[61,61]⟩
  · rw[aH h4,aH h4];exact lV.same S _
  rw[aG h4,aG h4]
  by_cases h5:y.ev.2≠0
  · rw[aH h5,aH h5];exact lV.same S _
  rw[aG h5,aG h5]
  have:=lV.mU S hg hg' ho hx (KD (N:=N) (Tm.tR y hy.1))
  rw[a0V] at this
  exact this
 | [x,y,z],hv=>
  have hy:=hv y (by simp)
  have hz:=hv z (by simp)
  simp only[bR,bQ,AW.cZ,uW,xM]
  by_cases h1:x.k=1∨y.k=1
  · rw[aH h1,aH h1];exact lV.same S _
  rw[aG h1,aG h1]
  have hl:(bT ρ y).ts.length=y.ts.length:=by
   rw[C9 ρ (t:=y) (fun h=>h1 (.inr h))]
   simp only[Tm.ts,aE]
  rw[hl]
  by_cases h2:x.k≠2∨y.k≠3∨y.ts.length=0
  · rw[aH h2,aH h2];exact lV.same S _
  rw[aG h2,aG h2]
  have kx:x.k=2:=AY fun h=>h2 (.inl h)
  have ky:y.k=3:=AY fun h=>h2 (.inr (.inl h))
  rw[aPJ ρ kx ky]
  cases hu:mG x y with
  | none=>exact lV.same S _
  | some u=>exact lV.mU S hg hg' ho hz (UN hy (fun h=>h1 (.inr h)) hu)
 | a::b::c::d::l,_=>
  simp only[bR,AW.cZ]
  exact lV.same S _
end
theorem a1V(σ:Sub)(s:ByteArray)(ks:List Tm):0≤(cZ σ s ks).1:=by
 have hc:∀b,0≤gZ b:=fun b=>by unfold gZ;split<;>omega
 have hr:∀n,0≤(iM n).2:=fun n=>by unfold iM;split<;>simp
 have har:∀s a b,0≤(qV s a b).2:=fun s a b=>by
  unfold qV
  split
  · exact hr _
  split
  · exact hr _
  split
  · exact hr _
  split
  · simp
  split
  · simp
  · simp
 have hb:∀(f:Int→Int→Int×Int) (x y:Int×Int),(∀a b,0≤(f a b).2)→0≤x.2→0≤y.2→0≤(both f x y).2:=fun f x y hf hx hy=>by
  unfold both
  split
  · exact hx
  split
  · exact hy
  · exact hf _ _
 have he:∀t:Tm,0≤t.ev.2:=by
  intro t
  induction t using Tm.ind with
  | h k n s ts ih=>
   rw[Tm.wZ]
   split
   · simp
   split
   · simp
   split
   · match ts,ih with
     | [],_=>simp [two]
     | [x],_=>simp [two]
     | [x,y],ih=>exact hb _ _ _ (har s) (ih x (by simp)) (ih y (by simp))
     | x::y::z::l,_=>simp [two]
   · simp
 match ks with
 | []=>exact hc _
 | [x]=>exact hc _
 | [x,y]=>
  simp only[cZ]
  split
  · exact hb _ _ _ (fun _ _=>hc _) (he x) (he y)
  split
  · exact hc _
  split
  · exact hc _
  split
  · exact hc _
  split
  · exact he y
  · exact hc _
 | [x,y,z]=>
  simp only[cZ,uW]
  split
  · simp
  split
  · simp
  split
  · exact hc _
  · simp
 | a::b::c::d::l=>simp [cZ]
abbrev Cl:=Tm×List Tm
def bK:Cl→AV
 | (.mk k n s ts,b)=>.agg [.int .i64 k,.int .i64 n,.str s,.slice (ts.map Tm.av),.slice (b.map Tm.av)]
theorem m7(k n:Int)(s:ByteArray)(ts b:List Tm):bK (.mk k n s ts,b)=.agg [.int .i64 k,.int .i64 n,.str s,.slice (ts.map Tm.av),.slice (b.map Tm.av)]:=rfl
theorem sJ(c:Cl):(bK c).isAgg=true:=by obtain⟨⟨k,n,s,ts⟩,b⟩:=c;rfl
theorem gA(c:Cl):(bK c).width=5:=by obtain⟨⟨k,n,s,ts⟩,b⟩:=c;rfl
theorem IT(c:Cl):(bK c).cells.all AV.storable=true:=by obtain⟨⟨k,n,s,ts⟩,b⟩:=c;rfl
theorem BX(c:Cl):(bK c).cD=false:=by obtain⟨⟨k,n,s,ts⟩,b⟩:=c;rfl
def tL(x y:Cl):Bool:=x.1.same y.1&&g7 Tm.same x.2 y.2
theorem aTL(x:Cl):tL x x=true:=by
 unfold tL
 rw[(Tm.zZ x.1 x.1).2 rfl,(B7 (fun x _ y=>Tm.zZ x y)).2 rfl]
 try rfl
def lY(c:Cl):Nat:=c.1.sz+(c.2.length+aL Tm.sz c.2)
def qY:Cl→Nat
 | (.mk _ _ _ ts,b)=>3+aL Tm.dG ts+aL Tm.dG b
def BY:Cl→Int→Cl
 | (.mk _ _ _ ts,b),j=>(.mk j (j+1) (mt (j+1+1)) (fW Tm.mark Tm.dG ts (j+1+1+1)),fW Tm.mark Tm.dG b (j+1+1+1+(aL Tm.dG ts:Nat)))
theorem N9(k n:Int)(s:ByteArray)(ts b:List Tm):qY (.mk k n s ts,b)=3+aL Tm.dG ts+aL Tm.dG b:=rfl
def QP:Tm→Bool | .mk k _ s ts=>qB k s (ts.length:Int)
def pO(c:Cl):Bool:=c.1.valid&&QP c.1&&(decide (c.2.length≤6)&&c.2.all Tm.goal)
def nV(p:List Cl):Bool:=decide (p.length≤20)&&p.all pO
theorem QO{st:aA}{k n:Int}{s:ByteArray}{ts b:List Tm}{o:AV}{bs:List Nat} :
 aV st (bK (.mk k n s ts,b)) o bs↔∃q b1 q' b2,o=.agg [.int .i64 k,.int .i64 n,.str s,q,q']∧bs=b1++b2∧aV st (.slice (ts.map Tm.av)) q b1∧aV st (.slice (b.map Tm.av)) q' b2:=by
 rw[m7]
 generalize AV.slice (ts.map Tm.av)=x
 generalize AV.slice (b.map Tm.av)=y
 simp only[aV,aW]
 constructor
 · rintro⟨os,rfl,o1,os1,b1,b1',rfl,rfl,⟨rfl,rfl⟩,o2,os2,b2,b2',rfl,rfl,⟨rfl,rfl⟩,o3,os3,b3,b3',rfl,rfl,⟨rfl,rfl⟩,o4,os4,b4,b4',rfl,rfl,h,o6,os6,b6,b6',rfl,rfl,h',rfl,rfl⟩
   exact⟨o4,b4,o6,b6,rfl,by simp,h,h'⟩
 · rintro⟨q,b1,q',b2,rfl,rfl,h,h'⟩
   exact⟨_,rfl,_,_,[],b1++b2,rfl,rfl,⟨rfl,rfl⟩,_,_,[],b1++b2,rfl,rfl,⟨rfl,rfl⟩,_,_,[],b1++b2,rfl,rfl,⟨rfl,rfl⟩,q,_,b1,b2,rfl,rfl,h,q',[],b2,[],rfl,by simp,h',rfl,rfl⟩
end Go.AW
