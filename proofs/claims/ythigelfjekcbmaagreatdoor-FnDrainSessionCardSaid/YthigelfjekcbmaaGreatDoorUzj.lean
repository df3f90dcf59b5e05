/- Unification comes to an end. -/
import Derived.Test.YthigelfjekcbmaaGreatDoorUzi
import Derived.Test.YthigelfjekcbmaaGreatDoorUzf
import Derived.Test.YthigelfjekcbmaaGreatDoorUzh
set_option linter.unusedSimpArgs false
set_option linter.unusedVariables false
set_option maxRecDepth 100000
namespace Go.AW
theorem aS3(g g':Nat)(ih:∀σ a b x,dM g σ a b=some x→dM g' σ a b=some x):∀xs ys σ x,eJ g σ xs ys=some x→eJ g' σ xs ys=some x:=by
 intro xs
 induction xs with
 | nil=>intro ys σ x h;cases ys<;>simpa only[eJ] using h
 | cons a xs ihx=>
  intro ys σ x h
  cases ys with
  | nil=>simpa only[eJ] using h
  | cons b ys=>
   rw[eJ] at h ⊢
   cases h1:dM g σ a b with
   | none=>rw[h1] at h;cases h
   | some p=>
    rw[h1] at h
    rw[ih _ _ _ _ h1]
    obtain⟨r1,σ1,tr1⟩:=p
    cases r1 with
    | false=>exact h
    | true=>
     simp only at h ⊢
     cases h2:eJ g σ1 xs ys with
     | none=>rw[h2] at h;cases h
     | some p2=>rw[h2] at h;rw[ihx ys σ1 p2 h2];exact h
theorem a8J:∀(g:Nat) σ a b x,dM g σ a b=some x→dM (g+1) σ a b=some x:=by
 intro g
 induction g with
 | zero=>intro σ a b x h;simp only[dM] at h;cases h
 | succ g ih=>
  intro σ a b x h
  rw[dM] at h ⊢
  split
  · rename_i hc;rw[aH hc] at h;exact h
  · rename_i hc
    rw[aE hc] at h
    split
    · rename_i hc;rw[aH hc] at h;exact h
    · rename_i hc
      rw[aE hc] at h
      split
      · rename_i hc;rw[aH hc] at h;exact h
      · rename_i hc
        rw[aE hc] at h
        split
        · rename_i hc;rw[aH hc] at h;exact aS3 g (g+1) ih _ _ _ _ h
        · rename_i hc;rw[aE hc] at h;exact h
theorem P5{g g':Nat}(hle:g≤g'){σ:Sub}{a b:Tm}{x:Bool×Sub×List Int}(h:dM g σ a b=some x):dM g' σ a b=some x:=by
 induction hle with
 | refl=>exact h
 | step _ ih=>exact a8J _ _ _ _ _ ih
theorem a8M{g g':Nat}(hle:g≤g'){σ:Sub}{xs ys:List Tm}{x:Bool×Sub×List Int}(h:eJ g σ xs ys=some x):eJ g' σ xs ys=some x:=
 aS3 g g' (fun _ _ _ _ h=>P5 hle h) xs ys σ x h
def vC(σ:Sub)(V:List Int):Nat:=V.countP fun v=>(σ v).isNone
def j7(V:List Int)(t:Tm):Prop:=∀v∈t.vl,v∈V
def nF(V:List Int)(σ:Sub):Prop:=∀n u,σ n=some u→j7 V u
theorem a8F{σ σ':Sub}{tr:List Int}{V:List Int}(a7:∀m,m∉tr→σ' m=σ m)(new:∀m∈tr,σ m=none∧σ' m≠none){m:Int}(hm:m∈tr)(hV:m∈V):vC σ' V<vC σ V:=by
 have mono:∀v,(σ' v).isNone=true→(σ v).isNone=true:=fun v h=>by
  by_cases hv:v∈tr
  · rw[(new v hv).1];try rfl
  · rw[←a7 v hv];exact h
 have le:∀W:List Int,vC σ' W≤vC σ W:=fun W=>List.countP_mono_left fun v _ h=>mono v h
 unfold vC at *
 induction V with
 | nil=>cases hV
 | cons v V ih=>
  simp only[List.countP_cons]
  have hle:=le V
  rcases dB.1 hV with rfl | hV
  · have h1:(σ m).isNone=true:=by rw[(new m hm).1];try rfl
    have h2:(σ' m).isNone=false:=by
     cases h:σ' m with
     | none=>exact absurd h (new m hm).2
     | some _=>rfl
    simp only[h1,h2,fS,jR,d4]
    omega
  · have:=ih hV
    have h3:=mono v
    by_cases h4:(σ' v).isNone=true
    · rw[aH h4,aH (h3 h4)];omega
    · rw[aE h4];split<;>omega
theorem gR.JT{σ:Sub}{V:List Int}(hr:nF V σ){f:Nat}{t u:Tm}(h:gR σ f t u)(ht:j7 V t):j7 V u:=h.all (p:=j7 V) (fun n u hu=>hr n u hu) ht
theorem j7.p6{V:List Int}{t x:Tm}(h:j7 V t)(hk:t.k≠1)(hx:x∈t.ts):j7 V x:=fun v hv=>h v (by cases t;exact(Tm.mI hk).2 ⟨x,hx,hv⟩)
theorem aS1:∀(g:Nat),(∀σ a b r σ' tr V,cX σ→dM g σ a b=some (r,σ',tr)→nF V σ→j7 V a→j7 V b→nF V σ'∧∀m∈tr,m∈V) ∧
 ∀xs ys σ r σ' tr V,cX σ→xs.length=ys.length→eJ g σ xs ys=some (r,σ',tr)→nF V σ→(∀x∈xs,j7 V x)→(∀y∈ys,j7 V y)→nF V σ'∧∀m∈tr,m∈V:=by
 intro g
 have list:∀g,(∀σ a b r σ' tr V,cX σ→dM g σ a b=some (r,σ',tr)→nF V σ→j7 V a→j7 V b→nF V σ'∧∀m∈tr,m∈V) →
  ∀xs ys σ r σ' tr V,cX σ→xs.length=ys.length→eJ g σ xs ys=some (r,σ',tr)→nF V σ→(∀x∈xs,j7 V x)→(∀y∈ys,j7 V y)→nF V σ'∧∀m∈tr,m∈V:=by
  intro g ihU xs
  induction xs with
  | nil=>
   intro ys σ r σ' tr V hg hl h hr _ _
   cases ys with
   | cons _ _=>simp at hl
   | nil=>
    simp only[eJ,Option.some.injEq,Prod.mk.injEq] at h
    obtain⟨rfl,rfl,rfl⟩:=h
    exact⟨hr,fun _ h=>absurd h (dV)⟩
  | cons a xs ih=>
   intro ys σ r σ' tr V hg hl h hr hx hy
   cases ys with
   | nil=>simp at hl
   | cons b ys=>
    rw[eJ] at h
    cases h1:dM g σ a b with
    | none=>rw[h1] at h;cases h
    | some p=>
     obtain⟨r1,σ1,tr1⟩:=p
     have U1:=yL hg h1
     obtain⟨i1,i2⟩:=ihU σ a b r1 σ1 tr1 V hg h1 hr (hx a (by simp)) (hy b (by simp))
     rw[h1] at h
     cases r1 with
     | false=>
      simp only[Option.some.injEq,Prod.mk.injEq] at h
      obtain⟨rfl,rfl,rfl⟩:=h
      exact⟨i1,i2⟩
     | true=>
      simp only at h
      cases h2:eJ g σ1 xs ys with
      | none=>rw[h2] at h;cases h
      | some p2=>
       obtain⟨r2,σ2,tr2⟩:=p2
       rw[h2] at h
       simp only[Option.some.injEq,Prod.mk.injEq] at h
       obtain⟨rfl,rfl,rfl⟩:=h
       obtain⟨j1,j2⟩:=ih ys σ1 r2 σ2 tr2 V U1.iR (by simpa using hl) h2 i1 (fun x h=>hx x (by simp [h])) (fun y h=>hy y (by simp [h]))
       exact⟨j1,fun m hm=>(eK.1 hm).elim (i2 m) (j2 m)⟩
 induction g with
 | zero=>
  have h0:∀σ a b r σ' tr V,cX σ→dM 0 σ a b=some (r,σ',tr)→nF V σ→j7 V a→j7 V b→nF V σ'∧∀m∈tr,m∈V:=fun σ a b r σ' tr V hg h=>by simp only[dM] at h;cases h
  exact⟨h0,list 0 h0⟩
 | succ g ih=>
  suffices hU:∀σ a b r σ' tr V,cX σ→dM (g+1) σ a b=some (r,σ',tr)→nF V σ→j7 V a→j7 V b→nF V σ'∧∀m∈tr,m∈V from ⟨hU,list _ hU⟩
  intro σ a b r σ' tr V hg h hr ha hb
  obtain⟨_,ihL⟩:=ih
  obtain⟨rk,B,G⟩:=hg.rs
  obtain⟨fa,wa⟩:=G.wk a
  obtain⟨fb,wb⟩:=G.wk b
  have va:=wa.JT hr ha
  have vb:=wb.JT hr hb
  have bn:∀n (t:Tm) r σ' tr,n∈V→j7 V t→lA σ n t=(r,σ',tr)→nF V σ'∧∀m∈tr,m∈V:=by
   intro n t r σ' tr hn ht h
   unfold lA at h
   split at h<;>cases h
   · exact⟨hr,fun _ h=>absurd h (dV)⟩
   · refine⟨fun m u hu=>?_,fun m hm=>by simp only[dB,dV,eA] at hm;rw[hm];exact hn⟩
     simp only[Sub.set] at hu
     split at hu
     · cases hu;exact ht
     · exact hr m u hu
  rw[dM] at h
  generalize wk σ a=a at *
  generalize wk σ b=b at *
  split at h
  · simp only[Option.some.injEq,Prod.mk.injEq] at h
    obtain⟨rfl,rfl,rfl⟩:=h
    exact⟨hr,fun _ h=>absurd h (dV)⟩
  · split at h
    · rename_i hk
      exact bn _ _ _ _ _ (va _ (by rw[Tm.G5 hk];simp)) vb (jL h)
    · rename_i hka
      split at h
      · rename_i hk
        exact bn _ _ _ _ _ (vb _ (by rw[Tm.G5 hk];simp)) va (jL h)
      · rename_i hkb
        split at h
        · rename_i hh
          exact ihL a.ts b.ts σ r σ' tr V hg (uK.1 hh).2.2.2 h hr (fun x hx=>va.p6 hka hx) (fun y hy=>vb.p6 hkb hy)
        · simp only[Option.some.injEq,Prod.mk.injEq] at h
          obtain⟨rfl,rfl,rfl⟩:=h
          exact⟨hr,fun _ h=>absurd h (dV)⟩
def c9(p:Tm→Prop)(σ:Sub):Prop:=∀n u,σ n=some u→p u
theorem P6{p:Tm→Prop}(hp:∀t:Tm,t.k≠1→p t→∀x∈t.ts,p x):∀(g:Nat),(∀σ a b r σ' tr,cX σ→dM g σ a b=some (r,σ',tr)→c9 p σ→p a→p b→c9 p σ') ∧
 ∀xs ys σ r σ' tr,cX σ→xs.length=ys.length→eJ g σ xs ys=some (r,σ',tr)→c9 p σ→(∀x∈xs,p x)→(∀y∈ys,p y)→c9 p σ':=by
 intro g
 have list:∀g,(∀σ a b r σ' tr,cX σ→dM g σ a b=some (r,σ',tr)→c9 p σ→p a→p b→c9 p σ') →
  ∀xs ys σ r σ' tr,cX σ→xs.length=ys.length→eJ g σ xs ys=some (r,σ',tr)→c9 p σ→(∀x∈xs,p x)→(∀y∈ys,p y)→c9 p σ':=by
  intro g ihU xs
  induction xs with
  | nil=>
   intro ys σ r σ' tr hg hl h hr _ _
   cases ys with
   | cons _ _=>simp at hl
   | nil=>
    simp only[eJ,Option.some.injEq,Prod.mk.injEq] at h
    obtain⟨rfl,rfl,rfl⟩:=h
    exact hr
  | cons a xs ih=>
   intro ys σ r σ' tr hg hl h hr hx hy
   cases ys with
   | nil=>simp at hl
   | cons b ys=>
    rw[eJ] at h
    cases h1:dM g σ a b with
    | none=>rw[h1] at h;cases h
    | some p=>
     obtain⟨r1,σ1,tr1⟩:=p
     have U1:=yL hg h1
     have i1:=ihU σ a b r1 σ1 tr1 hg h1 hr (hx a (by simp)) (hy b (by simp))
     rw[h1] at h
     cases r1 with
     | false=>
      simp only[Option.some.injEq,Prod.mk.injEq] at h
      obtain⟨rfl,rfl,rfl⟩:=h
      exact i1
     | true=>
      simp only at h
      cases h2:eJ g σ1 xs ys with
      | none=>rw[h2] at h;cases h
      | some p2=>
       obtain⟨r2,σ2,tr2⟩:=p2
       rw[h2] at h
       simp only[Option.some.injEq,Prod.mk.injEq] at h
       obtain⟨rfl,rfl,rfl⟩:=h
       have j1:=ih ys σ1 r2 σ2 tr2 U1.iR (by simpa using hl) h2 i1 (fun x h=>hx x (by simp [h])) (fun y h=>hy y (by simp [h]))
       exact j1
 induction g with
 | zero=>
  have h0:∀σ a b r σ' tr,cX σ→dM 0 σ a b=some (r,σ',tr)→c9 p σ→p a→p b→c9 p σ':=fun σ a b r σ' tr hg h=>by simp only[dM] at h;cases h
  exact⟨h0,list 0 h0⟩
 | succ g ih=>
  suffices hU:∀σ a b r σ' tr,cX σ→dM (g+1) σ a b=some (r,σ',tr)→c9 p σ→p a→p b→c9 p σ' from ⟨hU,list _ hU⟩
  intro σ a b r σ' tr hg h hr ha hb
  obtain⟨_,ihL⟩:=ih
  obtain⟨rk,B,G⟩:=hg.rs
  obtain⟨fa,wa⟩:=G.wk a
  obtain⟨fb,wb⟩:=G.wk b
  have va:=wa.all hr ha
  have vb:=wb.all hr hb
  have bn:∀n (t:Tm) r σ' tr,p t→lA σ n t=(r,σ',tr)→c9 p σ':=by
   intro n t r σ' tr ht h
   unfold lA at h
   split at h<;>cases h
   · exact hr
   · intro m u hu
     simp only[Sub.set] at hu
     split at hu
     · cases hu;exact ht
     · exact hr m u hu
  rw[dM] at h
  generalize wk σ a=a at *
  generalize wk σ b=b at *
  split at h
  · simp only[Option.some.injEq,Prod.mk.injEq] at h
    obtain⟨rfl,rfl,rfl⟩:=h
    exact hr
  · split at h
    · rename_i hk
      exact bn _ _ _ _ _ vb (jL h)
    · rename_i hka
      split at h
      · rename_i hk
        exact bn _ _ _ _ _ va (jL h)
      · rename_i hkb
        split at h
        · rename_i hh
          exact ihL a.ts b.ts σ r σ' tr hg (uK.1 hh).2.2.2 h hr (fun x hx=>hp _ hka va x hx) (fun y hy=>hp _ hkb vb y hy)
        · simp only[Option.some.injEq,Prod.mk.injEq] at h
          obtain⟨rfl,rfl,rfl⟩:=h
          exact hr
theorem a8K(V:List Int):∀(N M:Nat) (σ:Sub) (a b:Tm),cX σ→nF V σ→j7 V a→j7 V b→vC σ V≤N→(a.aN (rs σ)).nodes≤M→∃g x,dM g σ a b=some x:=by
 intro N
 induction N using Nat.strongRecOn with
 | _ N ihN=>
 intro M
 induction M using Nat.strongRecOn with
 | _ M ihM=>
 intro σ a b hg hr ha hb hN hM
 have list:∀(xs ys:List Tm) (σ1:Sub),xs.length=ys.length→cX σ1→nF V σ1→(σ1=σ∨vC σ1 V<vC σ V)→(∀x∈xs,j7 V x∧(x.aN (rs σ)).nodes<M)→(∀y∈ys,j7 V y)→∃g x,eJ g σ1 xs ys=some x:=by
  intro xs
  induction xs with
  | nil=>
   intro ys σ1 hl _ _ _ _ _
   cases ys with
   | cons _ _=>simp at hl
   | nil=>exact⟨0,(true,σ1,[]),by simp only[eJ]⟩
  | cons x xs ih=>
   intro ys σ1 hl hg1 hr1 hc hx hy
   cases ys with
   | nil=>simp at hl
   | cons y ys=>
    have h1:∃g p,dM g σ1 x y=some p:=by
     rcases hc with rfl | hlt
     · exact ihM _ (hx x (by simp)).2 σ1 x y hg1 hr1 (hx x (by simp)).1 (hy y (by simp)) hN (dC _)
     · exact ihN (vC σ1 V) (by omega) _ σ1 x y hg1 hr1 (hx x (by simp)).1 (hy y (by simp)) (dC _) (dC _)
    obtain⟨g1,⟨r1,σ2,tr1⟩,h1⟩:=h1
    have U1:=yL hg1 h1
    obtain⟨i1,i2⟩:=(aS1 g1).1 σ1 x y r1 σ2 tr1 V hg1 h1 hr1 (hx x (by simp)).1 (hy y (by simp))
    cases r1 with
    | false=>exact⟨g1,(false,σ2,tr1),by rw[eJ,h1]⟩
    | true=>
     have hc2:σ2=σ∨vC σ2 V<vC σ V:=by
      cases htr:tr1 with
      | nil=>rw[U1.same htr];exact hc
      | cons m _=>
       have:=a8F (V:=V) U1.a7 U1.new (m:=m) (by rw[htr];simp) (i2 m (by rw[htr];simp))
       rcases hc with rfl | hlt
       · exact .inr this
       · exact .inr (Nat.lt_trans this hlt)
     obtain⟨g2,p2,h2⟩:=ih ys σ2 (by simpa using hl) U1.iR i1 hc2 (fun z hz=>hx z (by simp [hz])) (fun z hz=>hy z (by simp [hz]))
     obtain⟨r2,σ3,tr2⟩:=p2
     refine⟨max g1 g2,(r2,σ3,tr1++tr2),?_⟩
     rw[eJ,P5 (Nat.le_max_left g1 g2) h1]
     simp only
     rw[a8M (Nat.le_max_right g1 g2) h2]
 obtain⟨rk,B,G⟩:=hg.rs
 obtain⟨fa,wa⟩:=G.wk a
 obtain⟨fb,wb⟩:=G.wk b
 have va:=wa.JT hr ha
 have vb:=wb.JT hr hb
 have hma:=wa.aN G.xX
 rw[←hma] at hM
 by_cases h1:(wk σ a).k=1∧(wk σ b).k=1∧(wk σ a).n=(wk σ b).n
 · exact⟨1,_,by rw[dM,aH h1]⟩
 by_cases h2:(wk σ a).k=1
 · exact⟨1,_,by rw[dM,aE h1,aH h2]⟩
 by_cases h3:(wk σ b).k=1
 · exact⟨1,_,by rw[dM,aE h1,aE h2,aH h3]⟩
 by_cases h4:v5 (wk σ a) (wk σ b)=true
 · have a14:∀x∈(wk σ a).ts,j7 V x∧(x.aN (rs σ)).nodes<M:=fun x hx=>by
    refine⟨va.p6 h2 hx,?_⟩
    rw[Tm.sX _ h2,Tm.iS] at hM
    have:=KI (f:=Tm.nodes) (cY.2 ⟨x,hx,rfl⟩:x.aN (rs σ)∈(wk σ a).ts.map (Tm.aN (rs σ)))
    omega
   obtain⟨g,x,h⟩:=list (wk σ a).ts (wk σ b).ts σ (uK.1 h4).2.2.2 hg hr (.inl rfl) a14 (fun y hy=>vb.p6 h3 hy)
   exact⟨g+1,x,by rw[dM,aE h1,aE h2,aE h3,aH h4];exact h⟩
 · exact⟨1,_,by rw[dM,aE h1,aE h2,aE h3,aE h4]⟩
mutual
def Tm.flat:Tm→Nat→Bool
 | .mk _ _ _ _,0=>false
 | .mk _ _ _ ts,d+1=>PN ts d
def PN:List Tm→Nat→Bool
 | [],_=>true
 | t::ts,d=>t.flat d&&PN ts d
end
theorem aSH:∀(ts:List Tm) (d:Nat),PN ts d=ts.all fun t=>t.flat d
 | [],_=>rfl
 | t::ts,d=>by simp only[PN,k0,aSH ts d]
theorem Tm.I8(t:Tm):t.flat 0=false:=by cases t;simp only[Tm.flat]
theorem Tm.xL(k n:Int)(s:ByteArray)(ts:List Tm)(d:Nat):(Tm.mk k n s ts).flat (d+1)=ts.all fun t=>t.flat d:=by simp only[Tm.flat,aSH]
mutual
def Tm.kX:Tm→Bool
 | .mk k n s ts=>fB k n s ts.length&&PR ts
def PR:List Tm→Bool
 | []=>true
 | t::ts=>t.kX&&PR ts
end
theorem aSL:∀(ts:List Tm),PR ts=ts.all Tm.kX
 | []=>rfl
 | t::ts=>by simp only[PR,k0,aSL ts]
theorem Tm.DF(k n:Int)(s:ByteArray)(ts:List Tm):(Tm.mk k n s ts).kX=(fB k n s ts.length&&ts.all Tm.kX):=by simp only[Tm.kX,aSL]
theorem ZC{α:Type}(p q:α→Bool):∀l:List α,(l.all fun x=>p x&&q x)=(l.all p&&l.all q)
 | []=>rfl
 | x::l=>by simp only[k0,ZC p q l];cases p x<;>cases q x<;>cases l.all p<;>simp
theorem Tm.aQP:∀(t:Tm) (d:Nat),t.shape (d:Int)=(t.kX&&t.flat d):=by
 intro t
 induction t using Tm.ind with
 | h k n s ts ih=>
  intro d
  cases d with
  | zero=>rw[Tm.I8,vH,Tm.GI];try rfl
  | succ d=>
   rw[Tm.GI,Tm.DF,Tm.xL,show decide ((1:Int)≤((d+1:Nat):Int))=true by simp;omega,eP,Bool.and_assoc,←ZC]
   congr 1
   rw[show(((d+1:Nat):Int) - 1)=(d:Int) by omega]
   have:∀l:List Tm,(∀x∈l,x∈ts)→(l.all fun t=>t.shape (d:Int))=l.all fun x=>x.kX&&x.flat d:=by
    intro l
    induction l with
    | nil=>intro _;rfl
    | cons x l ihl=>intro h;rw[k0,k0,ih x (h x (by simp)),ihl fun y hy=>h y (by simp [hy])]
   exact this ts fun _ h=>h
theorem Tm.a8Q{t:Tm}(h:t.valid=true):t.kX=true:=by
 simp only[Tm.valid,cE] at h
 have:=h.1
 rw[show(30:Int)=((30:Nat):Int) from rfl,Tm.aQP,cE] at this
 exact this.1
theorem Tm.aS6{t:Tm}(h:t.kX=true):t.valid=(t.flat 30&&decide (t.nodes≤120)):=by
 unfold Tm.valid
 rw[show(30:Int)=((30:Nat):Int) from rfl,Tm.aQP,h,eP]
theorem Tm.OE{k n:Int}{s:ByteArray}{ts:List Tm}(h:(Tm.mk k n s ts).kX=true):fB k n s ts.length=true∧∀x∈ts,x.kX=true:=by
 rw[Tm.DF,cE] at h
 exact⟨h.1,eM.1 h.2⟩
theorem aPY{n:Int}{s:ByteArray}{len:Int}(h:fB 1 n s len=true):0≤n∧n≤25∧s=⟨#[]⟩∧len=0:=by
 simp [fB] at h
 exact⟨h.1.1.1,h.1.1.2,h.1.2,h.2⟩
theorem a4Z{k n:Int}{s:ByteArray}{len:Int}(h:fB k n s len=true):(k=1∨k=2∨k=3)∧len≤4:=by
 unfold fB at h
 by_cases h1:k=1
 · simp [h1] at h;omega
 · by_cases h2:k=2
   · simp [h2] at h;omega
   · by_cases h3:k=3
     · simp [h3] at h;omega
     · simp [h1,h2,h3] at h
theorem Tm.a4S:∀(t:Tm),t.kX=true→t.cv=true:=by
 intro t
 induction t using Tm.ind with
 | h k n s ts ih=>
  intro h
  obtain⟨h1,h2⟩:=Tm.OE h
  refine Tm.pS.2 ⟨fun hk=>?_,fun x hx=>ih x hx (h2 x hx)⟩
  subst hk
  obtain⟨_,_,h3,h4⟩:=aPY h1
  exact⟨h3,sI (by omega)⟩
def EK:List Int:=(List.range 26).map fun i:Nat=>(i:Int)
theorem JY{n:Int}:n∈EK↔0≤n∧n≤25:=by
 simp only[EK,cY,yY]
 constructor
 · rintro⟨i,h,rfl⟩;omega
 · intro h;exact⟨n.toNat,by omega,by omega⟩
theorem Tm.a4T:∀(t:Tm),t.kX=true→j7 EK t:=by
 intro t
 induction t using Tm.ind with
 | h k n s ts ih=>
  intro h v hv
  obtain⟨h1,h2⟩:=Tm.OE h
  by_cases hk:k=1
  · rw[Tm.oT hk] at hv
    simp only[dB,dV,eA] at hv
    subst hv hk
    obtain⟨h3,h4,_⟩:=aPY h1
    exact JY.2 ⟨h3,h4⟩
  · obtain⟨x,hx,hvx⟩:=(Tm.mI hk).1 hv
    exact ih x hx (h2 x hx) v hvx
theorem a4I{f:Int→Tm}:∀(t:Tm),t.kX=true→(∀v∈t.vl,(f v).kX=true)→(t.aN f).kX=true:=by
 intro t
 induction t using Tm.ind with
 | h k n s ts ih=>
  intro h hf
  obtain⟨h1,h2⟩:=Tm.OE h
  by_cases hk:k=1
  · rw[Tm.oE f hk];exact hf n (by rw[Tm.oT hk];simp)
  · rw[Tm.mZ f hk,Tm.DF,aF,h1,eP,List.all_map,eM]
    exact fun x hx=>ih x hx (h2 x hx) fun v hv=>hf v ((Tm.mI hk).2 ⟨x,hx,hv⟩)
theorem aTA{n:Int}(h:n∈EK):(vr n).kX=true:=by
 rw[JY] at h
 rw[vr,Tm.DF]
 simp [fB,h]
theorem a8I{g g':Nat}{σ:Sub}{a b:Tm}{x y:Bool×Sub×List Int}(h:dM g σ a b=some x)(h':dM g' σ a b=some y):x=y:=by
 have h1:=P5 (Nat.le_max_left g g') h
 rw[P5 (Nat.le_max_right g g') h'] at h1
 exact(jL h1).symm
structure a86 (a b:Tm) (r:Bool) (σ:Sub) (tr:List Int):Prop where
 run:∃g,dM g Sub.none a b=some (r,σ,tr)
 oS:pP Sub.none [a] [b] r σ tr
 kX:c9 (fun t=>t.kX=true) σ
 JT:nF EK σ
 trV:∀m∈tr,m∈EK
theorem aPJ:∀ {l V:List Int},l.Nodup→(∀x∈l,x∈V)→l.length≤V.length
 | [],_,_,_=>jU _
 | x::l,V,h,hV=>by
  rw[HA] at h
  have hx:=hV x (by simp)
  have:=aPJ (V:=V.erase x) h.2 fun y hy=>(List.mem_erase_of_ne (by rintro rfl;exact h.1 hy)).2 (hV y (by simp [hy]))
  rw[List.length_erase_of_mem hx] at this
  have:=List.length_pos_of_mem hx
  simp only[aT]
  omega
structure a82 (a b:Tm) (bs:List Bd):Prop where
 va:a.valid=true
 vb:b.valid=true
 vs:(bs.all fun x=>x.2.valid)=true
 eq:a.aN (WR bs)=b.aN (WR bs)
 idem:∀x∈bs,x.2.aN (WR bs)=x.2
 sorted:bs.Pairwise fun x y=>x.1<y.1
abbrev zt:AV:=.agg [.int .i64 0,.int .i64 0,.str ⟨#[]⟩,.fslice []]
def mapOf(σ:Sub):Int→Option AV:=fun n=>(σ n).map Tm.av
def found:Option Tm→AV
 | some u=>.tup [u.av,.bool true]
 | none=>.tup [zt,.bool false]
theorem a38{P:Program}{st:aB}{m:Nat}{σ:Sub}{t kt et:TypeId}{n:Int}(hm:st m=some (.map (mapOf σ)))(hu:P.underlying t=some (.map kt et))(hk:P.underlying kt=some (.int .i64))(hz:zV P et=some zt) :
 qH P st t true (.map m) (.int .i64 n)=some (found (σ n)):=by
 unfold qH
 simp only[hm,hu,hk,mapOf]
 cases h:σ n with
 | none=>simp [hz,found,AV.cJ]
 | some u=>simp [found,cP]
theorem a8O{P:Program}{st:aB}{m:Nat}{σ:Sub}{t kt et:TypeId}{n:Int}{u:Tm}{K:AV→aB→Prop}(hm:st m=some (.map (mapOf σ)))(hu:P.underlying t=some (.map kt et))(hk:P.underlying kt=some (.int .i64))
 (h:K .undef (st.aC m (.map (mapOf (σ.set n u))))):tX P t st (.map m) (.int .i64 n) u.av K:=by
 unfold tX
 simp only[hu,hm,hk]
 refine⟨cP u,?_⟩
 have:pG (mapOf σ) n (some u.av)=mapOf (σ.set n u):=by
  funext x
  unfold pG mapOf Sub.set
  split<;>rfl
 rw[this]
 exact h
structure j8 (st:aB) (c m:Nat) (q:AV) (σ:Sub):Prop where
 cells:st c=some (.cells [.map m,q])
 map:st m=some (.map (mapOf σ))
theorem j8.aC{st:aB}{c m b:Nat}{q:AV}{σ:Sub}{o:AO}(h:j8 st c m q σ)(hb:st b=none):j8 (st.aC b o) c m q σ:=
 ⟨(by rw[aB.aG _ _ (by rintro rfl;rw[h.cells] at hb;cases hb)];exact h.cells),(by rw[aB.aG _ _ (by rintro rfl;rw[h.map] at hb;cases hb)];exact h.map)⟩
theorem j8.P7{st:aB}{c m b:Nat}{q:AV}{σ:Sub}{o:AO}(h:j8 st c m q σ)(h1:b≠c)(h2:b≠m):j8 (st.aC b o) c m q σ:=
 ⟨(by rw[aB.aG _ _ (dG h1)];exact h.cells),by rw[aB.aG _ _ (dG h2)];exact h.map⟩
theorem j8.ne{st:aB}{c m b:Nat}{q:AV}{σ:Sub}(h:j8 st c m q σ)(hb:st b=none):b≠c∧b≠m:=⟨(by rintro rfl;rw[h.cells] at hb;cases hb),(by rintro rfl;rw[h.map] at hb;cases hb)⟩
theorem j8.cm{st:aB}{c m:Nat}{q:AV}{σ:Sub}(h:j8 st c m q σ):c≠m:=by rintro rfl;have:=h.cells;rw[h.map] at this;cases this
def m6(M:List Int):Int→Option AV:=fun x=>if x∈M then some (.bool true) else none
theorem a37{P:Program}{st:aB}{mm:Nat}{M:List Int}{t kt et:TypeId}{n:Int}(hm:st mm=some (.map (m6 M)))(hu:P.underlying t=some (.map kt et))(hk:P.underlying kt=some (.int .i64))(hz:zV P et=some (.bool false)) :
 qH P st t false (.map mm) (.int .i64 n)=some (.bool (decide (n∈M))):=by
 unfold qH
 simp only[hm,hu,hk,m6]
 by_cases h:n∈M
 · simp [h,AV.cJ]
 · simp [h,hz,AV.cJ]
theorem a8N{P:Program}{st:aB}{mm:Nat}{M:List Int}{t kt et:TypeId}{n:Int}{K:AV→aB→Prop}(hm:st mm=some (.map (m6 M)))(hu:P.underlying t=some (.map kt et))(hk:P.underlying kt=some (.int .i64))
 (h:K .undef (st.aC mm (.map (m6 (n::M))))):tX P t st (.map mm) (.int .i64 n) (.bool true) K:=by
 unfold tX
 simp only[hu,hm,hk]
 refine⟨rfl,?_⟩
 have:pG (m6 M) n (some (.bool true))=m6 (n::M):=by
  funext x
  unfold pG m6
  by_cases e:x=n
  · simp [e]
  · simp [e]
 rw[this]
 exact h
theorem a4K:m6 []=fun _=>none:=by funext x;simp [m6]
theorem XY(t:Tm):t.wf=true→∀l:List Int,(∀v,v∈t.vars l↔v∈l∨v∈t.vl)∧(l.Nodup→(t.vars l).Nodup)∧∃m,t.vars l=l++m:=by
 induction t using Tm.ind with
 | h k n s ts ih=>
  intro h l
  obtain⟨hk,hw⟩:=Tm.X1 h
  have list:∀xs:List Tm,(∀x∈xs,x∈ts)→∀l:List Int,(∀v,v∈cF xs l↔v∈l∨∃x∈xs,v∈x.vl)∧(l.Nodup→(cF xs l).Nodup)∧∃m,cF xs l=l++m:=by
   intro xs
   induction xs with
   | nil=>intro _ l;exact⟨by simp [cF],fun h=>h,[],by simp [cF]⟩
   | cons x xs ihx=>
    intro hs l
    obtain⟨a1,a2,m1,a3⟩:=ih x (hs x (by simp)) (hw x (hs x (by simp))) l
    obtain⟨b1,b2,m2,b3⟩:=ihx (fun y hy=>hs y (by simp [hy])) (x.vars l)
    simp only[cF]
    refine⟨fun v=>?_,fun hn=>b2 (a2 hn),m1++m2,by rw[b3,a3,nE]⟩
    rw[b1,a1]
    simp [or_assoc]
  rw[Tm.vars]
  by_cases hk1:k=1
  · obtain rfl:=hk hk1
    rw[Tm.oT hk1]
    simp only[cF]
    split
    · rename_i hc
      refine⟨fun v=>by simp,fun hn=>?_,[n],rfl⟩
      rw[n6]
      refine⟨hn,by simp,fun x hx y hy e=>?_⟩
      simp only[dB,dV,eA] at hy
      subst hy e
      exact hc.2 hx
    · rename_i hc
      refine⟨fun v=>?_,fun hn=>hn,[],by simp⟩
      have hm:n∈l:=D9 fun h=>hc ⟨hk1,h⟩
      simp only[dB,dV,eA]
      exact⟨.inl,fun h=>h.elim id fun e=>e▸hm⟩
  · rw[aE (by simp [hk1])]
    obtain⟨c1,c2,c3⟩:=list ts (fun _ h=>h) l
    exact⟨fun v=>by rw[c1,Tm.mI hk1],c2,c3⟩
theorem Tm.a8S{v:Int}:∀(t:Tm) (l:List Int),t.cv=true→(v∈t.vars l↔v∈l∨v∈t.vl):=by
 intro t
 induction t using Tm.ind with
 | h k n s ts ih=>
  intro l hcv
  obtain⟨h1,h2⟩:=Tm.pS.1 hcv
  have key:∀(ts:List Tm) (l:List Int),(∀t∈ts,∀l,v∈t.vars l↔v∈l∨v∈t.vl)→(v∈cF ts l↔v∈l∨∃t∈ts,v∈t.vl):=by
   intro ts
   induction ts with
   | nil=>intro l _;simp [cF]
   | cons t ts iht=>
    intro l h
    simp only[cF]
    rw[iht _ (fun x hx=>h x (by simp [hx])),h t (by simp)]
    simp [or_assoc]
  simp only[Tm.vars]
  rw[key ts _ (fun t ht l=>ih t ht l (h2 t ht))]
  by_cases hk:k=1
  · obtain⟨rfl,rfl⟩:=h1 hk
    rw[Tm.oT hk]
    by_cases hn:n∈l
    · simp [hk,hn];exact fun e=>e▸hn
    · simp [hk,hn]
  · rw[Tm.mI hk];simp [hk]
theorem A5{v:Int}:∀(ts:List Tm) (l:List Int),(∀t∈ts,t.cv=true)→(v∈cF ts l↔v∈l∨∃t∈ts,v∈t.vl)
 | [],l,_=>by simp [cF]
 | t::ts,l,h=>by
  simp only[cF]
  rw[A5 ts _ (fun x hx=>h x (by simp [hx])),Tm.a8S t l (h t (by simp))]
  simp [or_assoc]
theorem a8V{σ:Sub}{R:Int→Tm}{rk:Int→Nat}{B:Nat}(G:Good σ R rk B){n:Int}{W:List Int}(hW:∀w∈W,w≠n∧∀u,σ w=some u→∀v∈u.vl,v∈W):∀w∈W,n∉(R w).vl:=by
 refine fun w=>G.ind (p:=fun w=>w∈W→n∉(R w).vl) (fun w h hw hm=>?_) (fun w u h ih hw hm=>?_) w
 · rw[G.free h,A7] at hm
   simp only[dB,dV,eA] at hm
   exact(hW w hw).1 hm.symm
 · rw[G.bound h] at hm
   obtain⟨v,hv,hnv⟩:=(A6 u).1 hm
   exact ih v hv ((hW w hw).2 u h v hv) hnv
theorem a0N{w:Nat}{l:List AV}{i:Nat}{e:AV}(hw:∀e∈l,e.width=w)(h:l[i]?=some e) :
 ∃A B,l.flatMap AV.cells=A++e.cells++B∧A.length=i*w∧∀e',(l.set i e').flatMap AV.cells=A++e'.cells++B:=by
 obtain⟨hi,he⟩:=gW.1 h
 refine⟨(l.take i).flatMap AV.cells,(l.drop (i+1)).flatMap AV.cells,?_,?_,fun e'=>?_⟩
 · have:l=l.take i++e::l.drop (i+1):=by rw[←he,←rH hi,tT]
   conv=>lhs;rw[this]
   simp
 · rw[qP (fun e he=>hw e (mJ he)),eC,mL (by omega)]
 · rw[List.set_eq_take_append_cons_drop,aH hi]
   simp
def cellOf:Option Tm→AV
 | some u=>u.av
 | none=>zt
theorem MQ(o:Option Tm):(cellOf o).width=4:=by cases o<;>first | rfl | exact aM _
theorem aYU(o:Option Tm):(cellOf o).cells.length=4:=by rw[w9,MQ]
theorem VI:∀t:Tm,t.cv=true→t.aN vr=t:=by
 intro t
 induction t using Tm.ind with
 | h k n s ts ih=>
  intro h
  obtain⟨h1,h2⟩:=Tm.pS.1 h
  by_cases hk:k=1
  · obtain⟨rfl,rfl⟩:=h1 hk
    rw[Tm.oE vr hk,hk];try rfl
  · rw[Tm.mZ vr hk]
    congr 1
    have:∀l:List Tm,(∀x∈l,x∈ts)→l.map (Tm.aN vr)=l:=by
     intro l
     induction l with
     | nil=>intro _;rfl
     | cons x l ihl=>intro hl;rw[bB,ih x (hl x (by simp)) (h2 x (hl x (by simp))),ihl fun y hy=>hl y (by simp [hy])]
    exact this ts fun _ h=>h
def rB(l:List Tm):List Tm:=l.map fun t=>t.aN fun v=>vr (fP v (cF l []) 0)
theorem a8R{D:Int→Prop}{h:Int→Int}(inj:∀v w,D v→D w→h v=h w→v=w){f:Int→Tm}(hf:∀v,D v→f v=vr (h v)) :
 ∀(t:Tm),t.wf=true→(∀v∈t.vl,D v)→∀l:List Int,(∀v∈l,D v)→(t.aN f).vars (l.map h)=(t.vars l).map h∧∀v∈t.vars l,D v:=by
 intro t
 induction t using Tm.ind with
 | h k n s ts ih=>
  intro hw hD l hl
  obtain⟨hk1,hws⟩:=Tm.X1 hw
  by_cases hk:k=1
  · obtain rfl:=hk1 hk
    have hDn:D n:=hD n (by rw[Tm.oT hk];simp)
    have iB:h n∈l.map h↔n∈l:=by
     rw[cY]
     exact⟨fun⟨m,hm,e⟩=>by rw[←inj m n (hl m hm) hDn e];exact hm,fun hm=>⟨n,hm,rfl⟩⟩
    rw[Tm.oE f hk,hf n hDn,vr,Tm.vars,Tm.vars]
    simp only[cF,hk,tM,iB]
    split
    · exact⟨by simp,fun v hv=>by
       rcases eK.1 hv with hv | hv
       · exact hl v hv
       · simp only[dB,dV,eA] at hv;rw[hv];exact hDn⟩
    · exact⟨rfl,hl⟩
  · rw[Tm.mZ f hk,Tm.vars,Tm.vars,aE (fun h=>hk h.1),aE (fun h=>hk h.1)]
    have:∀xs:List Tm,(∀x∈xs,x∈ts)→∀l:List Int,(∀v∈l,D v)→cF (xs.map (Tm.aN f)) (l.map h)=(cF xs l).map h∧∀v∈cF xs l,D v:=by
     intro xs
     induction xs with
     | nil=>intro _ l hl;exact⟨rfl,hl⟩
     | cons x xs ihx=>
      intro hs l hl
      have hx:=hs x (by simp)
      obtain⟨e1,e2⟩:=ih x hx (hws x hx) (fun v hv=>hD v ((Tm.mI hk).2 ⟨x,hx,hv⟩)) l hl
      simp only[bB,cF]
      rw[e1]
      exact ihx (fun y hy=>hs y (by simp [hy])) _ e2
    exact this ts (fun _ h=>h) l hl
theorem aOX{D:Int→Prop}{h:Int→Int}(inj:∀v w,D v→D w→h v=h w→v=w)(v:Int)(hv:D v):∀(l:List Int) (i:Int),(∀w∈l,D w)→fP (h v) (l.map h) i=fP v l i
 | [],i,_=>rfl
 | x::l,i,hl=>by
  simp only[bB,fP]
  by_cases e:v=x
  · rw[aH e,aH (by rw[e])]
  · rw[aE e,aE (fun e2=>e (inj v x hv (hl x (by simp)) e2))]
    exact aOX inj v hv l (i+1) fun w hw=>hl w (by simp [hw])
def rM:List ByteArray:=[⟨#[43]⟩,⟨#[45]⟩,⟨#[42]⟩,⟨#[47,47]⟩,⟨#[109,111,100]⟩]
def sR:List ByteArray:=[⟨#[60]⟩,⟨#[62]⟩,⟨#[61,60]⟩,⟨#[62,61]⟩,⟨#[61,58,61]⟩]
def gS(l:List ByteArray)(s:ByteArray):Bool:=l.any fun x=>decide (s=x)
def kB(n:Int):Int×Int:=if -999≤n∧n≤999 then(n,0) else(0,5)
def rQ(a b:Int):Int:=if a.tmod b≠0∧decide (a.tmod b<0)≠decide (b<0) then a.tmod b+b else a.tmod b
def sO(s:ByteArray)(a b:Int):Int×Int:=
 if s=⟨#[43]⟩ then kB (a+b) else if s=⟨#[45]⟩ then kB (a - b) else if s=⟨#[42]⟩ then kB (a*b) else if b=0 then(0,4) else if s=⟨#[109,111,100]⟩ then(rQ a b,0) else(a.tdiv b,0)
def both(f:Int→Int→Int×Int)(x y:Int×Int):Int×Int:=if x.2≠0 then(0,x.2) else if y.2≠0 then(0,y.2) else f x.1 y.1
def two(f:Int→Int→Int×Int):List (Int×Int)→Int×Int
 | [x,y]=>both f x y
 | _=>(0,3)
mutual
def Tm.ev:Tm→Int×Int
 | .mk k n s ts=>if k=2 then(n,0) else if k=1 then(0,2) else if gS rM s=true then two (sO s) (PM ts) else(0,3)
def PM:List Tm→List (Int×Int)
 | []=>[]
 | t::ts=>t.ev::PM ts
end
theorem aSG:∀ts:List Tm,PM ts=ts.map Tm.ev
 | []=>rfl
 | t::ts=>by simp only[PM,bB,aSG ts]
theorem Tm.zY(k n:Int)(s:ByteArray)(ts:List Tm):(Tm.mk k n s ts).ev=if k=2 then(n,0) else if k=1 then(0,2) else if gS rM s=true then two (sO s) (ts.map Tm.ev) else(0,3):=by simp only[Tm.ev,aSG]
theorem PI(a b:Int)(hb:b≠0):(0<b→-b<a.tmod b∧a.tmod b<b)∧(b<0→b<a.tmod b∧a.tmod b< -b):=by
 have h1:=QI (-a) (b:=b)
 have h2:=QI a (b:=b)
 have h3:=QI (-a) (b:= -b)
 have h4:=QI a (b:= -b)
 rw[Int.tmod_neg] at h3 h4
 rw[Int.neg_tmod] at h1 h3
 constructor
 · intro h;exact⟨by have:=h1 h;omega,h2 h⟩
 · intro h;exact⟨by have:=h3 (by omega);omega,h4 (by omega)⟩
theorem tdiv_le(a b:Int)(ha: -999≤a∧a≤999): -999≤a.tdiv b∧a.tdiv b≤999:=by
 have:(a.tdiv b).natAbs≤a.natAbs:=by rw[Int.natAbs_tdiv];exact Nat.div_le_self _ _
 omega
theorem WE(n:Int): -999≤(kB n).1∧(kB n).1≤999:=by unfold kB;split<;>simp_all
theorem aNA(a b:Int)(ha: -999≤a∧a≤999)(hb: -999≤b∧b≤999)(h0:b≠0): -999≤rQ a b∧rQ a b≤999:=by
 have h1:=PI a b h0
 unfold rQ
 split
 · rename_i h
   have h2:=h.2
   by_cases hb':b<0
   · have:¬a.tmod b<0:=by intro hc;simp [hb',hc] at h2
     have:=h1.2 hb'
     omega
   · have:a.tmod b<0:=by
      apply D9;intro hc;simp [hb',hc] at h2
     have:=h1.1 (by omega)
     omega
 · rcases Int.lt_or_gt_of_ne h0 with h | h
   · have:=h1.2 h;omega
   · have:=h1.1 h;omega
theorem Y9(m b:Int)(h1:0≤m)(h2:m<b):(m+b).tmod b=m:=by
 obtain⟨x,rfl⟩:∃x:Nat,m=x:=⟨m.toNat,by omega⟩
 obtain⟨y,rfl⟩:∃y:Nat,b=y:=⟨b.toNat,by omega⟩
 rw[show(x:Int)+(y:Int)=((x+y:Nat):Int) by omega,←Int.ofNat_tmod,Nat.add_mod_right,Nat.mod_eq_of_lt (by omega)]
theorem a0O(a b:Int)(h0:b≠0):(a.tmod b+b).tmod b=rQ a b:=by
 have h1:=PI a b h0
 have hs:∀x:Int,0≤x→x<b→x.tmod b=x:=fun x h2 h3=>Int.tmod_eq_of_lt h2 h3
 have hn:∀x:Int,x≤0→b<x→x.tmod b=x:=fun x h2 h3=>by
  have:=Int.tmod_eq_of_lt (a:= -x) (b:= -b) (by omega) (by omega)
  rw[Int.tmod_neg,Int.neg_tmod] at this
  omega
 unfold rQ
 generalize a.tmod b=m at *
 by_cases hb:b<0
 · have h2:=h1.2 hb
   by_cases hm:m<0
   · rw[aE (by simp [hb,hm])]
     rw[show m+b=b+m by omega]
     have e:(b+m).tmod b=((-b)+(-m)).tmod (-b)*(-1):=by
      rw[show(-b)+(-m)= -(b+m) by omega,Int.neg_tmod,Int.tmod_neg];omega
     rw[e,Int.add_comm,Y9 (-m) (-b) (by omega) (by omega)]
     omega
   · by_cases hm0:m=0
     · subst hm0;rw[aE (by simp),Int.zero_add,Int.tmod_self]
     · rw[aH ⟨hm0,by simp [hb,hm]⟩]
       exact hn _ (by omega) (by omega)
 · have h2:=h1.1 (by omega)
   by_cases hm:m<0
   · rw[aH ⟨by omega,by simp [hb,hm]⟩]
     exact hs _ (by omega) (by omega)
   · rw[aE (by simp [hb,hm])]
     rw[Y9 m b (by omega) (by omega)]
def cO(N:Int)(t:Tm):Prop:=(t.aN fun _=>vr 0).kX=true∧t.cv=true∧∀v∈t.vl,0≤v∧v<N
theorem cO.mono{N M:Int}{t:Tm}(h:cO N t)(hm:N≤M):cO M t:=⟨h.1,h.2.1,fun v hv=>⟨(h.2.2 v hv).1,by have:=(h.2.2 v hv).2;omega⟩⟩
theorem cO.own{N k n:Int}{s:ByteArray}{ts:List Tm}(h:cO N (.mk k n s ts))(hk:k≠1):fB k n s ts.length=true∧∀x∈ts,cO N x:=by
 obtain⟨h1,h2,h3⟩:=h
 rw[Tm.mZ _ hk] at h1
 obtain⟨h4,h5⟩:=Tm.OE h1
 rw[aF] at h4
 exact⟨h4,fun x hx=>⟨h5 _ (cY.2 ⟨x,hx,rfl⟩),(Tm.pS.1 h2).2 x hx,fun v hv=>h3 v ((Tm.mI hk).2 ⟨x,hx,hv⟩)⟩⟩
theorem cO.var{N n:Int}{s:ByteArray}{ts:List Tm}(h:cO N (.mk 1 n s ts)):0≤n∧n<N∧s=⟨#[]⟩∧ts= []:=by
 obtain⟨_,h2,h3⟩:=h
 obtain⟨h4,h5⟩:=(Tm.pS.1 h2).1 rfl
 obtain⟨h6,h7⟩:=h3 n (by rw[Tm.oT rfl];simp)
 exact⟨h6,h7,h4,h5⟩
theorem OF(N:Int):∀t:Tm,t.k≠1→cO N t→∀x∈t.ts,cO N x:=fun t hk h x hx=>by
 cases t
 exact(h.own hk).2 x hx
theorem cO.kind{N k n:Int}{s:ByteArray}{ts:List Tm}(h:cO N (.mk k n s ts)):(k=1∨k=2∨k=3)∧ts.length≤4:=by
 by_cases hk:k=1
 · subst hk
   rw[h.var.2.2.2]
   simp
 · have:=a4Z (h.own hk).1
   omega
theorem a4Y{n:Int}{s:ByteArray}{len:Int}(h:fB 2 n s len=true): -999≤n∧n≤999:=by
 simp [fB] at h
 omega
theorem cO.all{N k n:Int}{s:ByteArray}{ts:List Tm}(h:cO N (.mk k n s ts)):(k=2→-999≤n∧n≤999)∧∀x∈ts,cO N x:=by
 by_cases hk:k=1
 · subst hk
   rw[h.var.2.2.2]
   simp
 · obtain⟨h1,h2⟩:=h.own hk
   refine⟨fun h2=>?_,h2⟩
   subst h2
   exact a4Y h1
theorem cO.small{N:Int}:∀ {t:Tm},cO N t→t.small=true:=by
 intro t
 induction t using Tm.ind with
 | h k n s ts ih=>
  intro h
  have h4:=h.kind.2
  simp only[Tm.small,K6,cE,bK,eM]
  refine⟨by omega,fun x hx=>?_⟩
  by_cases hk:k=1
  · subst hk;rw[h.var.2.2.2] at hx;cases hx
  · exact ih x hx ((h.own hk).2 x hx)
theorem cO.aN{N M:Int}{f:Int→Tm}{t:Tm}(h:cO N t)(hf:∀v∈t.vl,cO M (f v)):cO M (t.aN f):=by
 induction t using Tm.ind with
 | h k n s ts ih=>
  by_cases hk:k=1
  · rw[Tm.oE f hk];exact hf n (by rw[Tm.oT hk];simp)
  · obtain⟨h1,h2⟩:=h.own hk
    have key:∀x∈ts,cO M (x.aN f):=fun x hx=>ih x hx (h2 x hx) fun v hv=>hf v ((Tm.mI hk).2 ⟨x,hx,hv⟩)
    rw[Tm.mZ f hk]
    refine⟨?_,Tm.pS.2 ⟨fun h=>absurd h hk,fun y hy=>?_⟩,fun v hv=>?_⟩
    · rw[Tm.mZ _ hk,Tm.DF,aF,aF,h1,eP,eM]
      intro y hy
      simp only[yX,cY,G7] at hy
      obtain⟨x,hx,rfl⟩:=hy
      exact(key x hx).1
    · obtain⟨x,hx,rfl⟩:=cY.1 hy
      exact(key x hx).2.1
    · obtain⟨y,hy,hv⟩:=(Tm.mI hk).1 hv
      obtain⟨x,hx,rfl⟩:=cY.1 hy
      exact(key x hx).2.2 v hv
theorem J2{N n:Int}(h0:0≤n)(h1:n<N):cO N (vr n):=by
 refine⟨by rw[xY];exact aTA (JY.2 (by omega)),Tm.pS.2 ⟨fun _=>⟨rfl,rfl⟩,by simp⟩,fun v hv=>?_⟩
 rw[A7] at hv
 simp only[dB,dV,eA] at hv
 omega
theorem aPV{t:Tm}:t.kX=true↔cO 26 t:=by
 constructor
 · intro h
   refine⟨a4I t h fun v _=>aTA (JY.2 (by omega)),Tm.a4S t h,fun v hv=>?_⟩
   have:=JY.1 (Tm.a4T t h v hv)
   omega
 · induction t using Tm.ind with
   | h k n s ts ih=>
    intro h
    rw[Tm.DF]
    by_cases hk:k=1
    · subst hk
      obtain⟨h0,h1,rfl,rfl⟩:=h.var
      have h1':n≤25:=by omega
      simp [fB,h0,h1']
    · obtain⟨h1,h2⟩:=h.own hk
      rw[h1,eP,eM]
      exact fun x hx=>ih x hx (h2 x hx)
theorem Tm.LF{t:Tm}(h:t.valid=true):cO 26 t:=aPV.1 (Tm.a8Q h)
theorem Good.m7{σ:Sub}{R:Int→Tm}{rk:Int→Nat}{B:Nat}(G:Good σ R rk B){N:Int}(ho:c9 (cO N) σ):∀n,0≤n→n<N→cO N (R n):=by
 refine fun n=>G.ind (p:=fun n=>0≤n→n<N→cO N (R n)) (fun n h h0 h1=>?_) (fun n u h ih h0 h1=>?_) n
 · rw[G.free h];exact J2 h0 h1
 · rw[G.bound h]
   exact(ho n u h).aN fun v hv=>ih v hv ((ho n u h).2.2 v hv).1 ((ho n u h).2.2 v hv).2
theorem Good.VR{σ:Sub}{R:Int→Tm}{rk:Int→Nat}{B:Nat}(G:Good σ R rk B){N:Int}(ho:c9 (cO N) σ){t:Tm}(h:cO N t):cO N (t.aN R):=
 h.aN fun v hv=>G.m7 ho v (h.2.2 v hv).1 (h.2.2 v hv).2
def bP(N:Int)(t:Tm):Prop:=cO N t∧t.nodes≤120
theorem s8(N:Int):∀t:Tm,t.k≠1→bP N t→∀x∈t.ts,bP N x:=fun t hk h x hx=>by
 refine⟨OF N t hk h.1 x hx,?_⟩
 have h2:=h.2
 cases t
 rw[Tm.iS] at h2
 have:=KI (f:=Tm.nodes) hx
 simp only[Tm.ts] at this
 omega
theorem bP.mono{N M:Int}{t:Tm}(h:bP N t)(hm:N≤M):bP M t:=⟨h.1.mono hm,h.2⟩
theorem c9.m7{N:Int}{σ:Sub}(h:c9 (bP N) σ):c9 (cO N) σ:=fun n u e=>(h n u e).1
theorem c9.imp{p q:Tm→Prop}{σ:Sub}(h:c9 p σ)(hpq:∀t,p t→q t):c9 q σ:=fun n u e=>hpq u (h n u e)
open Classical in
noncomputable def jZ(σ:Sub)(a b:Tm):Bool×Sub×List Int:=if h:∃x g,dM g σ a b=some x then h.choose else(false,σ,[])
theorem aS0{g:Nat}{σ:Sub}{a b:Tm}{x:Bool×Sub×List Int}(h:dM g σ a b=some x):jZ σ a b=x:=by
 unfold jZ
 have h':∃x g,dM g σ a b=some x:=⟨x,g,h⟩
 rw[dif_pos h']
 obtain⟨g',h''⟩:=h'.choose_spec
 exact a8I h'' h
def VN(N:Nat):List Int:=(List.range N).map fun i:Nat=>(i:Int)
theorem xZ{N:Nat}{n:Int}:n∈VN N↔0≤n∧n<N:=by
 simp only[VN,cY,yY]
 constructor
 · rintro⟨i,h,rfl⟩;omega
 · intro h;exact⟨n.toNat,by omega,by omega⟩
theorem FZ{N:Nat}{tr:List Int}(h:tr.Nodup)(hV:∀m∈tr,0≤m∧m<N):tr.length≤N:=by
 have:=aPJ (V:=VN N) h fun x hx=>xZ.2 (hV x hx)
 simpa [VN] using this
structure BM (N:Int) (σ:Sub) (a b:Tm) (r:Bool) (σ':Sub) (tr:List Int):Prop where
 run:∃g,dM g σ a b=some (r,σ',tr)
 eq:jZ σ a b=(r,σ',tr)
 oS:pP σ [a] [b] r σ' tr
 ok:c9 (bP N) σ'
 gS:∀m∈tr,0≤m∧m<N
theorem vD{N:Nat}{σ:Sub}{a b:Tm}(hg:cX σ)(ho:c9 (bP N) σ)(ha:bP N a)(hb:bP N b):∃r σ' tr,BM N σ a b r σ' tr:=by
 have hin:∀ {t:Tm},bP N t→j7 (VN N) t:=fun h v hv=>xZ.2 (h.1.2.2 v hv)
 have hr:nF (VN N) σ:=fun n u e=>hin (ho n u e)
 obtain⟨g,⟨r,σ',tr⟩,h⟩:=a8K (VN N) _ _ σ a b hg hr (hin ha) (hin hb) (dC _) (dC _)
 obtain⟨h1,h2⟩:=(aS1 g).1 σ a b r σ' tr (VN N) hg h hr (hin ha) (hin hb)
 exact⟨r,σ',tr,⟨g,h⟩,aS0 h,yL hg h,(P6 (s8 N) g).1 σ a b r σ' tr hg h ho ha hb,fun m hm=>xZ.1 (h2 m hm)⟩
theorem BM.out{N:Int}{σ:Sub}{a b:Tm}{r:Bool}{σ':Sub}{tr:List Int}(h:BM N σ a b r σ' tr)(n:Int):(if n∈tr then none else σ' n)=σ n:=by
 split
 · rename_i hn;exact((h.oS.new n hn).1).symm
 · rename_i hn;exact h.oS.a7 n hn
def Sub.out(σ:Sub)(l:List Int):Sub:=fun n=>if n∈l then Option.none else σ n
theorem Sub.a4V(σ:Sub)(l m:List Int):(σ.out l).out m=σ.out (l++m):=by
 funext n
 unfold Sub.out
 by_cases h1:n∈m
 · rw[aH h1,aH (by simp [h1])]
 · rw[aE h1]
   by_cases h2:n∈l
   · rw[aH h2,aH (by simp [h2])]
   · rw[aE h2,aE (by simp [h1,h2])]
theorem Sub.a4W(σ:Sub){l m:List Int}(h:∀n,n∈l↔n∈m):σ.out l=σ.out m:=by
 funext n
 unfold Sub.out
 simp only[h n]
def cC(ρ:Int→Int)(t:Tm):Tm:=t.aN fun v=>vr (ρ v)
theorem a5W(ρ:Int→Int)(n:Int):cC ρ (vr n)=vr (ρ n):=xY _ n
theorem yD(ρ:Int→Int){k n:Int}{s:ByteArray}{ts:List Tm}(h:k≠1):cC ρ (.mk k n s ts)=.mk k n s (ts.map (cC ρ)):=Tm.mZ _ h
theorem AM(ρ:Int→Int){t:Tm}(h:t.k=1):cC ρ t=vr (ρ t.n):=Tm.FW _ h
theorem GG(ρ:Int→Int){t:Tm}(h:t.k≠1):cC ρ t=.mk t.k t.n t.s (t.ts.map (cC ρ)):=Tm.sX _ h
theorem AL(ρ:Int→Int)(t:Tm):(cC ρ t).k=t.k:=by
 by_cases h:t.k=1
 · rw[AM ρ h,h];try rfl
 · rw[GG ρ h];try rfl
theorem OR(ρ:Int→Int){t:Tm}(hc:t.cv=true):(cC ρ t).nodes=t.nodes:=by
 induction t using Tm.ind with
 | h k n s ts ih=>
  obtain⟨h1,h2⟩:=Tm.pS.1 hc
  by_cases hk:k=1
  · obtain⟨_,rfl⟩:=h1 hk
    rw[AM ρ (t:=.mk k n s []) hk,vr,Tm.iS,Tm.iS]
  · rw[yD ρ hk,Tm.iS,Tm.iS]
    congr 1
    have:∀l:List Tm,(∀x∈l,x∈ts)→bH Tm.nodes (l.map (cC ρ))=bH Tm.nodes l:=by
     intro l
     induction l with
     | nil=>intro _;rfl
     | cons x l ihl=>intro h;simp only[bB,bH];rw[ih x (h x (by simp)) (h2 x (h x (by simp))),ihl fun y hy=>h y (by simp [hy])]
    exact this ts fun _ h=>h
theorem WH(ρ:Int→Int){t:Tm}(hc:t.cv=true):∀d,(cC ρ t).flat d=t.flat d:=by
 induction t using Tm.ind with
 | h k n s ts ih=>
  intro d
  obtain⟨h1,h2⟩:=Tm.pS.1 hc
  cases d with
  | zero=>rw[Tm.I8,Tm.I8]
  | succ d=>
   by_cases hk:k=1
   · obtain⟨_,rfl⟩:=h1 hk
     rw[AM ρ (t:=.mk k n s []) hk,vr,Tm.xL,Tm.xL]
   · rw[yD ρ hk,Tm.xL,Tm.xL,List.all_map]
     rw[vI,eM,eM]
     constructor
     · intro h x hx;rw[←ih x hx (h2 x hx) d];exact h x hx
     · intro h x hx;simp only[G7];rw[ih x hx (h2 x hx) d];exact h x hx
theorem a8U{ρ:Int→Int}{t:Tm}{w:Int}:w∈(cC ρ t).vl↔∃v∈t.vl,w=ρ v:=by
 unfold cC
 rw[A6]
 simp only[A7,dB,dV,eA]
theorem WG{ρ ρ':Int→Int}{t:Tm}(h:∀v∈t.vl,ρ v=ρ' v):cC ρ t=cC ρ' t:=r8 t fun v hv=>by rw[h v hv]
theorem KB(ρ:Int→Int)(f:Int→Tm)(t:Tm):(cC ρ t).aN f=t.aN fun v=>f (ρ v):=by
 unfold cC
 rw[AD]
 exact r8 t fun v _=>xY f (ρ v)
theorem aPB(ρ:Int→Int)(f:Int→Tm)(t:Tm):cC ρ (t.aN f)=t.aN fun v=>cC ρ (f v):=by
 unfold cC
 rw[AD]
theorem cO.cC{N M:Int}{ρ:Int→Int}{t:Tm}(h:cO N t)(hr:∀v∈t.vl,0≤ρ v∧ρ v<M):cO M (AW.cC ρ t):=h.aN fun v hv=>J2 (hr v hv).1 (hr v hv).2
theorem bP.cC{N M:Int}{ρ:Int→Int}{t:Tm}(h:bP N t)(hr:∀v∈t.vl,0≤ρ v∧ρ v<M):bP M (AW.cC ρ t):=⟨h.1.cC hr,by rw[OR ρ h.1.2.1];exact h.2⟩
structure gD (ρ:Int→Int) (N:Int) (σ τ:Sub):Prop where
 inj:∀v w,0≤v→v<N→0≤w→w<N→ρ v=ρ w→v=w
 map:∀v,0≤v→v<N→τ (ρ v)=(σ v).map (cC ρ)
section
variable {ρ:Int→Int} {N:Int} {σ τ:Sub}
theorem gD.wk(S:gD ρ N σ τ)(ho:c9 (cO N) σ){f:Nat}{t u:Tm}(h:gR σ f t u):cO N t→gR τ f (cC ρ t) (cC ρ u):=by
 induction h with
 | @stop t h=>
  intro ht
  refine .stop fun hk=>?_
  rw[AL] at hk
  have hr:=ht.2.2 t.n (by rw[Tm.G5 hk];simp)
  rw[AM ρ hk]
  show τ (ρ t.n)=none
  rw[S.map _ hr.1 hr.2,h hk];try rfl
 | @go f t u v h1 h2 _ ih=>
  intro ht
  have hr:=ht.2.2 t.n (by rw[Tm.G5 h1];simp)
  refine .go (u:=cC ρ u) (by rw[AL];exact h1) ?_ (ih (ho _ _ h2))
  rw[AM ρ h1]
  show τ (ρ t.n)=_
  rw[S.map _ hr.1 hr.2,h2];try rfl
theorem gD.rs(S:gD ρ N σ τ)(hg:cX σ)(hg':cX τ)(ho:c9 (cO N) σ):∀v,0≤v→v<N→rs τ (ρ v)=cC ρ (rs σ v):=by
 obtain⟨rk,B,G⟩:=hg.rs
 obtain⟨rk',B',G'⟩:=hg'.rs
 refine fun v=>G.ind (p:=fun v=>0≤v→v<N→AW.rs τ (ρ v)=cC ρ (AW.rs σ v)) (fun v h h0 h1=>?_) (fun v u h ih h0 h1=>?_) v
 · rw[G.free h,a5W,G'.free (by rw[S.map v h0 h1,h];try rfl)]
 · rw[G.bound h,aPB,G'.bound (u:=cC ρ u) (by rw[S.map v h0 h1,h];try rfl),KB]
   refine r8 u fun w hw=>?_
   have:=(ho v u h).2.2 w hw
   exact ih w hw this.1 this.2
theorem gD.rsT(S:gD ρ N σ τ)(hg:cX σ)(hg':cX τ)(ho:c9 (cO N) σ){t:Tm}(ht:cO N t):(cC ρ t).aN (AW.rs τ)=cC ρ (t.aN (AW.rs σ)):=by
 rw[KB,aPB]
 exact r8 t fun v hv=>S.rs hg hg' ho v (ht.2.2 v hv).1 (ht.2.2 v hv).2
theorem gD.mem(S:gD ρ N σ τ){t:Tm}(ht:cO N t){n:Int}(h0:0≤n)(h1:n<N):ρ n∈(cC ρ t).vl↔n∈t.vl:=by
 rw[a8U]
 constructor
 · rintro⟨v,hv,e⟩
   rw[S.inj n v h0 h1 (ht.2.2 v hv).1 (ht.2.2 v hv).2 e];exact hv
 · exact fun h=>⟨n,h,rfl⟩
theorem gD.set(S:gD ρ N σ τ){n:Int}(h0:0≤n)(h1:n<N)(t:Tm):gD ρ N (σ.set n t) (τ.set (ρ n) (cC ρ t)):=by
 refine⟨S.inj,fun v hv0 hv1=>?_⟩
 unfold Sub.set
 by_cases h:v=n
 · subst h;simp
 · rw[aE (fun e=>h (S.inj v n hv0 hv1 h0 h1 e)),aE h,S.map v hv0 hv1]
theorem gD.lA(S:gD ρ N σ τ)(hg:cX σ)(hg':cX τ)(ho:c9 (cO N) σ){n:Int}(h0:0≤n)(h1:n<N){t:Tm}(ht:cO N t){r:Bool}{σ':Sub}{tr:List Int}(h:lA σ n t=(r,σ',tr)) :
 ∃τ',AW.lA τ (ρ n) (cC ρ t)=(r,τ',tr.map ρ)∧gD ρ N σ' τ':=by
 obtain⟨rk,B,G⟩:=hg.rs
 have e:=S.mem (G.VR ho ht) h0 h1
 rw[←S.rsT hg hg' ho ht] at e
 unfold AW.lA at h ⊢
 by_cases hm:n∈(t.aN (AW.rs σ)).vl
 · rw[aH hm] at h
   rw[aH (e.2 hm)]
   cases h
   exact⟨τ,rfl,S⟩
 · rw[aE hm] at h
   rw[aE (fun h=>hm (e.1 h))]
   cases h
   exact⟨_,rfl,S.set h0 h1 t⟩
theorem aN6{a b:Tm}(ha:a.k≠1)(hb:b.k≠1):v5 (cC ρ a) (cC ρ b)=v5 a b:=by
 obtain⟨k,n,s,ts⟩:=a
 obtain⟨k',n',s',ts'⟩:=b
 simp only[Tm.k] at ha hb
 rw[yD ρ ha,yD ρ hb,vI,uK,uK]
 simp only[Tm.k,Tm.n,Tm.s,Tm.ts,aF]
theorem gD.aTB(S:gD ρ N σ τ)(hg:cX σ)(ho:c9 (cO N) σ){t:Tm}(ht:cO N t):AW.wk τ (cC ρ t)=cC ρ (AW.wk σ t):=by
 obtain⟨rk,B,G⟩:=hg.rs
 obtain⟨f,h⟩:=G.wk t
 exact(S.wk ho h ht).wk
theorem a8L(ρ:Int→Int)(N:Int):∀g:Nat,(∀(σ τ:Sub) (a b:Tm) (r:Bool) (σ':Sub) (tr:List Int),cX σ→cX τ→c9 (cO N) σ→cO N a→cO N b→gD ρ N σ τ→dM g σ a b=some (r,σ',tr)→∃τ',dM g τ (cC ρ a) (cC ρ b)=some (r,τ',tr.map ρ)∧gD ρ N σ' τ') ∧
 (∀(xs ys:List Tm) (σ τ:Sub) (r:Bool) (σ':Sub) (tr:List Int),cX σ→cX τ→c9 (cO N) σ→(∀x∈xs,cO N x)→(∀y∈ys,cO N y)→gD ρ N σ τ→eJ g σ xs ys=some (r,σ',tr)→∃τ',eJ g τ (xs.map (cC ρ)) (ys.map (cC ρ))=some (r,τ',tr.map ρ)∧gD ρ N σ' τ'):=by
 intro g
 induction g with
 | zero=>
  refine⟨fun σ τ a b r σ' tr _ _ _ _ _ _ h=>(by simp only[dM] at h;cases h),?_⟩
  intro xs ys σ τ r σ' tr _ _ _ _ _ S h
  match xs,ys with
  | [],_=>simp only[eJ,Option.some.injEq,Prod.mk.injEq] at h;obtain⟨rfl,rfl,rfl⟩:=h;exact⟨τ,by simp only[aW,eJ],S⟩
  | x::xs,[]=>simp only[eJ,Option.some.injEq,Prod.mk.injEq] at h;obtain⟨rfl,rfl,rfl⟩:=h;exact⟨τ,by simp only[bB,aW,eJ],S⟩
  | x::xs,y::ys=>simp only[eJ,dM] at h;cases h
 | succ g ih=>
  have one:∀(σ τ:Sub) (a b:Tm) (r:Bool) (σ':Sub) (tr:List Int),cX σ→cX τ→c9 (cO N) σ→cO N a→cO N b→gD ρ N σ τ→dM (g+1) σ a b=some (r,σ',tr)→∃τ',dM (g+1) τ (cC ρ a) (cC ρ b)=some (r,τ',tr.map ρ)∧gD ρ N σ' τ':=by
   intro σ τ a b r σ' tr hg hg' ho ha hb S h
   obtain⟨rk,B,G⟩:=hg.rs
   obtain⟨fa,wa⟩:=G.wk a
   obtain⟨fb,wb⟩:=G.wk b
   have oa:=wa.all (p:=cO N) ho ha
   have ob:=wb.all (p:=cO N) ho hb
   have ea:=S.aTB hg ho ha
   have eb:=S.aTB hg ho hb
   have h:=P4 h
   generalize AW.wk σ a=a1 at *
   generalize AW.wk σ b=b1 at *
   rw[dM,ea,eb,AL,AL]
   have rng:∀ {t:Tm},cO N t→t.k=1→0≤t.n∧t.n<N:=fun ht hk=>ht.2.2 _ (by rw[Tm.G5 hk];simp)
   have nn:∀ {t:Tm},t.k=1→(cC ρ t).n=ρ t.n:=fun hk=>by rw[AM ρ hk];try rfl
   rcases h with ⟨h1,h2,h3,rfl,rfl,rfl⟩ | ⟨h1,h2,h3⟩ | ⟨h1,h2,h3⟩ | ⟨h1,h2,h3,h4⟩ | ⟨h1,h2,h3,rfl,rfl,rfl⟩
   · exact⟨τ,by rw[aH ⟨h1,h2,by rw[nn h1,nn h2,h3]⟩];try rfl,S⟩
   · have ra:=rng oa h1
     obtain⟨τ',e,S'⟩:=S.lA hg hg' ho ra.1 ra.2 ob h3
     refine⟨τ',?_,S'⟩
     rw[aE,aH h1,nn h1,e]
     rintro⟨_,h5,h6⟩
     have rb:=rng ob h5
     rw[nn h1,nn h5] at h6
     exact h2 ⟨h5,S.inj _ _ ra.1 ra.2 rb.1 rb.2 h6⟩
   · have rb:=rng ob h2
     obtain⟨τ',e,S'⟩:=S.lA hg hg' ho rb.1 rb.2 oa h3
     refine⟨τ',?_,S'⟩
     rw[aE (fun h=>h1 h.1),aE h1,aH h2,nn h2,e]
   · obtain⟨τ',e,S'⟩:=ih.2 a1.ts b1.ts σ τ r σ' tr hg hg' ho (OF N a1 h1 oa) (OF N b1 h2 ob) S h4
     refine⟨τ',?_,S'⟩
     rw[aE (fun h=>h1 h.1),aE h1,aE h2,aH (by rw[aN6 h1 h2];exact h3),GG ρ h1,GG ρ h2]
     exact e
   · refine⟨τ,?_,S⟩
     rw[aE (fun h=>h1 h.1),aE h1,aE h2,aE (by rw[aN6 h1 h2,h3];simp)]
     try rfl
  refine⟨one,?_⟩
  intro xs
  induction xs with
  | nil=>
   intro ys σ τ r σ' tr _ _ _ _ _ S h
   simp only[eJ,Option.some.injEq,Prod.mk.injEq] at h;obtain⟨rfl,rfl,rfl⟩:=h;exact⟨τ,by simp only[aW,eJ],S⟩
  | cons x xs ihx=>
   intro ys σ τ r σ' tr hg hg' ho hx hy S h
   cases ys with
   | nil=>simp only[eJ,Option.some.injEq,Prod.mk.injEq] at h;obtain⟨rfl,rfl,rfl⟩:=h;exact⟨τ,by simp only[bB,aW,eJ],S⟩
   | cons y ys=>
    rw[eJ] at h
    simp only[bB]
    rw[eJ]
    cases hu:dM (g+1) σ x y with
    | none=>rw[hu] at h;cases h
    | some p=>
     obtain⟨r1,σ1,tr1⟩:=p
     rw[hu] at h
     obtain⟨τ1,e1,S1⟩:=one σ τ x y r1 σ1 tr1 hg hg' ho (hx x (by simp)) (hy y (by simp)) S hu
     rw[e1]
     cases r1 with
     | false=>
      simp only[Option.some.injEq,Prod.mk.injEq] at h ⊢
      obtain⟨rfl,rfl,rfl⟩:=h
      exact⟨τ1,⟨rfl,rfl,rfl⟩,S1⟩
     | true=>
      simp only at h ⊢
      cases hu2:eJ (g+1) σ1 xs ys with
      | none=>rw[hu2] at h;cases h
      | some p2=>
       obtain⟨r2,σ2,tr2⟩:=p2
       rw[hu2] at h
       simp only[Option.some.injEq,Prod.mk.injEq] at h
       obtain⟨rfl,rfl,rfl⟩:=h
       have U1:=yL hg hu
       have U1':=yL hg' e1
       have ho1:=(P6 (OF N) (g+1)).1 σ x y true σ1 tr1 hg hu ho (hx x (by simp)) (hy y (by simp))
       obtain⟨τ2,e2,S2⟩:=ihx ys σ1 τ1 r2 σ2 tr2 U1.iR U1'.iR ho1 (fun z hz=>hx z (by simp [hz])) (fun z hz=>hy z (by simp [hz])) S1 hu2
       rw[e2]
       exact⟨τ2,by simp only[oY],S2⟩
theorem gD.jZ(S:gD ρ N σ τ)(hg:cX σ)(hg':cX τ)(ho:c9 (cO N) σ){a b:Tm}(ha:cO N a)(hb:cO N b){r:Bool}{σ':Sub}{tr:List Int}{g:Nat}(h:dM g σ a b=some (r,σ',tr)) :
 ∃τ',AW.jZ τ (cC ρ a) (cC ρ b)=(r,τ',tr.map ρ)∧gD ρ N σ' τ'∧cX τ':=by
 obtain⟨τ',e,S'⟩:=(a8L ρ N g).1 σ τ a b r σ' tr hg hg' ho ha hb S h
 exact⟨τ',aS0 e,S',(yL hg' e).iR⟩
end
end Go.AW
namespace Go.AW
open Go.Proofs.Tryz
def kZ(n:Int):Prop:= -999≤n∧n≤999
theorem aUM(s:ByteArray)(a b:Int)(ha:kZ a)(hb:kZ b):kZ (sO s a b).1:=by
 unfold sO kZ
 split
 · exact WE _
 split
 · exact WE _
 split
 · exact WE _
 split
 · simp
 rename_i h0
 split
 · exact aNA a b ha hb h0
 · exact tdiv_le a b ha
theorem aU5{f:Int→Int→Int×Int}{x y:Int×Int}(h:kZ (f x.1 y.1).1):kZ (both f x y).1:=by
 unfold both kZ
 split
 · simp
 split
 · simp
 · exact h
theorem Tm.vY{N:Int}:∀t:Tm,cO N t→kZ t.ev.1:=by
 intro t
 induction t using Tm.ind with
 | h k n s ts ih=>
  intro h
  obtain⟨h1,h2⟩:=h.all
  rw[Tm.zY]
  split
  · rename_i hk;exact h1 hk
  split
  · simp [kZ]
  split
  · match ts,h2,ih with
    | [],_,_=>simp [two,kZ]
    | [x],_,_=>simp [two,kZ]
    | [x,y],h2,ih=>exact aU5 (aUM _ _ _ (ih x (by simp) (h2 x (by simp))) (ih y (by simp) (h2 y (by simp))))
    | x::y::z::l,_,_=>simp [two,kZ]
  · simp [kZ]
theorem XR{ts:List Tm}(h:(ts.length:Int)=2):∃x y,ts= [x,y]:=by
 match ts,h with
 | [x,y],_=>exact⟨x,y,rfl⟩
 | [],h=>simp at h
 | [x],h=>simp at h
 | x::y::z::l,h=>simp at h;omega
abbrev yI:=zi tI_3 (zi zI_3 (zi aU (zi tI_4 (zi zI_4 (zi cI (zi tI_9 (zi zI_9 (zi cT (zi tI_28 (zi zI_28 (zi aO (zi bF (zi bG (zi bZ (zi tI_52 (zi zI_52 (zi bU (zi bV (zi bX (zi bY (zi bT (zi tI_138 (zi zI_138 (zi j9 (zi nQ (zi nR oR))))))))))))))))))))))))))
theorem MF{N:Int}:∀(t:Tm) (st:aB),cO N t→aD prog 229 [t.av] st (fun r st'=>r=.tup [.int .i64 t.ev.1,.int .i64 t.ev.2]∧st'=st)
 | .mk k n s ts,st,hok=>by
  obtain⟨h1,h2⟩:=hok.all
  have IH:=fun(x:Tm) (hx:x∈ts) st=>MF x st (h2 x hx)
  rw[Tm.zY]
  simp only[a8]
  refine wF [1000000] 1 func229 ntmps229 rfl rfl ?_
  intro _
  simp -implicitDefEqProofs only[aA,seval,yI]
  refine aQ (fun hk=>?_) (fun hk=>?_)
  · simp -implicitDefEqProofs only[aA,seval,yI]
    simp only[bK] at hk
    simp [hk]
  simp only[dL] at hk
  rw[aE hk]
  simp -implicitDefEqProofs only[aA,seval,yI]
  refine aQ (fun hk1=>?_) (fun hk1=>?_)
  · simp -implicitDefEqProofs only[aA,seval]
    simp only[bK] at hk1
    simp [hk1]
  simp only[dL] at hk1
  rw[aE hk1]
  simp -implicitDefEqProofs only[aF,aA,seval,yI]
  have hty:∀s0:aB,ts.length≠2∨gS rM s=false→(if gS rM s=true then two (sO s) (ts.map Tm.ev) else(0,3))=((0:Int),(3:Int)):=fun _ h=>by
   split
   · rename_i h3
     rcases h with h | h
     · match ts,h with
       | [],_=>rfl
       | [x],_=>rfl
       | [x,y],h=>simp at h
       | x::y::z::l,_=>rfl
     · rw[h] at h3;cases h3
   · rfl
  refine cU (fun h=>?_) (fun h=>?_)
  case refine_2=>
   simp -implicitDefEqProofs only[h,aA,seval]
   rw[hty st (.inl (by simp at h;omega))]
  simp -implicitDefEqProofs only[h,aA,seval,yI]
  refine(RX rM s _).to ?_
  simp -implicitDefEqProofs only[aA,seval]
  refine aQ (fun h3=>?_) (fun h3=>?_)
  · simp -implicitDefEqProofs only[aA,seval]
    rw[hty st (.inr (by simpa [gS] using h3))]
  have hin:gS rM s=true:=by simpa [gS] using h3
  rw[aH hin]
  clear hty
  obtain⟨x,y,rfl⟩:=XR (by simpa using h)
  have eG:dN prog 28 (.slice [x.av,y.av]) (.int .i64 0)=some (.pptr x.av):=bQ (av:=Tm.av) (l:=[x,y]) (i:=0) aO rfl (aM x)
  have fR:dN prog 28 (.slice [x.av,y.av]) (.int .i64 1)=some (.pptr y.av):=bQ (av:=Tm.av) (l:=[x,y]) (i:=1) aO rfl (aM y)
  have hx:=Tm.vY x (h2 x (by simp))
  have hy:=Tm.vY y (h2 y (by simp))
  have IHx:=fun st=>IH x (by simp) st
  have IHy:=fun st=>IH y (by simp) st
  simp -implicitDefEqProofs only[eG,aY,aM,aA,↓aS,seval,yI]
  refine(IHx _).to ?_
  simp only[two,both]
  generalize x.ev.1=a at *
  generalize x.ev.2=ca at *
  generalize y.ev.1=b at *
  generalize y.ev.2=cb at *
  simp -implicitDefEqProofs only[aA,seval]
  refine aQ (fun h4=>?_) (fun h4=>?_)
  · simp -implicitDefEqProofs only[aA,seval]
    have h4':ca≠0:=by simpa using h4
    rw[aH h4']
  have h4':ca=0:=by simpa using h4
  subst h4'
  rw[aE (by simp)]
  simp -implicitDefEqProofs only[fR,aY,aM,aA,seval,yI]
  refine(IHy _).to ?_
  simp -implicitDefEqProofs only[aA,seval]
  refine aQ (fun h5=>?_) (fun h5=>?_)
  · simp -implicitDefEqProofs only[aA,seval]
    have h5':cb≠0:=by simpa using h5
    rw[aH h5']
  have h5':cb=0:=by simpa using h5
  subst h5'
  rw[aE (by simp)]
  unfold kZ at hx hy
  have hmul: -998001≤a*b∧a*b≤998001:=by
   have h6:(a*b).natAbs≤998001:=by
    rw[Int.natAbs_mul]
    have:=Nat.mul_le_mul (show a.natAbs≤999 by omega) (show b.natAbs≤999 by omega)
    omega
   omega
  have hw1:=bO (n:=a+b)
  have hw2:=bO (n:=a - b)
  have hw3:=bO (n:=a*b)
  have hrg:∀(v:Int) (st':aB),aD prog 87 [.int .i64 v,.int .i64 (-999),.int .i64 999] st' (fun r s'=>r=.bool (decide (kB v=(v,0)))∧s'=st'):=fun v st'=>by
   refine(zP v (-999) 999 st').mono ?_
   rintro _ _ ⟨rfl,rfl⟩
   refine⟨?_,rfl⟩
   congr 1
   unfold kB
   split
   · rename_i h;simp [h.1,h.2]
   · rename_i h
     rw[show(decide (((0:Int),(5:Int))=(v,0)))=false from f0 (by simp)]
     simp only[Bool.and_eq_false_iff,dL]
     omega
  have hrn:∀v,kB v≠(v,0)→kB v=(0,5):=fun v h=>by
   unfold kB at h ⊢
   split
   · rename_i h';rw[aH h'] at h;exact absurd rfl h
   · rfl
  unfold sO
  simp -implicitDefEqProofs only[aA,seval,yI]
  refine aQ (fun h6=>?_) (fun h6=>?_)
  · simp -implicitDefEqProofs only[hw1,aA,seval]
    rw[aH (by simpa using h6)]
    refine(hrg (a+b) _).to ?_
    simp -implicitDefEqProofs only[aA,seval]
    refine aQ (fun h8=>?_) (fun h8=>?_)
    · simp -implicitDefEqProofs only[aA,seval]
      rw[hrn _ (by simpa using h8)]
    · simp -implicitDefEqProofs only[aA,seval]
      rw[show kB (a+b)=(a+b,0) by simpa using h8]
  rw[aE (by simpa using h6)]
  simp -implicitDefEqProofs only[aA,seval]
  refine aQ (fun h7=>?_) (fun h7=>?_)
  · simp -implicitDefEqProofs only[hw2,aA,seval]
    rw[aH (by simpa using h7)]
    refine(hrg (a - b) _).to ?_
    simp -implicitDefEqProofs only[aA,seval]
    refine aQ (fun h8=>?_) (fun h8=>?_)
    · simp -implicitDefEqProofs only[aA,seval]
      rw[hrn _ (by simpa using h8)]
    · simp -implicitDefEqProofs only[aA,seval]
      rw[show kB (a - b)=(a - b,0) by simpa using h8]
  rw[aE (by simpa using h7)]
  simp -implicitDefEqProofs only[aA,seval]
  refine aQ (fun h9=>?_) (fun h9=>?_)
  · simp -implicitDefEqProofs only[hw3,aA,seval]
    rw[aH (by simpa using h9)]
    refine(hrg (a*b) _).to ?_
    simp -implicitDefEqProofs only[aA,seval]
    refine aQ (fun h8=>?_) (fun h8=>?_)
    · simp -implicitDefEqProofs only[aA,seval]
      rw[hrn _ (by simpa using h8)]
    · simp -implicitDefEqProofs only[aA,seval]
      rw[show kB (a*b)=(a*b,0) by simpa using h8]
  rw[aE (by simpa using h9)]
  simp -implicitDefEqProofs only[aA,seval]
  refine aQ (fun h0=>?_) (fun h0=>?_)
  · simp -implicitDefEqProofs only[aA,seval]
    rw[aH (by simpa using h0)]
  have h0':b≠0:=by simpa using h0
  rw[aE h0']
  have hq:=tdiv_le a b hx
  have hr:=PI a b h0'
  have hf:=aNA a b hx hy h0'
  have hfe:=a0O a b h0'
  have hw4:=bO (n:=a.tdiv b)
  have hw5:=bO (n:=a.tmod b+b)
  have a1Y:kB (a.tdiv b)=(a.tdiv b,0):=by unfold kB;rw[aH hq]
  have a1Z:kB (rQ a b)=(rQ a b,0):=by unfold kB;rw[aH hf]
  simp -implicitDefEqProofs only[hw4,h0',aA,seval,yI]
  refine aQ (fun h10=>?_) (fun h10=>?_)
  · simp -implicitDefEqProofs only[hw5,h0',hfe,aA,seval]
    rw[aH (by simpa using h10)]
    refine(hrg (rQ a b) _).to ?_
    have hd:decide (kB (rQ a b)=(rQ a b,0))=true:=by rw[a1Z];simp
    simp -implicitDefEqProofs only[hd,aA,seval]
  · simp -implicitDefEqProofs only[aA,seval]
    rw[aE (by simpa using h10)]
    refine(hrg (a.tdiv b) _).to ?_
    have hd:decide (kB (a.tdiv b)=(a.tdiv b,0))=true:=by rw[a1Y];simp
    simp -implicitDefEqProofs only[hd,aA,seval]
termination_by t=>SizeOf.sizeOf t
decreasing_by have:=List.sizeOf_lt_of_mem hx;simp only[Tm.mk.sizeOf_spec];omega
theorem SD(n:Int)(st:aB):aD prog 263 [.int .i64 n] st (fun r st'=>r=.tup [.int .i64 (kB n).1,.int .i64 (kB n).2]∧st'=st):=by
 refine wF [1000000] 1 func263 ntmps263 rfl rfl ?_
 intro _
 simp -implicitDefEqProofs only[aA,seval]
 refine cU (fun h=>?_) (fun h=>?_)
 · simp -implicitDefEqProofs only[h,aA,seval]
   have h1:¬n< -999:=by simpa using h
   refine aQ (fun h2=>?_) (fun h2=>?_)
   · simp -implicitDefEqProofs only[aA,seval]
     have h2':999<n:=by simpa using h2
     unfold kB
     rw[aE (by omega)]
   · simp -implicitDefEqProofs only[aA,seval]
     have h2':¬ 999<n:=by simpa using h2
     unfold kB
     rw[aH (by omega)]
 · simp -implicitDefEqProofs only[h,aA,seval]
   have h1:n< -999:=by simpa using h
   unfold kB
   rw[aE (by omega)]
abbrev a7A:=zi tI_3 (zi zI_3 (zi aU (zi tI_4 (zi zI_4 cI))))
theorem aXV(a b:Int)(ha:kZ a)(hb:kZ b)(h0:b≠0)(st:aB):aD prog 264 [.int .i64 a,.int .i64 b] st (fun r st'=>r=.int .i64 (rQ a b)∧st'=st):=by
 have hl:=PI a b h0
 unfold kZ at ha hb
 have hw:=bO (n:=a.tmod b+b)
 refine wF [1000000] 2 func264 ntmps264 rfl rfl ?_
 intro _
 simp -implicitDefEqProofs only[h0,aA,seval]
 have hf:rQ a b=if a.tmod b≠0∧decide (a.tmod b<0)≠decide (b<0) then a.tmod b+b else a.tmod b:=rfl
 rw[hf]
 clear hf
 generalize hm:a.tmod b=m at *
 refine cU (fun h=>?_) (fun h=>?_)
 · have h':m≠0:=by simpa using h
   simp -implicitDefEqProofs only[h,aA,seval,a7A]
   refine aQ (fun h2=>?_) (fun h2=>?_)
   · simp -implicitDefEqProofs only[hw,aA,seval]
     rw[aH ⟨h',by simpa using h2⟩]
   · simp -implicitDefEqProofs only[aA,seval]
     rw[aE (by intro h3;exact h3.2 (by simpa using h2))]
 · have h':m=0:=by simpa using h
   simp -implicitDefEqProofs only[h,aA,seval]
   rw[aE (by intro h3;exact h3.1 h')]
theorem aXT(a b:Int)(ha:kZ a)(hb:kZ b)(h0:b≠0)(st:aB):aD prog 265 [.int .i64 a,.int .i64 b] st (fun r st'=>r=.int .i64 (a.tdiv b)∧st'=st):=by
 have hl:=tdiv_le a b ha
 have hw:=bO (n:=a.tdiv b)
 refine wF [1000000] 2 func265 ntmps265 rfl rfl ?_
 intro _
 simp -implicitDefEqProofs only[h0,hw,aA,seval]
theorem aA2(s:ByteArray)(a b:Int)(hx:kZ a)(hy:kZ b)(st:aB):aD prog 243 [.str s,.int .i64 a,.int .i64 b] st (fun r st'=>r=.tup [.int .i64 (sO s a b).1,.int .i64 (sO s a b).2]∧st'=st):=by
 have hMod:=fun h0=>aXV a b hx hy h0
 have hDiv:=fun h0=>aXT a b hx hy h0
 unfold kZ at hx hy
 have hmul: -998001≤a*b∧a*b≤998001:=by
  have h6:(a*b).natAbs≤998001:=by
   rw[Int.natAbs_mul]
   have:=Nat.mul_le_mul (show a.natAbs≤999 by omega) (show b.natAbs≤999 by omega)
   omega
  omega
 have hw1:=bO (n:=a+b)
 have hw2:=bO (n:=a - b)
 have hw3:=bO (n:=a*b)
 unfold sO
 refine wF [1000000] 3 func243 ntmps243 rfl rfl ?_
 intro _
 simp -implicitDefEqProofs only[aA,seval]
 refine aQ (fun h6=>?_) (fun h6=>?_)
 · simp -implicitDefEqProofs only[hw1,aA,seval]
   rw[aH (by simpa using h6)]
   refine(SD _ _).to ?_
   simp -implicitDefEqProofs only[aA,seval]
 rw[aE (by simpa using h6)]
 simp -implicitDefEqProofs only[aA,seval]
 refine aQ (fun h7=>?_) (fun h7=>?_)
 · simp -implicitDefEqProofs only[hw2,aA,seval]
   rw[aH (by simpa using h7)]
   refine(SD _ _).to ?_
   simp -implicitDefEqProofs only[aA,seval]
 rw[aE (by simpa using h7)]
 simp -implicitDefEqProofs only[aA,seval]
 refine aQ (fun h9=>?_) (fun h9=>?_)
 · simp -implicitDefEqProofs only[hw3,aA,seval]
   rw[aH (by simpa using h9)]
   refine(SD _ _).to ?_
   simp -implicitDefEqProofs only[aA,seval]
 rw[aE (by simpa using h9)]
 simp -implicitDefEqProofs only[aA,seval]
 refine aQ (fun h0=>?_) (fun h0=>?_)
 · simp -implicitDefEqProofs only[aA,seval]
   rw[aH (by simpa using h0)]
 have h0':b≠0:=by simpa using h0
 rw[aE h0']
 simp -implicitDefEqProofs only[aA,seval]
 refine aQ (fun h10=>?_) (fun h10=>?_)
 · simp -implicitDefEqProofs only[aA,seval]
   rw[aH (by simpa using h10)]
   refine(hMod h0' _).to ?_
   simp -implicitDefEqProofs only[aA,seval]
 · simp -implicitDefEqProofs only[aA,seval]
   rw[aE (by simpa using h10)]
   refine(hDiv h0' _).to ?_
   simp -implicitDefEqProofs only[aA,seval]
theorem L6(s:ByteArray):gS rM s=decide (dZ s=1∨dZ s=2):=by
 unfold gS rM dZ
 simp only[EB,List.any_nil,G6]
 by_cases h1:s=⟨#[43]⟩
 · subst h1;decide
 by_cases h2:s=⟨#[45]⟩
 · subst h2;decide
 by_cases h3:s=⟨#[42]⟩
 · subst h3;decide
 by_cases h4:s=⟨#[47,47]⟩
 · subst h4;decide
 by_cases h5:s=⟨#[109,111,100]⟩
 · subst h5;decide
 simp only[h1,h2,h3,h4,h5,bM,G6,CC]
 cases (decide (s=⟨#[61]⟩)||decide (s=⟨#[92,61]⟩)||decide (s=⟨#[61,61]⟩)||decide (s=⟨#[60]⟩)||decide (s=⟨#[62]⟩)||decide (s=⟨#[61,60]⟩)||decide (s=⟨#[62,61]⟩)||decide (s=⟨#[61,58,61]⟩)||decide (s=⟨#[105,115]⟩))<;>rfl
abbrev tE:=zi tI_3 (zi zI_3 (zi aU (zi tI_9 (zi zI_9 (zi cT (zi tI_28 (zi zI_28 (zi aO (zi bF (zi bG (zi bZ (zi tI_52 (zi zI_52 (zi bU (zi bV (zi bX (zi bY bT)))))))))))))))))
theorem ML{N:Int}:∀(t:Tm) (st:aB),cO N t→aD prog 205 [t.av] st (fun r st'=>r=.tup [.int .i64 t.ev.1,.int .i64 t.ev.2]∧st'=st)
 | .mk k n s ts,st,hok=>by
  obtain⟨h1,h2⟩:=hok.all
  have IH:=fun(x:Tm) (hx:x∈ts) st=>ML x st (h2 x hx)
  rw[Tm.zY]
  simp only[a8]
  refine wF [1000000] 1 func205 ntmps205 rfl rfl ?_
  intro _
  simp -implicitDefEqProofs only[aA,seval,tE]
  refine aQ (fun hk1=>?_) (fun hk1=>?_)
  · simp -implicitDefEqProofs only[aA,seval]
    simp only[bK] at hk1
    rw[aE (by omega),aH hk1]
  simp only[dL] at hk1
  rw[aE hk1]
  simp -implicitDefEqProofs only[aA,seval]
  refine aQ (fun hk=>?_) (fun hk=>?_)
  · simp -implicitDefEqProofs only[aA,seval,tE]
    simp only[bK] at hk
    simp [hk]
  simp only[dL] at hk
  rw[aE hk]
  simp -implicitDefEqProofs only[aA,seval,tE]
  refine(w8 s _).to ?_
  simp -implicitDefEqProofs only[aF,aA,seval,tE]
  have hty:∀s0:aB,ts.length≠2∨gS rM s=false→(if gS rM s=true then two (sO s) (ts.map Tm.ev) else(0,3))=((0:Int),(3:Int)):=fun _ h=>by
   split
   · rename_i h3
     rcases h with h | h
     · match ts,h with
       | [],_=>rfl
       | [x],_=>rfl
       | [x,y],h=>simp at h
       | x::y::z::l,_=>rfl
     · rw[h] at h3;cases h3
   · rfl
  refine cU (fun h=>?_) (fun h=>?_)
  case refine_2=>
   simp -implicitDefEqProofs only[h,aA,seval]
   rw[hty st (.inl (by simp at h;omega))]
  simp -implicitDefEqProofs only[h,aA,seval]
  have aOD:gS rM s=false→dZ s≠1∧dZ s≠2:=fun h=>by
   rw[L6] at h
   have:=of_decide_eq_false h
   omega
  refine cU (fun h3=>?_) (fun h3=>?_)
  · simp -implicitDefEqProofs only[h3,aA,seval]
    have h3':dZ s≠1:=by simp at h3;omega
    refine aQ (fun h6=>?_) (fun h6=>?_)
    · have h6':dZ s≠2:=by simp at h6;omega
      simp -implicitDefEqProofs only[aA,seval]
      rw[hty st (.inr (by rw[L6];simp [h3',h6']))]
    · have h6':dZ s=2:=by simp at h6;omega
      have hin:gS rM s=true:=by rw[L6];simp [h6']
      simp -implicitDefEqProofs only[aA,seval,tE]
      rw[aH hin]
      clear hty aOD
      obtain⟨x,y,rfl⟩:=XR (by simpa using h)
      have eG:dN prog 28 (.slice [x.av,y.av]) (.int .i64 0)=some (.pptr x.av):=bQ (av:=Tm.av) (l:=[x,y]) (i:=0) aO rfl (aM x)
      have fR:dN prog 28 (.slice [x.av,y.av]) (.int .i64 1)=some (.pptr y.av):=bQ (av:=Tm.av) (l:=[x,y]) (i:=1) aO rfl (aM y)
      have hx:=Tm.vY x (h2 x (by simp))
      have hy:=Tm.vY y (h2 y (by simp))
      have IHx:=fun st=>IH x (by simp) st
      have IHy:=fun st=>IH y (by simp) st
      simp only[bB,aW,two,both]
      simp -implicitDefEqProofs only[eG,aY,aM,aA,↓aS,seval,tE]
      refine(IHx _).to ?_
      generalize x.ev.1=a at *
      generalize x.ev.2=ca at *
      generalize y.ev.1=b at *
      generalize y.ev.2=cb at *
      simp -implicitDefEqProofs only[aA,seval]
      refine aQ (fun h4=>?_) (fun h4=>?_)
      · simp -implicitDefEqProofs only[aA,seval]
        have h4':ca≠0:=by simpa using h4
        rw[aH h4']
      have h4':ca=0:=by simpa using h4
      subst h4'
      rw[aE (by simp)]
      simp -implicitDefEqProofs only[fR,aY,aM,aA,seval,tE]
      refine(IHy _).to ?_
      simp -implicitDefEqProofs only[aA,seval]
      refine aQ (fun h5=>?_) (fun h5=>?_)
      · simp -implicitDefEqProofs only[aA,seval]
        have h5':cb≠0:=by simpa using h5
        rw[aH h5']
      have h5':cb=0:=by simpa using h5
      subst h5'
      rw[aE (by simp)]
      simp -implicitDefEqProofs only[aA,seval,tE]
      refine(aA2 s a b hx hy _).to ?_
      simp -implicitDefEqProofs only[aA,seval]
  · have h3':dZ s=1:=by simp at h3;omega
    have hin:gS rM s=true:=by rw[L6];simp [h3']
    simp -implicitDefEqProofs only[h3,aA,seval,tE]
    rw[aH hin]
    clear hty aOD
    obtain⟨x,y,rfl⟩:=XR (by simpa using h)
    have eG:dN prog 28 (.slice [x.av,y.av]) (.int .i64 0)=some (.pptr x.av):=bQ (av:=Tm.av) (l:=[x,y]) (i:=0) aO rfl (aM x)
    have fR:dN prog 28 (.slice [x.av,y.av]) (.int .i64 1)=some (.pptr y.av):=bQ (av:=Tm.av) (l:=[x,y]) (i:=1) aO rfl (aM y)
    have hx:=Tm.vY x (h2 x (by simp))
    have hy:=Tm.vY y (h2 y (by simp))
    have IHx:=fun st=>IH x (by simp) st
    have IHy:=fun st=>IH y (by simp) st
    simp only[bB,aW,two,both]
    simp -implicitDefEqProofs only[eG,aY,aM,aA,↓aS,seval,tE]
    refine(IHx _).to ?_
    generalize x.ev.1=a at *
    generalize x.ev.2=ca at *
    generalize y.ev.1=b at *
    generalize y.ev.2=cb at *
    simp -implicitDefEqProofs only[aA,seval]
    refine aQ (fun h4=>?_) (fun h4=>?_)
    · simp -implicitDefEqProofs only[aA,seval]
      have h4':ca≠0:=by simpa using h4
      rw[aH h4']
    have h4':ca=0:=by simpa using h4
    subst h4'
    rw[aE (by simp)]
    simp -implicitDefEqProofs only[fR,aY,aM,aA,seval,tE]
    refine(IHy _).to ?_
    simp -implicitDefEqProofs only[aA,seval]
    refine aQ (fun h5=>?_) (fun h5=>?_)
    · simp -implicitDefEqProofs only[aA,seval]
      have h5':cb≠0:=by simpa using h5
      rw[aH h5']
    have h5':cb=0:=by simpa using h5
    subst h5'
    rw[aE (by simp)]
    simp -implicitDefEqProofs only[aA,seval,tE]
    refine(aA2 s a b hx hy _).to ?_
    simp -implicitDefEqProofs only[aA,seval]
termination_by t=>SizeOf.sizeOf t
decreasing_by have:=List.sizeOf_lt_of_mem hx;simp only[Tm.mk.sizeOf_spec];omega
abbrev aR4:=zi tI_3 (zi zI_3 (zi aU (zi tI_40 (zi zI_40 (zi dT (zi fJ (zi fK fU)))))))
theorem Z8(l:List Int)(v:Int)(st:aB):aD prog 239 [.slice (l.map iv),.int .i64 v] st (fun r st'=>r=.int .i64 (fP v l 0)∧st'=st):=by
 refine wF [] 2 func239 ntmps239 rfl rfl ?_
 simp only[eQ,AV.fits,eR,aF]
 intro ⟨hl,_⟩
 simp -implicitDefEqProofs only[aF,aA,seval,aR4]
 refine eL (σ:=Unit) [] [0,1,7] l (fun i _=>fP v l 0=fP v (l.drop i) i) (fun i _=>[(8,.int .i64 i)]) (fun _ _=>st) (by decide +kernel) ⟨(),rfl,aP.mk (by simp -implicitDefEqProofs only[aA,↓aS,seval])⟩ (fun i x _ hx hlt bR hdr hinv=>?_) (fun _ hge hinv=>?_)
 case refine_2=>
  simp -implicitDefEqProofs only[hge,aA,seval]
  rw[hinv,lH]
  try rfl
 rw[hdr,fP] at hinv
 have hw:=bO (n:=(i:Int)+1)
 simp -implicitDefEqProofs only[bR,bQ (av:=iv) dT hx rfl,aA,seval,aR4]
 refine aQ (fun h=>?_) (fun h=>?_)
 · simp only[bK] at h
   rw[aH h] at hinv
   simp -implicitDefEqProofs only[hinv,aA,seval]
 · simp only[dL] at h
   rw[aE h] at hinv
   simp -implicitDefEqProofs only[aA,seval]
   exact⟨(),by rw[hinv],aP.mk (by simp -implicitDefEqProofs only[hw,aA,seval])⟩
theorem aVG(l:List Int)(v:Int)(st:aB):aD prog 221 [.slice (l.map iv),.int .i64 v] st (fun r st'=>r=.bool (decide (v∈l))∧st'=st):=by
 refine wF [] 2 func221 ntmps221 rfl rfl ?_
 intro _
 simp -implicitDefEqProofs only[aA,seval]
 refine(Z8 l v st).to ?_
 simp -implicitDefEqProofs only[aOY v l 0 (Int.le_refl 0),aA,seval]
theorem a6A{st:aB}{b:Nat}{l:List Int}{os xs:List AV}(h:Seen (aV st b (l.map iv)) dQ os xs):Seen (aV st b (l.map iv)) dQ (aZ 1 b (l.map iv)::os) (.slice (l.map iv)::xs):=
 Seen.own (aP0 (bA.flat (by simp [AV.flat])) (by intro e h;simp only[cY] at h;obtain⟨t,_,rfl⟩:=h;rfl)) h
def Grown(st:aB)(l:List Int)(r:AV)(st':aB):Prop:=∃b',r=aZ 1 b' (l.map iv)∧st'=aV st b' (l.map iv)∧(l.map iv≠[]→st b'=none)
abbrev tJ:=zi tI_3 (zi zI_3 (zi aU (zi tI_4 (zi zI_4 (zi cI (zi tI_28 (zi zI_28 (zi aO (zi bF (zi bG (zi bZ (zi tI_40 (zi zI_40 (zi dT (zi fJ (zi fK (zi fU (zi tI_52 (zi zI_52 (zi bU (zi bV (zi bX (zi bY bT)))))))))))))))))))))))
theorem aAA:∀(t:Tm) (l:List Int) (b:Nat) (st:aB),(l.map iv≠[]→st b=none)→l.length+t.nodes≤1099511627776→aD prog 182 [t.av,aZ 1 b (l.map iv)] (aV st b (l.map iv)) (Grown st (t.vars l))
 | .mk k n s ts,l,b,st,hb,hsz=>by
  have IH:=fun(x:Tm) (hx:x∈ts)=>aAA x
  simp only[Tm.vars]
  rw[Tm.iS] at hsz
  refine wF [] 2 func182 ntmps182 rfl rfl ?_
  simp only[a8,eQ,AV.fits,eR,aF]
  intro ⟨⟨_,_,_,hl,_⟩,_⟩
  simp -implicitDefEqProofs only[aA,seval,tJ]
  refine cU (fun h=>?_) (fun h=>?_)
  · simp only[bK] at h
    subst h
    simp -implicitDefEqProofs only[aA,seval,tJ]
    refine(aD.see (fun s=>aVG l n s) (a6A (Seen.same .nil)) rfl).to ?_
    simp -implicitDefEqProofs only[aA,seval]
    refine aQ (fun h=>?_) (fun h=>?_)
    · simp only[lT,dL] at h
      rw[aH h]
      simp -implicitDefEqProofs only[aA,seval,tJ]
      refine eE dT fJ fK rfl rfl (fL rfl rfl) (by intro e h;simp only[cY] at h;obtain⟨t,_,rfl⟩:=h;rfl) hb (by simp;omega) (by simp;omega) (fun b' hb'=>?_)
      rw[show l.map iv++ [AV.int .i64 n]=(l++ [n]).map iv by simp] at hb' ⊢
      simp -implicitDefEqProofs only[aA,seval,tJ]
      refine eL (σ:=List Int×Nat) [] [4,23,24] ts (fun i p=>cF (ts.drop i) p.1=cF ts (l++ [n])∧p.1.length+bH Tm.nodes (ts.drop i)≤1099511627776∧(p.1.map iv≠[]→st p.2=none)) (fun i p=>[(1,aZ 1 p.2 (p.1.map iv)),(25,.int .i64 i)]) (fun _ p=>aV st p.2 (p.1.map iv)) (by decide +kernel)
       ⟨(l++ [n],b'),⟨rfl,by simp;omega,hb'⟩,aP.mk (by simp -implicitDefEqProofs only[aF,aA,↓aS,seval])⟩ (fun i x p hx hlt bR hdr hinv=>?_) (fun p hge hinv=>?_)
      case refine_2=>
       simp -implicitDefEqProofs only[aF,hge,aA,seval]
       rw[←hinv.1,lH]
       exact⟨p.2,rfl,rfl,hinv.2.2⟩
      obtain⟨acc,b⟩:=p
      rw[hdr] at hinv
      obtain⟨i1,i2,i3⟩:=hinv
      simp only[bH] at i2
      have hw:=bO (n:=(i:Int)+1)
      simp -implicitDefEqProofs only[aF,bR,bQ (av:=Tm.av) aO hx (aM x),aY,aM,aA,seval,tJ]
      intro b2 hb2
      obtain⟨hn2,hne⟩:=ER hb2
      have hc2: [AV.int IntKind.i64 0,AV.int IntKind.i64 0,AV.str ⟨#[]⟩,AV.fslice []].length=4:=rfl
      try simp -implicitDefEqProofs only[cK,AP (x:=x.av.cells) (b9 x) hc2,b9,cH,eW (b9 x),eU (aY x),dC,aA,↓aS,seval,tJ]
      rw[lQ hne]
      refine(IH x (dA hx) acc b _ (fun h=>by rw[aB.aG _ _ (dG (hne h))];exact i3 h) (by omega)).mono ?_
      rintro _ _ ⟨b',rfl,rfl,hb'⟩
      simp -implicitDefEqProofs only[hw,aA,seval]
      obtain⟨hd,CS⟩:=LZ (o:=.cells x.av.cells) hn2 hb'
      have hvl:=Tm.G4 x acc
      refine⟨(x.vars acc,b'),⟨i1,by simp only;omega,CS⟩,aP.drop hd (by simp -implicitDefEqProofs only[aA,seval])⟩
    · simp only[qD,bK] at h
      rw[aE (by simp [h])]
      simp -implicitDefEqProofs only[aA,seval,tJ]
      refine eL (σ:=List Int×Nat) [] [4,23,24] ts (fun i p=>cF (ts.drop i) p.1=cF ts (l)∧p.1.length+bH Tm.nodes (ts.drop i)≤1099511627776∧(p.1.map iv≠[]→st p.2=none)) (fun i p=>[(1,aZ 1 p.2 (p.1.map iv)),(25,.int .i64 i)]) (fun _ p=>aV st p.2 (p.1.map iv)) (by decide +kernel)
       ⟨(l,b),⟨rfl,by simp;omega,hb⟩,aP.mk (by simp -implicitDefEqProofs only[aF,aA,↓aS,seval])⟩ (fun i x p hx hlt bR hdr hinv=>?_) (fun p hge hinv=>?_)
      case refine_2=>
       simp -implicitDefEqProofs only[aF,hge,aA,seval]
       rw[←hinv.1,lH]
       exact⟨p.2,rfl,rfl,hinv.2.2⟩
      obtain⟨acc,b⟩:=p
      rw[hdr] at hinv
      obtain⟨i1,i2,i3⟩:=hinv
      simp only[bH] at i2
      have hw:=bO (n:=(i:Int)+1)
      simp -implicitDefEqProofs only[aF,bR,bQ (av:=Tm.av) aO hx (aM x),aY,aM,aA,seval,tJ]
      intro b2 hb2
      obtain⟨hn2,hne⟩:=ER hb2
      have hc2: [AV.int IntKind.i64 0,AV.int IntKind.i64 0,AV.str ⟨#[]⟩,AV.fslice []].length=4:=rfl
      try simp -implicitDefEqProofs only[cK,AP (x:=x.av.cells) (b9 x) hc2,b9,cH,eW (b9 x),eU (aY x),dC,aA,↓aS,seval,tJ]
      rw[lQ hne]
      refine(IH x (dA hx) acc b _ (fun h=>by rw[aB.aG _ _ (dG (hne h))];exact i3 h) (by omega)).mono ?_
      rintro _ _ ⟨b',rfl,rfl,hb'⟩
      simp -implicitDefEqProofs only[hw,aA,seval]
      obtain⟨hd,CS⟩:=LZ (o:=.cells x.av.cells) hn2 hb'
      have hvl:=Tm.G4 x acc
      refine⟨(x.vars acc,b'),⟨i1,by simp only;omega,CS⟩,aP.drop hd (by simp -implicitDefEqProofs only[aA,seval])⟩
  · simp only[pM,dL] at h
    rw[aE (by simp [h])]
    simp -implicitDefEqProofs only[h,aA,seval,tJ]
    refine eL (σ:=List Int×Nat) [] [4,23,24] ts (fun i p=>cF (ts.drop i) p.1=cF ts (l)∧p.1.length+bH Tm.nodes (ts.drop i)≤1099511627776∧(p.1.map iv≠[]→st p.2=none)) (fun i p=>[(1,aZ 1 p.2 (p.1.map iv)),(25,.int .i64 i)]) (fun _ p=>aV st p.2 (p.1.map iv)) (by decide +kernel)
     ⟨(l,b),⟨rfl,by simp;omega,hb⟩,aP.mk (by simp -implicitDefEqProofs only[aF,aA,↓aS,seval])⟩ (fun i x p hx hlt bR hdr hinv=>?_) (fun p hge hinv=>?_)
    case refine_2=>
     simp -implicitDefEqProofs only[aF,hge,aA,seval]
     rw[←hinv.1,lH]
     exact⟨p.2,rfl,rfl,hinv.2.2⟩
    obtain⟨acc,b⟩:=p
    rw[hdr] at hinv
    obtain⟨i1,i2,i3⟩:=hinv
    simp only[bH] at i2
    have hw:=bO (n:=(i:Int)+1)
    simp -implicitDefEqProofs only[aF,bR,bQ (av:=Tm.av) aO hx (aM x),aY,aM,aA,seval,tJ]
    intro b2 hb2
    obtain⟨hn2,hne⟩:=ER hb2
    have hc2: [AV.int IntKind.i64 0,AV.int IntKind.i64 0,AV.str ⟨#[]⟩,AV.fslice []].length=4:=rfl
    try simp -implicitDefEqProofs only[cK,AP (x:=x.av.cells) (b9 x) hc2,b9,cH,eW (b9 x),eU (aY x),dC,aA,↓aS,seval,tJ]
    rw[lQ hne]
    refine(IH x (dA hx) acc b _ (fun h=>by rw[aB.aG _ _ (dG (hne h))];exact i3 h) (by omega)).mono ?_
    rintro _ _ ⟨b',rfl,rfl,hb'⟩
    simp -implicitDefEqProofs only[hw,aA,seval]
    obtain⟨hd,CS⟩:=LZ (o:=.cells x.av.cells) hn2 hb'
    have hvl:=Tm.G4 x acc
    refine⟨(x.vars acc,b'),⟨i1,by simp only;omega,CS⟩,aP.drop hd (by simp -implicitDefEqProofs only[aA,seval])⟩
termination_by t=>SizeOf.sizeOf t
decreasing_by have:=List.sizeOf_lt_of_mem hx;simp only[Tm.mk.sizeOf_spec];omega
abbrev XB:=zi tI_3 (zi zI_3 (zi aU (zi tI_28 (zi zI_28 (zi aO (zi bF (zi bG (zi bZ (zi tI_40 (zi zI_40 (zi dT (zi fJ (zi fK (zi fU (zi tI_52 (zi zI_52 (zi bU (zi bV (zi bX (zi bY bT))))))))))))))))))))
theorem SN(l:List Tm)(st:aB)(hsz:bH Tm.nodes l≤1099511627776):aD prog 150 [.slice (l.map Tm.av)] st (fun r st'=>r=.slice ((cF l []).map iv)∧st'=st):=by
 refine aD.fin ?_
 refine wF [] 1 func150 ntmps150 rfl rfl ?_
 simp only[eQ,AV.fits,eR,aF]
 intro ⟨hl,_⟩
 simp -implicitDefEqProofs only[aF,aA,seval,XB]
 refine eL (σ:=List Int×Nat) [] [2,6,7] l (fun i p=>cF (l.drop i) p.1=cF l ([])∧p.1.length+bH Tm.nodes (l.drop i)≤1099511627776∧(p.1.map iv≠[]→st p.2=none)) (fun i p=>[(3,aZ 1 p.2 (p.1.map iv)),(8,.int .i64 i)]) (fun _ p=>aV st p.2 (p.1.map iv)) (by decide +kernel)
  ⟨([],0),⟨rfl,by simp;omega,by simp⟩,aP.mk (by simp -implicitDefEqProofs only[aW,jV,aA,↓aS,seval])⟩ (fun i x p hx hlt bR hdr hinv=>?_) (fun p hge hinv=>?_)
 case refine_2=>
  simp -implicitDefEqProofs only[hge,aA,seval]
  rw[←hinv.1,lH]
  exact⟨p.2,p.1.map iv,st,rfl,hinv.2.2,by simp [AV.cJ],⟨1,aO1 p.1⟩,jE,rfl⟩
 obtain⟨acc,b⟩:=p
 rw[hdr] at hinv
 obtain⟨i1,i2,i3⟩:=hinv
 simp only[bH] at i2
 have hw:=bO (n:=(i:Int)+1)
 simp -implicitDefEqProofs only[bR,bQ (av:=Tm.av) aO hx (aM x),aY,aM,aA,seval,XB]
 intro b2 hb2
 obtain⟨hn2,hne⟩:=ER hb2
 have wA:∀zs:List AV,zs.length=4→aK zs 0 x.av.cells=x.av.cells:=fun zs h=>AP (b9 x) h
 try simp -implicitDefEqProofs only[cK,wA,b9,cH,eW (b9 x),eU (aY x),dC,aA,↓aS,seval,XB]
 rw[lQ hne]
 refine(aAA x acc b _ (fun h=>by rw[aB.aG _ _ (dG (hne h))];exact i3 h) (by omega)).mono ?_
 rintro _ _ ⟨b',rfl,rfl,hb'⟩
 simp -implicitDefEqProofs only[hw,aA,seval]
 obtain⟨hd,CS⟩:=LZ (o:=.cells x.av.cells) hn2 hb'
 have hvl:=Tm.G4 x acc
 exact⟨(x.vars acc,b'),⟨i1,by simp only;omega,CS⟩,aP.drop hd (by simp -implicitDefEqProofs only[aA,seval])⟩
abbrev KU:=zi tI_3 (zi zI_3 (zi aU (zi tI_28 (zi zI_28 (zi aO (zi bF (zi bG (zi bZ (zi tI_40 (zi zI_40 (zi dT (zi fJ (zi fK (zi fU (zi tI_52 (zi zI_52 (zi bU (zi bV (zi bX (zi bY bT))))))))))))))))))))
theorem H7:∀(t:Tm) (l:List Int) (b:Nat) (st:aB),t.wf=true→(l.map iv≠[]→st b=none)→l.length+t.nodes≤1099511627776→aD prog 157 [aZ 1 b (l.map iv),t.av] (aV st b (l.map iv)) (Grown st (t.vars l))
 | .mk k n s ts,l,b,st,hwf,hb,hsz=>by
  obtain⟨hk,a22⟩:=Tm.X1 hwf
  have IH:=fun(x:Tm) (hx:x∈ts) l b st=>H7 x l b st (a22 x hx)
  have haL:=vO (w:=1) (b:=b) (l:=l.map iv) fU
  simp only[Tm.vars]
  rw[Tm.iS] at hsz
  refine wF [] 2 func157 ntmps157 rfl rfl ?_
  simp only[a8,eQ,AV.fits,eR,aF]
  intro ⟨_,⟨_,_,_,hl,_⟩⟩
  simp -implicitDefEqProofs only[aA,seval,KU]
  refine aQ (fun h=>?_) (fun h=>?_)
  · simp only[bK] at h
    obtain rfl:=hk h
    subst h
    simp -implicitDefEqProofs only[aA,seval]
    have hnn:l.length≤1099511627776:=by omega
    refine eL (σ:=Unit) [] [0,3] l (fun i _=>∀y∈l.take i,y≠n) (fun i _=>[(5,.int .i64 i)]) (fun _ _=>aV st b (l.map iv)) (by decide +kernel) ⟨(),by simp,aP.mk (by simp -implicitDefEqProofs only[aA,↓aS,seval])⟩ (fun i x _ hx hlt bR hdr hinv=>?_) (fun _ hge hinv=>?_)
    case refine_2=>
     rw[fG] at hinv
     have iB:n∉l:=fun h=>hinv n h rfl
     simp -implicitDefEqProofs only[haL,aF,hge,aA,seval,KU]
     refine eE dT fJ fK rfl rfl (fL rfl rfl) (aO1 l) hb (by simp;omega) (by simp;omega) (fun b' hb'=>?_)
     rw[show l.map iv++ [AV.int .i64 n]=(l++ [n]).map iv by simp] at hb' ⊢
     simp -implicitDefEqProofs only[aA,seval]
     exact⟨b',by simp [cF,iB],by simp [cF,iB],by simp only[cF,iB,J0,fS];exact hb'⟩
    have hat:=Y5 (b:=b) (l:=l.map iv) (i:=i) (x:=iv x) dT (by rw[oX,hx];try rfl)
    obtain⟨iX,z9⟩:=Y6 (st:=st) (b:=b) hx
    have hw:=bO (n:=(i:Int)+1)
    simp -implicitDefEqProofs only[haL,aF,bR,aA,seval]
    refine L8 mixed (by decide +kernel) (by decide +kernel) ?_
    simp -implicitDefEqProofs only[hat,iX,z9,EH,aA,seval,KU]
    refine aQ (fun h=>?_) (fun h=>?_)
    · simp only[bK] at h
      subst h
      have iB:=dA hx
      simp -implicitDefEqProofs only[aA,seval]
      exact⟨b,by simp [cF,iB],by simp [cF,iB],by simp only[cF,iB,OD,d4];exact hb⟩
    · simp only[dL] at h
      simp -implicitDefEqProofs only[aA,seval]
      refine⟨(),?_,aP.mk (by simp -implicitDefEqProofs only[hw,aA,seval])⟩
      intro y hy
      rw[gC,hx] at hy
      rcases eK.1 hy with hy | hy
      · exact hinv y hy
      · simp at hy;subst hy;exact h
  · simp only[dL] at h
    rw[aE (by simp [h])]
    simp -implicitDefEqProofs only[aA,seval]
    refine eL (σ:=List Int×Nat) [] [3,4] ts (fun i p=>cF (ts.drop i) p.1=cF ts l∧p.1.length+bH Tm.nodes (ts.drop i)≤1099511627776∧(p.1.map iv≠[]→st p.2=none)) (fun i p=>[(0,aZ 1 p.2 (p.1.map iv)),(6,.int .i64 i)]) (fun _ p=>aV st p.2 (p.1.map iv)) (by decide +kernel)
     ⟨(l,b),⟨rfl,by simp;omega,hb⟩,aP.mk (by simp -implicitDefEqProofs only[aA,↓aS,seval])⟩ (fun i x p hx hlt bR hdr hinv=>?_) (fun p hge hinv=>?_)
    case refine_2=>
     simp -implicitDefEqProofs only[aF,hge,aA,seval,KU]
     rw[←hinv.1,lH]
     exact⟨p.2,rfl,rfl,hinv.2.2⟩
    obtain⟨acc,b⟩:=p
    rw[hdr] at hinv
    obtain⟨i1,i2,i3⟩:=hinv
    simp only[bH] at i2
    have hw:=bO (n:=(i:Int)+1)
    simp -implicitDefEqProofs only[aF,bR,bQ (av:=Tm.av) aO hx (aM x),aY,aM,aA,seval,KU]
    refine(IH x (dA hx) acc b st i3 (by omega)).mono ?_
    rintro _ _ ⟨b',rfl,rfl,hb'⟩
    have hvl:=Tm.G4 x acc
    simp -implicitDefEqProofs only[hw,aA,seval]
    exact⟨(x.vars acc,b'),⟨i1,by simp only;omega,hb'⟩,aP.mk (by simp -implicitDefEqProofs only[aA,seval])⟩
termination_by t=>SizeOf.sizeOf t
decreasing_by have:=List.sizeOf_lt_of_mem hx;simp only[Tm.mk.sizeOf_spec];omega
theorem ZK{A C B:List AV}{n:Nat}(hA:A.length=n)(hC:C.length=4) :
 (n+4≤(A++C++B).length)∧List.take 4 (List.drop n (A++C++B))=C∧(A++C++B)[n+0]?=C[0]?:=by
 refine⟨by simp only[dW];omega,?_,(VJ (A:=A) (B:=B) hA).2.2.1 C 0 (by omega)⟩
 rw[←hA,nE,BE,←hC,HC]
abbrev OkN (t:Tm):Prop:=t.kX=true∧t.nodes≤120
end Go.AW
namespace Go.AW
def pF(n:Int):Tm:=.mk 2 n ⟨#[]⟩ []
theorem a3T{n:Int}(h:kZ n):(pF n).valid=true:=by
 have ho:(pF n).kX=true:=by
  unfold pF
  rw[Tm.DF]
  simp [fB,h.1,h.2]
 rw[Tm.aS6 ho]
 simp [pF,Tm.iS,bH,Tm.xL]
def jO(b:Bool):Int:=if b=true then 0 else 1
def MT(s:ByteArray)(a b:Int):Bool:=
 if s=⟨#[60]⟩ then decide (a<b) else if s=⟨#[62]⟩ then decide (b<a) else if s=⟨#[61,60]⟩ then decide (a≤b) else if s=⟨#[62,61]⟩ then decide (b≤a) else decide (a=b)
def uX(s:ByteArray)(x:Tm):Bool:=
 if s=⟨#[118,97,114]⟩ then decide (x.k=1) else if s=⟨#[110,111,110,118,97,114]⟩ then !decide (x.k=1) else if s=⟨#[97,116,111,109]⟩ then decide (x.k=3)&&decide ((x.ts.length:Int)=0) else decide (x.k=2)
def zR(s:ByteArray)(x y:Tm):Int:=(both (fun a b=>(0,jO (MT s a b))) x.ev y.ev).2
def oB(x y:Tm):Option Tm:=if 1≤x.n∧x.n≤y.ts.length then y.ts[(x.n - 1).toNat]? else none
structure a85 (σ:Sub):Prop where
 iR:cX σ
 kX:c9 (fun t=>t.kX=true) σ
 okN:c9 OkN σ
theorem ZG{x y u:Tm}(h:oB x y=some u):u∈y.ts:=by
 unfold oB at h
 split at h
 · exact dA h
 · cases h
theorem ZY{s:ByteArray}{n:Nat}(h:isBuiltin s (n:Int)=true) :
 (n=2∧(gS sR s=true∨s=⟨#[61]⟩∨s=⟨#[92,61]⟩∨s=⟨#[61,61]⟩∨s=⟨#[105,115]⟩))∨(n=0∧(s=⟨#[116,114,117,101]⟩∨s=⟨#[102,97,105,108]⟩)) ∨
 (n=1∧(s=⟨#[118,97,114]⟩∨s=⟨#[110,111,110,118,97,114]⟩∨s=⟨#[97,116,111,109]⟩∨s=⟨#[105,110,116]⟩))∨(n=3∧s=⟨#[97,114,103]⟩):=by
 unfold isBuiltin at h
 simp only[cond_eq_ite] at h
 split at h
 · rename_i h1
   left
   refine⟨by simp at h;omega,?_⟩
   simp only[oV,bK] at h1
   simp only[gS,sR,EB,List.any_nil,oV,bK,jR,eA]
   rcases h1 with (((((((h1 | h1) | h1) | h1) | h1) | h1) | h1) | h1) | h1<;>simp [h1]
 split at h
 · rename_i h1
   right;left
   refine⟨by simp at h;omega,?_⟩
   simpa using h1
 split at h
 · rename_i h1
   right;right;left
   refine⟨by simp at h;omega,?_⟩
   simp only[oV,bK] at h1
   rcases h1 with ((h1 | h1) | h1) | h1<;>simp [h1]
 split at h
 · rename_i h1
   right;right;right
   exact⟨by simp at h;omega,by simpa using h1⟩
 · cases h
def dU:AV→List Nat
 | .mslice b _ _ _=>[b]
 | _=>[]
def Trail(st:aB)(q:AV)(tr:List Int):Prop:=
 (q=.fslice []∧tr= [])∨∃b cs,q=.mslice b 0 tr.length 1∧st b=some (.cells cs)∧cs.take tr.length=tr.map iv
structure gX (st:aB) (c m:Nat) (q:AV) (σ:Sub) (tr:List Int):Prop where
 sub:j8 st c m q σ
 fT:Trail st q tr
 apart:c∉dU q
structure nJ (c m:Nat) (st:aB) (q:AV) (st':aB) (q':AV):Prop where
 frame:∀b o,st b=some o→b≠c→b≠m→b∉dU q→st' b=some o
 fresh:∀b∈dU q',b∈dU q∨st b=none
def wS(c m:Nat)(st:aB)(q:AV)(σ':Sub)(tr':List Int)(st':aB):Prop:=∃q',gX st' c m q' σ' tr'∧nJ c m st q st' q'
theorem nJ.refl(c m:Nat)(st:aB)(q:AV):nJ c m st q st q:=⟨fun _ _ h _ _ _=>h,fun _ h=>.inl h⟩
theorem nJ.trans{c m:Nat}{st st' AT:aB}{q q' q'':AV}{σ:Sub}{tr:List Int}(x:nJ c m st q st' q')(hS:gX st' c m q' σ tr)(y:nJ c m st' q' AT q''):nJ c m st q AT q'':=by
 refine⟨fun b o h h1 h2 h3=>?_,fun b hb=>?_⟩
 · refine y.frame b o (x.frame b o h h1 h2 h3) h1 h2 fun h4=>?_
   rcases x.fresh b h4 with h5 | h5
   · exact h3 h5
   · rw[h5] at h;cases h
 · rcases y.fresh b hb with h | h
   · exact x.fresh b h
   · by_cases h1:b∈dU q
     · exact .inl h1
     · refine .inr ?_
       cases hst:st b with
       | none=>rfl
       | some o=>
        exfalso
        by_cases hc:b=c
        · subst hc;rw[hS.sub.cells] at h;cases h
        · by_cases hm:b=m
          · subst hm;rw[hS.sub.map] at h;cases h
          · rw[x.frame b o hst hc hm h1] at h;cases h
theorem gX.KK{st:aB}{c m:Nat}{q:AV}{σ:Sub}{tr:List Int}(h:gX st c m q σ tr):∀b∈dU q,∃cs,st b=some (.cells cs):=by
 intro b hb
 rcases h.fT with ⟨rfl,_⟩ | ⟨b',cs,rfl,hb',_⟩
 · simp [dU] at hb
 · simp only[dU,dB,dV,eA] at hb;subst hb;exact⟨cs,hb'⟩
theorem gX.OB{st:aB}{c m:Nat}{q:AV}{σ:Sub}{tr:List Int}(h:gX st c m q σ tr):m∉dU q:=fun hb=>by
 obtain⟨cs,e⟩:=h.KK m hb
 rw[h.sub.map] at e;cases e
theorem gX.aC{st:aB}{c m b:Nat}{q:AV}{σ:Sub}{tr:List Int}{o:AO}(h:gX st c m q σ tr)(h1:b≠c)(h2:b≠m)(h3:b∉dU q):gX (st.aC b o) c m q σ tr:=by
 refine⟨h.sub.P7 h1 h2,?_,h.apart⟩
 rcases h.fT with h4 | ⟨b',cs,e1,e2,e3⟩
 · exact .inl h4
 · refine .inr ⟨b',cs,e1,?_,e3⟩
   rw[aB.aG _ _ (by rintro rfl;exact h3 (by rw[e1];simp [dU]))]
   exact e2
theorem gX.G3{st:aB}{c m b:Nat}{q:AV}{σ:Sub}{tr:List Int}{o:AO}(h:gX st c m q σ tr)(hb:st b=none):gX (st.aC b o) c m q σ tr:=
 h.aC (h.sub.ne hb).1 (h.sub.ne hb).2 fun h3=>by obtain⟨cs,e⟩:=h.KK b h3;rw[hb] at e;cases e
theorem nJ.G3{c m b:Nat}{st:aB}{q:AV}{o:AO}(hb:st b=none):nJ c m st q (st.aC b o) q:=
 ⟨fun x p h _ _ _=>by rw[aB.aG _ _ (by rintro rfl;rw[hb] at h;cases h)];exact h,fun _ h=>.inl h⟩
theorem gX.shape{st:aB}{c m:Nat}{q:AV}{σ:Sub}{tr:List Int}(h:gX st c m q σ tr):q.isAgg=false∧q.width=1∧q.cJ=false∧q.cells= [q]∧q.storable=true:=by
 rcases h.fT with ⟨rfl,_⟩ | ⟨b',cs,rfl,_⟩<;>exact⟨rfl,rfl,rfl,rfl,rfl⟩
theorem wS.from{c m:Nat}{st s0 st':aB}{q q0:AV}{σ σ':Sub}{tr tr':List Int}(h:wS c m s0 q0 σ' tr' st')(x:nJ c m st q s0 q0)(hS:gX s0 c m q0 σ tr):wS c m st q σ' tr' st':=by
 obtain⟨q',h1,h2⟩:=h
 exact⟨q',h1,x.trans hS h2⟩
theorem a75{P:Program}{t:TypeId}{ag:Bool}{bytes:Nat}{zs:List AV}{st:aB}{c m:Nat}{q:AV}{σ:Sub}{tr:List Int}{n:Int}{K:AV→aB→Prop}(hI:eI P t=some (ag,1))(hB:eB P t=some bytes)(hZ:eZ P t=some zs)(hz:zs.length=1)(hb8:bytes≤16)
 (h:gX st c m q σ tr) (hl:tr.length+1≤1099511627776)
 (hK:∀q' st',Trail st' q' (tr++ [n])→c∉dU q'→m∉dU q'→(∀x,x∉dU q→x∉dU q'→st' x=st x)→(∀x∈dU q',x∈dU q∨st x=none)→K q' st'):kP P t st q (.fslice [.int .i64 n]) K:=by
 have g7:vQ 1 [AV.int .i64 n]:=by intro e he;simp only[dB,dV,eA] at he;subst he;exact⟨rfl,rfl⟩
 have JE:(tr.length+1)*bytes≤140737488355328:=by
  have:=Nat.mul_le_mul hl hb8
  omega
 unfold kP
 simp only[hI,hB,hZ,BV]
 refine⟨hz,g7,?_⟩
 have hcm:∀x,st x=none→x≠c∧x≠m:=fun x hx=>h.sub.ne hx
 rcases h.fT with ⟨rfl,rfl⟩ | ⟨b,cs,rfl,hb,hcs⟩
 · simp only[aX,aT,iA] at JE ⊢
   refine⟨by omega,by omega,by simp,fun h=>by simp at h,fun _ b hb=>?_⟩
   refine hK _ _ (.inr ⟨b,[.int .i64 n],rfl,aB.aJ _ _ _,rfl⟩) (by simp only[dU,dB,dV,eA];exact dG (hcm b hb).1) (by simp only[dU,dB,dV,eA];exact dG (hcm b hb).2) (fun x _ hx=>?_) (fun x hx=>?_)
   · simp only[dU,dB,dV,eA] at hx
     rw[aB.aG _ _ hx]
   · simp only[dU,dB,dV,eA] at hx
     subst hx;exact .inr hb
 · simp only[aT,aX,iA,hb]
   have hlen:tr.length≤cs.length:=by
    have:=oC List.length hcs
    simp only[eC,aF] at this
    omega
   have hca:c≠b:=fun e=>h.apart (by simp [dU,e])
   have hma:m≠b:=fun e=>h.OB (by simp [dU,e])
   have kV:cs.take (tr.length*1)++ [AV.int .i64 n].flatMap AV.cells=(tr++ [n]).map iv:=by rw[EH,hcs];simp [AV.cells]
   refine⟨trivial,JE,by omega,by omega,?_,fun b' hb'=>?_⟩
   · rw[kV]
     refine hK _ _ (.inr ⟨b,_,by simp,aB.aJ _ _ _,by rw[n7 (by simp)]⟩) (by simpa [dU] using hca) (by simpa [dU] using hma) (fun x hx _=>?_) (fun x hx=>.inl hx)
     simp only[dU,dB,dV,eA] at hx
     rw[aB.aG _ _ hx]
   · rw[kV]
     obtain⟨hc',hm'⟩:=hcm b' hb'
     refine hK _ _ (.inr ⟨b',_,by simp,aB.aJ _ _ _,by rw[n7 (by simp)]⟩) (by simpa [dU] using dG hc') (by simpa [dU] using dG hm') (fun x hx hx'=>?_) (fun x hx=>?_)
     · simp only[dU,dB,dV,eA] at hx hx'
       rw[aB.aG _ _ hx']
       simp [aB.erase,hx]
     · simp only[dU,dB,dV,eA] at hx
       subst hx;exact .inr hb'
end Go.AW
namespace Go.AW
open Go.Proofs.Tryz
abbrev DT:=zi tI_3 (zi zI_3 (zi aU (zi tI_4 (zi zI_4 (zi cI (zi tI_52 (zi zI_52 (zi bU (zi bV (zi bX (zi bY (zi bT (zi tI_178 (zi zI_178 (zi tI_207 (zi zI_207 (zi DZ (zi tI_209 (zi zI_209 (zi FA (zi FB EW)))))))))))))))))))))
theorem MO{σ:Sub}{f:Nat}{t u:Tm}(hw:gR σ f t u)(c m:Nat)(q:AV)(st:aB)(hS:j8 st c m q σ):aD prog 257 [.ptr c 0,t.av] st (fun r st'=>r=u.av∧st'=st):=by
 refine aD.done ?_
 refine wF [1000000,3] 2 func257 ntmps257 rfl rfl ?_
 intro _
 simp -implicitDefEqProofs only[aA,seval,DT]
 intro b3 h3 b4 h4
 have hne:b4≠b3:=by rintro rfl;rw[aB.aJ] at h4;cases h4
 have hn4:st b4=none:=by rw[aB.aG st _ hne] at h4;exact h4
 have hD:∀o o',aL ((st.aC b3 o).aC b4 o') st:=fun o o'=>((aL.refl _).aC h3).aC hn4
 have hS':∀o o',j8 ((st.aC b3 o).aC b4 o') c m q σ:=fun o o'=>(hS.aC h3).aC (by rw[aB.aG _ _ hne];exact hn4)
 obtain⟨a2E,bAN⟩:=hS.ne h3
 obtain⟨a2F,bAO⟩:=hS.ne hn4
 refine iT (σ:=Nat×Tm) [1000000,3] [0,3,4] (fun p=>gR σ p.1 p.2 u) (fun p=>[]) (fun p=>(st.aC b3 (.cells p.2.av.cells)).aC b4 (.cells [.int .i64 0,.int .i64 0,.str ⟨#[]⟩,.fslice []])) (fun p=>p.1) (by decide +kernel) ⟨(f,t),hw,aP.mk (by simp -implicitDefEqProofs only[aA,seval])⟩ ?_
 rintro⟨g,t⟩ hw
 obtain⟨k,n,s,ts⟩:=t
 simp only at hw
 simp only[a8]
 simp -implicitDefEqProofs only[hne.symm,aA,seval,DT]
 refine aQ (fun h=>?_) (fun h=>?_)
 case refine_2=>
  simp only[dL] at h
  cases hw with
  | go h1=>exact absurd h1 h
  | stop=>
   simp -implicitDefEqProofs only[aK,hne.symm,aA,seval,DT]
   exact⟨by rw[←a8,Tm.soft],hD _ _⟩
 simp only[bK] at h
 simp -implicitDefEqProofs only[aA,seval]
 refine wP [(0,1),(1,1),(2,1),(4,1),(3,2),(5,2),(6,2),(7,1),(8,1),(9,1),(10,0),(11,0),(12,1)] [0,1,2,4,3,5,6,7,8,9,12] mixed ?_
 have hl:=fun(st':aB) (hm:st' m=some (AO.map (mapOf σ)))=>a38 (P:=prog) (n:=n) hm DZ aU a8X
 simp -implicitDefEqProofs only[hne.symm,hS.cells,a2E.symm,a2F.symm,aA,seval,DT]
 rw[hl _ (hS' _ _).map]
 cases hw with
 | stop hs=>
  rw[show σ n=none from hs h]
  simp -implicitDefEqProofs only[found,aK,aA,seval,DT]
  intro b5 h5
  have h53:b5≠b3:=by rintro rfl;simp [aB.aG,aB.aJ,hne.symm] at h5
  have h54:b5≠b4:=by rintro rfl;simp [aB.aJ] at h5
  have hn5:st b5=none:=by rw[aB.aG _ _ h54,aB.aG _ _ h53] at h5;exact h5
  simp -implicitDefEqProofs only[aK,hne.symm,h53.symm,h54.symm,aA,seval,DT]
  exact⟨by rw[←a8,Tm.soft],((((aL.refl _).aC h3).aC hn4).aC hn5).aC hn4⟩
 | go _ h2 h3'=>
  rw[show σ n=some _ from h2]
  simp -implicitDefEqProofs only[found,aK,aA,seval,DT]
  intro b5 h5
  have h53:b5≠b3:=by rintro rfl;simp [aB.aG,aB.aJ,hne.symm] at h5
  have h54:b5≠b4:=by rintro rfl;simp [aB.aJ] at h5
  have hn5:st b5=none:=by rw[aB.aG _ _ h54,aB.aG _ _ h53] at h5;exact h5
  simp -implicitDefEqProofs only[hne.symm,h53.symm,aA,seval]
  refine⟨(_,_),LP _,h3',aP.drop (fun x=>?_) (by simp -implicitDefEqProofs only[aA,seval])⟩
  by_cases e3:x=b3<;>by_cases e4:x=b4<;>by_cases e5:x=b5<;>simp_all [aB.aC]
end Go.AW
