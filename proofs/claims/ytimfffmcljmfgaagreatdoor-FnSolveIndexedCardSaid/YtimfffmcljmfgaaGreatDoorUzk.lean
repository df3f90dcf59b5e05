/- Unification comes to an end. -/
import Derived.Test.YtimfffmcljmfgaaGreatDoorUzj
import Derived.Test.YtimfffmcljmfgaaGreatDoorUzg
import Derived.Test.YtimfffmcljmfgaaGreatDoorUzi
set_option linter.unusedSimpArgs false
set_option linter.unusedVariables false
set_option maxRecDepth 100000
namespace Go.AW
theorem aS3(g g':Nat)(ih:∀σ a b x,dD g σ a b=some x→dD g' σ a b=some x):∀xs ys σ x,eE g σ xs ys=some x→eE g' σ xs ys=some x:=by
 intro xs
 induction xs with
 | nil=>intro ys σ x h;cases ys<;>simpa only[eE] using h
 | cons a xs ihx=>
  intro ys σ x h
  cases ys with
  | nil=>simpa only[eE] using h
  | cons b ys=>
   rw[eE] at h ⊢
   cases h1:dD g σ a b with
   | none=>rw[h1] at h;cases h
   | some p=>
    rw[h1] at h
    rw[ih _ _ _ _ h1]
    obtain⟨r1,σ1,tr1⟩:=p
    cases r1 with
    | false=>exact h
    | true=>
     simp only at h ⊢
     cases h2:eE g σ1 xs ys with
     | none=>rw[h2] at h;cases h
     | some p2=>rw[h2] at h;rw[ihx ys σ1 p2 h2];exact h
theorem a83:∀(g:Nat) σ a b x,dD g σ a b=some x→dD (g+1) σ a b=some x:=by
 intro g
 induction g with
 | zero=>intro σ a b x h;simp only[dD] at h;cases h
 | succ g ih=>
  intro σ a b x h
  rw[dD] at h ⊢
  split
  · rename_i hc;rw[aH hc] at h;exact h
  · rename_i hc
    rw[aE hc] at h
    split
    · rename_i hc;rw[aH hc] at h;exact h
    · rename_i hc
      rw[aE hc] at h
      split
      · rename_i hc;rw[aH hc] at h;exact h
      · rename_i hc
        rw[aE hc] at h
        split
        · rename_i hc;rw[aH hc] at h;exact aS3 g (g+1) ih _ _ _ _ h
        · rename_i hc;rw[aE hc] at h;exact h
theorem PL{g g':Nat}(hle:g≤g'){σ:Sub}{a b:Tm}{x:Bool×Sub×List Int}(h:dD g σ a b=some x):dD g' σ a b=some x:=by
 induction hle with
 | refl=>exact h
 | step _ ih=>exact a83 _ _ _ _ _ ih
theorem a86{g g':Nat}(hle:g≤g'){σ:Sub}{xs ys:List Tm}{x:Bool×Sub×List Int}(h:eE g σ xs ys=some x):eE g' σ xs ys=some x:=
 aS3 g g' (fun _ _ _ _ h=>PL hle h) xs ys σ x h
def uV(σ:Sub)(V:List Int):Nat:=V.countP fun v=>(σ v).isNone
def jM(V:List Int)(t:Tm):Prop:=∀v∈t.vl,v∈V
def mW(V:List Int)(σ:Sub):Prop:=∀n u,σ n=some u→jM V u
theorem a8Z{σ σ':Sub}{tr:List Int}{V:List Int}(aV:∀m,m∉tr→σ' m=σ m)(new:∀m∈tr,σ m=none∧σ' m≠none){m:Int}(hm:m∈tr)(hV:m∈V):uV σ' V<uV σ V:=by
 have mono:∀v,(σ' v).isNone=true→(σ v).isNone=true:=fun v h=>by
  by_cases hv:v∈tr
  · rw[(new v hv).1];try rfl
  · rw[←aV v hv];exact h
 have le:∀W:List Int,uV σ' W≤uV σ W:=fun W=>List.countP_mono_left fun v _ h=>mono v h
 unfold uV at *
 induction V with
 | nil=>cases hV
 | cons v V ih=>
  simp only[List.countP_cons]
  have hle:=le V
  rcases c8.1 hV with rfl | hV
  · have h1:(σ m).isNone=true:=by rw[(new m hm).1];try rfl
    have h2:(σ' m).isNone=false:=by
     cases h:σ' m with
     | none=>exact absurd h (new m hm).2
     | some _=>rfl
    simp only[h1,h2,gB,jC,dI]
    omega
  · have:=ih hV
    have h3:=mono v
    by_cases h4:(σ' v).isNone=true
    · rw[aH h4,aH (h3 h4)];omega
    · rw[aE h4];split<;>omega
theorem gN.IT{σ:Sub}{V:List Int}(hr:mW V σ){f:Nat}{t u:Tm}(h:gN σ f t u)(ht:jM V t):jM V u:=h.all (p:=jM V) (fun n u hu=>hr n u hu) ht
theorem jM.pF{V:List Int}{t x:Tm}(h:jM V t)(hk:t.k≠1)(hx:x∈t.ts):jM V x:=fun v hv=>h v (by cases t;exact(Tm.mC hk).2 ⟨x,hx,hv⟩)
theorem aS1:∀(g:Nat),(∀σ a b r σ' tr V,cT σ→dD g σ a b=some (r,σ',tr)→mW V σ→jM V a→jM V b→mW V σ'∧∀m∈tr,m∈V) ∧
 ∀xs ys σ r σ' tr V,cT σ→xs.length=ys.length→eE g σ xs ys=some (r,σ',tr)→mW V σ→(∀x∈xs,jM V x)→(∀y∈ys,jM V y)→mW V σ'∧∀m∈tr,m∈V:=by
 intro g
 have list:∀g,(∀σ a b r σ' tr V,cT σ→dD g σ a b=some (r,σ',tr)→mW V σ→jM V a→jM V b→mW V σ'∧∀m∈tr,m∈V) →
  ∀xs ys σ r σ' tr V,cT σ→xs.length=ys.length→eE g σ xs ys=some (r,σ',tr)→mW V σ→(∀x∈xs,jM V x)→(∀y∈ys,jM V y)→mW V σ'∧∀m∈tr,m∈V:=by
  intro g ihU xs
  induction xs with
  | nil=>
   intro ys σ r σ' tr V hg hl h hr _ _
   cases ys with
   | cons _ _=>simp at hl
   | nil=>
    simp only[eE,Option.some.injEq,Prod.mk.injEq] at h
    obtain⟨rfl,rfl,rfl⟩:=h
    exact⟨hr,fun _ h=>absurd h (dX)⟩
  | cons a xs ih=>
   intro ys σ r σ' tr V hg hl h hr hx hy
   cases ys with
   | nil=>simp at hl
   | cons b ys=>
    rw[eE] at h
    cases h1:dD g σ a b with
    | none=>rw[h1] at h;cases h
    | some p=>
     obtain⟨r1,σ1,tr1⟩:=p
     have U1:=yJ hg h1
     obtain⟨i1,i2⟩:=ihU σ a b r1 σ1 tr1 V hg h1 hr (hx a (by simp)) (hy b (by simp))
     rw[h1] at h
     cases r1 with
     | false=>
      simp only[Option.some.injEq,Prod.mk.injEq] at h
      obtain⟨rfl,rfl,rfl⟩:=h
      exact⟨i1,i2⟩
     | true=>
      simp only at h
      cases h2:eE g σ1 xs ys with
      | none=>rw[h2] at h;cases h
      | some p2=>
       obtain⟨r2,σ2,tr2⟩:=p2
       rw[h2] at h
       simp only[Option.some.injEq,Prod.mk.injEq] at h
       obtain⟨rfl,rfl,rfl⟩:=h
       obtain⟨j1,j2⟩:=ih ys σ1 r2 σ2 tr2 V U1.gW (by simpa using hl) h2 i1 (fun x h=>hx x (by simp [h])) (fun y h=>hy y (by simp [h]))
       exact⟨j1,fun m hm=>(fF.1 hm).elim (i2 m) (j2 m)⟩
 induction g with
 | zero=>
  have h0:∀σ a b r σ' tr V,cT σ→dD 0 σ a b=some (r,σ',tr)→mW V σ→jM V a→jM V b→mW V σ'∧∀m∈tr,m∈V:=fun σ a b r σ' tr V hg h=>by simp only[dD] at h;cases h
  exact⟨h0,list 0 h0⟩
 | succ g ih=>
  suffices hU:∀σ a b r σ' tr V,cT σ→dD (g+1) σ a b=some (r,σ',tr)→mW V σ→jM V a→jM V b→mW V σ'∧∀m∈tr,m∈V from ⟨hU,list _ hU⟩
  intro σ a b r σ' tr V hg h hr ha hb
  obtain⟨_,ihL⟩:=ih
  obtain⟨rk,B,G⟩:=hg.rs
  obtain⟨fa,wa⟩:=G.wk a
  obtain⟨fb,wb⟩:=G.wk b
  have va:=wa.IT hr ha
  have vb:=wb.IT hr hb
  have bn:∀n (t:Tm) r σ' tr,n∈V→jM V t→kQ σ n t=(r,σ',tr)→mW V σ'∧∀m∈tr,m∈V:=by
   intro n t r σ' tr hn ht h
   unfold kQ at h
   split at h<;>cases h
   · exact⟨hr,fun _ h=>absurd h (dX)⟩
   · refine⟨fun m u hu=>?_,fun m hm=>by simp only[c8,dX,eC] at hm;rw[hm];exact hn⟩
     simp only[Sub.set] at hu
     split at hu
     · cases hu;exact ht
     · exact hr m u hu
  rw[dD] at h
  generalize wk σ a=a at *
  generalize wk σ b=b at *
  split at h
  · simp only[Option.some.injEq,Prod.mk.injEq] at h
    obtain⟨rfl,rfl,rfl⟩:=h
    exact⟨hr,fun _ h=>absurd h (dX)⟩
  · split at h
    · rename_i hk
      exact bn _ _ _ _ _ (va _ (by rw[Tm.GC hk];simp)) vb (lL h)
    · rename_i hka
      split at h
      · rename_i hk
        exact bn _ _ _ _ _ (vb _ (by rw[Tm.GC hk];simp)) va (lL h)
      · rename_i hkb
        split at h
        · rename_i hh
          exact ihL a.ts b.ts σ r σ' tr V hg (uH.1 hh).2.2.2 h hr (fun x hx=>va.pF hka hx) (fun y hy=>vb.pF hkb hy)
        · simp only[Option.some.injEq,Prod.mk.injEq] at h
          obtain⟨rfl,rfl,rfl⟩:=h
          exact⟨hr,fun _ h=>absurd h (dX)⟩
def cW(p:Tm→Prop)(σ:Sub):Prop:=∀n u,σ n=some u→p u
theorem PM{p:Tm→Prop}(hp:∀t:Tm,t.k≠1→p t→∀x∈t.ts,p x):∀(g:Nat),(∀σ a b r σ' tr,cT σ→dD g σ a b=some (r,σ',tr)→cW p σ→p a→p b→cW p σ') ∧
 ∀xs ys σ r σ' tr,cT σ→xs.length=ys.length→eE g σ xs ys=some (r,σ',tr)→cW p σ→(∀x∈xs,p x)→(∀y∈ys,p y)→cW p σ':=by
 intro g
 have list:∀g,(∀σ a b r σ' tr,cT σ→dD g σ a b=some (r,σ',tr)→cW p σ→p a→p b→cW p σ') →
  ∀xs ys σ r σ' tr,cT σ→xs.length=ys.length→eE g σ xs ys=some (r,σ',tr)→cW p σ→(∀x∈xs,p x)→(∀y∈ys,p y)→cW p σ':=by
  intro g ihU xs
  induction xs with
  | nil=>
   intro ys σ r σ' tr hg hl h hr _ _
   cases ys with
   | cons _ _=>simp at hl
   | nil=>
    simp only[eE,Option.some.injEq,Prod.mk.injEq] at h
    obtain⟨rfl,rfl,rfl⟩:=h
    exact hr
  | cons a xs ih=>
   intro ys σ r σ' tr hg hl h hr hx hy
   cases ys with
   | nil=>simp at hl
   | cons b ys=>
    rw[eE] at h
    cases h1:dD g σ a b with
    | none=>rw[h1] at h;cases h
    | some p=>
     obtain⟨r1,σ1,tr1⟩:=p
     have U1:=yJ hg h1
     have i1:=ihU σ a b r1 σ1 tr1 hg h1 hr (hx a (by simp)) (hy b (by simp))
     rw[h1] at h
     cases r1 with
     | false=>
      simp only[Option.some.injEq,Prod.mk.injEq] at h
      obtain⟨rfl,rfl,rfl⟩:=h
      exact i1
     | true=>
      simp only at h
      cases h2:eE g σ1 xs ys with
      | none=>rw[h2] at h;cases h
      | some p2=>
       obtain⟨r2,σ2,tr2⟩:=p2
       rw[h2] at h
       simp only[Option.some.injEq,Prod.mk.injEq] at h
       obtain⟨rfl,rfl,rfl⟩:=h
       have j1:=ih ys σ1 r2 σ2 tr2 U1.gW (by simpa using hl) h2 i1 (fun x h=>hx x (by simp [h])) (fun y h=>hy y (by simp [h]))
       exact j1
 induction g with
 | zero=>
  have h0:∀σ a b r σ' tr,cT σ→dD 0 σ a b=some (r,σ',tr)→cW p σ→p a→p b→cW p σ':=fun σ a b r σ' tr hg h=>by simp only[dD] at h;cases h
  exact⟨h0,list 0 h0⟩
 | succ g ih=>
  suffices hU:∀σ a b r σ' tr,cT σ→dD (g+1) σ a b=some (r,σ',tr)→cW p σ→p a→p b→cW p σ' from ⟨hU,list _ hU⟩
  intro σ a b r σ' tr hg h hr ha hb
  obtain⟨_,ihL⟩:=ih
  obtain⟨rk,B,G⟩:=hg.rs
  obtain⟨fa,wa⟩:=G.wk a
  obtain⟨fb,wb⟩:=G.wk b
  have va:=wa.all hr ha
  have vb:=wb.all hr hb
  have bn:∀n (t:Tm) r σ' tr,p t→kQ σ n t=(r,σ',tr)→cW p σ':=by
   intro n t r σ' tr ht h
   unfold kQ at h
   split at h<;>cases h
   · exact hr
   · intro m u hu
     simp only[Sub.set] at hu
     split at hu
     · cases hu;exact ht
     · exact hr m u hu
  rw[dD] at h
  generalize wk σ a=a at *
  generalize wk σ b=b at *
  split at h
  · simp only[Option.some.injEq,Prod.mk.injEq] at h
    obtain⟨rfl,rfl,rfl⟩:=h
    exact hr
  · split at h
    · rename_i hk
      exact bn _ _ _ _ _ vb (lL h)
    · rename_i hka
      split at h
      · rename_i hk
        exact bn _ _ _ _ _ va (lL h)
      · rename_i hkb
        split at h
        · rename_i hh
          exact ihL a.ts b.ts σ r σ' tr hg (uH.1 hh).2.2.2 h hr (fun x hx=>hp _ hka va x hx) (fun y hy=>hp _ hkb vb y hy)
        · simp only[Option.some.injEq,Prod.mk.injEq] at h
          obtain⟨rfl,rfl,rfl⟩:=h
          exact hr
theorem a84(V:List Int):∀(N M:Nat) (σ:Sub) (a b:Tm),cT σ→mW V σ→jM V a→jM V b→uV σ V≤N→(a.aM (rs σ)).nodes≤M→∃g x,dD g σ a b=some x:=by
 intro N
 induction N using Nat.strongRecOn with
 | _ N ihN=>
 intro M
 induction M using Nat.strongRecOn with
 | _ M ihM=>
 intro σ a b hg hr ha hb hN hM
 have list:∀(xs ys:List Tm) (σ1:Sub),xs.length=ys.length→cT σ1→mW V σ1→(σ1=σ∨uV σ1 V<uV σ V)→(∀x∈xs,jM V x∧(x.aM (rs σ)).nodes<M)→(∀y∈ys,jM V y)→∃g x,eE g σ1 xs ys=some x:=by
  intro xs
  induction xs with
  | nil=>
   intro ys σ1 hl _ _ _ _ _
   cases ys with
   | cons _ _=>simp at hl
   | nil=>exact⟨0,(true,σ1,[]),by simp only[eE]⟩
  | cons x xs ih=>
   intro ys σ1 hl hg1 hr1 hc hx hy
   cases ys with
   | nil=>simp at hl
   | cons y ys=>
    have h1:∃g p,dD g σ1 x y=some p:=by
     rcases hc with rfl | hlt
     · exact ihM _ (hx x (by simp)).2 σ1 x y hg1 hr1 (hx x (by simp)).1 (hy y (by simp)) hN (dB _)
     · exact ihN (uV σ1 V) (by omega) _ σ1 x y hg1 hr1 (hx x (by simp)).1 (hy y (by simp)) (dB _) (dB _)
    obtain⟨g1,⟨r1,σ2,tr1⟩,h1⟩:=h1
    have U1:=yJ hg1 h1
    obtain⟨i1,i2⟩:=(aS1 g1).1 σ1 x y r1 σ2 tr1 V hg1 h1 hr1 (hx x (by simp)).1 (hy y (by simp))
    cases r1 with
    | false=>exact⟨g1,(false,σ2,tr1),by rw[eE,h1]⟩
    | true=>
     have hc2:σ2=σ∨uV σ2 V<uV σ V:=by
      cases htr:tr1 with
      | nil=>rw[U1.same htr];exact hc
      | cons m _=>
       have:=a8Z (V:=V) U1.aV U1.new (m:=m) (by rw[htr];simp) (i2 m (by rw[htr];simp))
       rcases hc with rfl | hlt
       · exact .inr this
       · exact .inr (Nat.lt_trans this hlt)
     obtain⟨g2,p2,h2⟩:=ih ys σ2 (by simpa using hl) U1.gW i1 hc2 (fun z hz=>hx z (by simp [hz])) (fun z hz=>hy z (by simp [hz]))
     obtain⟨r2,σ3,tr2⟩:=p2
     refine⟨max g1 g2,(r2,σ3,tr1++tr2),?_⟩
     rw[eE,PL (Nat.le_max_left g1 g2) h1]
     simp only
     rw[a86 (Nat.le_max_right g1 g2) h2]
 obtain⟨rk,B,G⟩:=hg.rs
 obtain⟨fa,wa⟩:=G.wk a
 obtain⟨fb,wb⟩:=G.wk b
 have va:=wa.IT hr ha
 have vb:=wb.IT hr hb
 have hma:=wa.aM G.x6
 rw[←hma] at hM
 by_cases h1:(wk σ a).k=1∧(wk σ b).k=1∧(wk σ a).n=(wk σ b).n
 · exact⟨1,_,by rw[dD,aH h1]⟩
 by_cases h2:(wk σ a).k=1
 · exact⟨1,_,by rw[dD,aE h1,aH h2]⟩
 by_cases h3:(wk σ b).k=1
 · exact⟨1,_,by rw[dD,aE h1,aE h2,aH h3]⟩
 by_cases h4:qA (wk σ a) (wk σ b)=true
 · have a2A:∀x∈(wk σ a).ts,jM V x∧(x.aM (rs σ)).nodes<M:=fun x hx=>by
    refine⟨va.pF h2 hx,?_⟩
    rw[Tm.rK _ h2,Tm.iI] at hM
    have:=yF (f:=Tm.nodes) (cU.2 ⟨x,hx,rfl⟩:x.aM (rs σ)∈(wk σ a).ts.map (Tm.aM (rs σ)))
    omega
   obtain⟨g,x,h⟩:=list (wk σ a).ts (wk σ b).ts σ (uH.1 h4).2.2.2 hg hr (.inl rfl) a2A (fun y hy=>vb.pF h3 hy)
   exact⟨g+1,x,by rw[dD,aE h1,aE h2,aE h3,aH h4];exact h⟩
 · exact⟨1,_,by rw[dD,aE h1,aE h2,aE h3,aE h4]⟩
mutual
def Tm.flat:Tm→Nat→Bool
 | .mk _ _ _ _,0=>false
 | .mk _ _ _ ts,d+1=>O2 ts d
def O2:List Tm→Nat→Bool
 | [],_=>true
 | t::ts,d=>t.flat d&&O2 ts d
end
theorem aSH:∀(ts:List Tm) (d:Nat),O2 ts d=ts.all fun t=>t.flat d
 | [],_=>rfl
 | t::ts,d=>by simp only[O2,lE,aSH ts d]
theorem Tm.H3(t:Tm):t.flat 0=false:=by cases t;simp only[Tm.flat]
theorem Tm.xN(k n:Int)(s:ByteArray)(ts:List Tm)(d:Nat):(Tm.mk k n s ts).flat (d+1)=ts.all fun t=>t.flat d:=by simp only[Tm.flat,aSH]
mutual
def Tm.kK:Tm→Bool
 | .mk k n s ts=>eU k n s ts.length&&O6 ts
def O6:List Tm→Bool
 | []=>true
 | t::ts=>t.kK&&O6 ts
end
theorem aSL:∀(ts:List Tm),O6 ts=ts.all Tm.kK
 | []=>rfl
 | t::ts=>by simp only[O6,lE,aSL ts]
theorem Tm.CR(k n:Int)(s:ByteArray)(ts:List Tm):(Tm.mk k n s ts).kK=(eU k n s ts.length&&ts.all Tm.kK):=by simp only[Tm.kK,aSL]
theorem Y3{α:Type}(p q:α→Bool):∀l:List α,(l.all fun x=>p x&&q x)=(l.all p&&l.all q)
 | []=>rfl
 | x::l=>by simp only[lE,Y3 p q l];cases p x<;>cases q x<;>cases l.all p<;>simp
theorem Tm.aQM:∀(t:Tm) (d:Nat),t.shape (d:Int)=(t.kK&&t.flat d):=by
 intro t
 induction t using Tm.ind with
 | h k n s ts ih=>
  intro d
  cases d with
  | zero=>rw[Tm.H3,uY,Tm.FT];try rfl
  | succ d=>
   rw[Tm.FT,Tm.CR,Tm.xN,show decide ((1:Int)≤((d+1:Nat):Int))=true by simp;omega,fP,Bool.and_assoc,←Y3]
   congr 1
   rw[show(((d+1:Nat):Int) - 1)=(d:Int) by omega]
   have:∀l:List Tm,(∀x∈l,x∈ts)→(l.all fun t=>t.shape (d:Int))=l.all fun x=>x.kK&&x.flat d:=by
    intro l
    induction l with
    | nil=>intro _;rfl
    | cons x l ihl=>intro h;rw[lE,lE,ih x (h x (by simp)),ihl fun y hy=>h y (by simp [hy])]
   exact this ts fun _ h=>h
theorem Tm.a9A{t:Tm}(h:t.valid=true):t.kK=true:=by
 simp only[Tm.valid,cK] at h
 have:=h.1
 rw[show(30:Int)=((30:Nat):Int) from rfl,Tm.aQM,cK] at this
 exact this.1
theorem Tm.aS5{t:Tm}(h:t.kK=true):t.valid=(t.flat 30&&decide (t.nodes≤120)):=by
 unfold Tm.valid
 rw[show(30:Int)=((30:Nat):Int) from rfl,Tm.aQM,h,fP]
theorem Tm.NS{k n:Int}{s:ByteArray}{ts:List Tm}(h:(Tm.mk k n s ts).kK=true):eU k n s ts.length=true∧∀x∈ts,x.kK=true:=by
 rw[Tm.CR,cK] at h
 exact⟨h.1,eW.1 h.2⟩
theorem aPR{n:Int}{s:ByteArray}{len:Int}(h:eU 1 n s len=true):0≤n∧n≤25∧s=⟨#[]⟩∧len=0:=by
 simp [eU] at h
 exact⟨h.1.1.1,h.1.1.2,h.1.2,h.2⟩
theorem a5G{k n:Int}{s:ByteArray}{len:Int}(h:eU k n s len=true):(k=1∨k=2∨k=3)∧len≤4:=by
 unfold eU at h
 by_cases h1:k=1
 · simp [h1] at h;omega
 · by_cases h2:k=2
   · simp [h2] at h;omega
   · by_cases h3:k=3
     · simp [h3] at h;omega
     · simp [h1,h2,h3] at h
theorem Tm.a5A:∀(t:Tm),t.kK=true→t.cv=true:=by
 intro t
 induction t using Tm.ind with
 | h k n s ts ih=>
  intro h
  obtain⟨h1,h2⟩:=Tm.NS h
  refine Tm.oZ.2 ⟨fun hk=>?_,fun x hx=>ih x hx (h2 x hx)⟩
  subst hk
  obtain⟨_,_,h3,h4⟩:=aPR h1
  exact⟨h3,oB (by omega)⟩
def DU:List Int:=(List.range 26).map fun i:Nat=>(i:Int)
theorem I2{n:Int}:n∈DU↔0≤n∧n≤25:=by
 simp only[DU,cU,qT]
 constructor
 · rintro⟨i,h,rfl⟩;omega
 · intro h;exact⟨n.toNat,by omega,by omega⟩
theorem Tm.a5B:∀(t:Tm),t.kK=true→jM DU t:=by
 intro t
 induction t using Tm.ind with
 | h k n s ts ih=>
  intro h v hv
  obtain⟨h1,h2⟩:=Tm.NS h
  by_cases hk:k=1
  · rw[Tm.oA hk] at hv
    simp only[c8,dX,eC] at hv
    subst hv hk
    obtain⟨h3,h4,_⟩:=aPR h1
    exact I2.2 ⟨h3,h4⟩
  · obtain⟨x,hx,hvx⟩:=(Tm.mC hk).1 hv
    exact ih x hx (h2 x hx) v hvx
theorem a4S{f:Int→Tm}:∀(t:Tm),t.kK=true→(∀v∈t.vl,(f v).kK=true)→(t.aM f).kK=true:=by
 intro t
 induction t using Tm.ind with
 | h k n s ts ih=>
  intro h hf
  obtain⟨h1,h2⟩:=Tm.NS h
  by_cases hk:k=1
  · rw[Tm.nS f hk];exact hf n (by rw[Tm.oA hk];simp)
  · rw[Tm.mL f hk,Tm.CR,aF,h1,fP,List.all_map,eW]
    exact fun x hx=>ih x hx (h2 x hx) fun v hv=>hf v ((Tm.mC hk).2 ⟨x,hx,hv⟩)
theorem aTA{n:Int}(h:n∈DU):(vr n).kK=true:=by
 rw[I2] at h
 rw[vr,Tm.CR]
 simp [eU,h]
theorem a82{g g':Nat}{σ:Sub}{a b:Tm}{x y:Bool×Sub×List Int}(h:dD g σ a b=some x)(h':dD g' σ a b=some y):x=y:=by
 have h1:=PL (Nat.le_max_left g g') h
 rw[PL (Nat.le_max_right g g') h'] at h1
 exact(lL h1).symm
structure a9U (a b:Tm) (r:Bool) (σ:Sub) (tr:List Int):Prop where
 run:∃g,dD g Sub.none a b=some (r,σ,tr)
 n9:oX Sub.none [a] [b] r σ tr
 kK:cW (fun t=>t.kK=true) σ
 IT:mW DU σ
 trV:∀m∈tr,m∈DU
theorem aO5:∀ {l V:List Int},l.Nodup→(∀x∈l,x∈V)→l.length≤V.length
 | [],_,_,_=>kA _
 | x::l,V,h,hV=>by
  rw[GN] at h
  have hx:=hV x (by simp)
  have:=aO5 (V:=V.erase x) h.2 fun y hy=>(List.mem_erase_of_ne (by rintro rfl;exact h.1 hy)).2 (hV y (by simp [hy]))
  rw[List.length_erase_of_mem hx] at this
  have:=List.length_pos_of_mem hx
  simp only[aQ]
  omega
structure a9N (a b:Tm) (bs:List Bd):Prop where
 va:a.valid=true
 vb:b.valid=true
 vs:(bs.all fun x=>x.2.valid)=true
 eq:a.aM (V3 bs)=b.aM (V3 bs)
 idem:∀x∈bs,x.2.aM (V3 bs)=x.2
 sorted:bs.Pairwise fun x y=>x.1<y.1
abbrev zt:AV:=.agg [.int .i64 0,.int .i64 0,.str ⟨#[]⟩,.fslice []]
def mapOf(σ:Sub):Int→Option AV:=fun n=>(σ n).map Tm.av
def found:Option Tm→AV
 | some u=>.tup [u.av,.bool true]
 | none=>.tup [zt,.bool false]
theorem a4J{P:Program}{st:aB}{m:Nat}{σ:Sub}{t kt et:TypeId}{n:Int}(hm:st m=some (.map (mapOf σ)))(hu:P.underlying t=some (.map kt et))(hk:P.underlying kt=some (.int .i64))(hz:zV P et=some zt) :
 pT P st t true (.map m) (.int .i64 n)=some (found (σ n)):=by
 unfold pT
 simp only[hm,hu,hk,mapOf]
 cases h:σ n with
 | none=>simp [hz,found,AV.cH]
 | some u=>simp [found,cM]
theorem a88{P:Program}{st:aB}{m:Nat}{σ:Sub}{t kt et:TypeId}{n:Int}{u:Tm}{K:AV→aB→Prop}(hm:st m=some (.map (mapOf σ)))(hu:P.underlying t=some (.map kt et))(hk:P.underlying kt=some (.int .i64))
 (h:K .undef (st.aC m (.map (mapOf (σ.set n u))))):tR P t st (.map m) (.int .i64 n) u.av K:=by
 unfold tR
 simp only[hu,hm,hk]
 refine⟨cM u,?_⟩
 have:oQ (mapOf σ) n (some u.av)=mapOf (σ.set n u):=by
  funext x
  unfold oQ mapOf Sub.set
  split<;>rfl
 rw[this]
 exact h
structure jN (st:aB) (c m:Nat) (q:AV) (σ:Sub):Prop where
 cells:st c=some (.cells [.map m,q])
 map:st m=some (.map (mapOf σ))
theorem jN.aC{st:aB}{c m b:Nat}{q:AV}{σ:Sub}{o:AO}(h:jN st c m q σ)(hb:st b=none):jN (st.aC b o) c m q σ:=
 ⟨(by rw[aB.aJ _ _ (by rintro rfl;rw[h.cells] at hb;cases hb)];exact h.cells),(by rw[aB.aJ _ _ (by rintro rfl;rw[h.map] at hb;cases hb)];exact h.map)⟩
theorem jN.PN{st:aB}{c m b:Nat}{q:AV}{σ:Sub}{o:AO}(h:jN st c m q σ)(h1:b≠c)(h2:b≠m):jN (st.aC b o) c m q σ:=
 ⟨(by rw[aB.aJ _ _ (c9 h1)];exact h.cells),by rw[aB.aJ _ _ (c9 h2)];exact h.map⟩
theorem jN.ne{st:aB}{c m b:Nat}{q:AV}{σ:Sub}(h:jN st c m q σ)(hb:st b=none):b≠c∧b≠m:=⟨(by rintro rfl;rw[h.cells] at hb;cases hb),(by rintro rfl;rw[h.map] at hb;cases hb)⟩
theorem jN.cm{st:aB}{c m:Nat}{q:AV}{σ:Sub}(h:jN st c m q σ):c≠m:=by rintro rfl;have:=h.cells;rw[h.map] at this;cases this
def mM(M:List Int):Int→Option AV:=fun x=>if x∈M then some (.bool true) else none
theorem a4I{P:Program}{st:aB}{mm:Nat}{M:List Int}{t kt et:TypeId}{n:Int}(hm:st mm=some (.map (mM M)))(hu:P.underlying t=some (.map kt et))(hk:P.underlying kt=some (.int .i64))(hz:zV P et=some (.bool false)) :
 pT P st t false (.map mm) (.int .i64 n)=some (.bool (decide (n∈M))):=by
 unfold pT
 simp only[hm,hu,hk,mM]
 by_cases h:n∈M
 · simp [h,AV.cH]
 · simp [h,hz,AV.cH]
theorem a87{P:Program}{st:aB}{mm:Nat}{M:List Int}{t kt et:TypeId}{n:Int}{K:AV→aB→Prop}(hm:st mm=some (.map (mM M)))(hu:P.underlying t=some (.map kt et))(hk:P.underlying kt=some (.int .i64))
 (h:K .undef (st.aC mm (.map (mM (n::M))))):tR P t st (.map mm) (.int .i64 n) (.bool true) K:=by
 unfold tR
 simp only[hu,hm,hk]
 refine⟨rfl,?_⟩
 have:oQ (mM M) n (some (.bool true))=mM (n::M):=by
  funext x
  unfold oQ mM
  by_cases e:x=n
  · simp [e]
  · simp [e]
 rw[this]
 exact h
theorem a4U:mM []=fun _=>none:=by funext x;simp [mM]
theorem XL(t:Tm):t.wf=true→∀l:List Int,(∀v,v∈t.vars l↔v∈l∨v∈t.vl)∧(l.Nodup→(t.vars l).Nodup)∧∃m,t.vars l=l++m:=by
 induction t using Tm.ind with
 | h k n s ts ih=>
  intro h l
  obtain⟨hk,hw⟩:=Tm.XN h
  have list:∀xs:List Tm,(∀x∈xs,x∈ts)→∀l:List Int,(∀v,v∈cD xs l↔v∈l∨∃x∈xs,v∈x.vl)∧(l.Nodup→(cD xs l).Nodup)∧∃m,cD xs l=l++m:=by
   intro xs
   induction xs with
   | nil=>intro _ l;exact⟨by simp [cD],fun h=>h,[],by simp [cD]⟩
   | cons x xs ihx=>
    intro hs l
    obtain⟨a1,a2,m1,a3⟩:=ih x (hs x (by simp)) (hw x (hs x (by simp))) l
    obtain⟨b1,b2,m2,b3⟩:=ihx (fun y hy=>hs y (by simp [hy])) (x.vars l)
    simp only[cD]
    refine⟨fun v=>?_,fun hn=>b2 (a2 hn),m1++m2,by rw[b3,a3,mU]⟩
    rw[b1,a1]
    simp [or_assoc]
  rw[Tm.vars]
  by_cases hk1:k=1
  · obtain rfl:=hk hk1
    rw[Tm.oA hk1]
    simp only[cD]
    split
    · rename_i hc
      refine⟨fun v=>by simp,fun hn=>?_,[n],rfl⟩
      rw[oV]
      refine⟨hn,by simp,fun x hx y hy e=>?_⟩
      simp only[c8,dX,eC] at hy
      subst hy e
      exact hc.2 hx
    · rename_i hc
      refine⟨fun v=>?_,fun hn=>hn,[],by simp⟩
      have hm:n∈l:=DN fun h=>hc ⟨hk1,h⟩
      simp only[c8,dX,eC]
      exact⟨.inl,fun h=>h.elim id fun e=>e▸hm⟩
  · rw[aE (by simp [hk1])]
    obtain⟨c1,c2,c3⟩:=list ts (fun _ h=>h) l
    exact⟨fun v=>by rw[c1,Tm.mC hk1],c2,c3⟩
theorem Tm.a9D{v:Int}:∀(t:Tm) (l:List Int),t.cv=true→(v∈t.vars l↔v∈l∨v∈t.vl):=by
 intro t
 induction t using Tm.ind with
 | h k n s ts ih=>
  intro l hcv
  obtain⟨h1,h2⟩:=Tm.oZ.1 hcv
  have key:∀(ts:List Tm) (l:List Int),(∀t∈ts,∀l,v∈t.vars l↔v∈l∨v∈t.vl)→(v∈cD ts l↔v∈l∨∃t∈ts,v∈t.vl):=by
   intro ts
   induction ts with
   | nil=>intro l _;simp [cD]
   | cons t ts iht=>
    intro l h
    simp only[cD]
    rw[iht _ (fun x hx=>h x (by simp [hx])),h t (by simp)]
    simp [or_assoc]
  simp only[Tm.vars]
  rw[key ts _ (fun t ht l=>ih t ht l (h2 t ht))]
  by_cases hk:k=1
  · obtain⟨rfl,rfl⟩:=h1 hk
    rw[Tm.oA hk]
    by_cases hn:n∈l
    · simp [hk,hn];exact fun e=>e▸hn
    · simp [hk,hn]
  · rw[Tm.mC hk];simp [hk]
theorem A3{v:Int}:∀(ts:List Tm) (l:List Int),(∀t∈ts,t.cv=true)→(v∈cD ts l↔v∈l∨∃t∈ts,v∈t.vl)
 | [],l,_=>by simp [cD]
 | t::ts,l,h=>by
  simp only[cD]
  rw[A3 ts _ (fun x hx=>h x (by simp [hx])),Tm.a9D t l (h t (by simp))]
  simp [or_assoc]
theorem a9F{σ:Sub}{R:Int→Tm}{rk:Int→Nat}{B:Nat}(G:Good σ R rk B){n:Int}{W:List Int}(hW:∀w∈W,w≠n∧∀u,σ w=some u→∀v∈u.vl,v∈W):∀w∈W,n∉(R w).vl:=by
 refine fun w=>G.ind (p:=fun w=>w∈W→n∉(R w).vl) (fun w h hw hm=>?_) (fun w u h ih hw hm=>?_) w
 · rw[G.free h,A5] at hm
   simp only[c8,dX,eC] at hm
   exact(hW w hw).1 hm.symm
 · rw[G.bound h] at hm
   obtain⟨v,hv,hnv⟩:=(A4 u).1 hm
   exact ih v hv ((hW w hw).2 u h v hv) hnv
theorem a0O{w:Nat}{l:List AV}{i:Nat}{e:AV}(hw:∀e∈l,e.width=w)(h:l[i]?=some e) :
 ∃A B,l.flatMap AV.cells=A++e.cells++B∧A.length=i*w∧∀e',(l.set i e').flatMap AV.cells=A++e'.cells++B:=by
 obtain⟨hi,he⟩:=fR.1 h
 refine⟨(l.take i).flatMap AV.cells,(l.drop (i+1)).flatMap AV.cells,?_,?_,fun e'=>?_⟩
 · have:l=l.take i++e::l.drop (i+1):=by rw[←he,←pQ hi,rX]
   conv=>lhs;rw[this]
   simp
 · rw[p6 (fun e he=>hw e (lS he)),dQ,kN (by omega)]
 · rw[List.set_eq_take_append_cons_drop,aH hi]
   simp
def cellOf:Option Tm→AV
 | some u=>u.av
 | none=>zt
theorem L0(o:Option Tm):(cellOf o).width=4:=by cases o<;>first | rfl | exact aK _
theorem aYU(o:Option Tm):(cellOf o).cells.length=4:=by rw[vL,L0]
theorem UQ:∀t:Tm,t.cv=true→t.aM vr=t:=by
 intro t
 induction t using Tm.ind with
 | h k n s ts ih=>
  intro h
  obtain⟨h1,h2⟩:=Tm.oZ.1 h
  by_cases hk:k=1
  · obtain⟨rfl,rfl⟩:=h1 hk
    rw[Tm.nS vr hk,hk];try rfl
  · rw[Tm.mL vr hk]
    congr 1
    have:∀l:List Tm,(∀x∈l,x∈ts)→l.map (Tm.aM vr)=l:=by
     intro l
     induction l with
     | nil=>intro _;rfl
     | cons x l ihl=>intro hl;rw[aW,ih x (hl x (by simp)) (h2 x (hl x (by simp))),ihl fun y hy=>hl y (by simp [hy])]
    exact this ts fun _ h=>h
def qN(l:List Tm):List Tm:=l.map fun t=>t.aM fun v=>vr (fO v (cD l []) 0)
theorem a9C{D:Int→Prop}{h:Int→Int}(inj:∀v w,D v→D w→h v=h w→v=w){f:Int→Tm}(hf:∀v,D v→f v=vr (h v)) :
 ∀(t:Tm),t.wf=true→(∀v∈t.vl,D v)→∀l:List Int,(∀v∈l,D v)→(t.aM f).vars (l.map h)=(t.vars l).map h∧∀v∈t.vars l,D v:=by
 intro t
 induction t using Tm.ind with
 | h k n s ts ih=>
  intro hw hD l hl
  obtain⟨hk1,hws⟩:=Tm.XN hw
  by_cases hk:k=1
  · obtain rfl:=hk1 hk
    have hDn:D n:=hD n (by rw[Tm.oA hk];simp)
    have iG:h n∈l.map h↔n∈l:=by
     rw[cU]
     exact⟨fun⟨m,hm,e⟩=>by rw[←inj m n (hl m hm) hDn e];exact hm,fun hm=>⟨n,hm,rfl⟩⟩
    rw[Tm.nS f hk,hf n hDn,vr,Tm.vars,Tm.vars]
    simp only[cD,hk,rQ,iG]
    split
    · exact⟨by simp,fun v hv=>by
       rcases fF.1 hv with hv | hv
       · exact hl v hv
       · simp only[c8,dX,eC] at hv;rw[hv];exact hDn⟩
    · exact⟨rfl,hl⟩
  · rw[Tm.mL f hk,Tm.vars,Tm.vars,aE (fun h=>hk h.1),aE (fun h=>hk h.1)]
    have:∀xs:List Tm,(∀x∈xs,x∈ts)→∀l:List Int,(∀v∈l,D v)→cD (xs.map (Tm.aM f)) (l.map h)=(cD xs l).map h∧∀v∈cD xs l,D v:=by
     intro xs
     induction xs with
     | nil=>intro _ l hl;exact⟨rfl,hl⟩
     | cons x xs ihx=>
      intro hs l hl
      have hx:=hs x (by simp)
      obtain⟨e1,e2⟩:=ih x hx (hws x hx) (fun v hv=>hD v ((Tm.mC hk).2 ⟨x,hx,hv⟩)) l hl
      simp only[aW,cD]
      rw[e1]
      exact ihx (fun y hy=>hs y (by simp [hy])) _ e2
    exact this ts (fun _ h=>h) l hl
theorem aOI{D:Int→Prop}{h:Int→Int}(inj:∀v w,D v→D w→h v=h w→v=w)(v:Int)(hv:D v):∀(l:List Int) (i:Int),(∀w∈l,D w)→fO (h v) (l.map h) i=fO v l i
 | [],i,_=>rfl
 | x::l,i,hl=>by
  simp only[aW,fO]
  by_cases e:v=x
  · rw[aH e,aH (by rw[e])]
  · rw[aE e,aE (fun e2=>e (inj v x hv (hl x (by simp)) e2))]
    exact aOI inj v hv l (i+1) fun w hw=>hl w (by simp [hw])
def qX:List ByteArray:=[⟨#[43]⟩,⟨#[45]⟩,⟨#[42]⟩,⟨#[47,47]⟩,⟨#[109,111,100]⟩]
def sE:List ByteArray:=[⟨#[60]⟩,⟨#[62]⟩,⟨#[61,60]⟩,⟨#[62,61]⟩,⟨#[61,58,61]⟩]
def gQ(l:List ByteArray)(s:ByteArray):Bool:=l.any fun x=>decide (s=x)
def jQ(n:Int):Int×Int:=if -999≤n∧n≤999 then(n,0) else(0,5)
def rA(a b:Int):Int:=if a.tmod b≠0∧decide (a.tmod b<0)≠decide (b<0) then a.tmod b+b else a.tmod b
def sB(s:ByteArray)(a b:Int):Int×Int:=
 if s=⟨#[43]⟩ then jQ (a+b) else if s=⟨#[45]⟩ then jQ (a - b) else if s=⟨#[42]⟩ then jQ (a*b) else if b=0 then(0,4) else if s=⟨#[109,111,100]⟩ then(rA a b,0) else(a.tdiv b,0)
def both(f:Int→Int→Int×Int)(x y:Int×Int):Int×Int:=if x.2≠0 then(0,x.2) else if y.2≠0 then(0,y.2) else f x.1 y.1
def two(f:Int→Int→Int×Int):List (Int×Int)→Int×Int
 | [x,y]=>both f x y
 | _=>(0,3)
mutual
def Tm.ev:Tm→Int×Int
 | .mk k n s ts=>if k=2 then(n,0) else if k=1 then(0,2) else if gQ qX s=true then two (sB s) (OZ ts) else(0,3)
def OZ:List Tm→List (Int×Int)
 | []=>[]
 | t::ts=>t.ev::OZ ts
end
theorem aSG:∀ts:List Tm,OZ ts=ts.map Tm.ev
 | []=>rfl
 | t::ts=>by simp only[OZ,aW,aSG ts]
theorem Tm.zO(k n:Int)(s:ByteArray)(ts:List Tm):(Tm.mk k n s ts).ev=if k=2 then(n,0) else if k=1 then(0,2) else if gQ qX s=true then two (sB s) (ts.map Tm.ev) else(0,3):=by simp only[Tm.ev,aSG]
theorem OW(a b:Int)(hb:b≠0):(0<b→-b<a.tmod b∧a.tmod b<b)∧(b<0→b<a.tmod b∧a.tmod b< -b):=by
 have h1:=PX (-a) (b:=b)
 have h2:=PX a (b:=b)
 have h3:=PX (-a) (b:= -b)
 have h4:=PX a (b:= -b)
 rw[Int.tmod_neg] at h3 h4
 rw[Int.neg_tmod] at h1 h3
 constructor
 · intro h;exact⟨by have:=h1 h;omega,h2 h⟩
 · intro h;exact⟨by have:=h3 (by omega);omega,h4 (by omega)⟩
theorem tdiv_le(a b:Int)(ha: -999≤a∧a≤999): -999≤a.tdiv b∧a.tdiv b≤999:=by
 have:(a.tdiv b).natAbs≤a.natAbs:=by rw[Int.natAbs_tdiv];exact Nat.div_le_self _ _
 omega
theorem VR(n:Int): -999≤(jQ n).1∧(jQ n).1≤999:=by unfold jQ;split<;>simp_all
theorem aM2(a b:Int)(ha: -999≤a∧a≤999)(hb: -999≤b∧b≤999)(h0:b≠0): -999≤rA a b∧rA a b≤999:=by
 have h1:=OW a b h0
 unfold rA
 split
 · rename_i h
   have h2:=h.2
   by_cases hb':b<0
   · have:¬a.tmod b<0:=by intro hc;simp [hb',hc] at h2
     have:=h1.2 hb'
     omega
   · have:a.tmod b<0:=by
      apply DN;intro hc;simp [hb',hc] at h2
     have:=h1.1 (by omega)
     omega
 · rcases Int.lt_or_gt_of_ne h0 with h | h
   · have:=h1.2 h;omega
   · have:=h1.1 h;omega
theorem Y1(m b:Int)(h1:0≤m)(h2:m<b):(m+b).tmod b=m:=by
 obtain⟨x,rfl⟩:∃x:Nat,m=x:=⟨m.toNat,by omega⟩
 obtain⟨y,rfl⟩:∃y:Nat,b=y:=⟨b.toNat,by omega⟩
 rw[show(x:Int)+(y:Int)=((x+y:Nat):Int) by omega,←Int.ofNat_tmod,Nat.add_mod_right,Nat.mod_eq_of_lt (by omega)]
theorem a0P(a b:Int)(h0:b≠0):(a.tmod b+b).tmod b=rA a b:=by
 have h1:=OW a b h0
 have hs:∀x:Int,0≤x→x<b→x.tmod b=x:=fun x h2 h3=>Int.tmod_eq_of_lt h2 h3
 have hn:∀x:Int,x≤0→b<x→x.tmod b=x:=fun x h2 h3=>by
  have:=Int.tmod_eq_of_lt (a:= -x) (b:= -b) (by omega) (by omega)
  rw[Int.tmod_neg,Int.neg_tmod] at this
  omega
 unfold rA
 generalize a.tmod b=m at *
 by_cases hb:b<0
 · have h2:=h1.2 hb
   by_cases hm:m<0
   · rw[aE (by simp [hb,hm])]
     rw[show m+b=b+m by omega]
     have e:(b+m).tmod b=((-b)+(-m)).tmod (-b)*(-1):=by
      rw[show(-b)+(-m)= -(b+m) by omega,Int.neg_tmod,Int.tmod_neg];omega
     rw[e,Int.add_comm,Y1 (-m) (-b) (by omega) (by omega)]
     omega
   · by_cases hm0:m=0
     · subst hm0;rw[aE (by simp),Int.zero_add,Int.tmod_self]
     · rw[aH ⟨hm0,by simp [hb,hm]⟩]
       exact hn _ (by omega) (by omega)
 · have h2:=h1.1 (by omega)
   by_cases hm:m<0
   · rw[aH ⟨by omega,by simp [hb,hm]⟩]
     exact hs _ (by omega) (by omega)
   · rw[aE (by simp [hb,hm])]
     rw[Y1 m b (by omega) (by omega)]
def cL(N:Int)(t:Tm):Prop:=(t.aM fun _=>vr 0).kK=true∧t.cv=true∧∀v∈t.vl,0≤v∧v<N
theorem cL.mono{N M:Int}{t:Tm}(h:cL N t)(hm:N≤M):cL M t:=⟨h.1,h.2.1,fun v hv=>⟨(h.2.2 v hv).1,by have:=(h.2.2 v hv).2;omega⟩⟩
theorem cL.own{N k n:Int}{s:ByteArray}{ts:List Tm}(h:cL N (.mk k n s ts))(hk:k≠1):eU k n s ts.length=true∧∀x∈ts,cL N x:=by
 obtain⟨h1,h2,h3⟩:=h
 rw[Tm.mL _ hk] at h1
 obtain⟨h4,h5⟩:=Tm.NS h1
 rw[aF] at h4
 exact⟨h4,fun x hx=>⟨h5 _ (cU.2 ⟨x,hx,rfl⟩),(Tm.oZ.1 h2).2 x hx,fun v hv=>h3 v ((Tm.mC hk).2 ⟨x,hx,hv⟩)⟩⟩
theorem cL.var{N n:Int}{s:ByteArray}{ts:List Tm}(h:cL N (.mk 1 n s ts)):0≤n∧n<N∧s=⟨#[]⟩∧ts= []:=by
 obtain⟨_,h2,h3⟩:=h
 obtain⟨h4,h5⟩:=(Tm.oZ.1 h2).1 rfl
 obtain⟨h6,h7⟩:=h3 n (by rw[Tm.oA rfl];simp)
 exact⟨h6,h7,h4,h5⟩
theorem NT(N:Int):∀t:Tm,t.k≠1→cL N t→∀x∈t.ts,cL N x:=fun t hk h x hx=>by
 cases t
 exact(h.own hk).2 x hx
theorem cL.kind{N k n:Int}{s:ByteArray}{ts:List Tm}(h:cL N (.mk k n s ts)):(k=1∨k=2∨k=3)∧ts.length≤4:=by
 by_cases hk:k=1
 · subst hk
   rw[h.var.2.2.2]
   simp
 · have:=a5G (h.own hk).1
   omega
theorem a5F{n:Int}{s:ByteArray}{len:Int}(h:eU 2 n s len=true): -999≤n∧n≤999:=by
 simp [eU] at h
 omega
theorem cL.all{N k n:Int}{s:ByteArray}{ts:List Tm}(h:cL N (.mk k n s ts)):(k=2→-999≤n∧n≤999)∧∀x∈ts,cL N x:=by
 by_cases hk:k=1
 · subst hk
   rw[h.var.2.2.2]
   simp
 · obtain⟨h1,h2⟩:=h.own hk
   refine⟨fun h2=>?_,h2⟩
   subst h2
   exact a5F h1
theorem cL.small{N:Int}:∀ {t:Tm},cL N t→t.small=true:=by
 intro t
 induction t using Tm.ind with
 | h k n s ts ih=>
  intro h
  have h4:=h.kind.2
  simp only[Tm.small,J6,cK,bL,eW]
  refine⟨by omega,fun x hx=>?_⟩
  by_cases hk:k=1
  · subst hk;rw[h.var.2.2.2] at hx;cases hx
  · exact ih x hx ((h.own hk).2 x hx)
theorem cL.aM{N M:Int}{f:Int→Tm}{t:Tm}(h:cL N t)(hf:∀v∈t.vl,cL M (f v)):cL M (t.aM f):=by
 induction t using Tm.ind with
 | h k n s ts ih=>
  by_cases hk:k=1
  · rw[Tm.nS f hk];exact hf n (by rw[Tm.oA hk];simp)
  · obtain⟨h1,h2⟩:=h.own hk
    have key:∀x∈ts,cL M (x.aM f):=fun x hx=>ih x hx (h2 x hx) fun v hv=>hf v ((Tm.mC hk).2 ⟨x,hx,hv⟩)
    rw[Tm.mL f hk]
    refine⟨?_,Tm.oZ.2 ⟨fun h=>absurd h hk,fun y hy=>?_⟩,fun v hv=>?_⟩
    · rw[Tm.mL _ hk,Tm.CR,aF,aF,h1,fP,eW]
      intro y hy
      simp only[rW,cU,BB] at hy
      obtain⟨x,hx,rfl⟩:=hy
      exact(key x hx).1
    · obtain⟨x,hx,rfl⟩:=cU.1 hy
      exact(key x hx).2.1
    · obtain⟨y,hy,hv⟩:=(Tm.mC hk).1 hv
      obtain⟨x,hx,rfl⟩:=cU.1 hy
      exact(key x hx).2.2 v hv
theorem I6{N n:Int}(h0:0≤n)(h1:n<N):cL N (vr n):=by
 refine⟨by rw[x7];exact aTA (I2.2 (by omega)),Tm.oZ.2 ⟨fun _=>⟨rfl,rfl⟩,by simp⟩,fun v hv=>?_⟩
 rw[A5] at hv
 simp only[c8,dX,eC] at hv
 omega
theorem aPM{t:Tm}:t.kK=true↔cL 26 t:=by
 constructor
 · intro h
   refine⟨a4S t h fun v _=>aTA (I2.2 (by omega)),Tm.a5A t h,fun v hv=>?_⟩
   have:=I2.1 (Tm.a5B t h v hv)
   omega
 · induction t using Tm.ind with
   | h k n s ts ih=>
    intro h
    rw[Tm.CR]
    by_cases hk:k=1
    · subst hk
      obtain⟨h0,h1,rfl,rfl⟩:=h.var
      have h1':n≤25:=by omega
      simp [eU,h0,h1']
    · obtain⟨h1,h2⟩:=h.own hk
      rw[h1,fP,eW]
      exact fun x hx=>ih x hx (h2 x hx)
theorem Tm.KE{t:Tm}(h:t.valid=true):cL 26 t:=aPM.1 (Tm.a9A h)
theorem Good.mN{σ:Sub}{R:Int→Tm}{rk:Int→Nat}{B:Nat}(G:Good σ R rk B){N:Int}(ho:cW (cL N) σ):∀n,0≤n→n<N→cL N (R n):=by
 refine fun n=>G.ind (p:=fun n=>0≤n→n<N→cL N (R n)) (fun n h h0 h1=>?_) (fun n u h ih h0 h1=>?_) n
 · rw[G.free h];exact I6 h0 h1
 · rw[G.bound h]
   exact(ho n u h).aM fun v hv=>ih v hv ((ho n u h).2.2 v hv).1 ((ho n u h).2.2 v hv).2
theorem Good.U4{σ:Sub}{R:Int→Tm}{rk:Int→Nat}{B:Nat}(G:Good σ R rk B){N:Int}(ho:cW (cL N) σ){t:Tm}(h:cL N t):cL N (t.aM R):=
 h.aM fun v hv=>G.mN ho v (h.2.2 v hv).1 (h.2.2 v hv).2
def bF(N:Int)(t:Tm):Prop:=cL N t∧t.nodes≤120
theorem rL(N:Int):∀t:Tm,t.k≠1→bF N t→∀x∈t.ts,bF N x:=fun t hk h x hx=>by
 refine⟨NT N t hk h.1 x hx,?_⟩
 have h2:=h.2
 cases t
 rw[Tm.iI] at h2
 have:=yF (f:=Tm.nodes) hx
 simp only[Tm.ts] at this
 omega
theorem bF.mono{N M:Int}{t:Tm}(h:bF N t)(hm:N≤M):bF M t:=⟨h.1.mono hm,h.2⟩
theorem cW.mN{N:Int}{σ:Sub}(h:cW (bF N) σ):cW (cL N) σ:=fun n u e=>(h n u e).1
theorem cW.imp{p q:Tm→Prop}{σ:Sub}(h:cW p σ)(hpq:∀t,p t→q t):cW q σ:=fun n u e=>hpq u (h n u e)
open Classical in
noncomputable def iD(σ:Sub)(a b:Tm):Bool×Sub×List Int:=if h:∃x g,dD g σ a b=some x then h.choose else(false,σ,[])
theorem aS0{g:Nat}{σ:Sub}{a b:Tm}{x:Bool×Sub×List Int}(h:dD g σ a b=some x):iD σ a b=x:=by
 unfold iD
 have h':∃x g,dD g σ a b=some x:=⟨x,g,h⟩
 rw[dif_pos h']
 obtain⟨g',h''⟩:=h'.choose_spec
 exact a82 h'' h
def VN(N:Nat):List Int:=(List.range N).map fun i:Nat=>(i:Int)
theorem x8{N:Nat}{n:Int}:n∈VN N↔0≤n∧n<N:=by
 simp only[VN,cU,qT]
 constructor
 · rintro⟨i,h,rfl⟩;omega
 · intro h;exact⟨n.toNat,by omega,by omega⟩
theorem FG{N:Nat}{tr:List Int}(h:tr.Nodup)(hV:∀m∈tr,0≤m∧m<N):tr.length≤N:=by
 have:=aO5 (V:=VN N) h fun x hx=>x8.2 (hV x hx)
 simpa [VN] using this
structure BG (N:Int) (σ:Sub) (a b:Tm) (r:Bool) (σ':Sub) (tr:List Int):Prop where
 run:∃g,dD g σ a b=some (r,σ',tr)
 eq:iD σ a b=(r,σ',tr)
 n9:oX σ [a] [b] r σ' tr
 ok:cW (bF N) σ'
 gQ:∀m∈tr,0≤m∧m<N
theorem tC{N:Nat}{σ:Sub}{a b:Tm}(hg:cT σ)(ho:cW (bF N) σ)(ha:bF N a)(hb:bF N b):∃r σ' tr,BG N σ a b r σ' tr:=by
 have hin:∀ {t:Tm},bF N t→jM (VN N) t:=fun h v hv=>x8.2 (h.1.2.2 v hv)
 have hr:mW (VN N) σ:=fun n u e=>hin (ho n u e)
 obtain⟨g,⟨r,σ',tr⟩,h⟩:=a84 (VN N) _ _ σ a b hg hr (hin ha) (hin hb) (dB _) (dB _)
 obtain⟨h1,h2⟩:=(aS1 g).1 σ a b r σ' tr (VN N) hg h hr (hin ha) (hin hb)
 exact⟨r,σ',tr,⟨g,h⟩,aS0 h,yJ hg h,(PM (rL N) g).1 σ a b r σ' tr hg h ho ha hb,fun m hm=>x8.1 (h2 m hm)⟩
theorem BG.out{N:Int}{σ:Sub}{a b:Tm}{r:Bool}{σ':Sub}{tr:List Int}(h:BG N σ a b r σ' tr)(n:Int):(if n∈tr then none else σ' n)=σ n:=by
 split
 · rename_i hn;exact((h.n9.new n hn).1).symm
 · rename_i hn;exact h.n9.aV n hn
def Sub.out(σ:Sub)(l:List Int):Sub:=fun n=>if n∈l then Option.none else σ n
theorem Sub.a5D(σ:Sub)(l m:List Int):(σ.out l).out m=σ.out (l++m):=by
 funext n
 unfold Sub.out
 by_cases h1:n∈m
 · rw[aH h1,aH (by simp [h1])]
 · rw[aE h1]
   by_cases h2:n∈l
   · rw[aH h2,aH (by simp [h2])]
   · rw[aE h2,aE (by simp [h1,h2])]
theorem Sub.a5E(σ:Sub){l m:List Int}(h:∀n,n∈l↔n∈m):σ.out l=σ.out m:=by
 funext n
 unfold Sub.out
 simp only[h n]
def b7(ρ:Int→Int)(t:Tm):Tm:=t.aM fun v=>vr (ρ v)
theorem a6A(ρ:Int→Int)(n:Int):b7 ρ (vr n)=vr (ρ n):=x7 _ n
theorem wE(ρ:Int→Int){k n:Int}{s:ByteArray}{ts:List Tm}(h:k≠1):b7 ρ (.mk k n s ts)=.mk k n s (ts.map (b7 ρ)):=Tm.mL _ h
theorem AI(ρ:Int→Int){t:Tm}(h:t.k=1):b7 ρ t=vr (ρ t.n):=Tm.FD _ h
theorem C3(ρ:Int→Int){t:Tm}(h:t.k≠1):b7 ρ t=.mk t.k t.n t.s (t.ts.map (b7 ρ)):=Tm.rK _ h
theorem wD(ρ:Int→Int)(t:Tm):(b7 ρ t).k=t.k:=by
 by_cases h:t.k=1
 · rw[AI ρ h,h];try rfl
 · rw[C3 ρ h];try rfl
theorem N4(ρ:Int→Int){t:Tm}(hc:t.cv=true):(b7 ρ t).nodes=t.nodes:=by
 induction t using Tm.ind with
 | h k n s ts ih=>
  obtain⟨h1,h2⟩:=Tm.oZ.1 hc
  by_cases hk:k=1
  · obtain⟨_,rfl⟩:=h1 hk
    rw[AI ρ (t:=.mk k n s []) hk,vr,Tm.iI,Tm.iI]
  · rw[wE ρ hk,Tm.iI,Tm.iI]
    congr 1
    have:∀l:List Tm,(∀x∈l,x∈ts)→aR Tm.nodes (l.map (b7 ρ))=aR Tm.nodes l:=by
     intro l
     induction l with
     | nil=>intro _;rfl
     | cons x l ihl=>intro h;simp only[aW,aR];rw[ih x (h x (by simp)) (h2 x (h x (by simp))),ihl fun y hy=>h y (by simp [hy])]
    exact this ts fun _ h=>h
theorem VT(ρ:Int→Int){t:Tm}(hc:t.cv=true):∀d,(b7 ρ t).flat d=t.flat d:=by
 induction t using Tm.ind with
 | h k n s ts ih=>
  intro d
  obtain⟨h1,h2⟩:=Tm.oZ.1 hc
  cases d with
  | zero=>rw[Tm.H3,Tm.H3]
  | succ d=>
   by_cases hk:k=1
   · obtain⟨_,rfl⟩:=h1 hk
     rw[AI ρ (t:=.mk k n s []) hk,vr,Tm.xN,Tm.xN]
   · rw[wE ρ hk,Tm.xN,Tm.xN,List.all_map]
     rw[wQ,eW,eW]
     constructor
     · intro h x hx;rw[←ih x hx (h2 x hx) d];exact h x hx
     · intro h x hx;simp only[BB];rw[ih x hx (h2 x hx) d];exact h x hx
theorem a9E{ρ:Int→Int}{t:Tm}{w:Int}:w∈(b7 ρ t).vl↔∃v∈t.vl,w=ρ v:=by
 unfold b7
 rw[A4]
 simp only[A5,c8,dX,eC]
theorem VS{ρ ρ':Int→Int}{t:Tm}(h:∀v∈t.vl,ρ v=ρ' v):b7 ρ t=b7 ρ' t:=rJ t fun v hv=>by rw[h v hv]
theorem JH(ρ:Int→Int)(f:Int→Tm)(t:Tm):(b7 ρ t).aM f=t.aM fun v=>f (ρ v):=by
 unfold b7
 rw[AA]
 exact rJ t fun v _=>x7 f (ρ v)
theorem aOY(ρ:Int→Int)(f:Int→Tm)(t:Tm):b7 ρ (t.aM f)=t.aM fun v=>b7 ρ (f v):=by
 unfold b7
 rw[AA]
theorem cL.b7{N M:Int}{ρ:Int→Int}{t:Tm}(h:cL N t)(hr:∀v∈t.vl,0≤ρ v∧ρ v<M):cL M (AW.b7 ρ t):=h.aM fun v hv=>I6 (hr v hv).1 (hr v hv).2
theorem bF.b7{N M:Int}{ρ:Int→Int}{t:Tm}(h:bF N t)(hr:∀v∈t.vl,0≤ρ v∧ρ v<M):bF M (AW.b7 ρ t):=⟨h.1.b7 hr,by rw[N4 ρ h.1.2.1];exact h.2⟩
structure gF (ρ:Int→Int) (N:Int) (σ τ:Sub):Prop where
 inj:∀v w,0≤v→v<N→0≤w→w<N→ρ v=ρ w→v=w
 map:∀v,0≤v→v<N→τ (ρ v)=(σ v).map (b7 ρ)
section
variable {ρ:Int→Int} {N:Int} {σ τ:Sub}
theorem gF.wk(S:gF ρ N σ τ)(ho:cW (cL N) σ){f:Nat}{t u:Tm}(h:gN σ f t u):cL N t→gN τ f (b7 ρ t) (b7 ρ u):=by
 induction h with
 | @stop t h=>
  intro ht
  refine .stop fun hk=>?_
  rw[wD] at hk
  have hr:=ht.2.2 t.n (by rw[Tm.GC hk];simp)
  rw[AI ρ hk]
  show τ (ρ t.n)=none
  rw[S.map _ hr.1 hr.2,h hk];try rfl
 | @go f t u v h1 h2 _ ih=>
  intro ht
  have hr:=ht.2.2 t.n (by rw[Tm.GC h1];simp)
  refine .go (u:=b7 ρ u) (by rw[wD];exact h1) ?_ (ih (ho _ _ h2))
  rw[AI ρ h1]
  show τ (ρ t.n)=_
  rw[S.map _ hr.1 hr.2,h2];try rfl
theorem gF.rs(S:gF ρ N σ τ)(hg:cT σ)(hg':cT τ)(ho:cW (cL N) σ):∀v,0≤v→v<N→rs τ (ρ v)=b7 ρ (rs σ v):=by
 obtain⟨rk,B,G⟩:=hg.rs
 obtain⟨rk',B',G'⟩:=hg'.rs
 refine fun v=>G.ind (p:=fun v=>0≤v→v<N→AW.rs τ (ρ v)=b7 ρ (AW.rs σ v)) (fun v h h0 h1=>?_) (fun v u h ih h0 h1=>?_) v
 · rw[G.free h,a6A,G'.free (by rw[S.map v h0 h1,h];try rfl)]
 · rw[G.bound h,aOY,G'.bound (u:=b7 ρ u) (by rw[S.map v h0 h1,h];try rfl),JH]
   refine rJ u fun w hw=>?_
   have:=(ho v u h).2.2 w hw
   exact ih w hw this.1 this.2
theorem gF.rsT(S:gF ρ N σ τ)(hg:cT σ)(hg':cT τ)(ho:cW (cL N) σ){t:Tm}(ht:cL N t):(b7 ρ t).aM (AW.rs τ)=b7 ρ (t.aM (AW.rs σ)):=by
 rw[JH,aOY]
 exact rJ t fun v hv=>S.rs hg hg' ho v (ht.2.2 v hv).1 (ht.2.2 v hv).2
theorem gF.mem(S:gF ρ N σ τ){t:Tm}(ht:cL N t){n:Int}(h0:0≤n)(h1:n<N):ρ n∈(b7 ρ t).vl↔n∈t.vl:=by
 rw[a9E]
 constructor
 · rintro⟨v,hv,e⟩
   rw[S.inj n v h0 h1 (ht.2.2 v hv).1 (ht.2.2 v hv).2 e];exact hv
 · exact fun h=>⟨n,h,rfl⟩
theorem gF.set(S:gF ρ N σ τ){n:Int}(h0:0≤n)(h1:n<N)(t:Tm):gF ρ N (σ.set n t) (τ.set (ρ n) (b7 ρ t)):=by
 refine⟨S.inj,fun v hv0 hv1=>?_⟩
 unfold Sub.set
 by_cases h:v=n
 · subst h;simp
 · rw[aE (fun e=>h (S.inj v n hv0 hv1 h0 h1 e)),aE h,S.map v hv0 hv1]
theorem gF.kQ(S:gF ρ N σ τ)(hg:cT σ)(hg':cT τ)(ho:cW (cL N) σ){n:Int}(h0:0≤n)(h1:n<N){t:Tm}(ht:cL N t){r:Bool}{σ':Sub}{tr:List Int}(h:kQ σ n t=(r,σ',tr)) :
 ∃τ',AW.kQ τ (ρ n) (b7 ρ t)=(r,τ',tr.map ρ)∧gF ρ N σ' τ':=by
 obtain⟨rk,B,G⟩:=hg.rs
 have e:=S.mem (G.U4 ho ht) h0 h1
 rw[←S.rsT hg hg' ho ht] at e
 unfold AW.kQ at h ⊢
 by_cases hm:n∈(t.aM (AW.rs σ)).vl
 · rw[aH hm] at h
   rw[aH (e.2 hm)]
   cases h
   exact⟨τ,rfl,S⟩
 · rw[aE hm] at h
   rw[aE (fun h=>hm (e.1 h))]
   cases h
   exact⟨_,rfl,S.set h0 h1 t⟩
theorem aNT{a b:Tm}(ha:a.k≠1)(hb:b.k≠1):qA (b7 ρ a) (b7 ρ b)=qA a b:=by
 obtain⟨k,n,s,ts⟩:=a
 obtain⟨k',n',s',ts'⟩:=b
 simp only[Tm.k] at ha hb
 rw[wE ρ ha,wE ρ hb,wQ,uH,uH]
 simp only[Tm.k,Tm.n,Tm.s,Tm.ts,aF]
theorem gF.aTD(S:gF ρ N σ τ)(hg:cT σ)(ho:cW (cL N) σ){t:Tm}(ht:cL N t):AW.wk τ (b7 ρ t)=b7 ρ (AW.wk σ t):=by
 obtain⟨rk,B,G⟩:=hg.rs
 obtain⟨f,h⟩:=G.wk t
 exact(S.wk ho h ht).wk
theorem a85(ρ:Int→Int)(N:Int):∀g:Nat,(∀(σ τ:Sub) (a b:Tm) (r:Bool) (σ':Sub) (tr:List Int),cT σ→cT τ→cW (cL N) σ→cL N a→cL N b→gF ρ N σ τ→dD g σ a b=some (r,σ',tr)→∃τ',dD g τ (b7 ρ a) (b7 ρ b)=some (r,τ',tr.map ρ)∧gF ρ N σ' τ') ∧
 (∀(xs ys:List Tm) (σ τ:Sub) (r:Bool) (σ':Sub) (tr:List Int),cT σ→cT τ→cW (cL N) σ→(∀x∈xs,cL N x)→(∀y∈ys,cL N y)→gF ρ N σ τ→eE g σ xs ys=some (r,σ',tr)→∃τ',eE g τ (xs.map (b7 ρ)) (ys.map (b7 ρ))=some (r,τ',tr.map ρ)∧gF ρ N σ' τ'):=by
 intro g
 induction g with
 | zero=>
  refine⟨fun σ τ a b r σ' tr _ _ _ _ _ _ h=>(by simp only[dD] at h;cases h),?_⟩
  intro xs ys σ τ r σ' tr _ _ _ _ _ S h
  match xs,ys with
  | [],_=>simp only[eE,Option.some.injEq,Prod.mk.injEq] at h;obtain⟨rfl,rfl,rfl⟩:=h;exact⟨τ,by simp only[aU,eE],S⟩
  | x::xs,[]=>simp only[eE,Option.some.injEq,Prod.mk.injEq] at h;obtain⟨rfl,rfl,rfl⟩:=h;exact⟨τ,by simp only[aW,aU,eE],S⟩
  | x::xs,y::ys=>simp only[eE,dD] at h;cases h
 | succ g ih=>
  have one:∀(σ τ:Sub) (a b:Tm) (r:Bool) (σ':Sub) (tr:List Int),cT σ→cT τ→cW (cL N) σ→cL N a→cL N b→gF ρ N σ τ→dD (g+1) σ a b=some (r,σ',tr)→∃τ',dD (g+1) τ (b7 ρ a) (b7 ρ b)=some (r,τ',tr.map ρ)∧gF ρ N σ' τ':=by
   intro σ τ a b r σ' tr hg hg' ho ha hb S h
   obtain⟨rk,B,G⟩:=hg.rs
   obtain⟨fa,wa⟩:=G.wk a
   obtain⟨fb,wb⟩:=G.wk b
   have oa:=wa.all (p:=cL N) ho ha
   have ob:=wb.all (p:=cL N) ho hb
   have ea:=S.aTD hg ho ha
   have eb:=S.aTD hg ho hb
   have h:=KC h
   generalize AW.wk σ a=a1 at *
   generalize AW.wk σ b=b1 at *
   rw[dD,ea,eb,wD,wD]
   have rng:∀ {t:Tm},cL N t→t.k=1→0≤t.n∧t.n<N:=fun ht hk=>ht.2.2 _ (by rw[Tm.GC hk];simp)
   have nn:∀ {t:Tm},t.k=1→(b7 ρ t).n=ρ t.n:=fun hk=>by rw[AI ρ hk];try rfl
   rcases h with ⟨h1,h2,h3,rfl,rfl,rfl⟩ | ⟨h1,h2,h3⟩ | ⟨h1,h2,h3⟩ | ⟨h1,h2,h3,h4⟩ | ⟨h1,h2,h3,rfl,rfl,rfl⟩
   · exact⟨τ,by rw[aH ⟨h1,h2,by rw[nn h1,nn h2,h3]⟩];try rfl,S⟩
   · have ra:=rng oa h1
     obtain⟨τ',e,S'⟩:=S.kQ hg hg' ho ra.1 ra.2 ob h3
     refine⟨τ',?_,S'⟩
     rw[aE,aH h1,nn h1,e]
     rintro⟨_,h5,h6⟩
     have rb:=rng ob h5
     rw[nn h1,nn h5] at h6
     exact h2 ⟨h5,S.inj _ _ ra.1 ra.2 rb.1 rb.2 h6⟩
   · have rb:=rng ob h2
     obtain⟨τ',e,S'⟩:=S.kQ hg hg' ho rb.1 rb.2 oa h3
     refine⟨τ',?_,S'⟩
     rw[aE (fun h=>h1 h.1),aE h1,aH h2,nn h2,e]
   · obtain⟨τ',e,S'⟩:=ih.2 a1.ts b1.ts σ τ r σ' tr hg hg' ho (NT N a1 h1 oa) (NT N b1 h2 ob) S h4
     refine⟨τ',?_,S'⟩
     rw[aE (fun h=>h1 h.1),aE h1,aE h2,aH (by rw[aNT h1 h2];exact h3),C3 ρ h1,C3 ρ h2]
     exact e
   · refine⟨τ,?_,S⟩
     rw[aE (fun h=>h1 h.1),aE h1,aE h2,aE (by rw[aNT h1 h2,h3];simp)]
     try rfl
  refine⟨one,?_⟩
  intro xs
  induction xs with
  | nil=>
   intro ys σ τ r σ' tr _ _ _ _ _ S h
   simp only[eE,Option.some.injEq,Prod.mk.injEq] at h;obtain⟨rfl,rfl,rfl⟩:=h;exact⟨τ,by simp only[aU,eE],S⟩
  | cons x xs ihx=>
   intro ys σ τ r σ' tr hg hg' ho hx hy S h
   cases ys with
   | nil=>simp only[eE,Option.some.injEq,Prod.mk.injEq] at h;obtain⟨rfl,rfl,rfl⟩:=h;exact⟨τ,by simp only[aW,aU,eE],S⟩
   | cons y ys=>
    rw[eE] at h
    simp only[aW]
    rw[eE]
    cases hu:dD (g+1) σ x y with
    | none=>rw[hu] at h;cases h
    | some p=>
     obtain⟨r1,σ1,tr1⟩:=p
     rw[hu] at h
     obtain⟨τ1,e1,S1⟩:=one σ τ x y r1 σ1 tr1 hg hg' ho (hx x (by simp)) (hy y (by simp)) S hu
     rw[e1]
     cases r1 with
     | false=>
      simp only[Option.some.injEq,Prod.mk.injEq] at h ⊢
      obtain⟨rfl,rfl,rfl⟩:=h
      exact⟨τ1,⟨rfl,rfl,rfl⟩,S1⟩
     | true=>
      simp only at h ⊢
      cases hu2:eE (g+1) σ1 xs ys with
      | none=>rw[hu2] at h;cases h
      | some p2=>
       obtain⟨r2,σ2,tr2⟩:=p2
       rw[hu2] at h
       simp only[Option.some.injEq,Prod.mk.injEq] at h
       obtain⟨rfl,rfl,rfl⟩:=h
       have U1:=yJ hg hu
       have U1':=yJ hg' e1
       have ho1:=(PM (NT N) (g+1)).1 σ x y true σ1 tr1 hg hu ho (hx x (by simp)) (hy y (by simp))
       obtain⟨τ2,e2,S2⟩:=ihx ys σ1 τ1 r2 σ2 tr2 U1.gW U1'.gW ho1 (fun z hz=>hx z (by simp [hz])) (fun z hz=>hy z (by simp [hz])) S1 hu2
       rw[e2]
       exact⟨τ2,by simp only[oC],S2⟩
theorem gF.iD(S:gF ρ N σ τ)(hg:cT σ)(hg':cT τ)(ho:cW (cL N) σ){a b:Tm}(ha:cL N a)(hb:cL N b){r:Bool}{σ':Sub}{tr:List Int}{g:Nat}(h:dD g σ a b=some (r,σ',tr)) :
 ∃τ',AW.iD τ (b7 ρ a) (b7 ρ b)=(r,τ',tr.map ρ)∧gF ρ N σ' τ'∧cT τ':=by
 obtain⟨τ',e,S'⟩:=(a85 ρ N g).1 σ τ a b r σ' tr hg hg' ho ha hb S h
 exact⟨τ',aS0 e,S',(yJ hg' e).gW⟩
end
end Go.AW
namespace Go.AW
open Go.Proofs.Tryz
def kM(n:Int):Prop:= -999≤n∧n≤999
theorem aUI(s:ByteArray)(a b:Int)(ha:kM a)(hb:kM b):kM (sB s a b).1:=by
 unfold sB kM
 split
 · exact VR _
 split
 · exact VR _
 split
 · exact VR _
 split
 · simp
 rename_i h0
 split
 · exact aM2 a b ha hb h0
 · exact tdiv_le a b ha
theorem aU0{f:Int→Int→Int×Int}{x y:Int×Int}(h:kM (f x.1 y.1).1):kM (both f x y).1:=by
 unfold both kM
 split
 · simp
 split
 · simp
 · exact h
theorem Tm.vS{N:Int}:∀t:Tm,cL N t→kM t.ev.1:=by
 intro t
 induction t using Tm.ind with
 | h k n s ts ih=>
  intro h
  obtain⟨h1,h2⟩:=h.all
  rw[Tm.zO]
  split
  · rename_i hk;exact h1 hk
  split
  · simp [kM]
  split
  · match ts,h2,ih with
    | [],_,_=>simp [two,kM]
    | [x],_,_=>simp [two,kM]
    | [x,y],h2,ih=>exact aU0 (aUI _ _ _ (ih x (by simp) (h2 x (by simp))) (ih y (by simp) (h2 y (by simp))))
    | x::y::z::l,_,_=>simp [two,kM]
  · simp [kM]
theorem XE{ts:List Tm}(h:(ts.length:Int)=2):∃x y,ts= [x,y]:=by
 match ts,h with
 | [x,y],_=>exact⟨x,y,rfl⟩
 | [],h=>simp at h
 | [x],h=>simp at h
 | x::y::z::l,h=>simp at h;omega
abbrev yH:=zi tI_3 (zi zI_3 (zi aZ (zi tI_4 (zi zI_4 (zi cG (zi tI_9 (zi zI_9 (zi cF (zi tI_31 (zi zI_31 (zi aO (zi bH (zi bJ (zi bZ (zi tI_66 (zi zI_66 (zi bS (zi bT (zi bU (zi bV (zi bR (zi tI_147 (zi zI_147 (zi jO (zi nC (zi nE n8))))))))))))))))))))))))))
theorem LR{N:Int}:∀(t:Tm) (st:aB),cL N t→aD prog 361 [t.av] st (fun r st'=>r=.tup [.int .i64 t.ev.1,.int .i64 t.ev.2]∧st'=st)
 | .mk k n s ts,st,hok=>by
  obtain⟨h1,h2⟩:=hok.all
  have IH:=fun(x:Tm) (hx:x∈ts) st=>LR x st (h2 x hx)
  rw[Tm.zO]
  simp only[aY]
  refine wF [1000000] 1 func361 ntmps361 rfl rfl ?_
  intro _
  simp -implicitDefEqProofs only[aA,seval,yH]
  refine aS (fun hk=>?_) (fun hk=>?_)
  · simp -implicitDefEqProofs only[aA,seval,yH]
    simp only[bL] at hk
    simp [hk]
  simp only[cP] at hk
  rw[aE hk]
  simp -implicitDefEqProofs only[aA,seval,yH]
  refine aS (fun hk1=>?_) (fun hk1=>?_)
  · simp -implicitDefEqProofs only[aA,seval]
    simp only[bL] at hk1
    simp [hk1]
  simp only[cP] at hk1
  rw[aE hk1]
  simp -implicitDefEqProofs only[aF,aA,seval,yH]
  have hty:∀s0:aB,ts.length≠2∨gQ qX s=false→(if gQ qX s=true then two (sB s) (ts.map Tm.ev) else(0,3))=((0:Int),(3:Int)):=fun _ h=>by
   split
   · rename_i h3
     rcases h with h | h
     · match ts,h with
       | [],_=>rfl
       | [x],_=>rfl
       | [x,y],h=>simp at h
       | x::y::z::l,_=>rfl
     · rw[h] at h3;cases h3
   · rfl
  refine cS (fun h=>?_) (fun h=>?_)
  case refine_2=>
   simp -implicitDefEqProofs only[h,aA,seval]
   rw[hty st (.inl (by simp at h;omega))]
  simp -implicitDefEqProofs only[h,aA,seval,yH]
  refine(Q7 qX s _).to ?_
  simp -implicitDefEqProofs only[aA,seval]
  refine aS (fun h3=>?_) (fun h3=>?_)
  · simp -implicitDefEqProofs only[aA,seval]
    rw[hty st (.inr (by simpa [gQ] using h3))]
  have hin:gQ qX s=true:=by simpa [gQ] using h3
  rw[aH hin]
  clear hty
  obtain⟨x,y,rfl⟩:=XE (by simpa using h)
  have eA:dM prog 31 (.slice [x.av,y.av]) (.int .i64 0)=some (.pptr x.av):=bO (av:=Tm.av) (l:=[x,y]) (i:=0) aO rfl (aK x)
  have g9:dM prog 31 (.slice [x.av,y.av]) (.int .i64 1)=some (.pptr y.av):=bO (av:=Tm.av) (l:=[x,y]) (i:=1) aO rfl (aK y)
  have hx:=Tm.vS x (h2 x (by simp))
  have hy:=Tm.vS y (h2 y (by simp))
  have IHx:=fun st=>IH x (by simp) st
  have IHy:=fun st=>IH y (by simp) st
  simp -implicitDefEqProofs only[eA,a7,aK,aA,↓aX,seval,yH]
  refine(IHx _).to ?_
  simp only[two,both]
  generalize x.ev.1=a at *
  generalize x.ev.2=ca at *
  generalize y.ev.1=b at *
  generalize y.ev.2=cb at *
  simp -implicitDefEqProofs only[aA,seval]
  refine aS (fun h4=>?_) (fun h4=>?_)
  · simp -implicitDefEqProofs only[aA,seval]
    have h4':ca≠0:=by simpa using h4
    rw[aH h4']
  have h4':ca=0:=by simpa using h4
  subst h4'
  rw[aE (by simp)]
  simp -implicitDefEqProofs only[g9,a7,aK,aA,seval,yH]
  refine(IHy _).to ?_
  simp -implicitDefEqProofs only[aA,seval]
  refine aS (fun h5=>?_) (fun h5=>?_)
  · simp -implicitDefEqProofs only[aA,seval]
    have h5':cb≠0:=by simpa using h5
    rw[aH h5']
  have h5':cb=0:=by simpa using h5
  subst h5'
  rw[aE (by simp)]
  unfold kM at hx hy
  have hmul: -998001≤a*b∧a*b≤998001:=by
   have h6:(a*b).natAbs≤998001:=by
    rw[Int.natAbs_mul]
    have:=Nat.mul_le_mul (show a.natAbs≤999 by omega) (show b.natAbs≤999 by omega)
    omega
   omega
  have hw1:=bE (n:=a+b)
  have hw2:=bE (n:=a - b)
  have hw3:=bE (n:=a*b)
  have hrg:∀(v:Int) (st':aB),aD prog 170 [.int .i64 v,.int .i64 (-999),.int .i64 999] st' (fun r s'=>r=.bool (decide (jQ v=(v,0)))∧s'=st'):=fun v st'=>by
   refine(EC v (-999) 999 st').mono ?_
   rintro _ _ ⟨rfl,rfl⟩
   refine⟨?_,rfl⟩
   congr 1
   unfold jQ
   split
   · rename_i h;simp [h.1,h.2]
   · rename_i h
     rw[show(decide (((0:Int),(5:Int))=(v,0)))=false from gG (by simp)]
     simp only[Bool.and_eq_false_iff,cP]
     omega
  have hrn:∀v,jQ v≠(v,0)→jQ v=(0,5):=fun v h=>by
   unfold jQ at h ⊢
   split
   · rename_i h';rw[aH h'] at h;exact absurd rfl h
   · rfl
  unfold sB
  simp -implicitDefEqProofs only[aA,seval,yH]
  refine aS (fun h6=>?_) (fun h6=>?_)
  · simp -implicitDefEqProofs only[hw1,aA,seval]
    rw[aH (by simpa using h6)]
    refine(hrg (a+b) _).to ?_
    simp -implicitDefEqProofs only[aA,seval]
    refine aS (fun h8=>?_) (fun h8=>?_)
    · simp -implicitDefEqProofs only[aA,seval]
      rw[hrn _ (by simpa using h8)]
    · simp -implicitDefEqProofs only[aA,seval]
      rw[show jQ (a+b)=(a+b,0) by simpa using h8]
  rw[aE (by simpa using h6)]
  simp -implicitDefEqProofs only[aA,seval]
  refine aS (fun h7=>?_) (fun h7=>?_)
  · simp -implicitDefEqProofs only[hw2,aA,seval]
    rw[aH (by simpa using h7)]
    refine(hrg (a - b) _).to ?_
    simp -implicitDefEqProofs only[aA,seval]
    refine aS (fun h8=>?_) (fun h8=>?_)
    · simp -implicitDefEqProofs only[aA,seval]
      rw[hrn _ (by simpa using h8)]
    · simp -implicitDefEqProofs only[aA,seval]
      rw[show jQ (a - b)=(a - b,0) by simpa using h8]
  rw[aE (by simpa using h7)]
  simp -implicitDefEqProofs only[aA,seval]
  refine aS (fun h9=>?_) (fun h9=>?_)
  · simp -implicitDefEqProofs only[hw3,aA,seval]
    rw[aH (by simpa using h9)]
    refine(hrg (a*b) _).to ?_
    simp -implicitDefEqProofs only[aA,seval]
    refine aS (fun h8=>?_) (fun h8=>?_)
    · simp -implicitDefEqProofs only[aA,seval]
      rw[hrn _ (by simpa using h8)]
    · simp -implicitDefEqProofs only[aA,seval]
      rw[show jQ (a*b)=(a*b,0) by simpa using h8]
  rw[aE (by simpa using h9)]
  simp -implicitDefEqProofs only[aA,seval]
  refine aS (fun h0=>?_) (fun h0=>?_)
  · simp -implicitDefEqProofs only[aA,seval]
    rw[aH (by simpa using h0)]
  have h0':b≠0:=by simpa using h0
  rw[aE h0']
  have hq:=tdiv_le a b hx
  have hr:=OW a b h0'
  have hf:=aM2 a b hx hy h0'
  have hfe:=a0P a b h0'
  have hw4:=bE (n:=a.tdiv b)
  have hw5:=bE (n:=a.tmod b+b)
  have a14:jQ (a.tdiv b)=(a.tdiv b,0):=by unfold jQ;rw[aH hq]
  have a15:jQ (rA a b)=(rA a b,0):=by unfold jQ;rw[aH hf]
  simp -implicitDefEqProofs only[hw4,h0',aA,seval,yH]
  refine aS (fun h10=>?_) (fun h10=>?_)
  · simp -implicitDefEqProofs only[hw5,h0',hfe,aA,seval]
    rw[aH (by simpa using h10)]
    refine(hrg (rA a b) _).to ?_
    have hd:decide (jQ (rA a b)=(rA a b,0))=true:=by rw[a15];simp
    simp -implicitDefEqProofs only[hd,aA,seval]
  · simp -implicitDefEqProofs only[aA,seval]
    rw[aE (by simpa using h10)]
    refine(hrg (a.tdiv b) _).to ?_
    have hd:decide (jQ (a.tdiv b)=(a.tdiv b,0))=true:=by rw[a14];simp
    simp -implicitDefEqProofs only[hd,aA,seval]
termination_by t=>SizeOf.sizeOf t
decreasing_by have:=List.sizeOf_lt_of_mem hx;simp only[Tm.mk.sizeOf_spec];omega
theorem RM(n:Int)(st:aB):aD prog 392 [.int .i64 n] st (fun r st'=>r=.tup [.int .i64 (jQ n).1,.int .i64 (jQ n).2]∧st'=st):=by
 refine wF [1000000] 1 func392 ntmps392 rfl rfl ?_
 intro _
 simp -implicitDefEqProofs only[aA,seval]
 refine cS (fun h=>?_) (fun h=>?_)
 · simp -implicitDefEqProofs only[h,aA,seval]
   have h1:¬n< -999:=by simpa using h
   refine aS (fun h2=>?_) (fun h2=>?_)
   · simp -implicitDefEqProofs only[aA,seval]
     have h2':999<n:=by simpa using h2
     unfold jQ
     rw[aE (by omega)]
   · simp -implicitDefEqProofs only[aA,seval]
     have h2':¬ 999<n:=by simpa using h2
     unfold jQ
     rw[aH (by omega)]
 · simp -implicitDefEqProofs only[h,aA,seval]
   have h1:n< -999:=by simpa using h
   unfold jQ
   rw[aE (by omega)]
abbrev a7L:=zi tI_3 (zi zI_3 (zi aZ (zi tI_4 (zi zI_4 cG))))
theorem aXN(a b:Int)(ha:kM a)(hb:kM b)(h0:b≠0)(st:aB):aD prog 393 [.int .i64 a,.int .i64 b] st (fun r st'=>r=.int .i64 (rA a b)∧st'=st):=by
 have hl:=OW a b h0
 unfold kM at ha hb
 have hw:=bE (n:=a.tmod b+b)
 refine wF [1000000] 2 func393 ntmps393 rfl rfl ?_
 intro _
 simp -implicitDefEqProofs only[h0,aA,seval]
 have hf:rA a b=if a.tmod b≠0∧decide (a.tmod b<0)≠decide (b<0) then a.tmod b+b else a.tmod b:=rfl
 rw[hf]
 clear hf
 generalize hm:a.tmod b=m at *
 refine cS (fun h=>?_) (fun h=>?_)
 · have h':m≠0:=by simpa using h
   simp -implicitDefEqProofs only[h,aA,seval,a7L]
   refine aS (fun h2=>?_) (fun h2=>?_)
   · simp -implicitDefEqProofs only[hw,aA,seval]
     rw[aH ⟨h',by simpa using h2⟩]
   · simp -implicitDefEqProofs only[aA,seval]
     rw[aE (by intro h3;exact h3.2 (by simpa using h2))]
 · have h':m=0:=by simpa using h
   simp -implicitDefEqProofs only[h,aA,seval]
   rw[aE (by intro h3;exact h3.1 h')]
theorem aXL(a b:Int)(ha:kM a)(hb:kM b)(h0:b≠0)(st:aB):aD prog 394 [.int .i64 a,.int .i64 b] st (fun r st'=>r=.int .i64 (a.tdiv b)∧st'=st):=by
 have hl:=tdiv_le a b ha
 have hw:=bE (n:=a.tdiv b)
 refine wF [1000000] 2 func394 ntmps394 rfl rfl ?_
 intro _
 simp -implicitDefEqProofs only[h0,hw,aA,seval]
theorem aAR(s:ByteArray)(a b:Int)(hx:kM a)(hy:kM b)(st:aB):aD prog 371 [.str s,.int .i64 a,.int .i64 b] st (fun r st'=>r=.tup [.int .i64 (sB s a b).1,.int .i64 (sB s a b).2]∧st'=st):=by
 have hMod:=fun h0=>aXN a b hx hy h0
 have hDiv:=fun h0=>aXL a b hx hy h0
 unfold kM at hx hy
 have hmul: -998001≤a*b∧a*b≤998001:=by
  have h6:(a*b).natAbs≤998001:=by
   rw[Int.natAbs_mul]
   have:=Nat.mul_le_mul (show a.natAbs≤999 by omega) (show b.natAbs≤999 by omega)
   omega
  omega
 have hw1:=bE (n:=a+b)
 have hw2:=bE (n:=a - b)
 have hw3:=bE (n:=a*b)
 unfold sB
 refine wF [1000000] 3 func371 ntmps371 rfl rfl ?_
 intro _
 simp -implicitDefEqProofs only[aA,seval]
 refine aS (fun h6=>?_) (fun h6=>?_)
 · simp -implicitDefEqProofs only[hw1,aA,seval]
   rw[aH (by simpa using h6)]
   refine(RM _ _).to ?_
   simp -implicitDefEqProofs only[aA,seval]
 rw[aE (by simpa using h6)]
 simp -implicitDefEqProofs only[aA,seval]
 refine aS (fun h7=>?_) (fun h7=>?_)
 · simp -implicitDefEqProofs only[hw2,aA,seval]
   rw[aH (by simpa using h7)]
   refine(RM _ _).to ?_
   simp -implicitDefEqProofs only[aA,seval]
 rw[aE (by simpa using h7)]
 simp -implicitDefEqProofs only[aA,seval]
 refine aS (fun h9=>?_) (fun h9=>?_)
 · simp -implicitDefEqProofs only[hw3,aA,seval]
   rw[aH (by simpa using h9)]
   refine(RM _ _).to ?_
   simp -implicitDefEqProofs only[aA,seval]
 rw[aE (by simpa using h9)]
 simp -implicitDefEqProofs only[aA,seval]
 refine aS (fun h0=>?_) (fun h0=>?_)
 · simp -implicitDefEqProofs only[aA,seval]
   rw[aH (by simpa using h0)]
 have h0':b≠0:=by simpa using h0
 rw[aE h0']
 simp -implicitDefEqProofs only[aA,seval]
 refine aS (fun h10=>?_) (fun h10=>?_)
 · simp -implicitDefEqProofs only[aA,seval]
   rw[aH (by simpa using h10)]
   refine(hMod h0' _).to ?_
   simp -implicitDefEqProofs only[aA,seval]
 · simp -implicitDefEqProofs only[aA,seval]
   rw[aE (by simpa using h10)]
   refine(hDiv h0' _).to ?_
   simp -implicitDefEqProofs only[aA,seval]
theorem LH(s:ByteArray):gQ qX s=decide (dU s=1∨dU s=2):=by
 unfold gQ qX dU
 simp only[DP,List.any_nil,GE]
 by_cases h1:s=⟨#[43]⟩
 · subst h1;decide
 by_cases h2:s=⟨#[45]⟩
 · subst h2;decide
 by_cases h3:s=⟨#[42]⟩
 · subst h3;decide
 by_cases h4:s=⟨#[47,47]⟩
 · subst h4;decide
 by_cases h5:s=⟨#[109,111,100]⟩
 · subst h5;decide
 simp only[h1,h2,h3,h4,h5,b9,GE,BW]
 cases (decide (s=⟨#[61]⟩)||decide (s=⟨#[92,61]⟩)||decide (s=⟨#[61,61]⟩)||decide (s=⟨#[60]⟩)||decide (s=⟨#[62]⟩)||decide (s=⟨#[61,60]⟩)||decide (s=⟨#[62,61]⟩)||decide (s=⟨#[61,58,61]⟩)||decide (s=⟨#[105,115]⟩))<;>rfl
abbrev sY:=zi tI_3 (zi zI_3 (zi aZ (zi tI_9 (zi zI_9 (zi cF (zi tI_31 (zi zI_31 (zi aO (zi bH (zi bJ (zi bZ (zi tI_66 (zi zI_66 (zi bS (zi bT (zi bU (zi bV bR)))))))))))))))))
theorem LW{N:Int}:∀(t:Tm) (st:aB),cL N t→aD prog 327 [t.av] st (fun r st'=>r=.tup [.int .i64 t.ev.1,.int .i64 t.ev.2]∧st'=st)
 | .mk k n s ts,st,hok=>by
  obtain⟨h1,h2⟩:=hok.all
  have IH:=fun(x:Tm) (hx:x∈ts) st=>LW x st (h2 x hx)
  rw[Tm.zO]
  simp only[aY]
  refine wF [1000000] 1 func327 ntmps327 rfl rfl ?_
  intro _
  simp -implicitDefEqProofs only[aA,seval,sY]
  refine aS (fun hk1=>?_) (fun hk1=>?_)
  · simp -implicitDefEqProofs only[aA,seval]
    simp only[bL] at hk1
    rw[aE (by omega),aH hk1]
  simp only[cP] at hk1
  rw[aE hk1]
  simp -implicitDefEqProofs only[aA,seval]
  refine aS (fun hk=>?_) (fun hk=>?_)
  · simp -implicitDefEqProofs only[aA,seval,sY]
    simp only[bL] at hk
    simp [hk]
  simp only[cP] at hk
  rw[aE hk]
  simp -implicitDefEqProofs only[aA,seval,sY]
  refine(xD s _).to ?_
  simp -implicitDefEqProofs only[aF,aA,seval,sY]
  have hty:∀s0:aB,ts.length≠2∨gQ qX s=false→(if gQ qX s=true then two (sB s) (ts.map Tm.ev) else(0,3))=((0:Int),(3:Int)):=fun _ h=>by
   split
   · rename_i h3
     rcases h with h | h
     · match ts,h with
       | [],_=>rfl
       | [x],_=>rfl
       | [x,y],h=>simp at h
       | x::y::z::l,_=>rfl
     · rw[h] at h3;cases h3
   · rfl
  refine cS (fun h=>?_) (fun h=>?_)
  case refine_2=>
   simp -implicitDefEqProofs only[h,aA,seval]
   rw[hty st (.inl (by simp at h;omega))]
  simp -implicitDefEqProofs only[h,aA,seval]
  have aNZ:gQ qX s=false→dU s≠1∧dU s≠2:=fun h=>by
   rw[LH] at h
   have:=of_decide_eq_false h
   omega
  refine cS (fun h3=>?_) (fun h3=>?_)
  · simp -implicitDefEqProofs only[h3,aA,seval]
    have h3':dU s≠1:=by simp at h3;omega
    refine aS (fun h6=>?_) (fun h6=>?_)
    · have h6':dU s≠2:=by simp at h6;omega
      simp -implicitDefEqProofs only[aA,seval]
      rw[hty st (.inr (by rw[LH];simp [h3',h6']))]
    · have h6':dU s=2:=by simp at h6;omega
      have hin:gQ qX s=true:=by rw[LH];simp [h6']
      simp -implicitDefEqProofs only[aA,seval,sY]
      rw[aH hin]
      clear hty aNZ
      obtain⟨x,y,rfl⟩:=XE (by simpa using h)
      have eA:dM prog 31 (.slice [x.av,y.av]) (.int .i64 0)=some (.pptr x.av):=bO (av:=Tm.av) (l:=[x,y]) (i:=0) aO rfl (aK x)
      have g9:dM prog 31 (.slice [x.av,y.av]) (.int .i64 1)=some (.pptr y.av):=bO (av:=Tm.av) (l:=[x,y]) (i:=1) aO rfl (aK y)
      have hx:=Tm.vS x (h2 x (by simp))
      have hy:=Tm.vS y (h2 y (by simp))
      have IHx:=fun st=>IH x (by simp) st
      have IHy:=fun st=>IH y (by simp) st
      simp only[aW,aU,two,both]
      simp -implicitDefEqProofs only[eA,a7,aK,aA,↓aX,seval,sY]
      refine(IHx _).to ?_
      generalize x.ev.1=a at *
      generalize x.ev.2=ca at *
      generalize y.ev.1=b at *
      generalize y.ev.2=cb at *
      simp -implicitDefEqProofs only[aA,seval]
      refine aS (fun h4=>?_) (fun h4=>?_)
      · simp -implicitDefEqProofs only[aA,seval]
        have h4':ca≠0:=by simpa using h4
        rw[aH h4']
      have h4':ca=0:=by simpa using h4
      subst h4'
      rw[aE (by simp)]
      simp -implicitDefEqProofs only[g9,a7,aK,aA,seval,sY]
      refine(IHy _).to ?_
      simp -implicitDefEqProofs only[aA,seval]
      refine aS (fun h5=>?_) (fun h5=>?_)
      · simp -implicitDefEqProofs only[aA,seval]
        have h5':cb≠0:=by simpa using h5
        rw[aH h5']
      have h5':cb=0:=by simpa using h5
      subst h5'
      rw[aE (by simp)]
      simp -implicitDefEqProofs only[aA,seval,sY]
      refine(aAR s a b hx hy _).to ?_
      simp -implicitDefEqProofs only[aA,seval]
  · have h3':dU s=1:=by simp at h3;omega
    have hin:gQ qX s=true:=by rw[LH];simp [h3']
    simp -implicitDefEqProofs only[h3,aA,seval,sY]
    rw[aH hin]
    clear hty aNZ
    obtain⟨x,y,rfl⟩:=XE (by simpa using h)
    have eA:dM prog 31 (.slice [x.av,y.av]) (.int .i64 0)=some (.pptr x.av):=bO (av:=Tm.av) (l:=[x,y]) (i:=0) aO rfl (aK x)
    have g9:dM prog 31 (.slice [x.av,y.av]) (.int .i64 1)=some (.pptr y.av):=bO (av:=Tm.av) (l:=[x,y]) (i:=1) aO rfl (aK y)
    have hx:=Tm.vS x (h2 x (by simp))
    have hy:=Tm.vS y (h2 y (by simp))
    have IHx:=fun st=>IH x (by simp) st
    have IHy:=fun st=>IH y (by simp) st
    simp only[aW,aU,two,both]
    simp -implicitDefEqProofs only[eA,a7,aK,aA,↓aX,seval,sY]
    refine(IHx _).to ?_
    generalize x.ev.1=a at *
    generalize x.ev.2=ca at *
    generalize y.ev.1=b at *
    generalize y.ev.2=cb at *
    simp -implicitDefEqProofs only[aA,seval]
    refine aS (fun h4=>?_) (fun h4=>?_)
    · simp -implicitDefEqProofs only[aA,seval]
      have h4':ca≠0:=by simpa using h4
      rw[aH h4']
    have h4':ca=0:=by simpa using h4
    subst h4'
    rw[aE (by simp)]
    simp -implicitDefEqProofs only[g9,a7,aK,aA,seval,sY]
    refine(IHy _).to ?_
    simp -implicitDefEqProofs only[aA,seval]
    refine aS (fun h5=>?_) (fun h5=>?_)
    · simp -implicitDefEqProofs only[aA,seval]
      have h5':cb≠0:=by simpa using h5
      rw[aH h5']
    have h5':cb=0:=by simpa using h5
    subst h5'
    rw[aE (by simp)]
    simp -implicitDefEqProofs only[aA,seval,sY]
    refine(aAR s a b hx hy _).to ?_
    simp -implicitDefEqProofs only[aA,seval]
termination_by t=>SizeOf.sizeOf t
decreasing_by have:=List.sizeOf_lt_of_mem hx;simp only[Tm.mk.sizeOf_spec];omega
abbrev aR5:=zi tI_3 (zi zI_3 (zi aZ (zi tI_46 (zi zI_46 (zi dK (zi fM (zi fJ fX)))))))
theorem ZW(l:List Int)(v:Int)(st:aB):aD prog 128 [.slice (l.map iv),.int .i64 v] st (fun r st'=>r=.int .i64 (fO v l 0)∧st'=st):=by
 refine wF [] 2 func128 ntmps128 rfl rfl ?_
 simp only[d5,AV.fits,d9,aF]
 intro ⟨hl,_⟩
 simp -implicitDefEqProofs only[aF,aA,seval,aR5]
 refine eH (σ:=Unit) [] [0,1,7] l (fun i _=>fO v l 0=fO v (l.drop i) i) (fun i _=>[(8,.int .i64 i)]) (fun _ _=>st) (by decide +kernel) ⟨(),rfl,aN.mk (by simp -implicitDefEqProofs only[aA,↓aX,seval])⟩ (fun i x _ hx hlt bQ hdr hinv=>?_) (fun _ hge hinv=>?_)
 case refine_2=>
  simp -implicitDefEqProofs only[hge,aA,seval]
  rw[hinv,j8]
  try rfl
 rw[hdr,fO] at hinv
 have hw:=bE (n:=(i:Int)+1)
 simp -implicitDefEqProofs only[bQ,bO (av:=iv) dK hx rfl,aA,seval,aR5]
 refine aS (fun h=>?_) (fun h=>?_)
 · simp only[bL] at h
   rw[aH h] at hinv
   simp -implicitDefEqProofs only[hinv,aA,seval]
 · simp only[cP] at h
   rw[aE h] at hinv
   simp -implicitDefEqProofs only[aA,seval]
   exact⟨(),by rw[hinv],aN.mk (by simp -implicitDefEqProofs only[hw,aA,seval])⟩
theorem aVD(l:List Int)(v:Int)(st:aB):aD prog 272 [.slice (l.map iv),.int .i64 v] st (fun r st'=>r=.bool (decide (v∈l))∧st'=st):=by
 refine wF [] 2 func272 ntmps272 rfl rfl ?_
 intro _
 simp -implicitDefEqProofs only[aA,seval]
 refine(ZW l v st).to ?_
 simp -implicitDefEqProofs only[aOJ v l 0 (Int.le_refl 0),aA,seval]
theorem a6O{st:aB}{b:Nat}{l:List Int}{os xs:List AV}(h:Seen (a8 st b (l.map iv)) fE os xs):Seen (a8 st b (l.map iv)) fE (bM 1 b (l.map iv)::os) (.slice (l.map iv)::xs):=
 Seen.own (a5H (cA.flat (by simp [AV.flat])) (by intro e h;simp only[cU] at h;obtain⟨t,_,rfl⟩:=h;rfl)) h
def Grown(st:aB)(l:List Int)(r:AV)(st':aB):Prop:=∃b',r=bM 1 b' (l.map iv)∧st'=a8 st b' (l.map iv)∧(l.map iv≠[]→st b'=none)
abbrev s8:=zi tI_3 (zi zI_3 (zi aZ (zi tI_4 (zi zI_4 (zi cG (zi tI_31 (zi zI_31 (zi aO (zi bH (zi bJ (zi bZ (zi tI_46 (zi zI_46 (zi dK (zi fM (zi fJ (zi fX (zi tI_66 (zi zI_66 (zi bS (zi bT (zi bU (zi bV bR)))))))))))))))))))))))
theorem ZY:∀(t:Tm) (l:List Int) (b:Nat) (st:aB),(l.map iv≠[]→st b=none)→l.length+t.nodes≤1099511627776→aD prog 209 [t.av,bM 1 b (l.map iv)] (a8 st b (l.map iv)) (Grown st (t.vars l))
 | .mk k n s ts,l,b,st,hb,hsz=>by
  have IH:=fun(x:Tm) (hx:x∈ts)=>ZY x
  simp only[Tm.vars]
  rw[Tm.iI] at hsz
  refine wF [] 2 func209 ntmps209 rfl rfl ?_
  simp only[aY,d5,AV.fits,d9,aF]
  intro ⟨⟨_,_,_,hl,_⟩,_⟩
  simp -implicitDefEqProofs only[aA,seval,s8]
  refine cS (fun h=>?_) (fun h=>?_)
  · simp only[bL] at h
    subst h
    simp -implicitDefEqProofs only[aA,seval,s8]
    refine(aD.C5 (fun s=>aVD l n s) (a6O (Seen.same .nil)) rfl).to ?_
    simp -implicitDefEqProofs only[aA,seval]
    refine aS (fun h=>?_) (fun h=>?_)
    · simp only[iX,cP] at h
      rw[aH h]
      simp -implicitDefEqProofs only[aA,seval,s8]
      refine fG dK fM fJ rfl rfl (gA rfl rfl) (by intro e h;simp only[cU] at h;obtain⟨t,_,rfl⟩:=h;rfl) hb (by simp;omega) (by simp;omega) (fun b' hb'=>?_)
      rw[show l.map iv++ [AV.int .i64 n]=(l++ [n]).map iv by simp] at hb' ⊢
      simp -implicitDefEqProofs only[aA,seval,s8]
      refine eH (σ:=List Int×Nat) [] [4,23,24] ts (fun i p=>cD (ts.drop i) p.1=cD ts (l++ [n])∧p.1.length+aR Tm.nodes (ts.drop i)≤1099511627776∧(p.1.map iv≠[]→st p.2=none)) (fun i p=>[(1,bM 1 p.2 (p.1.map iv)),(25,.int .i64 i)]) (fun _ p=>a8 st p.2 (p.1.map iv)) (by decide +kernel)
       ⟨(l++ [n],b'),⟨rfl,by simp;omega,hb'⟩,aN.mk (by simp -implicitDefEqProofs only[aF,aA,↓aX,seval])⟩ (fun i x p hx hlt bQ hdr hinv=>?_) (fun p hge hinv=>?_)
      case refine_2=>
       simp -implicitDefEqProofs only[aF,hge,aA,seval]
       rw[←hinv.1,j8]
       exact⟨p.2,rfl,rfl,hinv.2.2⟩
      obtain⟨acc,b⟩:=p
      rw[hdr] at hinv
      obtain⟨i1,i2,i3⟩:=hinv
      simp only[aR] at i2
      have hw:=bE (n:=(i:Int)+1)
      simp -implicitDefEqProofs only[aF,bQ,bO (av:=Tm.av) aO hx (aK x),a7,aK,aA,seval,s8]
      intro b2 hb2
      obtain⟨hn2,hne⟩:=D4 hb2
      have hc2: [AV.int IntKind.i64 0,AV.int IntKind.i64 0,AV.str ⟨#[]⟩,AV.fslice []].length=4:=rfl
      try simp -implicitDefEqProofs only[c7,C6 (x:=x.av.cells) (bY x) hc2,bY,cB,fB (bY x),eX (a7 x),dB,aA,↓aX,seval,s8]
      rw[pV hne]
      refine(IH x (cJ hx) acc b _ (fun h=>by rw[aB.aJ _ _ (c9 (hne h))];exact i3 h) (by omega)).mono ?_
      rintro _ _ ⟨b',rfl,rfl,hb'⟩
      simp -implicitDefEqProofs only[hw,aA,seval]
      obtain⟨hd,CC⟩:=LB (o:=.cells x.av.cells) hn2 hb'
      have hvl:=Tm.GB x acc
      refine⟨(x.vars acc,b'),⟨i1,by simp only;omega,CC⟩,aN.drop hd (by simp -implicitDefEqProofs only[aA,seval])⟩
    · simp only[mD,bL] at h
      rw[aE (by simp [h])]
      simp -implicitDefEqProofs only[aA,seval,s8]
      refine eH (σ:=List Int×Nat) [] [4,23,24] ts (fun i p=>cD (ts.drop i) p.1=cD ts (l)∧p.1.length+aR Tm.nodes (ts.drop i)≤1099511627776∧(p.1.map iv≠[]→st p.2=none)) (fun i p=>[(1,bM 1 p.2 (p.1.map iv)),(25,.int .i64 i)]) (fun _ p=>a8 st p.2 (p.1.map iv)) (by decide +kernel)
       ⟨(l,b),⟨rfl,by simp;omega,hb⟩,aN.mk (by simp -implicitDefEqProofs only[aF,aA,↓aX,seval])⟩ (fun i x p hx hlt bQ hdr hinv=>?_) (fun p hge hinv=>?_)
      case refine_2=>
       simp -implicitDefEqProofs only[aF,hge,aA,seval]
       rw[←hinv.1,j8]
       exact⟨p.2,rfl,rfl,hinv.2.2⟩
      obtain⟨acc,b⟩:=p
      rw[hdr] at hinv
      obtain⟨i1,i2,i3⟩:=hinv
      simp only[aR] at i2
      have hw:=bE (n:=(i:Int)+1)
      simp -implicitDefEqProofs only[aF,bQ,bO (av:=Tm.av) aO hx (aK x),a7,aK,aA,seval,s8]
      intro b2 hb2
      obtain⟨hn2,hne⟩:=D4 hb2
      have hc2: [AV.int IntKind.i64 0,AV.int IntKind.i64 0,AV.str ⟨#[]⟩,AV.fslice []].length=4:=rfl
      try simp -implicitDefEqProofs only[c7,C6 (x:=x.av.cells) (bY x) hc2,bY,cB,fB (bY x),eX (a7 x),dB,aA,↓aX,seval,s8]
      rw[pV hne]
      refine(IH x (cJ hx) acc b _ (fun h=>by rw[aB.aJ _ _ (c9 (hne h))];exact i3 h) (by omega)).mono ?_
      rintro _ _ ⟨b',rfl,rfl,hb'⟩
      simp -implicitDefEqProofs only[hw,aA,seval]
      obtain⟨hd,CC⟩:=LB (o:=.cells x.av.cells) hn2 hb'
      have hvl:=Tm.GB x acc
      refine⟨(x.vars acc,b'),⟨i1,by simp only;omega,CC⟩,aN.drop hd (by simp -implicitDefEqProofs only[aA,seval])⟩
  · simp only[nM,cP] at h
    rw[aE (by simp [h])]
    simp -implicitDefEqProofs only[h,aA,seval,s8]
    refine eH (σ:=List Int×Nat) [] [4,23,24] ts (fun i p=>cD (ts.drop i) p.1=cD ts (l)∧p.1.length+aR Tm.nodes (ts.drop i)≤1099511627776∧(p.1.map iv≠[]→st p.2=none)) (fun i p=>[(1,bM 1 p.2 (p.1.map iv)),(25,.int .i64 i)]) (fun _ p=>a8 st p.2 (p.1.map iv)) (by decide +kernel)
     ⟨(l,b),⟨rfl,by simp;omega,hb⟩,aN.mk (by simp -implicitDefEqProofs only[aF,aA,↓aX,seval])⟩ (fun i x p hx hlt bQ hdr hinv=>?_) (fun p hge hinv=>?_)
    case refine_2=>
     simp -implicitDefEqProofs only[aF,hge,aA,seval]
     rw[←hinv.1,j8]
     exact⟨p.2,rfl,rfl,hinv.2.2⟩
    obtain⟨acc,b⟩:=p
    rw[hdr] at hinv
    obtain⟨i1,i2,i3⟩:=hinv
    simp only[aR] at i2
    have hw:=bE (n:=(i:Int)+1)
    simp -implicitDefEqProofs only[aF,bQ,bO (av:=Tm.av) aO hx (aK x),a7,aK,aA,seval,s8]
    intro b2 hb2
    obtain⟨hn2,hne⟩:=D4 hb2
    have hc2: [AV.int IntKind.i64 0,AV.int IntKind.i64 0,AV.str ⟨#[]⟩,AV.fslice []].length=4:=rfl
    try simp -implicitDefEqProofs only[c7,C6 (x:=x.av.cells) (bY x) hc2,bY,cB,fB (bY x),eX (a7 x),dB,aA,↓aX,seval,s8]
    rw[pV hne]
    refine(IH x (cJ hx) acc b _ (fun h=>by rw[aB.aJ _ _ (c9 (hne h))];exact i3 h) (by omega)).mono ?_
    rintro _ _ ⟨b',rfl,rfl,hb'⟩
    simp -implicitDefEqProofs only[hw,aA,seval]
    obtain⟨hd,CC⟩:=LB (o:=.cells x.av.cells) hn2 hb'
    have hvl:=Tm.GB x acc
    refine⟨(x.vars acc,b'),⟨i1,by simp only;omega,CC⟩,aN.drop hd (by simp -implicitDefEqProofs only[aA,seval])⟩
termination_by t=>SizeOf.sizeOf t
decreasing_by have:=List.sizeOf_lt_of_mem hx;simp only[Tm.mk.sizeOf_spec];omega
abbrev WR:=zi tI_3 (zi zI_3 (zi aZ (zi tI_31 (zi zI_31 (zi aO (zi bH (zi bJ (zi bZ (zi tI_46 (zi zI_46 (zi dK (zi fM (zi fJ (zi fX (zi tI_66 (zi zI_66 (zi bS (zi bT (zi bU (zi bV bR))))))))))))))))))))
theorem R6(l:List Tm)(st:aB)(hsz:aR Tm.nodes l≤1099511627776):aD prog 126 [.slice (l.map Tm.av)] st (fun r st'=>r=.slice ((cD l []).map iv)∧st'=st):=by
 refine aD.fin ?_
 refine wF [] 1 func126 ntmps126 rfl rfl ?_
 simp only[d5,AV.fits,d9,aF]
 intro ⟨hl,_⟩
 simp -implicitDefEqProofs only[aF,aA,seval,WR]
 refine eH (σ:=List Int×Nat) [] [2,6,7] l (fun i p=>cD (l.drop i) p.1=cD l ([])∧p.1.length+aR Tm.nodes (l.drop i)≤1099511627776∧(p.1.map iv≠[]→st p.2=none)) (fun i p=>[(3,bM 1 p.2 (p.1.map iv)),(8,.int .i64 i)]) (fun _ p=>a8 st p.2 (p.1.map iv)) (by decide +kernel)
  ⟨([],0),⟨rfl,by simp;omega,by simp⟩,aN.mk (by simp -implicitDefEqProofs only[aU,kB,aA,↓aX,seval])⟩ (fun i x p hx hlt bQ hdr hinv=>?_) (fun p hge hinv=>?_)
 case refine_2=>
  simp -implicitDefEqProofs only[hge,aA,seval]
  rw[←hinv.1,j8]
  exact⟨p.2,p.1.map iv,st,rfl,hinv.2.2,by simp [AV.cH],⟨1,aOL p.1⟩,jE,rfl⟩
 obtain⟨acc,b⟩:=p
 rw[hdr] at hinv
 obtain⟨i1,i2,i3⟩:=hinv
 simp only[aR] at i2
 have hw:=bE (n:=(i:Int)+1)
 simp -implicitDefEqProofs only[bQ,bO (av:=Tm.av) aO hx (aK x),a7,aK,aA,seval,WR]
 intro b2 hb2
 obtain⟨hn2,hne⟩:=D4 hb2
 have v7:∀zs:List AV,zs.length=4→aG zs 0 x.av.cells=x.av.cells:=fun zs h=>C6 (bY x) h
 try simp -implicitDefEqProofs only[c7,v7,bY,cB,fB (bY x),eX (a7 x),dB,aA,↓aX,seval,WR]
 rw[pV hne]
 refine(ZY x acc b _ (fun h=>by rw[aB.aJ _ _ (c9 (hne h))];exact i3 h) (by omega)).mono ?_
 rintro _ _ ⟨b',rfl,rfl,hb'⟩
 simp -implicitDefEqProofs only[hw,aA,seval]
 obtain⟨hd,CC⟩:=LB (o:=.cells x.av.cells) hn2 hb'
 have hvl:=Tm.GB x acc
 exact⟨(x.vars acc,b'),⟨i1,by simp only;omega,CC⟩,aN.drop hd (by simp -implicitDefEqProofs only[aA,seval])⟩
abbrev JW:=zi tI_3 (zi zI_3 (zi aZ (zi tI_31 (zi zI_31 (zi aO (zi bH (zi bJ (zi bZ (zi tI_46 (zi zI_46 (zi dK (zi fM (zi fJ (zi fX (zi tI_66 (zi zI_66 (zi bS (zi bT (zi bU (zi bV bR))))))))))))))))))))
theorem HG:∀(t:Tm) (l:List Int) (b:Nat) (st:aB),t.wf=true→(l.map iv≠[]→st b=none)→l.length+t.nodes≤1099511627776→aD prog 236 [bM 1 b (l.map iv),t.av] (a8 st b (l.map iv)) (Grown st (t.vars l))
 | .mk k n s ts,l,b,st,hwf,hb,hsz=>by
  obtain⟨hk,a3A⟩:=Tm.XN hwf
  have IH:=fun(x:Tm) (hx:x∈ts) l b st=>HG x l b st (a3A x hx)
  have haL:=vE (w:=1) (b:=b) (l:=l.map iv) fX
  simp only[Tm.vars]
  rw[Tm.iI] at hsz
  refine wF [] 2 func236 ntmps236 rfl rfl ?_
  simp only[aY,d5,AV.fits,d9,aF]
  intro ⟨_,⟨_,_,_,hl,_⟩⟩
  simp -implicitDefEqProofs only[aA,seval,JW]
  refine aS (fun h=>?_) (fun h=>?_)
  · simp only[bL] at h
    obtain rfl:=hk h
    subst h
    simp -implicitDefEqProofs only[aA,seval]
    have hnn:l.length≤1099511627776:=by omega
    refine eH (σ:=Unit) [] [0,3] l (fun i _=>∀y∈l.take i,y≠n) (fun i _=>[(5,.int .i64 i)]) (fun _ _=>a8 st b (l.map iv)) (by decide +kernel) ⟨(),by simp,aN.mk (by simp -implicitDefEqProofs only[aA,↓aX,seval])⟩ (fun i x _ hx hlt bQ hdr hinv=>?_) (fun _ hge hinv=>?_)
    case refine_2=>
     rw[eN] at hinv
     have iG:n∉l:=fun h=>hinv n h rfl
     simp -implicitDefEqProofs only[haL,aF,hge,aA,seval,JW]
     refine fG dK fM fJ rfl rfl (gA rfl rfl) (aOL l) hb (by simp;omega) (by simp;omega) (fun b' hb'=>?_)
     rw[show l.map iv++ [AV.int .i64 n]=(l++ [n]).map iv by simp] at hb' ⊢
     simp -implicitDefEqProofs only[aA,seval]
     exact⟨b',by simp [cD,iG],by simp [cD,iG],by simp only[cD,iG,I4,gB];exact hb'⟩
    have hat:=YY (b:=b) (l:=l.map iv) (i:=i) (x:=iv x) dK (by rw[nO,hx];try rfl)
    obtain⟨gP,qB⟩:=YZ (st:=st) (b:=b) hx
    have hw:=bE (n:=(i:Int)+1)
    simp -implicitDefEqProofs only[haL,aF,bQ,aA,seval]
    refine xA mixed (by decide +kernel) (by decide +kernel) ?_
    simp -implicitDefEqProofs only[hat,gP,qB,wU,aA,seval,JW]
    refine aS (fun h=>?_) (fun h=>?_)
    · simp only[bL] at h
      subst h
      have iG:=cJ hx
      simp -implicitDefEqProofs only[aA,seval]
      exact⟨b,by simp [cD,iG],by simp [cD,iG],by simp only[cD,iG,NQ,dI];exact hb⟩
    · simp only[cP] at h
      simp -implicitDefEqProofs only[aA,seval]
      refine⟨(),?_,aN.mk (by simp -implicitDefEqProofs only[hw,aA,seval])⟩
      intro y hy
      rw[fS,hx] at hy
      rcases fF.1 hy with hy | hy
      · exact hinv y hy
      · simp at hy;subst hy;exact h
  · simp only[cP] at h
    rw[aE (by simp [h])]
    simp -implicitDefEqProofs only[aA,seval]
    refine eH (σ:=List Int×Nat) [] [3,4] ts (fun i p=>cD (ts.drop i) p.1=cD ts l∧p.1.length+aR Tm.nodes (ts.drop i)≤1099511627776∧(p.1.map iv≠[]→st p.2=none)) (fun i p=>[(0,bM 1 p.2 (p.1.map iv)),(6,.int .i64 i)]) (fun _ p=>a8 st p.2 (p.1.map iv)) (by decide +kernel)
     ⟨(l,b),⟨rfl,by simp;omega,hb⟩,aN.mk (by simp -implicitDefEqProofs only[aA,↓aX,seval])⟩ (fun i x p hx hlt bQ hdr hinv=>?_) (fun p hge hinv=>?_)
    case refine_2=>
     simp -implicitDefEqProofs only[aF,hge,aA,seval,JW]
     rw[←hinv.1,j8]
     exact⟨p.2,rfl,rfl,hinv.2.2⟩
    obtain⟨acc,b⟩:=p
    rw[hdr] at hinv
    obtain⟨i1,i2,i3⟩:=hinv
    simp only[aR] at i2
    have hw:=bE (n:=(i:Int)+1)
    simp -implicitDefEqProofs only[aF,bQ,bO (av:=Tm.av) aO hx (aK x),a7,aK,aA,seval,JW]
    refine(IH x (cJ hx) acc b st i3 (by omega)).mono ?_
    rintro _ _ ⟨b',rfl,rfl,hb'⟩
    have hvl:=Tm.GB x acc
    simp -implicitDefEqProofs only[hw,aA,seval]
    exact⟨(x.vars acc,b'),⟨i1,by simp only;omega,hb'⟩,aN.mk (by simp -implicitDefEqProofs only[aA,seval])⟩
termination_by t=>SizeOf.sizeOf t
decreasing_by have:=List.sizeOf_lt_of_mem hx;simp only[Tm.mk.sizeOf_spec];omega
theorem ZB{A C B:List AV}{n:Nat}(hA:A.length=n)(hC:C.length=4) :
 (n+4≤(A++C++B).length)∧List.take 4 (List.drop n (A++C++B))=C∧(A++C++B)[n+0]?=C[0]?:=by
 refine⟨by simp only[dL];omega,?_,(FE (A:=A) (B:=B) hA).2.2.1 C 0 (by omega)⟩
 rw[←hA,mU,GH,←hC,DR]
abbrev OkN (t:Tm):Prop:=t.kK=true∧t.nodes≤120
end Go.AW
namespace Go.AW
def oP(n:Int):Tm:=.mk 2 n ⟨#[]⟩ []
theorem a30{n:Int}(h:kM n):(oP n).valid=true:=by
 have ho:(oP n).kK=true:=by
  unfold oP
  rw[Tm.CR]
  simp [eU,h.1,h.2]
 rw[Tm.aS5 ho]
 simp [oP,Tm.iI,aR,Tm.xN]
def jA(b:Bool):Int:=if b=true then 0 else 1
def L8(s:ByteArray)(a b:Int):Bool:=
 if s=⟨#[60]⟩ then decide (a<b) else if s=⟨#[62]⟩ then decide (b<a) else if s=⟨#[61,60]⟩ then decide (a≤b) else if s=⟨#[62,61]⟩ then decide (b≤a) else decide (a=b)
def uQ(s:ByteArray)(x:Tm):Bool:=
 if s=⟨#[118,97,114]⟩ then decide (x.k=1) else if s=⟨#[110,111,110,118,97,114]⟩ then !decide (x.k=1) else if s=⟨#[97,116,111,109]⟩ then decide (x.k=3)&&decide ((x.ts.length:Int)=0) else decide (x.k=2)
def zA(s:ByteArray)(x y:Tm):Int:=(both (fun a b=>(0,jA (L8 s a b))) x.ev y.ev).2
def nQ(x y:Tm):Option Tm:=if 1≤x.n∧x.n≤y.ts.length then y.ts[(x.n - 1).toNat]? else none
structure a9T (σ:Sub):Prop where
 gW:cT σ
 kK:cW (fun t=>t.kK=true) σ
 okN:cW OkN σ
theorem Y7{x y u:Tm}(h:nQ x y=some u):u∈y.ts:=by
 unfold nQ at h
 split at h
 · exact cJ h
 · cases h
theorem ZL{s:ByteArray}{n:Nat}(h:isBuiltin s (n:Int)=true) :
 (n=2∧(gQ sE s=true∨s=⟨#[61]⟩∨s=⟨#[92,61]⟩∨s=⟨#[61,61]⟩∨s=⟨#[105,115]⟩))∨(n=0∧(s=⟨#[116,114,117,101]⟩∨s=⟨#[102,97,105,108]⟩)) ∨
 (n=1∧(s=⟨#[118,97,114]⟩∨s=⟨#[110,111,110,118,97,114]⟩∨s=⟨#[97,116,111,109]⟩∨s=⟨#[105,110,116]⟩))∨(n=3∧s=⟨#[97,114,103]⟩):=by
 unfold isBuiltin at h
 simp only[cond_eq_ite] at h
 split at h
 · rename_i h1
   left
   refine⟨by simp at h;omega,?_⟩
   simp only[rU,bL] at h1
   simp only[gQ,sE,DP,List.any_nil,rU,bL,jC,eC]
   rcases h1 with (((((((h1 | h1) | h1) | h1) | h1) | h1) | h1) | h1) | h1<;>simp [h1]
 split at h
 · rename_i h1
   right;left
   refine⟨by simp at h;omega,?_⟩
   simpa using h1
 split at h
 · rename_i h1
   right;right;left
   refine⟨by simp at h;omega,?_⟩
   simp only[rU,bL] at h1
   rcases h1 with ((h1 | h1) | h1) | h1<;>simp [h1]
 split at h
 · rename_i h1
   right;right;right
   exact⟨by simp at h;omega,by simpa using h1⟩
 · cases h
noncomputable def tB(σ:Sub)(a b:Tm):Int×Sub×List Int:=(jA (iD σ a b).1,(iD σ a b).2)
noncomputable def w9(σ:Sub)(x y z:Tm):Int×Sub×List Int:=
 if x.k=1∨y.k=1 then(2,σ,[]) else if x.k≠2∨y.k≠3∨y.ts.length=0 then(3,σ,[]) else match nQ x y with
  | some u=>tB σ z u
  | none=>(1,σ,[])
noncomputable def dH(σ:Sub)(s:ByteArray):List Tm→Int×Sub×List Int
 | []=>(jA (decide (s=⟨#[116,114,117,101]⟩)),σ,[])
 | [x]=>(jA (uQ s x),σ,[])
 | [x,y]=>if gQ sE s=true then(zA s x y,σ,[]) else if s=⟨#[61]⟩ then tB σ x y else if s=⟨#[92,61]⟩ then(jA (!(iD σ x y).1),σ,[])
  else if s=⟨#[61,61]⟩ then(jA (x.same y),σ,[]) else if y.ev.2≠0 then(y.ev.2,σ,[]) else tB σ x (oP y.ev.1)
 | [x,y,z]=>w9 σ x y z
 | _=>(0,σ,[])
structure nP (N:Int) (σ:Sub) (σ':Sub) (add:List Int):Prop where
 gW:cT σ'
 ok:cW (bF N) σ'
 aV:∀n,n∉add→σ' n=σ n
 new:∀n∈add,σ n=none∧σ' n≠none
 nodup:add.Nodup
 gQ:∀n∈add,0≤n∧n<N
theorem nP.same{N:Int}{σ:Sub}(hg:cT σ)(ho:cW (bF N) σ):nP N σ σ []:=⟨hg,ho,fun _ _=>rfl,by simp,pR,by simp⟩
theorem BG.yD{N:Int}{σ:Sub}{a b:Tm}{r:Bool}{σ':Sub}{tr:List Int}(h:BG N σ a b r σ' tr):nP N σ σ' tr:=⟨h.n9.gW,h.ok,h.n9.aV,h.n9.new,h.n9.nodup,h.gQ⟩
theorem nP.n9{N:Nat}{σ:Sub}{a b:Tm}(hg:cT σ)(ho:cW (bF N) σ)(ha:bF N a)(hb:bF N b):nP N σ (iD σ a b).2.1 (iD σ a b).2.2:=by
 obtain⟨r,σ',tr,h⟩:=tC hg ho ha hb
 rw[h.eq]
 exact h.yD
theorem NJ{N:Int}{n:Int}(h:kM n):bF N (oP n):=by
 have h1:=a30 h
 have h2:=Tm.KE h1
 refine⟨⟨h2.1,h2.2.1,fun v hv=>?_⟩,Tm.KD h1⟩
 unfold oP at hv
 rw[Tm.mC (by decide)] at hv
 obtain⟨t,ht,_⟩:=hv
 cases ht
theorem Y8{N:Int}{x y u:Tm}(hy:bF N y)(hk:y.k≠1)(h:nQ x y=some u):bF N u:=rL N y hk hy u (Y7 h)
theorem N8{N:Nat}{σ:Sub}(hg:cT σ)(ho:cW (bF N) σ)(s:ByteArray)(ks:List Tm)(hv:∀x∈ks,bF N x):nP N σ (dH σ s ks).2.1 (dH σ s ks).2.2:=by
 have hs:=nP.same hg ho
 match ks,hv with
 | [],_=>exact hs
 | [x],_=>exact hs
 | [x,y],hv=>
  have hx:=hv x (by simp)
  have hy:=hv y (by simp)
  simp only[dH]
  split
  · exact hs
  split
  · exact nP.n9 hg ho hx hy
  split
  · exact hs
  split
  · exact hs
  split
  · exact hs
  · exact nP.n9 hg ho hx (NJ (Tm.vS y hy.1))
 | [x,y,z],hv=>
  have hy:=hv y (by simp)
  have hz:=hv z (by simp)
  simp only[dH,w9]
  split
  · exact hs
  rename_i h1
  split
  · exact hs
  split
  · rename_i u hu
    exact nP.n9 hg ho hz (Y8 hy (fun h=>h1 (.inr h)) hu)
  · exact hs
 | a::b::c::d::l,_=>exact hs
theorem aZY(ρ:Int→Int):∀t:Tm,(b7 ρ t).ev=t.ev:=by
 intro t
 induction t using Tm.ind with
 | h k n s ts ih=>
  by_cases h1:k=1
  · rw[AI ρ (t:=.mk k n s ts) h1,vr,Tm.zO,Tm.zO,h1]
    simp
  rw[wE ρ h1,Tm.zO,Tm.zO,rW]
  have:ts.map (Tm.ev∘b7 ρ)=ts.map Tm.ev:=mV fun x hx=>ih x hx
  rw[this]
section
variable {ρ:Int→Int} {N:Int} {σ τ:Sub}
theorem gF.back(S:gF ρ N σ τ):∃δ:Int→Int,∀v,0≤v→v<N→δ (ρ v)=v:=by
 refine⟨fun w=>open Classical in if h:∃v,0≤v∧v<N∧ρ v=w then h.choose else 0,fun v h0 h1=>?_⟩
 have h:∃u,0≤u∧u<N∧ρ u=ρ v:=⟨v,h0,h1,rfl⟩
 simp only[dif_pos h]
 obtain⟨a,b,c⟩:=h.choose_spec
 exact S.inj _ _ a b h0 h1 c
theorem gF.a58(S:gF ρ N σ τ){x y:Tm}(hx:cL N x)(hy:cL N y)(e:b7 ρ x=b7 ρ y):x=y:=by
 obtain⟨δ,hδ⟩:=S.back
 have key:∀ {t:Tm},cL N t→b7 δ (b7 ρ t)=t:=fun {t} ht=>by
  rw[show b7 δ (b7 ρ t)=t.aM fun v=>vr (δ (ρ v)) from JH ρ _ t]
  rw[rJ (g:=vr) t fun v hv=>by rw[hδ v (ht.2.2 v hv).1 (ht.2.2 v hv).2]]
  exact UQ t ht.2.1
 rw[←key hx,e,key hy]
theorem gF.same(S:gF ρ N σ τ){x y:Tm}(hx:cL N x)(hy:cL N y):(b7 ρ x).same (b7 ρ y)=x.same y:=by
 rw[wQ,Tm.AK,Tm.AK]
 exact⟨S.a58 hx hy,fun e=>by rw[e]⟩
theorem a7K(ρ:Int→Int)(s:ByteArray)(x:Tm):uQ s (b7 ρ x)=uQ s x:=by
 unfold uQ
 rw[wD]
 by_cases h:x.k=1
 · rw[h];simp
 · have:(b7 ρ x).ts.length=x.ts.length:=by
    rw[C3 ρ h]
    simp only[Tm.ts,aF]
   rw[this]
theorem aUK(ρ:Int→Int){x y:Tm}(hx:x.k=2)(hy:y.k=3):nQ (b7 ρ x) (b7 ρ y)=(nQ x y).map (b7 ρ):=by
 obtain⟨k,n,s,ts⟩:=x
 obtain⟨k',n',s',ts'⟩:=y
 simp only[Tm.k] at hx hy
 subst hx hy
 rw[wE ρ (by decide),wE ρ (by decide)]
 unfold nQ
 show(if 1≤n∧n≤((ts'.map (b7 ρ)).length:Int) then(ts'.map (b7 ρ))[(n - 1).toNat]? else none)=Option.map (b7 ρ) (if 1≤n∧n≤(ts'.length:Int) then ts'[(n - 1).toNat]? else none)
 by_cases h:1≤n∧n≤(ts'.length:Int)
 · rw[aH h,aH (by rw[aF];exact h),nO]
 · rw[aE h,aE (by rw[aF];exact h)];try rfl
def mZ(ρ:Int→Int)(N:Int)(x y:Int×Sub×List Int):Prop:=y.1=x.1∧y.2.2=x.2.2.map ρ∧gF ρ N x.2.1 y.2.1
theorem mZ.same(S:gF ρ N σ τ)(c:Int):mZ ρ N (c,σ,[]) (c,τ,[]):=⟨rfl,rfl,S⟩
end
section
variable {ρ:Int→Int} {N:Nat} {σ τ:Sub}
theorem mZ.n9(S:gF ρ N σ τ)(hg:cT σ)(hg':cT τ)(ho:cW (bF N) σ){a b:Tm}(ha:bF N a)(hb:bF N b):mZ ρ N (tB σ a b) (tB τ (b7 ρ a) (b7 ρ b)):=by
 obtain⟨r,σ',tr,h⟩:=tC hg ho ha hb
 obtain⟨g,hg2⟩:=h.run
 obtain⟨τ',e,S',_⟩:=S.iD hg hg' ho.mN ha.1 hb.1 hg2
 unfold tB
 rw[h.eq,e]
 exact⟨rfl,rfl,S'⟩
theorem a59(ρ:Int→Int)(n:Int):b7 ρ (oP n)=oP n:=wE ρ (by decide)
theorem gF.dH(S:gF ρ N σ τ)(hg:cT σ)(hg':cT τ)(ho:cW (bF N) σ)(s:ByteArray)(ks:List Tm)(hv:∀x∈ks,bF N x):mZ ρ N (AW.dH σ s ks) (AW.dH τ s (ks.map (b7 ρ))):=by
 match ks,hv with
 | [],_=>exact mZ.same S _
 | [x],_=>
  simp only[aW,aU,AW.dH,a7K]
  exact mZ.same S _
 | [x,y],hv=>
  have hx:=hv x (by simp)
  have hy:=hv y (by simp)
  have hu:=mZ.n9 S hg hg' ho hx hy
  simp only[aW,aU,AW.dH,zA,aZY,S.same hx.1 hy.1]
  by_cases h1:gQ sE s=true
  · rw[aH h1,aH h1];exact mZ.same S _
  rw[aE h1,aE h1]
  by_cases h2:s=⟨#[61]⟩
  · rw[aH h2,aH h2];exact hu
  rw[aE h2,aE h2]
  by_cases h3:s=⟨#[92,61]⟩
  · rw[aH h3,aH h3]
    obtain⟨r,σ',tr,h⟩:=tC hg ho hx hy
    obtain⟨g,hg2⟩:=h.run
    obtain⟨τ',e,_,_⟩:=S.iD hg hg' ho.mN hx.1 hy.1 hg2
    rw[h.eq,e]
    exact mZ.same S _
  rw[aE h3,aE h3]
  by_cases h4:s=⟨#[61,61]⟩
  · rw[aH h4,aH h4];exact mZ.same S _
  rw[aE h4,aE h4]
  by_cases h5:y.ev.2≠0
  · rw[aH h5,aH h5];exact mZ.same S _
  rw[aE h5,aE h5]
  have:=mZ.n9 S hg hg' ho hx (NJ (N:=N) (Tm.vS y hy.1))
  rw[a59] at this
  exact this
 | [x,y,z],hv=>
  have hy:=hv y (by simp)
  have hz:=hv z (by simp)
  simp only[aW,aU,AW.dH,w9,wD]
  by_cases h1:x.k=1∨y.k=1
  · rw[aH h1,aH h1];exact mZ.same S _
  rw[aE h1,aE h1]
  have hl:(b7 ρ y).ts.length=y.ts.length:=by
   rw[C3 ρ (t:=y) (fun h=>h1 (.inr h))]
   simp only[Tm.ts,aF]
  rw[hl]
  by_cases h2:x.k≠2∨y.k≠3∨y.ts.length=0
  · rw[aH h2,aH h2];exact mZ.same S _
  rw[aE h2,aE h2]
  have kx:x.k=2:=DN fun h=>h2 (.inl h)
  have ky:y.k=3:=DN fun h=>h2 (.inr (.inl h))
  rw[aUK ρ kx ky]
  cases hu:nQ x y with
  | none=>exact mZ.same S _
  | some u=>exact mZ.n9 S hg hg' ho hz (Y8 hy (fun h=>h1 (.inr h)) hu)
 | a::b::c::d::l,_=>
  simp only[aW,AW.dH]
  exact mZ.same S _
end
theorem a67(σ:Sub)(s:ByteArray)(ks:List Tm):0≤(dH σ s ks).1:=by
 have hc:∀b,0≤jA b:=fun b=>by unfold jA;split<;>omega
 have hr:∀n,0≤(jQ n).2:=fun n=>by unfold jQ;split<;>simp
 have har:∀s a b,0≤(sB s a b).2:=fun s a b=>by
  unfold sB
  split
  · exact hr _
  split
  · exact hr _
  split
  · exact hr _
  split
  · simp
  split
  · simp
  · simp
 have hb:∀(f:Int→Int→Int×Int) (x y:Int×Int),(∀a b,0≤(f a b).2)→0≤x.2→0≤y.2→0≤(both f x y).2:=fun f x y hf hx hy=>by
  unfold both
  split
  · exact hx
  split
  · exact hy
  · exact hf _ _
 have he:∀t:Tm,0≤t.ev.2:=by
  intro t
  induction t using Tm.ind with
  | h k n s ts ih=>
   rw[Tm.zO]
   split
   · simp
   split
   · simp
   split
   · match ts,ih with
     | [],_=>simp [two]
     | [x],_=>simp [two]
     | [x,y],ih=>exact hb _ _ _ (har s) (ih x (by simp)) (ih y (by simp))
     | x::y::z::l,_=>simp [two]
   · simp
 match ks with
 | []=>exact hc _
 | [x]=>exact hc _
 | [x,y]=>
  simp only[dH]
  split
  · exact hb _ _ _ (fun _ _=>hc _) (he x) (he y)
  split
  · exact hc _
  split
  · exact hc _
  split
  · exact hc _
  split
  · exact he y
  · exact hc _
 | [x,y,z]=>
  simp only[dH,w9]
  split
  · simp
  split
  · simp
  split
  · exact hc _
  · simp
 | a::b::c::d::l=>simp [dH]
abbrev Cl:=Tm×List Tm
def bB:Cl→AV
 | (.mk k n s ts,b)=>.agg [.int .i64 k,.int .i64 n,.str s,.slice (ts.map Tm.av),.slice (b.map Tm.av)]
theorem fU(k n:Int)(s:ByteArray)(ts b:List Tm):bB (.mk k n s ts,b)=.agg [.int .i64 k,.int .i64 n,.str s,.slice (ts.map Tm.av),.slice (b.map Tm.av)]:=rfl
theorem vM(c:Cl):(bB c).isAgg=true:=by obtain⟨⟨k,n,s,ts⟩,b⟩:=c;rfl
theorem i8(c:Cl):(bB c).width=5:=by obtain⟨⟨k,n,s,ts⟩,b⟩:=c;rfl
theorem aBN(c:Cl):(bB c).cells.length=5:=by obtain⟨⟨k,n,s,ts⟩,b⟩:=c;rfl
theorem R9(c:Cl):(bB c).cells.all AV.storable=true:=by obtain⟨⟨k,n,s,ts⟩,b⟩:=c;rfl
theorem L4(c:Cl):(bB c).cH=false:=by obtain⟨⟨k,n,s,ts⟩,b⟩:=c;rfl
def vN(x y:Cl):Bool:=x.1.same y.1&&iO Tm.same x.2 y.2
theorem aY5(x:Cl):vN x x=true:=by
 unfold vN
 rw[(Tm.AK x.1 x.1).2 rfl,(BZ (fun x _ y=>Tm.AK x y)).2 rfl]
 try rfl
def oH(c:Cl):Nat:=c.1.sz+(c.2.length+aR Tm.sz c.2)
def t6:Cl→Nat
 | (.mk _ _ _ ts,b)=>3+aR Tm.dV ts+aR Tm.dV b
def EH:Cl→Int→Cl
 | (.mk _ _ _ ts,b),j=>(.mk j (j+1) (mt (j+1+1)) (gX Tm.mark Tm.dV ts (j+1+1+1)),gX Tm.mark Tm.dV b (j+1+1+1+(aR Tm.dV ts:Nat)))
theorem SA(k n:Int)(s:ByteArray)(ts b:List Tm):t6 (.mk k n s ts,b)=3+aR Tm.dV ts+aR Tm.dV b:=rfl
def VF:Tm→Bool | .mk k _ s ts=>rN k s (ts.length:Int)
def mG(c:Cl):Bool:=c.1.valid&&VF c.1&&(decide (c.2.length≤6)&&c.2.all Tm.goal)
def sT(p:List Cl):Bool:=decide (p.length≤20)&&p.all mG
theorem U8{st:aB}{k n:Int}{s:ByteArray}{ts b:List Tm}{o:AV}{bs:List Nat} :
 bG st (bB (.mk k n s ts,b)) o bs↔∃q b1 q' b2,o=.agg [.int .i64 k,.int .i64 n,.str s,q,q']∧bs=b1++b2∧bG st (.slice (ts.map Tm.av)) q b1∧bG st (.slice (b.map Tm.av)) q' b2:=by
 rw[fU]
 generalize AV.slice (ts.map Tm.av)=x
 generalize AV.slice (b.map Tm.av)=y
 simp only[bG,cA]
 constructor
 · rintro⟨os,rfl,o1,os1,b1,b1',rfl,rfl,⟨rfl,rfl⟩,o2,os2,b2,b2',rfl,rfl,⟨rfl,rfl⟩,o3,os3,b3,b3',rfl,rfl,⟨rfl,rfl⟩,o4,os4,b4,b4',rfl,rfl,h,o6,os6,b6,b6',rfl,rfl,h',rfl,rfl⟩
   exact⟨o4,b4,o6,b6,rfl,by simp,h,h'⟩
 · rintro⟨q,b1,q',b2,rfl,rfl,h,h'⟩
   exact⟨_,rfl,_,_,[],b1++b2,rfl,rfl,⟨rfl,rfl⟩,_,_,[],b1++b2,rfl,rfl,⟨rfl,rfl⟩,_,_,[],b1++b2,rfl,rfl,⟨rfl,rfl⟩,q,_,b1,b2,rfl,rfl,h,q',[],b2,[],rfl,by simp,h',rfl,rfl⟩
end Go.AW
