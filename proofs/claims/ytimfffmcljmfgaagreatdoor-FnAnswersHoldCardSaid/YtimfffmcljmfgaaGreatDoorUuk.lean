import Derived.Test.YtimfffmcljmfgaaGreatDoorUuj
import Derived.Test.YtimfffmcljmfgaaGreatDoorUui
import Derived.Test.YtimfffmcljmfgaaGreatDoorUuf
import Derived.Test.YtimfffmcljmfgaaGreatDoorUuh
set_option linter.unusedSimpArgs false
set_option linter.unusedVariables false
set_option maxRecDepth 100000
namespace Go.AW
open Go.Proofs.Tryz
abbrev aNO:=zi tI_3 (zi zI_3 (zi aX (zi tI_31 (zi zI_31 (zi aN (zi bG (zi bH (zi b9 (zi tI_66 (zi zI_66 (zi bQ (zi bR (zi bS (zi bT bP))))))))))))))
theorem aRH(l:List Tm)(g:FuncId)(dP:List AV)(p:Tm→Bool)(J E:aB→Prop)(hc:∀x∈l,∀s,J s→aD prog g ([Tm.av x]++dP) s (fun r s'=>r=.bool (p x)∧(p x=true→E s')∧(p x=false→J s')))(st:aB)(h0:J st) :
 aD prog 218 [.slice (l.map Tm.av),.func g dP] st (fun r st'=>r=.int .i64 (oH p l 0)∧(l.any p=true→E st')∧(l.any p=false→J st')):=by
 refine wF [1000000] 2 func218 ntmps218 rfl rfl ?_
 simp only[eC,AV.fits,eF,aF]
 intro ⟨hl,_⟩
 simp -implicitDefEqProofs only[aF,aA,seval,aNO]
 refine eP (σ:=aB) [1000000] [0,1,7] l (fun i s=>J s∧oH p (l.drop i) i=oH p l 0∧(l.drop i).any p=l.any p) (fun i _=>[(8,.int .i64 i)]) (fun _ s=>s) (by decide +kernel) ⟨st,⟨h0,rfl,rfl⟩,aO.mk (by simp -implicitDefEqProofs only[aA,↓aU,seval])⟩ (fun i x s hx hlt bV hdr hinv=>?_) (fun s hge hinv=>?_)
 case refine_2=>
  obtain⟨i1,i2,i3⟩:=hinv
  rw[kK] at i2 i3
  simp -implicitDefEqProofs only[hge,aA,seval]
  exact⟨by rw[←i2];try rfl,fun h=>(by rw[←i3] at h;cases h),fun _=>i1⟩
 obtain⟨i1,i2,i3⟩:=hinv
 rw[hdr,oH] at i2
 rw[hdr,BQ] at i3
 have hw:=bO (n:=(i:Int)+1)
 simp -implicitDefEqProofs only[bV,bM (av:=Tm.av) aN hx (aJ x),aT,aJ,aA,seval,aNO]
 refine(hc x (cP hx) s i1).mono ?_
 rintro _ s2 ⟨rfl,hE,hJ⟩
 simp -implicitDefEqProofs only[aA,seval]
 refine aQ (fun h=>?_) (fun h=>?_)
 · rw[aH h] at i2
   rw[h,uR] at i3
   simp -implicitDefEqProofs only[aA,seval]
   exact⟨by rw[i2],fun _=>hE h,fun h'=>(by rw[←i3] at h';cases h')⟩
 · rw[aE (by simp [h])] at i2
   rw[h,oV] at i3
   simp -implicitDefEqProofs only[aA,seval]
   exact⟨s2,⟨hJ h,i2,i3⟩,aO.mk (by simp -implicitDefEqProofs only[hw,aA,seval])⟩
theorem aQ9(l:List Tm)(g:FuncId)(dP:List AV)(p:Tm→Bool)(J E:aB→Prop)(hc:∀x∈l,∀s,J s→aD prog g ([Tm.av x]++dP) s (fun r s'=>r=.bool (p x)∧(p x=true→E s')∧(p x=false→J s')))(st:aB)(h0:J st) :
 aD prog 147 [.slice (l.map Tm.av),.func g dP] st (fun r st'=>r=.bool (l.any p)∧(l.any p=true→E st')∧(l.any p=false→J st')):=by
 refine wF [1000000] 2 func147 ntmps147 rfl rfl ?_
 intro _
 simp -implicitDefEqProofs only[aA,seval]
 refine(aRH l g dP p J E hc st h0).mono ?_
 rintro _ s2 ⟨rfl,hE,hJ⟩
 simp -implicitDefEqProofs only[aZE,aA,seval]
 exact⟨hE,hJ⟩
def Occ(R:Int→Tm)(n:Int)(t:Tm)(st:aB)(mm:Nat)(M:List Int)(r:AV)(st':aB):Prop:=
 r=.bool (decide (n∈(t.aG R).vl))∧∃M',st'=st.aC mm (.map (lX M'))∧(n∉(t.aG R).vl→∀v∈M',v∈M∨n∉(R v).vl)
abbrev a3X:=zi tI_3 (zi zI_3 (zi aX (zi tI_4 (zi zI_4 (zi cE (zi tI_66 (zi zI_66 (zi bQ (zi bR (zi bS (zi bT (zi bP (zi tI_227 (zi zI_227 (zi tI_390 (zi zI_390 IL))))))))))))))))
theorem aT0{c mm:Nat}{n:Int}{t:Tm}{st:aB}{Q:AV→aB→Prop}(hc:aD prog 398 [.ptr c 0,.int .i64 n,t.av,.map mm] st Q) :
 aD prog 406 [t.av,.pptr (.ptr c 0),.pptr (.int .i64 n),.pptr (.map mm)] st Q:=by
 refine wF [1000000] 4 func406 ntmps406 rfl rfl ?_
 intro _
 simp -implicitDefEqProofs only[aA,seval,a3X]
 refine hc.mono ?_
 intro r s h
 simp -implicitDefEqProofs only[aA,seval]
 exact h
abbrev yI:=zi tI_3 (zi zI_3 (zi aX (zi tI_4 (zi zI_4 (zi cE (zi tI_31 (zi zI_31 (zi aN (zi bG (zi bH (zi b9 (zi tI_66 (zi zI_66 (zi bQ (zi bR (zi bS (zi bT (zi bP (zi tI_227 (zi zI_227 (zi tI_390 (zi zI_390 (zi IL (zi tI_406 (zi zI_406 a4L)))))))))))))))))))))))))
theorem OS{σ:Sub}{R:Int→Tm}{rk:Int→Nat}{B:Nat}(G:Good σ R rk B){n:Int}(hn:σ n=none)(c m mm:Nat)(q:AV)(hmm:mm≠c∧mm≠m) :
 ∀(K:Nat) (t:Tm) (M:List Int) (st:aB),iX st c m q σ→st mm=some (.map (lX M))→(∀w∈t.vl,rk w<K)→(∀v∈M,n∉(R v).vl∨∀w∈t.vl,rk w<rk v) →
 aD prog 398 [.ptr c 0,.int .i64 n,t.av,.map mm] st (Occ R n t st mm M)
 | K,.mk k x s ts,M,st,hS,hM,hK,QQ=>by
  have IH1:=fun(K':Nat) (hK':K'<K) t M st=>OS G hn c m mm q hmm K' t M st
  have IH2:=fun(y:Tm) (hy:y∈ts) M st=>OS G hn c m mm q hmm K y M st
  have hlk:=aZ7 (P:=prog) (n:=x) hM IL aX a48
  simp only[aV]
  refine wF [1000000] 4 func398 ntmps398 rfl rfl ?_
  intro _
  simp -implicitDefEqProofs only[aA,seval,yI]
  refine aQ (fun h=>?_) (fun h=>?_)
  · simp only[bJ] at h
    have hvl:(Tm.mk k x s ts).vl= [x]:=Tm.mS h
    have hmv:(Tm.mk k x s ts).aG R=R x:=Tm.kY R h
    have hKx:rk x<K:=hK x (by rw[hvl];simp)
    simp -implicitDefEqProofs only[hlk,aA,seval,yI]
    refine aQ (fun h2=>?_) (fun h2=>?_)
    · simp only[bJ] at h2
      simp -implicitDefEqProofs only[aA,seval]
      have hno:n∉(R x).vl:=by
       rcases QQ x h2 with h | h
       · exact h
       · exact absurd (h x (by rw[hvl];simp)) (Nat.lt_irrefl _)
      refine⟨by rw[hmv];simp [hno],M,?_,fun _ v hv=>.inl hv⟩
      funext y
      simp only[aB.aC]
      split
      · rename_i e;rw[e,hM]
      · rfl
    · simp only[dJ] at h2
      simp -implicitDefEqProofs only[aA,seval,yI]
      refine a4W hM IL aX ?_
      simp -implicitDefEqProofs only[aA,seval,yI]
      obtain⟨f,hwk⟩:=G.wk (Tm.mk k x s ts)
      generalize hu:wk σ (Tm.mk k x s ts)=u at *
      have hS':=hS.M6 (o:=.map (lX (x::M))) hmm.1 hmm.2
      have hcw:=J0 hwk c m q _ hS'
      rw[aV] at hcw
      refine hcw.to ?_
      have QM:u.aG R=R x:=by rw[hwk.aG G.v8,hmv]
      have jY:=hwk.end
      have hrk:=hwk.HK G
      obtain⟨k',x',s',ts'⟩:=u
      simp only[aV]
      simp -implicitDefEqProofs only[aA,↓aU,seval,yI]
      refine aQ (fun h3=>?_) (fun h3=>?_)
      · simp only[bJ] at h3
        simp -implicitDefEqProofs only[aA,seval,yI]
        have qC:R x'=vr x':=G.free (jY h3)
        rw[Tm.kY R h3,qC] at QM
        refine⟨?_,x::M,rfl,fun hno v hv=>?_⟩
        · rw[hmv,←QM,yO]
          simp [eq_comm]
        · rcases cX.1 hv with rfl | hv
          · exact .inr (by rw[hmv] at hno;exact hno)
          · exact .inl hv
      · simp only[dJ] at h3
        simp -implicitDefEqProofs only[aA,seval,yI]
        have hf0:f≠0:=by
         rintro rfl
         cases hwk with
         | stop _=>exact h3 h
        have hr':∀w∈(Tm.mk k' x' s' ts').vl,rk w<rk x:=fun w hw=>by
         obtain⟨v,hv,_,hlt⟩:=hrk w hw
         rw[hvl] at hv
         simp only[cX,dN,dV] at hv
         subst hv
         exact hlt hf0
        have:=IH1 (rk x) hKx (Tm.mk k' x' s' ts') (x::M) _ hS' (aB.aP _ _ _) hr' (fun v hv=>by
         rcases cX.1 hv with rfl | hv
         · exact .inr hr'
         · rcases QQ v hv with h5 | h5
           · exact .inl h5
           · refine .inr fun w hw=>Nat.lt_trans (hr' w hw) ?_
             exact h5 x (by rw[hvl];simp))
        rw[aV] at this
        refine this.mono ?_
        rintro _ _ ⟨rfl,M',rfl,hM'⟩
        simp -implicitDefEqProofs only[aA,seval]
        rw[QM] at hM' ⊢
        refine⟨by rw[hmv],M',rfl,fun hno v hv=>?_⟩
        rw[hmv] at hno
        rcases hM' hno v hv with h5 | h5
        · rcases cX.1 h5 with rfl | h5
          · exact .inr hno
          · exact .inl h5
        · exact .inr h5
  · simp only[dJ] at h
    simp -implicitDefEqProofs only[aA,seval,yI]
    have hmv:=Tm.j4 R (n:=x) (s:=s) (ts:=ts) h
    have aW2:ts.any (fun y=>decide (n∈(y.aG R).vl))=decide (n∈((Tm.mk k x s ts).aG R).vl):=by
     rw[hmv,uQ]
     simp only[List.any_eq_true,bJ]
     rw[Tm.k8 h]
     constructor
     · rintro⟨y,hy,h2⟩;exact⟨_,cS.2 ⟨y,hy,rfl⟩,h2⟩
     · rintro⟨z,hz,h2⟩
       obtain⟨y,hy,rfl⟩:=cS.1 hz
       exact⟨y,hy,h2⟩
    refine(aQ9 ts _ _ (fun y=>decide (n∈(y.aG R).vl)) (fun s1=>∃M',s1=st.aC mm (.map (lX M'))∧∀v∈M',v∈M∨n∉(R v).vl) (fun s1=>∃M',s1=st.aC mm (.map (lX M'))) ?_ st ⟨M,?_,fun v hv=>.inl hv⟩).mono ?_
    · rintro y hy s1 ⟨M',rfl,hM'⟩
      simp only[fL,eR]
      have hc:=IH2 y hy M' (st.aC mm (.map (lX M'))) (hS.M6 hmm.1 hmm.2) (aB.aP _ _ _) (fun w hw=>hK w ((Tm.k8 h).2 ⟨y,hy,hw⟩)) (fun v hv=>by
       rcases hM' v hv with h5 | h5
       · rcases QQ v h5 with h6 | h6
         · exact .inl h6
         · exact .inr fun w hw=>h6 w ((Tm.k8 h).2 ⟨y,hy,hw⟩)
       · exact .inl h5)
      refine(aT0 hc).mono ?_
      rintro _ _ ⟨rfl,M2,rfl,hM2⟩
      rw[dC]
      refine⟨rfl,fun _=>⟨M2,rfl⟩,fun hno=>⟨M2,rfl,fun v hv=>?_⟩⟩
      simp only[dJ] at hno
      rcases hM2 hno v hv with h5 | h5
      · exact hM' v h5
      · exact .inr h5
    · funext y
      simp only[aB.aC]
      split
      · rename_i e;rw[e,hM]
      · rfl
    · rintro _ s2 ⟨rfl,hE,hJ⟩
      rw[aW2] at hE hJ ⊢
      simp -implicitDefEqProofs only[aA,seval]
      by_cases hno:n∈((Tm.mk k x s ts).aG R).vl
      · obtain⟨M2,rfl⟩:=hE (by simp [hno])
        exact⟨rfl,M2,rfl,fun h=>absurd hno h⟩
      · obtain⟨M2,rfl,h5⟩:=hJ (by simp [hno])
        exact⟨rfl,M2,rfl,fun _=>h5⟩
termination_by K t=>(K,SizeOf.sizeOf t)
decreasing_by
 · exact Prod.Lex.left _ _ hK'
 · have:=List.sizeOf_lt_of_mem hy
   exact Prod.Lex.right _ (by simp only[Tm.mk.sizeOf_spec];omega)
abbrev MA:=zi tI_3 (zi zI_3 (zi aX (zi tI_4 (zi zI_4 (zi cE (zi tI_46 (zi zI_46 (zi dH (zi fA (zi eX (zi fB (zi tI_66 (zi zI_66 (zi bQ (zi bR (zi bS (zi bT (zi bP (zi tI_141 (zi zI_141 (zi BG (zi tI_227 (zi zI_227 (zi tI_304 (zi zI_304 (zi CU (zi CV (zi CH (zi tI_390 (zi zI_390 IL))))))))))))))))))))))))))))))
theorem WA{σ:Sub}(hg:cO σ){n:Int}(hn:σ n=none){t:Tm}{r:Bool}{σ':Sub}{add:List Int}(hb:jX σ n t=(r,σ',add))(c m:Nat)(q:AV)(tr:List Int)(st:aB)(hS:gF st c m q σ tr)(hl:tr.length+add.length≤1099511627776) :
 aD prog 382 [.ptr c 0,.int .i64 n,t.av] st (fun r' st'=>r'=.bool r∧uW c m st q σ' (tr++add) st'):=by
 obtain⟨rk,B,G⟩:=hg.rs
 refine wF [1000000] 3 func382 ntmps382 rfl rfl ?_
 intro _
 simp -implicitDefEqProofs only[aA,seval,MA]
 intro mm hmm
 obtain⟨hmc,aYB⟩:=hS.sub.ne hmm
 rw[←a0L]
 have hS1:=hS.EO (o:=.map (lX [])) hmm
 refine(OS G hn c m mm q ⟨hmc,aYB⟩ B t [] _ hS1.sub (aB.aP _ _ _) (fun w _=>G.bd w) (fun v hv=>absurd hv (dN))).mono ?_
 rintro _ _ ⟨rfl,M',rfl,_⟩
 have hS2:=hS.EO (o:=.map (lX M')) hmm
 have hQ2:mI c m st q (st.aC mm (.map (lX M'))) q:=mI.EO hmm
 rw[dC]
 generalize st.aC mm (.map (lX M'))=s2 at *
 obtain⟨hqa,hqw,hqj,hqc,hqs⟩:=hS2.shape
 simp -implicitDefEqProofs only[aA,seval]
 unfold jX at hb
 refine aQ (fun h=>?_) (fun h=>?_)
 · simp only[bJ] at h
   rw[aH h] at hb
   obtain⟨rfl,rfl,rfl⟩:false=r∧σ=σ'∧[]=add:=by simpa using hb
   simp -implicitDefEqProofs only[aA,seval]
   exact⟨q,hS2,hQ2⟩
 · simp only[dJ] at h
   rw[aE h] at hb
   obtain⟨rfl,rfl,rfl⟩:true=r∧σ.set n t=σ'∧[n]=add:=by simpa using hb
   simp -implicitDefEqProofs only[aA,seval]
   refine wP [(0,1),(1,1),(2,1),(4,1),(3,2),(5,2),(6,0)] [0,1,2,4,3,5] mixed ?_
   simp -implicitDefEqProofs only[hS2.sub.cells,aA,seval,MA]
   refine a4X hS2.sub.map BG aX ?_
   have hcm:=hS2.sub.cm
   have hS3:gF (s2.aC m (.map (mapOf (σ.set n t)))) c m q (σ.set n t) tr:=by
    refine⟨⟨by rw[aB.aL _ _ hcm];exact hS2.sub.cells,aB.aP _ _ _⟩,?_,hS2.apart⟩
    rcases hS2.fE with h4 | ⟨b',cs,e1,e2,e3⟩
    · exact .inl h4
    · refine .inr ⟨b',cs,e1,?_,e3⟩
      rw[aB.aL _ _ (by rintro rfl;exact hS2.LG (by rw[e1];simp [dL]))]
      exact e2
   have hQ3:mI c m st q (s2.aC m (.map (mapOf (σ.set n t)))) q:=⟨fun b o h h1 h2 h3=>by rw[aB.aL _ _ h2];exact hQ2.frame b o h h1 h2 h3,fun _ h=>.inl h⟩
   generalize s2.aC m (.map (mapOf (σ.set n t)))=s3 at *
   simp -implicitDefEqProofs only[hS3.sub.cells,hqa,aA,seval,MA]
   refine a4D dH fA eX rfl (by omega) hS3 (by simpa using hl) (fun q' s4 ht hc' hm' hk hf=>?_)
   have h4c:s4 c=some (.cells [.map m,q]):=by rw[hk c hS3.apart hc'];exact hS3.sub.cells
   have h4m:s4 m=some (.map (mapOf (σ.set n t))):=by rw[hk m hS3.LG hm'];exact hS3.sub.map
   have aKD:q'.cells= [q']∧q'.storable=true:=by
    rcases ht with ⟨rfl,_⟩ | ⟨b',cs,rfl,_⟩<;>exact⟨rfl,rfl⟩
   simp -implicitDefEqProofs only[aK,h4c,aKD.1,aKD.2,aA,seval,MA]
   refine⟨q',⟨⟨aB.aP _ _ _,by rw[aB.aL _ _ (dD hcm)];exact h4m⟩,?_,hc'⟩,⟨fun b o h h1 h2 h3=>?_,fun b hb=>?_⟩⟩
   · rcases ht with h4 | ⟨b',cs,e1,e2,e3⟩
     · exact .inl h4
     · refine .inr ⟨b',cs,e1,?_,e3⟩
       rw[aB.aL _ _ (by rintro rfl;exact hc' (by rw[e1];simp [dL]))]
       exact e2
   · rw[aB.aL _ _ h1,hk b h3 (fun h4=>?_)]
     · exact hQ3.frame b o h h1 h2 h3
     · rcases hf b h4 with h5 | h5
       · exact h3 h5
       · rw[hQ3.frame b o h h1 h2 h3] at h5;cases h5
   · rcases hf b hb with h5 | h5
     · exact .inl h5
     · by_cases h6:b∈dL q
       · exact .inl h6
       · refine .inr ?_
         cases hst:st b with
         | none=>rfl
         | some o=>
          exfalso
          have h1:b≠c:=by rintro rfl;rw[hS3.sub.cells] at h5;cases h5
          have h2:b≠m:=by rintro rfl;rw[hS3.sub.map] at h5;cases h5
          rw[hQ3.frame b o hst h1 h2 h6] at h5;cases h5
abbrev Sm (t:Tm):Prop:=t.small=true
theorem a2T:∀t:Tm,t.k≠1→Sm t→∀x∈t.ts,Sm x:=fun t _ h x hx=>by
 cases t
 exact(Tm.oR h).2 x hx
abbrev qN:=zi tI_3 (zi zI_3 (zi aX (zi tI_4 (zi zI_4 (zi cE (zi tI_9 (zi zI_9 (zi cI (zi tI_31 (zi zI_31 (zi aN (zi bG (zi bH (zi b9 (zi tI_66 (zi zI_66 (zi bQ (zi bR (zi bS (zi bT (zi bP (zi tI_227 zI_227))))))))))))))))))))))
theorem XL:∀(g:Nat) (σ:Sub) (a b:Tm) (r:Bool) (σ':Sub) (add:List Int),cO σ→cW Sm σ→Sm a→Sm b→dI g σ a b=some (r,σ',add)→∀(c m:Nat) (q:AV) (tr:List Int) (st:aB),gF st c m q σ tr→tr.length+add.length≤1099511627776 →
 aD prog 360 [.ptr c 0,a.av,b.av] st (fun r' st'=>r'=.bool r∧uW c m st q σ' (tr++add) st')
 | 0,σ,a,b,r,σ',add,hg,hsm,ha0,hb0,h,c,m,q,tr,st,hS,hl=>by simp only[dI] at h;cases h
 | g+1,σ,a,b,r,σ',add,hg,hsm,ha0,hb0,h,c,m,q,tr,st,hS,hl=>by
  have IH:=XL g
  obtain⟨rk,B,G⟩:=hg.rs
  obtain⟨fa,wa⟩:=G.wk a
  obtain⟨fb,wb⟩:=G.wk b
  have hca:=fun st (hS:iX st c m q σ)=>J0 wa c m q st hS
  have hcb:=fun st (hS:iX st c m q σ)=>J0 wb c m q st hS
  have ea:=wa.end
  have eb:=wb.end
  have hsa:=wa.all (p:=Sm) hsm ha0
  have hsb:=wb.all (p:=Sm) hsm hb0
  replace h:=M3 h
  generalize wk σ a=a1 at *
  generalize wk σ b=b1 at *
  clear wa wb
  refine wF [1000000,4,5] 3 func360 ntmps360 rfl rfl ?_
  intro fD
  simp -implicitDefEqProofs only[aA,seval]
  intro b4 h4 b5 h5
  have h54:b5≠b4:=by rintro rfl;rw[aB.aP] at h5;cases h5
  have hn5:st b5=none:=by rw[aB.aL st _ h54] at h5;exact h5
  have hS':∀o o',gF ((st.aC b4 o).aC b5 o') c m q σ tr:=fun o o'=>(hS.EO h4).EO (by rw[aB.aL _ _ h54];exact hn5)
  refine wP [(0,1),(3,1),(1,2),(2,2),(4,2),(5,2),(6,0),(7,0)] [0,3,1,2,4,5] mixed ?_
  simp -implicitDefEqProofs only[h54.symm,aA,seval,qN]
  refine iD (hca _ (hS' _ _).sub) ?_
  simp -implicitDefEqProofs only[aA,seval,qN]
  refine iD (hcb _ (hS' _ _).sub) ?_
  obtain⟨ka,na,sa,tsa⟩:=a1
  obtain⟨kb,nb,sb',tsb⟩:=b1
  obtain⟨hla,aJ3⟩:=Tm.oR hsa
  obtain⟨hlb,aJ4⟩:=Tm.oR hsb
  simp only[aV]
  simp only[Tm.k,Tm.n,Tm.ts] at h ea eb
  have hl4:∀q',q'=q→b4∉dL q:=fun _ _ hb=>by obtain⟨cs,e⟩:=hS.HX b4 hb;rw[h4] at e;cases e
  have hl5:b5∉dL q:=fun hb=>by obtain⟨cs,e⟩:=hS.HX b5 hb;rw[hn5] at e;cases e
  obtain⟨h4c,h4m⟩:=hS.sub.ne h4
  obtain⟨h5c,h5m⟩:=hS.sub.ne hn5
  have hQ:∀o o',mI c m st q ((st.aC b4 o).aC b5 o') q:=fun o o'=>⟨fun x p h _ _ _=>by
   rw[aB.aL _ _ (by rintro rfl;rw[hn5] at h;cases h),aB.aL _ _ (by rintro rfl;rw[h4] at h;cases h)];exact h,fun _ h=>.inl h⟩
  simp -implicitDefEqProofs only[aK,h54,h54.symm,aA,seval,qN]
  rw[aB.wQ h54,aB.wQ h54.symm]
  have iB:∀o o',uW c m st q σ tr ((st.aC b4 o).aC b5 o'):=fun o o'=>⟨q,hS' _ _,hQ _ _⟩
  rcases h with ⟨h1,h2,h3,rfl,rfl,rfl⟩ | ⟨h1,h2,h3⟩ | ⟨h1,h2,h3⟩ | ⟨h1,h2,h3,h4⟩ | ⟨h1,h2,h3,rfl,rfl,rfl⟩
  · subst h1 h2 h3
    simp -implicitDefEqProofs only[bU,h54.symm,aA,seval,qN]
    exact iB _ _
  · subst h1
    have hcb:=WA hg (ea rfl) h3 c m q tr _ (hS' (.cells [.int .i64 1,.int .i64 na,.str sa,.slice (tsa.map Tm.av)]) (.cells [.int .i64 kb,.int .i64 nb,.str sb',.slice (tsb.map Tm.av)])) hl
    rw[aV] at hcb
    by_cases h5:kb=1
    · subst h5
      have h6:¬na=nb:=fun e=>h2 ⟨rfl,e⟩
      simp -implicitDefEqProofs only[bU,h6,bZ,h54.symm,aA,seval,qN]
      refine hcb.mono ?_
      rintro _ s2 ⟨rfl,hp⟩
      simp -implicitDefEqProofs only[aA,seval]
      exact hp.from (hQ _ _) (hS' _ _)
    · simp -implicitDefEqProofs only[bU,h5,bZ,h54.symm,aA,seval,qN]
      refine hcb.mono ?_
      rintro _ s2 ⟨rfl,hp⟩
      simp -implicitDefEqProofs only[aA,seval]
      exact hp.from (hQ _ _) (hS' _ _)
  · subst h2
    have hcb:=WA hg (eb rfl) h3 c m q tr _ (hS' (.cells [.int .i64 ka,.int .i64 na,.str sa,.slice (tsa.map Tm.av)]) (.cells [.int .i64 1,.int .i64 nb,.str sb',.slice (tsb.map Tm.av)])) hl
    rw[aV] at hcb
    simp -implicitDefEqProofs only[bU,h1,bZ,h54.symm,aA,seval,qN]
    refine hcb.mono ?_
    rintro _ s2 ⟨rfl,hp⟩
    simp -implicitDefEqProofs only[aA,seval]
    exact hp.from (hQ _ _) (hS' _ _)
  · rw[sP] at h3
    simp only[Tm.k,Tm.n,Tm.s,Tm.ts] at h3
    obtain⟨rfl,rfl,rfl,hlen⟩:=h3
    have cZ:decide ((tsa.length:Int)=(tsb.length:Int))=true:=by simp [hlen]
    simp -implicitDefEqProofs only[bU,bZ,cZ,h54.symm,aF,h1,aA,seval,qN]
    have hS0:=hS' (.cells [.int .i64 ka,.int .i64 na,.str sa,.slice (tsa.map Tm.av)]) (.cells [.int .i64 ka,.int .i64 na,.str sa,.slice (tsb.map Tm.av)])
    have hQ0:=hQ (.cells [.int .i64 ka,.int .i64 na,.str sa,.slice (tsa.map Tm.av)]) (.cells [.int .i64 ka,.int .i64 na,.str sa,.slice (tsb.map Tm.av)])
    have e4:((st.aC b4 (.cells [.int .i64 ka,.int .i64 na,.str sa,.slice (tsa.map Tm.av)])).aC b5 (.cells [.int .i64 ka,.int .i64 na,.str sa,.slice (tsb.map Tm.av)])) b4=some (.cells [.int .i64 ka,.int .i64 na,.str sa,.slice (tsa.map Tm.av)]):=by rw[aB.aL _ _ h54.symm,aB.aP]
    have e5:((st.aC b4 (.cells [.int .i64 ka,.int .i64 na,.str sa,.slice (tsa.map Tm.av)])).aC b5 (.cells [.int .i64 ka,.int .i64 na,.str sa,.slice (tsb.map Tm.av)])) b5=some (.cells [.int .i64 ka,.int .i64 na,.str sa,.slice (tsb.map Tm.av)]):=aB.aP _ _ _
    generalize (st.aC b4 (.cells [.int .i64 ka,.int .i64 na,.str sa,.slice (tsa.map Tm.av)])).aC b5 (.cells [.int .i64 ka,.int .i64 na,.str sa,.slice (tsb.map Tm.av)])=s0 at *
    refine eP (σ:=Sub×List Int×List Int×AV×aB) [1000000,4,5] [0,4,5,79] tsa
     (fun i p=>cO p.1∧cW Sm p.1∧gF p.2.2.2.2 c m p.2.2.2.1 p.1 (tr++p.2.1)∧mI c m s0 q p.2.2.2.2 p.2.2.2.1∧d7 g p.1 (tsa.drop i) (tsb.drop i)=some (r,σ',p.2.2.1)∧p.2.1++p.2.2.1=add)
     (fun i _=>[(6,.bool false),(80,.int .i64 i)]) (fun _ p=>p.2.2.2.2) (by decide +kernel)
     ⟨(σ,[],add,q,s0),⟨hg,hsm,by rw[g9];exact hS0,mI.refl _ _ _ _,h4,rfl⟩,aO.mk (by simp -implicitDefEqProofs only[aA,↓aU,seval])⟩ (fun i x p hx hlt bV hdr hinv=>?_) (fun p hge hinv=>?_)
    case refine_2=>
     obtain⟨σi,ai,rest,qi,si⟩:=p
     obtain⟨i1,i2,i3,i4,i5,i6⟩:=hinv
     simp only at i1 i2 i3 i4 i5 i6
     rw[kK,hlen,kK] at i5
     simp only[d7,Option.some.injEq,Prod.mk.injEq] at i5
     obtain⟨rfl,rfl,rfl⟩:=i5
     rw[g9] at i6
     subst i6
     simp -implicitDefEqProofs only[hge,aA,seval]
     exact⟨qi,i3,hQ0.trans hS0 i4⟩
    obtain⟨σi,ai,rest,qi,si⟩:=p
    obtain⟨i1,i2,i3,i4,i5,i6⟩:=hinv
    simp only at i1 i2 i3 i4 i5 i6
    obtain⟨y,hy⟩:∃y,tsb[i]?=some y:=⟨_,eE (by omega)⟩
    have AB:tsb.drop i=y::tsb.drop (i+1):=by
     obtain⟨h1,h2⟩:=gP.1 hy
     rw[qS h1,h2]
    rw[hdr,AB,d7] at i5
    have f4:=i4.frame b4 _ e4 h4c h4m (hl4 q rfl)
    have f5:=i4.frame b5 _ e5 h5c h5m hl5
    have hw:=bO (n:=(i:Int)+1)
    simp -implicitDefEqProofs only[bV,aA,seval]
    refine wP [(0,1),(1,1),(3,1),(6,1),(8,1),(2,2),(4,1),(5,2),(7,2),(9,1),(10,2),(11,0),(12,1)] [0,1,3,6,8,2,4,5,7,9,10,12] mixed ?_
    simp -implicitDefEqProofs only[f4,f5,bM (av:=Tm.av) aN hx (aJ x),bM (av:=Tm.av) aN hy (aJ y),aA,seval,qN]
    cases hu:dI g σi x y with
    | none=>rw[hu] at i5;cases i5
    | some p1=>
     obtain⟨r1,σ1,tr1⟩:=p1
     rw[hu] at i5
     have hx1:Sm x:=aJ3 x (cP hx)
     have hy1:Sm y:=aJ4 y (cP hy)
     have hU:=wO i1 hu
     have hA:=(M5 a2T g).1 σi x y r1 σ1 tr1 i1 hu i2 hx1 hy1
     have AH:tr1.length≤rest.length:=by
      cases r1 with
      | false=>simp only[Option.some.injEq,Prod.mk.injEq] at i5;rw[i5.2.2];exact c7 _
      | true=>
       simp only at i5
       cases hu2:d7 g σ1 (tsa.drop (i+1)) (tsb.drop (i+1)) with
       | none=>rw[hu2] at i5;cases i5
       | some p2=>
        obtain⟨r2,σ2,tr2⟩:=p2
        rw[hu2] at i5
        simp only[Option.some.injEq,Prod.mk.injEq] at i5
        rw[←i5.2.2,dM];omega
     have aW1:add.length=ai.length+rest.length:=by rw[←i6,dM]
     refine(IH σi x y r1 σ1 tr1 i1 i2 hx1 hy1 hu c m qi (tr++ai) si i3 (by rw[dM];omega)).mono ?_
     rintro _ s2 ⟨rfl,q2,hS2,hQ2⟩
     cases r1 with
     | false=>
      simp only[Option.some.injEq,Prod.mk.injEq] at i5
      obtain⟨rfl,rfl,rfl⟩:=i5
      simp -implicitDefEqProofs only[aA,seval]
      rw[←i6,←nJ]
      exact⟨q2,hS2,hQ0.trans hS0 (i4.trans i3 hQ2)⟩
     | true=>
      simp only at i5
      cases hu2:d7 g σ1 (tsa.drop (i+1)) (tsb.drop (i+1)) with
      | none=>rw[hu2] at i5;cases i5
      | some p2=>
       obtain⟨r2,σ2,tr2⟩:=p2
       rw[hu2] at i5
       simp only[Option.some.injEq,Prod.mk.injEq] at i5
       obtain⟨rfl,rfl,rfl⟩:=i5
       simp -implicitDefEqProofs only[aA,seval]
       exact⟨(σ1,ai++tr1,tr2,q2,s2),⟨hU.gQ,hA,by rw[←nJ];exact hS2,i4.trans i3 hQ2,hu2,by rw[nJ];exact i6⟩,aO.mk (by simp -implicitDefEqProofs only[hw,aA,seval])⟩
  · have hd:ka=kb→na=nb→sa=sb'→¬(tsa.length:Int)=(tsb.length:Int):=by
     intro e1 e2 e3 e4
     have:uB (Tm.mk ka na sa tsa) (Tm.mk kb nb sb' tsb)=true:=sP.2 ⟨e1,e2,e3,by simp only[Tm.ts];omega⟩
     rw[h3] at this;cases this
    by_cases e1:ka=kb
    · by_cases e2:na=nb
      · by_cases e3:sa=sb'
        · have e4:=hd e1 e2 e3
          subst e1 e2 e3
          simp -implicitDefEqProofs only[bZ,bU,h54.symm,h1,aF,e4,aA,seval,qN]
          exact iB _ _
        · subst e1 e2
          simp -implicitDefEqProofs only[bZ,bU,h54.symm,h1,e3,aA,seval,qN]
          exact iB _ _
      · subst e1
        simp -implicitDefEqProofs only[bZ,bU,h54.symm,h1,e2,aA,seval,qN]
        exact iB _ _
    · clear hd
      simp -implicitDefEqProofs only[bZ,h54.symm,h1,h2,e1,aA,seval,qN]
      exact iB _ _
theorem a0G(σ:Sub)(l:List Int)(n:Int):nV (mapOf (σ.out l)) n none=mapOf (σ.out (l++ [n])):=by
 funext x
 unfold nV mapOf Sub.out
 by_cases h:x=n
 · simp [h]
 · simp only[h,dY,fF,I4,dV]
theorem aU5{P:Program}{st:aB}{m:Nat}{σ:Sub}{l:List Int}{t kt et:TypeId}{n:Int}{K:AV→aB→Prop}(hm:st m=some (.map (mapOf (σ.out l))))(hu:P.underlying t=some (.map kt et))(hk:P.underlying kt=some (.int .i64))
 (h:K (.tup []) (st.aC m (.map (mapOf (σ.out (l++ [n])))))):zB P t st (.map m) (.int .i64 n) K:=by
 unfold zB
 simp only[hu,hm,hk]
 rw[a0G]
 exact h
theorem Sub.RP(σ:Sub):σ.out []=σ:=by funext n;simp [Sub.out]
theorem a2N{φ:AF}{d b n k:Nat}(h:φ d=.int .i64 (k:Int))(hk:k=0∨k<n):g7 prog φ 46 (.mslice b 0 n 1) (some (.tmp d)) none none=some (.mslice b k (n - k) 1):=by
 have h1:dZ φ none n n=some n:=rfl
 have h2:dZ φ (some (.tmp d)) 0 n=some k:=by
  unfold dZ
  simp only[show φ.eval (.tmp d)=φ d from rfl,h]
  rw[aH (by omega)]
  simp
 unfold g7 oA
 rw[aE (by simp [qG])]
 simp only[dH,h1,h2]
 by_cases h3:k=0
 · subst h3;simp
 · have h4:k<n:=by omega
   simp [h3,h4]
theorem a2Q{φ:AF}{d b n:Nat}(h:φ d=.int .i64 (n:Int))(hn:n≠0):g7 prog φ 46 (.mslice b 0 n 1) (some (.tmp d)) none none=some .eslice:=by
 have h1:dZ φ none n n=some n:=rfl
 have h2:dZ φ (some (.tmp d)) 0 n=some n:=by
  unfold dZ
  simp only[show φ.eval (.tmp d)=φ d from rfl,h]
  rw[aH (by omega)]
  simp
 unfold g7 oA
 rw[aE (by simp [qG])]
 simp only[dH,h1,h2]
 simp [hn]
theorem SL{φ:AF}{t:TypeId}{ag:Bool}{w d b n k:Nat}(hI:eI prog t=some (ag,w))(h:φ d=.int .i64 (k:Int))(hk:k≤n):g7 prog φ t (.mslice b 0 n w) none (some (.tmp d)) none=some (.mslice b 0 k w):=by
 have h1:dZ φ (some (.tmp d)) n n=some k:=by
  unfold dZ
  simp only[show φ.eval (.tmp d)=φ d from rfl,h]
  rw[aH (by omega)]
  simp
 have h2:dZ φ none 0 k=some 0:=rfl
 unfold g7 oA
 rw[aE (by simp [qG])]
 simp only[hI,h1,h2]
 simp
theorem aMM{φ:AF}{t:TypeId}{ag:Bool}{w d:Nat}(hI:eI prog t=some (ag,w))(h:φ d=.int .i64 0):g7 prog φ t (.fslice []) none (some (.tmp d)) none=some (.fslice []):=by
 have h1:dZ φ (some (.tmp d)) 0 0=some 0:=by
  unfold dZ
  simp only[show φ.eval (.tmp d)=φ d from rfl,h]
  simp
 have h2:dZ φ none 0 0=some 0:=rfl
 unfold g7
 rw[aH ⟨rfl,rfl⟩]
 simp only[hI,h1,h2]
theorem a2O{φ:AF}{d:Nat}(h:φ d=.int .i64 0):g7 prog φ 46 (.fslice []) (some (.tmp d)) none none=some (.fslice []):=by
 have h1:dZ φ none 0 0=some 0:=rfl
 have h2:dZ φ (some (.tmp d)) 0 0=some 0:=by
  unfold dZ
  simp only[show φ.eval (.tmp d)=φ d from rfl,h]
  simp
 unfold g7
 rw[aH ⟨rfl,rfl⟩]
 simp only[dH,h1,h2]
theorem aXP{P:Program}{t:TypeId}{ag:Bool}{b o len w i:Nat}(hI:eI P t=some (ag,w))(hi:i<len):dF P t (.mslice b o len w) (.int .i64 (i:Int))=some (.ptr b (o+i*w)):=by
 unfold dF
 simp only[hI]
 rw[aH ⟨by omega,by omega,trivial⟩]
 simp
abbrev A9:=zi tI_3 (zi zI_3 (zi aX (zi tI_46 (zi zI_46 (zi dH (zi fA (zi eX (zi fB (zi tI_141 (zi zI_141 (zi BG (zi tI_227 (zi zI_227 (zi tI_304 (zi zI_304 (zi CU (zi CV CH)))))))))))))))))
theorem OX(σ:Sub)(tr:List Int)(mark:Nat)(hm:mark≤tr.length)(c m:Nat)(q:AV)(st:aB)(hS:gF st c m q σ tr)(hl:tr.length≤1099511627776) :
 aD prog 299 [.ptr c 0,.int .i64 (mark:Int)] st (fun r st'=>r=.tup []∧∃q',gF st' c m q' (σ.out (tr.drop mark)) (tr.take mark)∧(∀b∈dL q',b∈dL q)∧∀x o,st x=some o→x≠c→x≠m→st' x=some o):=by
 have hcm:=hS.sub.cm
 rcases hS.fE with ⟨rfl,rfl⟩ | ⟨b,cs,rfl,hb,hcs⟩
 · obtain rfl:mark=0:=by simpa using hm
   have e1:=hS.sub.cells
   have hsl:=fun(φ:AF) (d:Nat) (h:φ d=.int .i64 0)=>a2O h
   have hsh:=fun(φ:AF) (d:Nat) (h:φ d=.int .i64 0)=>aMM dH h
   simp only[Int.ofNat_zero]
   refine wF [1000000] 2 func299 ntmps299 rfl rfl ?_
   intro _
   simp -implicitDefEqProofs only[e1,hsl,aA,seval,A9]
   refine eP (σ:=Unit) [1000000] [0,1,11,12] ([]:List Int) (fun i _=>True) (fun i _=>[(13,.int .i64 i)]) (fun _ _=>st) (by decide +kernel) ⟨(),trivial,aO.mk (by simp -implicitDefEqProofs only[aA,↓aU,seval])⟩ (fun i x _ hx hlt bV hdr hinv=>?_) (fun _ hge hinv=>?_)
   · simp at hlt
   · simp -implicitDefEqProofs only[aZ,aK,e1,hsh,aA,seval,A9]
     rw[Sub.RP]
     refine⟨.fslice [],⟨⟨aB.aP _ _ _,?_⟩,.inl ⟨rfl,rfl⟩,by simp [dL]⟩,fun _ h=>h,fun x o h h1 h2=>by rw[aB.aL _ _ h1];exact h⟩
     rw[aB.aL _ _ hcm.symm,hS.sub.map]
 · have e1:=hS.sub.cells
   have hbc:b≠c:=fun e=>hS.apart (by simp [dL,e])
   have hbm:b≠m:=fun e=>hS.LG (by simp [dL,e])
   have hc':∀o,(st.aC m o) c=some (.cells [.map m,.mslice b 0 tr.length 1]):=fun o=>by rw[aB.aL _ _ hcm];exact e1
   have hb':∀o,(st.aC m o) b=some (.cells cs):=fun o=>by rw[aB.aL _ _ hbm];exact hb
   have hm0:st.aC m (.map (mapOf σ))=st:=by
    funext x
    unfold aB.aC
    split
    · rename_i h;rw[h,hS.sub.map]
    · rfl
   have iB:∀st',st'=(st.aC m (.map (mapOf (σ.out (tr.drop mark))))).aC c (.cells [.map m,.mslice b 0 mark 1])→∃q',gF st' c m q' (σ.out (tr.drop mark)) (tr.take mark)∧(∀x∈dL q',x∈dL (.mslice b 0 tr.length 1))∧∀x o,st x=some o→x≠c→x≠m→st' x=some o:=by
    rintro _ rfl
    have hlt:(tr.take mark).length=mark:=by rw[dS];omega
    refine⟨.mslice b 0 mark 1,⟨⟨aB.aP _ _ _,by rw[aB.aL _ _ hcm.symm,aB.aP]⟩,.inr ⟨b,cs,by rw[hlt],by rw[aB.aL _ _ hbc];exact hb' _,?_⟩,by simpa [dL] using dD hbc⟩,fun x h=>h,fun x o h h1 h2=>by rw[aB.aL _ _ h1,aB.aL _ _ h2];exact h⟩
    rw[hlt,E0,←hcs,wZ,lP hm]
   have hsh:=fun(φ:AF) (d:Nat) (h:φ d=.int .i64 (mark:Int))=>SL (b:=b) dH h hm
   by_cases hk:mark=0∨mark<tr.length
   · have hsl:=fun(φ:AF) (d:Nat) (h:φ d=.int .i64 (mark:Int))=>a2N (b:=b) h hk
     refine wF [1000000] 2 func299 ntmps299 rfl rfl ?_
     intro _
     simp -implicitDefEqProofs only[e1,hsl,aA,seval,A9]
     refine eP (σ:=Unit) [1000000] [0,1,11,12] (tr.drop mark) (fun i _=>True) (fun i _=>[(13,.int .i64 i)]) (fun i _=>st.aC m (.map (mapOf (σ.out ((tr.drop mark).take i))))) (by decide +kernel) ⟨(),trivial,by rw[kS,Sub.RP,hm0];exact aO.mk (by simp -implicitDefEqProofs only[aA,↓aU,seval])⟩ (fun i x _ hx hlt bV hdr hinv=>?_) (fun _ hge hinv=>?_)
     · have hw:=wrap64 (n:=(i:Int)+1) (by omega) (by rw[mX] at hlt;omega)
       have htk:(tr.drop mark).take (i+1)=(tr.drop mark).take i++ [x]:=by rw[fG,hx];simp
       rw[mX] at hlt bV
       have a62:decide ((i:Int)<((tr.length - mark:Nat):Int))=true:=by simp;omega
       have hxt:tr[mark+i]?=some x:=by rw[NH] at hx;exact hx
       have aXG:cs=(tr.take (mark+i)).map iv++ [iv x]++((tr.drop (mark+i+1)).map iv++cs.drop tr.length):=by
        have h1:cs=tr.map iv++cs.drop tr.length:=by rw[←hcs];exact(rY _ _).symm
        have h2:tr.map iv=(tr.take (mark+i)).map iv++iv x::(tr.drop (mark+i+1)).map iv:=by
         have h3:tr.drop (mark+i)=x::tr.drop (mark+i+1):=by
          obtain⟨g1,g2⟩:=gP.1 hxt
          rw[qS g1,g2]
         rw[←bA (f:=iv),←h3,←tM,rY]
        rw[h2] at h1
        exact h1.trans (by simp)
       have hA:((tr.take (mark+i)).map iv).length=mark+i:=by simp only[aF,dS];omega
       have hat:=aXP (P:=prog) (b:=b) (o:=mark) (len:=tr.length - mark) (w:=1) (i:=i) dH hlt
       have hcb:=hb' (.map (mapOf (σ.out ((tr.drop mark).take i))))
       rw[aXG] at hcb
       have QA:=hc' (.map (mapOf (σ.out ((tr.drop mark).take i))))
       obtain⟨e1',e2,e3,e4,e5,e6⟩:=Q9 (B:=(tr.drop (mark+i+1)).map iv++cs.drop tr.length) hA
       simp -implicitDefEqProofs only[e6,hat,hcb,QA,bV,uV,aA,seval,A9]
       refine aU5 (aB.aP _ _ _) BG aX ?_
       rw[dC,←htk]
       simp -implicitDefEqProofs only[hw,aA,seval]
       exact⟨(),aO.mk (by simp -implicitDefEqProofs only[aA,seval])⟩
     · rw[eS]
       rw[mX] at hge
       have QA:=hc' (.map (mapOf (σ.out (tr.drop mark))))
       have aXV:decide (((tr.length - mark:Nat):Int)<((tr.length - mark:Nat):Int))=false:=by simp
       simp -implicitDefEqProofs only[QA,hge,mX,aK,hsh,aA,seval,A9]
       exact iB _ rfl
   · obtain rfl:mark=tr.length:=by omega
     have hn0:tr.length≠0:=by omega
     have hsl:=fun(φ:AF) (d:Nat) (h:φ d=.int .i64 (tr.length:Int))=>a2Q (b:=b) h hn0
     refine wF [1000000] 2 func299 ntmps299 rfl rfl ?_
     intro _
     simp -implicitDefEqProofs only[e1,hsl,n9,fB,aA,↓aU,seval,A9]
     refine eP (σ:=Unit) [1000000] [0,1,11,12] ([]:List Int) (fun i _=>True) (fun i _=>[(13,.int .i64 i)]) (fun _ _=>st) (by decide +kernel) ⟨(),trivial,aO.mk (by simp -implicitDefEqProofs only[aA,↓aU,seval])⟩ (fun i x _ hx hlt bV hdr hinv=>?_) (fun _ hge hinv=>?_)
     · simp at hlt
     · simp -implicitDefEqProofs only[aZ,aK,e1,hsh,aA,seval,A9]
       refine iB _ ?_
       rw[kK,Sub.RP,hm0]
def UA(v:Tm)(D:Nat)(cnt cb:Nat)(st:aB)(r:AV)(st':aB):Prop:=
 ∃nP:Nat,nP≤121∧st'=st.aC cb (.cells [.int .i64 nP]) ∧
  if v.flat D=true∧cnt+v.nodes≤120 then r=.tup [v.av,.bool true]∧nP=cnt+v.nodes else r=.tup [Tm.zero.av,.bool false]
theorem D9{α:Type}(f:α→Nat):∀l m:List α,bF f (l++m)=bF f l+bF f m
 | [],m=>by simp [bF]
 | x::l,m=>by simp only[fL,bF,D9 f l m];omega
abbrev Cv (t:Tm):Prop:=t.cv=true
theorem aJE{σ:Sub}{R:Int→Tm}{rk:Int→Nat}{B f:Nat}(G:Good σ R rk B){t:Tm}{k n:Int}{s:ByteArray}{ts:List Tm}(hw:f0 σ f t (.mk k n s ts))(hc:Cv (.mk k n s ts)):t.aG R=.mk k n s (ts.map (Tm.aG R)):=by
 rw[←hw.aG G.v8]
 by_cases hk:k=1
 · rw[Tm.kY R hk,G.free (show σ n=none from hw.end hk)]
   obtain⟨h1,_⟩:=Tm.lR.1 hc
   obtain⟨rfl,rfl⟩:=h1 hk
   rw[hk];try rfl
 · rw[Tm.j4 R hk]
abbrev tA:=zi tI_3 (zi zI_3 (zi aX (zi tI_4 (zi zI_4 (zi cE (zi tI_9 (zi zI_9 (zi cI (zi tI_31 (zi zI_31 (zi aN (zi bG (zi bH (zi b9 (zi tI_66 (zi zI_66 (zi bQ (zi bR (zi bS (zi bT (zi bP (zi tI_202 (zi zI_202 (zi tI_227 zI_227))))))))))))))))))))))))
theorem XC{σ:Sub}{R:Int→Tm}{rk:Int→Nat}{B:Nat}(G:Good σ R rk B)(hcv:cW Cv σ)(hsm:cW Sm σ)(c m cb:Nat)(q:AV)(hcb:cb≠c∧cb≠m) :
 ∀(D:Nat) (t:Tm) (cnt:Nat) (st:aB),D≤31→Cv t→Sm t→cnt≤120→iX st c m q σ→st cb=some (.cells [.int .i64 cnt]) →
 aD prog 356 [.ptr c 0,t.av,.int .i64 (31 - D:Int),.ptr cb 0] st (UA (t.aG R) D cnt cb st)
 | D,t,cnt,st,hD,hct,hst,a6X,hS,hC=>by
  have IH:=fun(D':Nat) (hlt:D'<D) (x:Tm) cnt st=>XC G hcv hsm c m cb q hcb D' x cnt st
  obtain⟨f,hw⟩:=G.wk t
  generalize wk σ t=u at *
  have hcu:=hw.all (p:=Cv) hcv hct
  have hsu:=hw.all (p:=Sm) hsm hst
  have hcw:=fun st (hS:iX st c m q σ)=>J0 hw c m q st hS
  obtain⟨k,n,s,ts⟩:=u
  have hv:=aJE G hw hcu
  rw[hv]
  obtain⟨hlen,pI⟩:=Tm.oR hsu
  obtain⟨_,aXI⟩:=Tm.lR.1 hcu
  refine aD.mK (aD.fin ?_)
  refine wF [1000000,5,10] 4 func356 ntmps356 rfl rfl ?_
  intro _
  simp -implicitDefEqProofs only[aA,seval,tA]
  intro b5 h5 b8 h8
  have h85:b8≠b5:=by rintro rfl;rw[aB.aP] at h8;cases h8
  have hn8:st b8=none:=by rw[aB.aL st _ h85] at h8;exact h8
  have hS':∀o o',iX ((st.aC b5 o).aC b8 o') c m q σ:=fun o o'=>(hS.aC h5).aC (by rw[aB.aL _ _ h85];exact hn8)
  have hb5:cb≠b5:=by rintro rfl;rw[hC] at h5;cases h5
  have hb8:cb≠b8:=by rintro rfl;rw[hC] at hn8;cases hn8
  have hwc:IntKind.i64.wrap ((cnt:Int)+1)=(cnt:Int)+1:=wrap64 (by omega) (by omega)
  simp -implicitDefEqProofs only[h85.symm,aA,seval]
  refine(hcw _ (hS' _ _)).to ?_
  simp only[aV]
  simp -implicitDefEqProofs only[aK,h85.symm,hb5,hb8,hC,hwc,aA,seval,tA]
  have QE:∀(st':aB) (nP:Nat),nP≤121→aM st' (st.aC cb (.cells [.int .i64 nP]))→¬((Tm.mk k n s (ts.map (Tm.aG R))).flat D=true∧cnt+(Tm.mk k n s (ts.map (Tm.aG R))).nodes≤120) →
   ∃b l s0,st'=a7 s0 b l∧(l≠[]→s0 b=none)∧(∀e∈l,e.cF=false)∧gZ l∧∃s2,aM s0 s2∧UA (Tm.mk k n s (ts.map (Tm.aG R))) D cnt cb st (AV.fin b l (.tup [.agg [.int .i64 0,.int .i64 0,.str ⟨#[]⟩,.fslice []],.bool false])) s2:=fun st' nP h1 h2 h3=>by
   refine⟨0,[],st',rfl,by simp,by simp,⟨4,by simp⟩,_,h2,nP,h1,rfl,?_⟩
   rw[aE h3]
   simp only[Tm.zero,aV,fZ,jQ,eG,pC,iY,oD,bA,aW]
  have hdr:∀o5 o8 o5' o8' nP,aM (((((st.aC b5 o5).aC b8 o8).aC b5 o5').aC cb (.cells [.int .i64 nP])).aC b8 o8') (st.aC cb (.cells [.int .i64 nP])):=fun o5 o8 o5' o8' nP x=>by
   by_cases e5:x=b5<;>by_cases e8:x=b8<;>by_cases ec:x=cb<;>simp_all [aB.aC]
  refine cV (fun h=>?_) (fun h=>?_)
  case refine_2=>
   simp -implicitDefEqProofs only[h,aK,h85,hb8.symm,aA,seval,tA]
   refine QE _ (cnt+1) (by omega) (hdr _ _ _ _ _) ?_
   simp at h
   rw[Tm.gI]
   omega
  simp -implicitDefEqProofs only[h,aA,seval]
  simp at h
  refine aQ (fun h2=>?_) (fun h2=>?_)
  · simp only[bJ] at h2
    obtain rfl:D=0:=by omega
    simp -implicitDefEqProofs only[aK,h85,hb8.symm,aA,↓aU,seval,tA]
    exact QE _ (cnt+1) (by omega) (hdr _ _ _ _ _) (by rw[Tm.CX];simp)
  simp only[dJ] at h2
  obtain⟨D',rfl⟩:∃D',D=D'+1:=⟨D - 1,by omega⟩
  have aXJ:IntKind.i64.wrap (31 - ((D':Int)+1)+1)=31 - (D':Int):=by rw[wrap64 (by omega) (by omega)];omega
  simp -implicitDefEqProofs only[aK,hb5.symm,aA,↓aU,seval,tA]
  intro b10 h10
  have PX:b10≠b5:=by rintro rfl;simp [aB.aC,hb5.symm] at h10
  have C0:b10≠b8:=by rintro rfl;simp [aB.aC,h85,hb8.symm] at h10
  have PY:b10≠cb:=by rintro rfl;simp [aB.aC] at h10
  have aYC:st b10=none:=by rw[aB.aL _ _ PY,aB.aL _ _ PX,aB.aL _ _ C0,aB.aL _ _ PX] at h10;exact h10
  simp -implicitDefEqProofs only[hb5.symm,PX.symm,aF,aA,seval,tA]
  rw[aB.wQ h85]
  have hWS:iX ((st.aC b8 (.cells [.int .i64 0,.int .i64 0,.str ⟨#[]⟩,.fslice []])).aC b5 (.cells [.int .i64 k,.int .i64 n,.str s,.slice (ts.map Tm.av)])) c m q σ:=(hS.aC hn8).aC (by rw[aB.aL _ _ h85.symm];exact h5)
  have hW8:((st.aC b8 (.cells [.int .i64 0,.int .i64 0,.str ⟨#[]⟩,.fslice []])).aC b5 (.cells [.int .i64 k,.int .i64 n,.str s,.slice (ts.map Tm.av)])) b8=some (.cells [.int .i64 0,.int .i64 0,.str ⟨#[]⟩,.fslice []]):=by rw[aB.aL _ _ h85,aB.aP]
  have hWd:∀X Y Z,aM (((((st.aC b8 (.cells [.int .i64 0,.int .i64 0,.str ⟨#[]⟩,.fslice []])).aC b5 (.cells [.int .i64 k,.int .i64 n,.str s,.slice (ts.map Tm.av)])).aC cb X).aC b8 Y).aC b10 Z) (st.aC cb X):=fun X Y Z x=>by
   by_cases e5:x=b5<;>by_cases e8:x=b8<;>by_cases ec:x=cb<;>by_cases e10:x=b10<;>simp_all [aB.aC]
  generalize ((st.aC b8 (.cells [.int .i64 0,.int .i64 0,.str ⟨#[]⟩,.fslice []])).aC b5 (.cells [.int .i64 k,.int .i64 n,.str s,.slice (ts.map Tm.av)]))=W at *
  obtain⟨aWV,aWW⟩:=hS.ne aYC
  refine eP (σ:=Nat) [1000000,5,10] [0,2,3,8,10,40,41] ts
   (fun i b=>(((ts.take i).map (Tm.aG R)).map Tm.av≠[]→(aB.aC (W.aC cb (.cells [.int .i64 ((cnt+1+bF Tm.nodes ((ts.take i).map (Tm.aG R)):Nat):Int)])) b10 (.cells ([.int .i64 k,.int .i64 n,.str s]++ [bD 4 b (((ts.take i).map (Tm.aG R)).map Tm.av)]))) b=none) ∧
    cnt+1+bF Tm.nodes ((ts.take i).map (Tm.aG R))≤120∧((ts.take i).map (Tm.aG R)).all (fun x=>x.flat D')=true)
   (fun i b=>[(9,.bool false),(42,.int .i64 i)])
   (fun i b=>fK (W.aC cb (.cells [.int .i64 ((cnt+1+bF Tm.nodes ((ts.take i).map (Tm.aG R)):Nat):Int)])) b10 b [.int .i64 k,.int .i64 n,.str s] (((ts.take i).map (Tm.aG R)).map Tm.av)) (by decide +kernel)
   ⟨0,⟨fun h=>absurd rfl h,by simp [bF];omega,by simp⟩,aO.mk (by simp -implicitDefEqProofs only[aA,↓aU,seval])⟩ (fun i x b hx hlt bV AB hinv=>?_) (fun b hge hinv=>?_)
  · obtain⟨i1,i2,i3⟩:=hinv
    have htk:(ts.take (i+1)).map (Tm.aG R)=(ts.take i).map (Tm.aG R)++ [x.aG R]:=by rw[fG,hx];simp
    have cZ:(((ts.take i).map (Tm.aG R)).map Tm.av).length=i:=by simp only[aF,dS];omega
    have hw:=bO (n:=(i:Int)+1)
    have gX:=cP hx
    generalize hl0:(ts.take i).map (Tm.aG R)=l0 at *
    generalize hc0:cnt+1+bF Tm.nodes l0=c0 at *
    have hWc:(W.aC cb (.cells [.int .i64 (c0:Int)])) cb≠none:=by rw[aB.aP];simp
    have hs1:=gS i1 hWc PY.symm
    have hsS:iX (fK (W.aC cb (.cells [.int .i64 (c0:Int)])) b10 b [.int .i64 k,.int .i64 n,.str s] (l0.map Tm.av)) c m q σ:=by
     have h1:=(hWS.M6 (o:=.cells [.int .i64 (c0:Int)]) hcb.1 hcb.2)
     exact⟨by rw[gS i1 (by rw[h1.cells];simp) aWV.symm];exact h1.cells,by rw[gS i1 (by rw[h1.map];simp) aWW.symm];exact h1.map⟩
    rw[aB.aP] at hs1
    simp -implicitDefEqProofs only[bV,aXJ,bM (av:=Tm.av) aN hx (aJ x),aT,aJ,aA,↓aU,seval,tA]
    refine(IH D' (I5 _) x c0 _ (by omega) (aXI x gX) (pI x gX) i2 hsS hs1).mono ?_
    rintro r s2 ⟨nP,aXD,rfl,hr⟩
    obtain⟨e1,i1'⟩:=qH (o:=.cells [.int .i64 (nP:Int)]) i1 hWc PY.symm
    rw[e1,dC]
    rw[dC] at i1'
    have sR:(ts.map (Tm.aG R))=l0++(x.aG R)::(ts.drop (i+1)).map (Tm.aG R):=by rw[←hl0,←bA,←AB,←tM,rY]
    by_cases hok:(x.aG R).flat D'=true∧c0+(x.aG R).nodes≤120
    · rw[aH hok] at hr
      obtain⟨rfl,rfl⟩:=hr
      have hbo:=eN i1'
      simp -implicitDefEqProofs only[aT,aJ,cC,cG,hbo,mZ,aA,↓aU,seval,tA]
      refine eW aN bG bH rfl rfl (fM (aJ _) (cC _)) (d6 _) i1' (by simp only[cZ,aS,aZ];omega) (by simp only[cZ,aS,aZ];omega) (fun b' hb'=>?_)
      rw[show l0.map Tm.av++ [(x.aG R).av]=((ts.take (i+1)).map (Tm.aG R)).map Tm.av by rw[htk];simp] at hb' ⊢
      obtain⟨g1,g2,g3⟩:=oL hb'
      simp only[fL,eR] at g1 g3
      have hcc:cnt+1+bF Tm.nodes ((ts.take (i+1)).map (Tm.aG R))=c0+(x.aG R).nodes:=by rw[htk,D9,bF,bF,←hc0];omega
      simp -implicitDefEqProofs only[g3,m6,fJ,g1,hw,aK,aA,seval,tA]
      rw[hcc]
      exact⟨b',⟨g2,hok.2,by rw[htk,BP,i3];simp [hok.1]⟩,aO.mk (by simp -implicitDefEqProofs only[aA,seval])⟩
    · rw[aE hok] at hr
      subst hr
      obtain⟨e2,i2'⟩:=qH (x:=b8) (o:=.cells [.int .i64 0,.int .i64 0,.str ⟨#[]⟩,.fslice []]) i1' (by rw[aB.aL _ _ hb8.symm,hW8];simp) C0.symm
      have h8o:=gS i1' (x:=b8) (by rw[aB.aL _ _ hb8.symm,hW8];simp) C0.symm
      rw[aB.aL _ _ hb8.symm,hW8] at h8o
      simp -implicitDefEqProofs only[aK,h8o,Tm.zero,aV,aW,aA,↓aU,seval,tA]
      rw[e2]
      refine QE _ nP aXD (aZV (hWd _ _ _) i2') ?_
      rw[Tm.gI,Tm.rC,sR,BP,kJ,D9,bF]
      rintro⟨h3,h4⟩
      simp only[cA] at h3
      exact hok ⟨h3.2.1,by omega⟩
  · obtain⟨i1,i2,i3⟩:=hinv
    rw[eS] at i1 i2 i3 ⊢
    have hbo:=eN i1
    have hx8:(W.aC cb (.cells [.int .i64 ((cnt+1+bF Tm.nodes (ts.map (Tm.aG R)):Nat):Int)])) b8≠none:=by rw[aB.aL _ _ hb8.symm,hW8];simp
    have h8o:=gS i1 (x:=b8) hx8 C0.symm
    rw[aB.aL _ _ hb8.symm,hW8] at h8o
    simp -implicitDefEqProofs only[aK,hge,hbo,h8o,fJ,aA,seval,tA]
    obtain⟨h5,h6⟩:=kE (o:=.cells [.int .i64 k,.int .i64 n,.str s,bD 4 b ((ts.map (Tm.aG R)).map Tm.av)]) i1 hx8 C0.symm
    have xZ:cnt+(Tm.mk k n s (ts.map (Tm.aG R))).nodes=cnt+1+bF Tm.nodes (ts.map (Tm.aG R)):=by rw[Tm.gI];omega
    refine⟨b,_,_,h5,h6,iU _,⟨4,d6 _⟩,_,?_,_,Nat.le_succ_of_le i2,rfl,?_⟩
    · rw[aB.oU _ _ _ C0]
      exact hWd _ _ _
    · rw[aH ⟨by rw[Tm.rC];exact i3,by rw[xZ];exact i2⟩,xZ]
      refine⟨?_,rfl⟩
      simp only[jQ,fZ,bA,aW,eG,iY,pC,iP,aV]
termination_by D=>D
decreasing_by exact hlt
def LO(v:Tm):AV:=if v.flat 30=true∧v.nodes≤120 then .tup [v.av,.bool true] else .tup [Tm.zero.av,.bool false]
abbrev S0:=zi tI_3 (zi zI_3 (zi aX (zi tI_4 (zi zI_4 (zi cE (zi tI_66 (zi zI_66 (zi bQ (zi bR (zi bS (zi bT (zi bP (zi tI_202 (zi zI_202 (zi tI_227 zI_227)))))))))))))))
theorem XB{σ:Sub}{R:Int→Tm}{rk:Int→Nat}{B:Nat}(G:Good σ R rk B)(hcv:cW Cv σ)(hsm:cW Sm σ)(c m:Nat)(q:AV)(t:Tm)(hct:Cv t)(hst:Sm t)(st:aB)(hS:iX st c m q σ) :
 aD prog 307 [.ptr c 0,t.av] st (fun r st'=>r=LO (t.aG R)∧st'=st):=by
 refine aD.done ?_
 refine wF [1000000,6] 2 func307 ntmps307 rfl rfl ?_
 intro _
 simp -implicitDefEqProofs only[aK,aA,↓aU,seval,S0]
 intro b4 h4 b6 h6
 have hne:b6≠b4:=by rintro rfl;rw[aB.aP] at h6;cases h6
 have hn6:st b6=none:=by rw[aB.aL st _ hne] at h6;exact h6
 have hS':∀o o',iX ((st.aC b4 o).aC b6 o') c m q σ:=fun o o'=>(hS.aC h4).aC (by rw[aB.aL _ _ hne];exact hn6)
 obtain⟨h6c,h6m⟩:=hS.ne hn6
 have hc:=XC G hcv hsm c m b6 q ⟨h6c,h6m⟩ 30 t 0 _ (by omega) hct hst (by omega) (hS' (.cells [.int .i64 0,.int .i64 0,.str ⟨#[]⟩,.fslice []]) (.cells [.int .i64 0])) (aB.aP _ _ _)
 rw[show(31 - ((30:Nat):Int))=1 from rfl] at hc
 refine hc.mono ?_
 rintro r s2 ⟨nP,_,rfl,hr⟩
 unfold LO
 rw[hH] at hr
 split at hr
 · rename_i hok
   obtain⟨rfl,_⟩:=hr
   rw[aH hok]
   simp -implicitDefEqProofs only[bY,cC,aK,hne.symm,aA,seval,S0]
   exact⟨by simp only[k7,sZ,Tm.soft,bA,aW],(((aM.refl _).aC h4).aC hn6).aC h4⟩
 · rename_i hok
   subst hr
   rw[aE hok]
   simp -implicitDefEqProofs only[Tm.zero,aV,aW,aK,hne.symm,aA,seval,S0]
   exact⟨by simp only[kO,k7,j6,sZ,l8,rK,bA,aW],(((aM.refl _).aC h4).aC hn6).aC h4⟩
abbrev a3Y:=zi tI_141 (zi zI_141 (zi BG (zi tI_227 (zi zI_227 (zi tI_304 (zi zI_304 (zi CU (zi CV CH))))))))
theorem aTX(st:aB):aD prog 225 [] st (fun r st'=>∃c m,r=.ptr c 0∧gF st' c m (.fslice []) Sub.none []∧mI c m st (.fslice []) st' (.fslice [])∧st c=none∧st m=none):=by
 refine wF [1000000,3] 0 func225 ntmps225 rfl rfl ?_
 intro _
 simp -implicitDefEqProofs only[aA,seval,a3Y]
 intro m hm c hc
 have hne:c≠m:=by rintro rfl;rw[aB.aP] at hc;cases hc
 have hnc:st c=none:=by rw[aB.aL st _ hne] at hc;exact hc
 refine⟨c,m,rfl,⟨⟨aB.aP _ _ _,by rw[aB.aL _ _ hne.symm,aB.aP];try rfl⟩,.inl ⟨rfl,rfl⟩,by simp [dL]⟩,⟨fun x o h h1 h2 _=>by rw[aB.aL _ _ h1,aB.aL _ _ h2];exact h,by simp [dL]⟩,hnc,hm⟩
theorem iX.acc{st:aB}{c m b:Nat}{q:AV}{σ:Sub}{l:List AV}(h:iX st c m q σ)(hb:l≠[]→st b=none):iX (a7 st b l) c m q σ:=by
 cases l with
 | nil=>exact h
 | cons x l=>exact h.aC (hb (by simp))
abbrev a7I:=zi tI_3 (zi zI_3 (zi aX (zi tI_23 (zi zI_23 (zi X9 (zi X6 (zi YB (zi aOM (zi tI_31 (zi zI_31 (zi aN (zi bG (zi bH (zi b9 (zi tI_66 (zi zI_66 (zi bQ (zi bR (zi bS (zi bT (zi bP (zi tI_90 (zi zI_90 (zi aIT (zi aIU (zi aIV (zi aIW VM)))))))))))))))))))))))))))
abbrev S3:=zi tI_3 (zi zI_3 (zi aX (zi tI_4 (zi zI_4 (zi cE (zi tI_31 (zi zI_31 (zi aN (zi bG (zi bH (zi b9 (zi tI_66 (zi zI_66 (zi bQ (zi bR (zi bS (zi bT bP)))))))))))))))))
theorem V3(l l':List Tm)(g:FuncId)(st:aB)(hc:∀x∈l,∀(y:Tm) (st:aB),aD prog g [Tm.av x,Tm.av y] st (fun r st'=>r=.bool (Tm.same x y)∧st'=st)) :
 aD prog 165 [.slice (l.map Tm.av),.slice (l'.map Tm.av),.func g []] st (fun r st'=>r=.bool (lU Tm.same l l')∧st'=st):=by
 refine wF [1000000] 3 func165 ntmps165 rfl rfl ?_
 simp only[eC,AV.fits,eF,aF]
 intro ⟨⟨hl,_⟩,⟨hl',_⟩⟩
 simp -implicitDefEqProofs only[aF,aA,seval,S3]
 refine⟨fun h4=>?_,fun h4=>?_⟩
 · simp -implicitDefEqProofs only[aA,seval]
   simp only[kQ,dJ] at h4
   rw[PJ _ (show l.length≠l'.length by omega)]
 simp only[qR,bJ] at h4
 have h4':l.length=l'.length:=by omega
 simp -implicitDefEqProofs only[aF,aA,seval,S3]
 refine eP (σ:=Unit) [1000000] [1,2,15,16] l (fun i _=>∀(j:Nat) (x y:Tm),j<i→l[j]?=some x→l'[j]?=some y→Tm.same x y=true) (fun i _=>[(17,.int .i64 i)]) (fun _ _=>st) (by decide +kernel) ⟨(),by intro j x y h;omega,aO.mk (by simp -implicitDefEqProofs only[aA,↓aU,seval])⟩ (fun i x _ hx hlt bV hdr dX=>?_) (fun _ hge dX=>?_)
 case refine_2=>
  simp -implicitDefEqProofs only[hge,aA,seval]
  rw[PG _ h4' (fun j x y h6 h7=>dX j x y (by have:=(gP.1 h6).1;omega) h6 h7)]
 obtain⟨y,hy⟩:∃y,l'[i]?=some y:=⟨_,eE (h4'▸hlt)⟩
 have hw:=bO (n:=(i:Int)+1)
 simp -implicitDefEqProofs only[bV,aT,aJ,cC,cG,bM (av:=Tm.av) aN hx (aJ x),bM (av:=Tm.av) aN hy (aJ y),aA,↓aU,seval,S3]
 refine(hc x (cP hx) y _).to ?_
 simp -implicitDefEqProofs only[aA,seval]
 refine⟨fun h6=>?_,fun h6=>?_⟩
 · simp -implicitDefEqProofs only[aA,seval]
   have h7:Tm.same x y=false:=by simpa using h6
   rw[PH _ i x y hx hy h7]
 have h7:Tm.same x y=true:=by simpa using h6
 simp -implicitDefEqProofs only[aA,seval]
 refine⟨(),fun j u v hj hu hv=>?_,aO.mk (by simp -implicitDefEqProofs only[hw,aA,seval])⟩
 rcases lB j i with h8 | h8
 · exact dX j u v h8 hu hv
 · obtain rfl:j=i:=by omega
   rw[hx] at hu;rw[hy] at hv;cases hu;cases hv;exact h7
abbrev a7J:=zi tI_3 (zi zI_3 (zi aX (zi tI_9 (zi zI_9 (zi cI (zi tI_23 (zi zI_23 (zi X9 (zi X6 (zi YB (zi aOM (zi tI_31 (zi zI_31 (zi aN (zi bG (zi bH (zi b9 (zi tI_66 (zi zI_66 (zi bQ (zi bR (zi bS (zi bT (zi bP (zi tI_90 (zi zI_90 (zi aIT (zi aIU (zi aIV (zi aIW VM))))))))))))))))))))))))))))))
abbrev MC:=zi tI_3 (zi zI_3 (zi aX (zi tI_4 (zi zI_4 (zi cE (zi tI_9 (zi zI_9 (zi cI (zi tI_31 (zi zI_31 (zi aN (zi bG (zi bH (zi b9 (zi tI_66 (zi zI_66 (zi bQ (zi bR (zi bS (zi bT bP))))))))))))))))))))
theorem JU:∀(a b:Tm) (st:aB),aD prog 133 [a.av,b.av] st (fun r st'=>r=.bool (a.same b)∧st'=st)
 | .mk k n s ts,.mk k' n' s' ts',st=>by
  have hc:=V3 ts ts' 133 st fun x hx y st=>JU x y st
  refine wF [] 2 func133 ntmps133 rfl rfl ?_
  intro _
  simp only[aV,Tm.SG]
  simp -implicitDefEqProofs only[aA,seval,MC]
  refine cV (fun h1=>?_) (fun h1=>?_)
  case refine_2=>
   simp -implicitDefEqProofs only[h1,aA,seval]
   simp at h1
   simp []
  simp -implicitDefEqProofs only[h1,aA,seval,MC]
  refine cV (fun h2=>?_) (fun h2=>?_)
  case refine_2=>
   simp -implicitDefEqProofs only[h2,aA,seval]
   simp at h2
   simp []
  simp -implicitDefEqProofs only[h2,aA,seval,MC]
  refine cV (fun h3=>?_) (fun h3=>?_)
  case refine_2=>
   simp -implicitDefEqProofs only[h3,aA,seval]
   simp at h3
   simp []
  simp -implicitDefEqProofs only[h3,aA,seval,MC]
  refine hc.to ?_
  simp -implicitDefEqProofs only[aA,seval]
termination_by a=>SizeOf.sizeOf a
decreasing_by have:=List.sizeOf_lt_of_mem hx;simp only[Tm.mk.sizeOf_spec];omega
abbrev EI:=zi tI_3 (zi zI_3 (zi aX (zi tI_4 (zi zI_4 (zi cE (zi tI_9 (zi zI_9 (zi cI (zi tI_31 (zi zI_31 (zi aN (zi bG (zi bH (zi b9 (zi tI_66 (zi zI_66 (zi bQ (zi bR (zi bS (zi bT bP))))))))))))))))))))
theorem XI:∀(a b:Tm) (st:aB),aD prog 326 [a.av,b.av] st (fun r st'=>r=.bool (a.same b)∧st'=st)
 | .mk k n s ts,.mk k' n' s' ts',st=>by
  have hc:=fun(x:Tm) (hx:x∈ts) y st=>XI x y st
  refine wF [] 2 func326 ntmps326 rfl rfl ?_
  simp only[aV,eC,AV.fits,eF,aF,Tm.SG]
  intro ⟨⟨_,_,_,hl,_⟩,⟨_,_,_,hl',_⟩⟩
  simp -implicitDefEqProofs only[aA,seval,EI]
  refine cV (fun h1=>?_) (fun h1=>?_)
  case refine_2=>
   simp -implicitDefEqProofs only[h1,aA,seval]
   simp at h1
   simp [h1]
  simp -implicitDefEqProofs only[h1,aA,seval,EI]
  refine cV (fun h2=>?_) (fun h2=>?_)
  case refine_2=>
   simp -implicitDefEqProofs only[h2,aA,seval]
   simp at h2
   simp [h2]
  simp -implicitDefEqProofs only[h2,aA,seval,EI]
  refine cV (fun h3=>?_) (fun h3=>?_)
  case refine_2=>
   simp -implicitDefEqProofs only[h3,aA,seval]
   simp at h3
   simp [h3]
  simp -implicitDefEqProofs only[h3,aF,aA,seval,EI]
  refine⟨fun h4=>?_,fun h4=>?_⟩
  · simp -implicitDefEqProofs only[aA,seval]
    simp only[kQ,dJ] at h4
    rw[PJ _ (show ts.length≠ts'.length by omega)]
    simp
  simp -implicitDefEqProofs only[aA,seval]
  simp only[qR,bJ] at h1 h2 h3 h4
  have h4':ts.length=ts'.length:=by omega
  subst h1 h2 h3
  simp only[bU,eV]
  refine wT (α:=Nat) [] (fun i=>i≤ts.length∧∀(j:Nat) (x y:Tm),j<i→ts[j]?=some x→ts'[j]?=some y→Tm.same x y=true)
   (fun i=>[(2,.pptr (.agg [.int .i64 k,.int .i64 n,.str s,.slice (ts.map Tm.av)])),(3,.pptr (.agg [.int .i64 k,.int .i64 n,.str s,.slice (ts'.map Tm.av)])),(5,.int .i64 i)]) (fun _=>st) (fun i=>ts.length - i) (by decide +kernel)
   ⟨0,⟨by omega,by intro j x y h;omega⟩,aO.mk (by simp -implicitDefEqProofs only[aA,↓aU,seval])⟩ ?_
  intro i ⟨hi,dX⟩
  simp -implicitDefEqProofs only[aF,aA,seval,EI]
  refine⟨fun h5=>?_,fun h5=>?_⟩
  case refine_2=>
   simp -implicitDefEqProofs only[aA,seval]
   simp only[dJ,mV] at h5
   rw[PG _ h4' (fun j x y h6 h7=>dX j x y (by have:=(gP.1 h6).1;omega) h6 h7)]
  simp only[bJ,mV] at h5
  obtain⟨x,hx⟩:∃x,ts[i]?=some x:=⟨_,eE h5⟩
  obtain⟨y,hy⟩:∃y,ts'[i]?=some y:=⟨_,eE (h4'▸h5)⟩
  simp -implicitDefEqProofs only[aA,seval]
  refine aQN mixed (by decide +kernel) (by decide +kernel) ?_
  simp -implicitDefEqProofs only[bM (av:=Tm.av) aN hx (aJ x),bM (av:=Tm.av) aN hy (aJ y),aT,aJ,aA,seval,EI]
  refine(hc x (cP hx) y st).to ?_
  simp -implicitDefEqProofs only[aA,seval]
  refine⟨fun h6=>?_,fun h6=>?_⟩
  · simp -implicitDefEqProofs only[aA,seval]
    have h7:Tm.same x y=false:=by simpa using h6
    rw[PH _ i x y hx hy h7]
  have h7:Tm.same x y=true:=by simpa using h6
  simp -implicitDefEqProofs only[aA,seval]
  refine⟨i+1,by omega,⟨by omega,fun j u v hj hu hv=>?_⟩,aO.mk ?_⟩
  · rcases lB j i with h8 | h8
    · exact dX j u v h8 hu hv
    · obtain rfl:j=i:=by omega
      rw[hx] at hu;rw[hy] at hv;cases hu;cases hv;exact h7
  · have:=bO (n:=(i:Int)+1)
    simp -implicitDefEqProofs only[this,aA,seval]
termination_by a=>SizeOf.sizeOf a
decreasing_by have:=List.sizeOf_lt_of_mem hx;simp only[Tm.mk.sizeOf_spec];omega
abbrev a7E:=zi tI_3 (zi zI_3 (zi aX (zi tI_4 (zi zI_4 cE))))
theorem pA(b:Bool)(st:aB):aD prog 359 [.bool b] st (fun r st'=>r=.int .i64 (iM b)∧st'=st):=by
 refine wF [1000000] 1 func359 ntmps359 rfl rfl ?_
 intro _
 simp -implicitDefEqProofs only[aA,seval]
 cases b
 · simp -implicitDefEqProofs only[iM,aA,seval]
 · simp -implicitDefEqProofs only[iM,aA,seval]
abbrev a3E:=zi tI_2 (zi zI_2 (zi M1 (zi tI_3 (zi zI_3 (zi aX (zi tI_66 (zi zI_66 (zi bQ (zi bR (zi bS (zi bT bP)))))))))))
theorem aTZ(n:Int)(st:aB):aD prog 297 [.int .i64 n] st (fun r st'=>r=(nU n).av∧st'=st):=by
 refine aD.done ?_
 refine wF [1000000] 1 func297 ntmps297 rfl rfl ?_
 intro _
 simp -implicitDefEqProofs only[aK,aA,seval,a3E]
 intro b hb
 unfold nU
 exact⟨by simp only[aV,kO,j6,l8,nD,bA,aW,aW],(aM.refl _).aC hb⟩
abbrev SQ:=zi tI_3 (zi zI_3 (zi aX (zi tI_4 (zi zI_4 (zi cE (zi tI_9 (zi zI_9 (zi cI (zi tI_31 (zi zI_31 (zi aN (zi bG (zi bH (zi b9 (zi tI_66 (zi zI_66 (zi bQ (zi bR (zi bS (zi bT (zi bP (zi tI_147 (zi zI_147 (zi iR (zi lS (zi lT mR))))))))))))))))))))))))))
theorem aRV(k n:Int)(s:ByteArray)(ts:List Tm)(st:aB):aD prog 357 [(Tm.mk k n s ts).av] st (fun r st'=>r=.bool (decide (k=3)&&decide ((ts.length:Int)=2)&&gB q9 s)∧st'=st):=by
 simp only[aV]
 refine wF [1000000] 1 func357 ntmps357 rfl rfl ?_
 intro _
 simp -implicitDefEqProofs only[aA,seval,SQ]
 refine cV (fun h=>?_) (fun h=>?_)
 · simp -implicitDefEqProofs only[h,aF,aA,seval,SQ]
   refine cV (fun h2=>?_) (fun h2=>?_)
   · simp -implicitDefEqProofs only[h2,aA,seval,SQ]
     refine(JR q9 s _).to ?_
     simp -implicitDefEqProofs only[aA,seval]
     simp [gB]
   · simp -implicitDefEqProofs only[h2,aA,seval]
     simp []
 · simp -implicitDefEqProofs only[h,aA,seval]
   simp []
abbrev SR:=zi tI_3 (zi zI_3 (zi aX (zi tI_4 (zi zI_4 (zi cE (zi tI_9 (zi zI_9 (zi cI (zi tI_31 (zi zI_31 (zi aN (zi bG (zi bH (zi b9 (zi tI_66 (zi zI_66 (zi bQ (zi bR (zi bS (zi bT bP))))))))))))))))))))
theorem aRU(n:Int)(s:ByteArray)(x y:Tm)(hs:gB q9 s=true){N:Int}(hx:cJ N x)(hy:cJ N y)(st:aB):aD prog 358 [(Tm.mk 3 n s [x,y]).av] st (fun r st'=>r=.int .i64 (xK s x y)∧st'=st):=by
 have d4:dF prog 31 (.slice [x.av,y.av]) (.int .i64 0)=some (.pptr x.av):=bM (av:=Tm.av) (l:=[x,y]) (i:=0) aN rfl (aJ x)
 have gN:dF prog 31 (.slice [x.av,y.av]) (.int .i64 1)=some (.pptr y.av):=bM (av:=Tm.av) (l:=[x,y]) (i:=1) aN rfl (aJ y)
 have hax:=fun st=>JS x st hx
 have hay:=fun st=>JS y st hy
 unfold xK both
 simp only[aV,bA,aW]
 refine wF [1000000] 1 func358 ntmps358 rfl rfl ?_
 intro _
 simp -implicitDefEqProofs only[d4,aT,aJ,aA,seval,SR]
 refine(hax _).to ?_
 generalize x.ev.1=a at *
 generalize x.ev.2=ca at *
 generalize y.ev.1=b at *
 generalize y.ev.2=cb at *
 simp -implicitDefEqProofs only[aA,seval]
 refine aQ (fun h4=>?_) (fun h4=>?_)
 · simp -implicitDefEqProofs only[aA,seval]
   have h4':ca≠0:=by simpa using h4
   rw[aH h4']
 have h4':ca=0:=by simpa using h4
 subst h4'
 rw[aE (by simp)]
 simp -implicitDefEqProofs only[gN,aT,aJ,aA,seval,SR]
 refine(hay _).to ?_
 simp -implicitDefEqProofs only[aA,seval]
 refine aQ (fun h5=>?_) (fun h5=>?_)
 · simp -implicitDefEqProofs only[aA,seval]
   have h5':cb≠0:=by simpa using h5
   rw[aH h5']
 have h5':cb=0:=by simpa using h5
 subst h5'
 rw[aE (by simp)]
 unfold J6
 simp -implicitDefEqProofs only[aA,seval,SR]
 refine aQ (fun h6=>?_) (fun h6=>?_)
 · simp -implicitDefEqProofs only[aA,seval]
   rw[aH (by simpa using h6)]
   refine(pA _ _).to ?_
   simp -implicitDefEqProofs only[aA,seval]
 rw[aE (by simpa using h6)]
 simp -implicitDefEqProofs only[aA,seval]
 refine aQ (fun h7=>?_) (fun h7=>?_)
 · simp -implicitDefEqProofs only[aA,seval]
   rw[aH (by simpa using h7)]
   refine(pA _ _).to ?_
   simp -implicitDefEqProofs only[aA,seval]
 rw[aE (by simpa using h7)]
 simp -implicitDefEqProofs only[aA,seval]
 refine aQ (fun h8=>?_) (fun h8=>?_)
 · simp -implicitDefEqProofs only[aA,seval]
   rw[aH (by simpa using h8)]
   refine(pA _ _).to ?_
   simp -implicitDefEqProofs only[aA,seval]
 rw[aE (by simpa using h8)]
 simp -implicitDefEqProofs only[aA,seval]
 refine aQ (fun h9=>?_) (fun h9=>?_)
 · simp -implicitDefEqProofs only[aA,seval]
   rw[aH (by simpa using h9)]
   refine(pA _ _).to ?_
   simp -implicitDefEqProofs only[aA,seval]
 rw[aE (by simpa using h9)]
 simp -implicitDefEqProofs only[aA,seval]
 refine(pA _ _).to ?_
 simp -implicitDefEqProofs only[aA,seval]
theorem LE{ts:List Tm}(h:ts.length=0):ts= []:=pT h
theorem G8{ts:List Tm}(h:ts.length=1):∃x,ts= [x]:=by
 match ts,h with
 | [x],_=>exact⟨x,rfl⟩
theorem uI{ts:List Tm}(h:ts.length=2):∃x y,ts= [x,y]:=by
 match ts,h with
 | [x,y],_=>exact⟨x,y,rfl⟩
theorem aKS{ts:List Tm}(h:ts.length=3):∃x y z,ts= [x,y,z]:=by
 match ts,h with
 | [x,y,z],_=>exact⟨x,y,z,rfl⟩
theorem aO2{σ:Sub}{f:Nat}{t u:Tm}(h:f0 σ f t u):wk σ u=u:=(f0.stop h.end).wk
end Go.AW
namespace Go.AW

end Go.AW
namespace Go.AW
open Go.Proofs.Tryz
theorem a27{α:Type}(f:α→Nat)(l:List α)(i:Nat):bF f (l.take i)≤bF f l:=by
 have:=D9 f (l.take i) (l.drop i)
 rw[rY] at this
 omega
def Full(v:Tm)(room:Nat)(st:aB)(r:AV)(st':aB):Prop:=
 st'=st∧∃(x:Tm) (left:Int),r=.tup [x.av,.int .i64 left]∧-1≤left∧if v.nodes≤room then x=v∧left=(room:Int) - v.nodes else left<0
abbrev Bt:=Fin 256
def iQ(b:Bt):AV:=.int .u8 (b.val:Int)
theorem JP(b:Bt):(iQ b).width=1:=rfl
def dO(st:aB)(c:Nat)(bs:List Bt)(p:Nat):Prop:=st c=some (.cells [.slice (bs.map iQ),.int .i64 (p:Int)])
def cD(bs:List Bt)(p:Nat):AO:=.cells [.slice (bs.map iQ),.int .i64 (p:Int)]
theorem MI(a b:Nat):(a:Int).tmod (b:Int)=((a % b:Nat):Int):=(Int.ofNat_tmod a b).symm
theorem aM4(a b:Nat):(a:Int).tdiv (b:Int)=((a / b:Nat):Int):=(Int.ofNat_tdiv a b).symm
theorem aPZ(a b:Nat)(ha:a<2 ^ 62)(hb:b<2 ^ 62):∃m:Nat,FI .i64 (a:Int) (b:Int)=(m:Int):=by
 have hx:=Nat.xor_lt_two_pow ha hb
 refine⟨a ^^^ b,?_⟩
 unfold FI
 show IntKind.i64.wrap (((BitVec.ofInt 64 (a:Int) ^^^ BitVec.ofInt 64 (b:Int)).toNat:Nat):Int)=_
 rw[BitVec.ofInt_natCast,BitVec.ofInt_natCast,BitVec.toNat_xor,BitVec.toNat_ofNat,BitVec.toNat_ofNat,Nat.mod_eq_of_lt (by omega),Nat.mod_eq_of_lt (by omega)]
 rw[wrap64 (by omega) (by omega)]
abbrev HY:=zi tI_3 (zi zI_3 (zi aX (zi tI_5 (zi zI_5 (zi lM (zi tI_40 (zi zI_40 (zi sH (zi zS (zi zW (zi yN (zi tI_116 (zi zI_116 (zi tI_184 (zi zI_184 (zi aIC (zi aID VH)))))))))))))))))
theorem nN(bs:List Bt)(c p:Nat)(hp:p≤1099511627776)(n:Nat)(hn:1≤n)(hn2:n≤1048576)(st:aB)(h:dO st c bs p) :
 aD prog 96 [.ptr c 0,.int .i64 (n:Int)] st (fun r st'=>∃k:Nat,k<n∧r=.int .i64 (k:Int)∧st'=st.aC c (cD bs (p+1))):=by
 unfold dO at h
 refine wF [1000000] 2 func96 ntmps96 rfl rfl ?_
 intro _
 have hw1:IntKind.i64.wrap ((p:Int)+1)=(p:Int)+1:=wrap64 (by omega) (by omega)
 simp -implicitDefEqProofs only[aK,h,hw1,aA,seval,HY]
 have hn1:¬(n:Int)<1:=by omega
 have hw2:IntKind.i64.wrap ((p:Int)+1 - 1)=(p:Int):=by rw[wrap64 (by omega) (by omega)];omega
 have hst:∀(q:aB),q c=some (.cells [.slice (bs.map iQ),.int .i64 ((p:Int)+1)])→True:=fun _ _=>trivial
 have hrd:cD bs (p+1)=.cells [.slice (bs.map iQ),.int .i64 ((p:Int)+1)]:=by simp [cD]
 rw[hrd]
 refine cV (fun h1=>?_) (fun h1=>?_)
 case refine_2=>simp [hn1] at h1
 simp -implicitDefEqProofs only[bZ,fR,hn1,aF,aA,seval,HY]
 refine aQ (fun h2=>?_) (fun h2=>?_)
 · simp -implicitDefEqProofs only[aA,seval]
   exact⟨0,by omega,rfl⟩
 simp -implicitDefEqProofs only[hw2,aF,aA,seval,HY]
 have hbl:bs.length≠0:=by simpa using h2
 refine aQ (fun h3=>?_) (fun h3=>?_)
 · simp only[bJ] at h3
   obtain⟨x,hx⟩:∃x,bs[p]?=some x:=⟨_,eE (by omega)⟩
   have hx2:=x.isLt
   have hb1:IntKind.i64.wrap (x.val:Int)=(x.val:Int):=wrap64 (by omega) (by omega)
   have hn0:¬(n:Int)=0:=by omega
   have P3:dF prog 40 (.slice (bs.map iQ)) (.int .i64 (p:Int))=some (.pptr (.int .u8 x.val)):=bM (av:=iQ) sH hx (JP x)
   simp -implicitDefEqProofs only[P3,tR,hb1,hn0,aA,seval,HY]
   exact⟨x.val % n,yZ _ (by omega),by rw[MI]⟩
 · simp only[dJ] at h3
   obtain⟨x,hx⟩:∃x,bs[p % bs.length]?=some x:=⟨_,eE (yZ _ (by omega))⟩
   obtain⟨y,hy⟩:∃y,bs[(p*7+3) % bs.length]?=some y:=⟨_,eE (yZ _ (by omega))⟩
   have hx2:=x.isLt
   have hy2:=y.isLt
   have hl0:¬(bs.length:Int)=0:=by omega
   simp -implicitDefEqProofs only[aA,seval]
   refine ET [(0,1),(1,1),(2,1),(3,1),(4,1),(5,1),(6,1),(7,1),(8,1),(9,1),(10,1),(11,1),(12,1),(13,1),(14,1),(15,1),(16,1),(17,1),(18,1),(19,1),(20,1),(21,1),(22,1),(23,1),(24,1),(25,1),(26,1),(27,1),(28,1),(29,1),(30,1),(31,1),(32,1),(33,1),(34,1),(35,1),(36,1),(37,1),(38,1),(39,1),(40,1),(41,1),(42,1),(43,1),(44,1),(45,1)] [0,1,2,3,4,5,6,7,8,9,10,11,12,13,14,15,16,17,18,19,20,21,22,23,24,25,26,27,28,29,30,31,32,33,34,35,36,37,38,39,40,41,42,43,44,45] (eH.aC c (.cells [.slice (bs.map iQ),.int .i64 ((p:Int)+1)])) mixed (by decide +kernel) (by decide +kernel) (by decide +kernel) rfl (iF (aB.aP _ _ _)) ?_
   have e7:IntKind.i64.wrap ((p:Int)*7)=(p:Int)*7:=wrap64 (by omega) (by omega)
   have e8:IntKind.i64.wrap ((p:Int)*7+3)=(p:Int)*7+3:=wrap64 (by omega) (by omega)
   have e9:((p:Int)*7+3).tmod (bs.length:Int)=(((p*7+3) % bs.length:Nat):Int):=by rw[←MI];congr 1
   have f1:IntKind.i64.wrap ((x.val:Int)*131)=(x.val:Int)*131:=wrap64 (by omega) (by omega)
   have f2:IntKind.i64.wrap ((y.val:Int)*1117)=(y.val:Int)*1117:=wrap64 (by omega) (by omega)
   have f3:IntKind.i64.wrap ((x.val:Int)*131+(y.val:Int)*1117)=(x.val:Int)*131+(y.val:Int)*1117:=wrap64 (by omega) (by omega)
   have f4:IntKind.i64.wrap ((p:Int)*29)=(p:Int)*29:=wrap64 (by omega) (by omega)
   have f5:IntKind.i64.wrap ((x.val:Int)*131+(y.val:Int)*1117+(p:Int)*29)=(x.val:Int)*131+(y.val:Int)*1117+(p:Int)*29:=wrap64 (by omega) (by omega)
   have hb1:IntKind.i64.wrap (x.val:Int)=(x.val:Int):=wrap64 (by omega) (by omega)
   have hb2:IntKind.i64.wrap (y.val:Int)=(y.val:Int):=wrap64 (by omega) (by omega)
   generalize hjx:p % bs.length=jx at *
   generalize hjy:(p*7+3) % bs.length=jy at *
   have e10:(p:Int).tmod (bs.length:Int)=(jx:Int):=by rw[MI,hjx]
   have P3:dF prog 40 (.slice (bs.map iQ)) (.int .i64 (jx:Int))=some (.pptr (.int .u8 x.val)):=bM (av:=iQ) sH hx (JP x)
   have aW6:dF prog 40 (.slice (bs.map iQ)) (.int .i64 (jy:Int))=some (.pptr (.int .u8 y.val)):=bM (av:=iQ) sH hy (JP y)
   have hdv:p / bs.length≤p:=Nat.div_le_self _ _
   generalize hq:p / bs.length=q at *
   have hqq:IntKind.i64.wrap ((p:Int).tdiv (bs.length:Int))=(q:Int):=by rw[aM4,hq,wrap64 (by omega) (by omega)]
   have f6:IntKind.i64.wrap ((q:Int)*53)=(q:Int)*53:=wrap64 (by omega) (by omega)
   obtain⟨z,hz,hz2⟩:∃z:Nat,(x.val:Int)*131+(y.val:Int)*1117+(p:Int)*29+(q:Int)*53=(z:Int)∧z<2 ^ 61:=⟨x.val*131+y.val*1117+p*29+q*53,by omega,by omega⟩
   have f7:IntKind.i64.wrap ((x.val:Int)*131+(y.val:Int)*1117+(p:Int)*29+(q:Int)*53)=(z:Int):=by rw[hz];exact wrap64 (by omega) (by omega)
   have a7B:z / 64≤z:=Nat.div_le_self _ _
   obtain⟨m,hm⟩:=aPZ z (z / 64) (by omega) (by omega)
   have f8:IntKind.i64.wrap ((z:Int).tdiv 64)=((z / 64:Nat):Int):=by rw[show(64:Int)=((64:Nat):Int) from rfl,aM4,wrap64 (by omega) (by omega)]
   generalize z / 64=z2 at *
   have hn0:¬(n:Int)=0:=by omega
   simp -implicitDefEqProofs only[aF,hl0,e7,e8,e9,e10,f1,f2,f3,f4,f5,f6,f7,f8,hm,hn0,P3,aW6,hb1,hb2,hqq,tR,aA,seval,HY]
   exact⟨m % n,yZ _ (by omega),rfl⟩
abbrev aM7:=zi tI_3 (zi zI_3 (zi aX (zi tI_46 (zi zI_46 (zi dH (zi fA (zi eX (zi fB (zi tI_116 zI_116)))))))))
theorem aTY(l:List Int)(h1:1≤l.length)(h2:l.length≤1048576)(bs:List Bt)(c p:Nat)(hp:p≤1099511627776)(st:aB)(h:dO st c bs p) :
 aD prog 94 [.ptr c 0,.slice (l.map iv)] st (fun r st'=>∃x∈l,r=.int .i64 x∧st'=st.aC c (cD bs (p+1))):=by
 refine wF [1000000] 2 func94 ntmps94 rfl rfl ?_
 intro _
 simp -implicitDefEqProofs only[aF,aA,seval,aM7]
 refine(nN bs c p hp l.length h1 h2 st h).mono ?_
 rintro _ _ ⟨k,hk,rfl,rfl⟩
 obtain⟨x,hx⟩:∃x,l[k]?=some x:=⟨_,eE hk⟩
 have hat:=bM (av:=iv) dH hx rfl
 simp -implicitDefEqProofs only[hat,aA,seval,aM7]
 exact⟨x,cP hx,rfl⟩
theorem xI(l:List Int)(h1:1≤l.length)(h2:l.length≤1048576)(bs:List Bt)(c p:Nat)(hp:p≤1099511627776)(st:aB)(h:dO st c bs p) :
 aD prog 94 [.ptr c 0,.fslice (l.map iv)] st (fun r st'=>∃x∈l,r=.int .i64 x∧st'=st.aC c (cD bs (p+1))):=
 aD.oS (by simp only[gY,AV.soft];exact aTY l h1 h2 bs c p hp st h)
abbrev aM6:=zi tI_3 (zi zI_3 (zi aX (zi tI_9 (zi zI_9 (zi cI (zi tI_116 (zi zI_116 (zi tI_147 (zi zI_147 (zi iR (zi lS (zi lT mR))))))))))))
theorem aT1(l:List ByteArray)(h1:1≤l.length)(h2:l.length≤1048576)(bs:List Bt)(c p:Nat)(hp:p≤1099511627776)(st:aB)(h:dO st c bs p) :
 aD prog 184 [.ptr c 0,.slice (l.map AV.str)] st (fun r st'=>∃x∈l,r=.str x∧st'=st.aC c (cD bs (p+1))):=by
 refine wF [1000000] 2 func184 ntmps184 rfl rfl ?_
 intro _
 simp -implicitDefEqProofs only[aF,aA,seval,aM6]
 refine(nN bs c p hp l.length h1 h2 st h).mono ?_
 rintro _ _ ⟨k,hk,rfl,rfl⟩
 obtain⟨x,hx⟩:∃x,l[k]?=some x:=⟨_,eE hk⟩
 have hat:=bM (av:=AV.str) iR hx rfl
 simp -implicitDefEqProofs only[hat,aA,seval,aM6]
 exact⟨x,cP hx,rfl⟩
theorem FU(l:List ByteArray)(h1:1≤l.length)(h2:l.length≤1048576)(bs:List Bt)(c p:Nat)(hp:p≤1099511627776)(st:aB)(h:dO st c bs p) :
 aD prog 184 [.ptr c 0,.fslice (l.map AV.str)] st (fun r st'=>∃x∈l,r=.str x∧st'=st.aC c (cD bs (p+1))):=
 aD.oS (by simp only[gY,AV.soft];exact aT1 l h1 h2 bs c p hp st h)
abbrev SV:=zi tI_3 (zi zI_3 (zi aX (zi tI_40 (zi zI_40 (zi sH (zi zS (zi zW (zi yN (zi tI_116 (zi zI_116 (zi tI_184 (zi zI_184 (zi aIC (zi aID VH))))))))))))))
theorem aSE(bs:List Bt)(st:aB):aD prog 93 [.slice (bs.map iQ)] st (fun r st'=>∃c bs',r=.ptr c 0∧st c=none∧st'=st.aC c (cD bs' 0)):=by
 refine wF [1000000,10] 1 func93 ntmps93 rfl rfl ?_
 simp only[eC,AV.fits,eF,aF]
 intro ⟨hl,_⟩
 have hs:bs.length>2000→∀φ,g7 prog φ 40 (.slice (bs.map iQ)) none (some (.const (.int .i64 2000))) none=some (.slice ((bs.take 2000).map iQ)):=fun h φ=>by
  have h2:((0:Int)≤2000∧(2000:Int)≤(bs.map iQ).length):=⟨by omega,by rw[aF];omega⟩
  have h3:dZ φ (some (.const (.int .i64 2000))) (bs.map iQ).length (bs.map iQ).length=some 2000:=by
   show(if((0:Int)≤2000∧(2000:Int)≤(bs.map iQ).length) then some (Int.toNat 2000) else none)=some 2000
   exact aH h2
  unfold g7 oA
  rw[aE (by simp [qG])]
  simp only[sH]
  have h4:dZ φ none (bs.map iQ).length (bs.map iQ).length=some (bs.map iQ).length:=rfl
  rw[h4]
  simp only[h3]
  have h5:dZ φ none 0 2000=some 0:=rfl
  rw[h5]
  simp
 simp -implicitDefEqProofs only[aF,aA,seval,SV]
 refine aQ (fun h=>?_) (fun h=>?_)
 · simp only[bJ] at h
   have hs':=hs (by omega)
   simp -implicitDefEqProofs only[hs',aA,seval,SV]
   intro b hb
   exact⟨b,bs.take 2000,rfl,hb,by simp [cD]⟩
 · simp -implicitDefEqProofs only[aA,seval,SV]
   intro b hb
   exact⟨b,bs,rfl,hb,by simp [cD]⟩
abbrev a3H:=zi tI_3 (zi zI_3 (zi aX (zi tI_66 (zi zI_66 (zi bQ (zi bR (zi bS (zi bT bP))))))))
theorem JW(n:Int)(st:aB):aD prog 181 [.int .i64 n] st (fun r st'=>r=(vr n).av∧st'=st):=by
 refine aD.done ?_
 refine wF [1000000] 1 func181 ntmps181 rfl rfl ?_
 intro _
 simp -implicitDefEqProofs only[aK,aA,seval,a3H]
 intro b hb
 exact⟨by simp only[vr,aV,kO,j6,l8,nD,bA,aW],(aM.refl _).aC hb⟩
abbrev a3I:=zi tI_2 (zi zI_2 (zi M1 (zi tI_3 (zi zI_3 (zi aX (zi tI_66 (zi zI_66 (zi bQ (zi bR (zi bS (zi bT bP)))))))))))
theorem CJ(n:Int)(st:aB):aD prog 182 [.int .i64 n] st (fun r st'=>r=(Tm.mk 2 n ⟨#[]⟩ []).av∧st'=st):=by
 refine aD.done ?_
 refine wF [1000000] 1 func182 ntmps182 rfl rfl ?_
 intro _
 simp -implicitDefEqProofs only[aK,aA,seval,a3I]
 intro b hb
 exact⟨by simp only[aV,kO,j6,l8,nD,bA,aW],(aM.refl _).aC hb⟩
abbrev L4:=zi tI_3 (zi zI_3 (zi aX (zi tI_9 (zi zI_9 (zi cI (zi tI_31 (zi zI_31 (zi aN (zi bG (zi bH (zi b9 (zi tI_66 (zi zI_66 (zi bQ (zi bR (zi bS (zi bT bP)))))))))))))))))
theorem aST(s:ByteArray)(l:List Tm)(hl:l.length≤1048576)(st:aB):aD prog 183 [.str s,.slice (l.map Tm.av)] st (fun r st'=>r=(Tm.mk 3 0 s l).av∧st'=st):=by
 refine aD.pZ (aD.fin ?_)
 refine wF [1000000] 2 func183 ntmps183 rfl rfl ?_
 intro _
 simp -implicitDefEqProofs only[aA,seval,L4]
 intro b hb
 change j7 prog 31 (a7 (st.aC b (.cells [.int .i64 0,.int .i64 0,.str ⟨#[]⟩,.fslice []])) 0 []) (bD 4 0 []) (.slice (l.map Tm.av)) _
 refine eW aN bG bH rfl rfl (by intro e he;simp only[cS] at he;obtain⟨t,_,rfl⟩:=he;exact⟨aJ _,cC _⟩) (by simp) (fun h=>absurd rfl h) (by simp only[aZ,aF];omega) (by simp only[aZ,aF];omega) (fun b' hb'=>?_)
 rw[eR] at hb' ⊢
 have hne:l.map Tm.av≠[]→b≠b':=fun h e=>by have:=hb' h;rw[←e,aB.aP] at this;cases this
 have h1:a7 (st.aC b (.cells [.int .i64 0,.int .i64 0,.str ⟨#[]⟩,.fslice []])) b' (l.map Tm.av) b=some (.cells [.int .i64 0,.int .i64 0,.str ⟨#[]⟩,.fslice []]):=by
  by_cases h:l.map Tm.av= []
  · rw[h,xF,aB.aP]
  · rw[oY (hne h),aB.aP]
 simp -implicitDefEqProofs only[aK,h1,m6,fJ,nL,aA,seval,L4]
 rw[oZ hne,dC]
 exact⟨b',l.map Tm.av,st.aC b _,rfl,fun h=>by rw[aB.aL _ _ (dD (hne h))];have:=hb' h;rwa [aB.aL _ _ (dD (hne h))] at this,iU _,⟨4,d6 _⟩,by simp only[aV,fZ,eG,iY,lV,bA,aW],(aM.refl _).aC hb⟩
theorem sB(s:ByteArray)(l:List Tm)(hl:l.length≤1048576)(st:aB):aD prog 183 [.str s,.fslice (l.map Tm.av)] st (fun r st'=>r=(Tm.mk 3 0 s l).av∧st'=st):=
 aD.oS (by simp only[gY,AV.soft];exact aST s l hl st)
theorem aSU(s:ByteArray)(st:aB):aD prog 183 [.str s,.fslice []] st (fun r st'=>r=.agg [.int .i64 3,.int .i64 0,.str s,.fslice []]∧st'=st):=by
 refine aD.drop ?_
 refine wF [1000000] 2 func183 ntmps183 rfl rfl ?_
 intro _
 simp -implicitDefEqProofs only[aA,seval,L4]
 intro b hb
 change j7 prog 31 (a7 (st.aC b (.cells [.int .i64 0,.int .i64 0,.str ⟨#[]⟩,.fslice []])) 0 []) (bD 4 0 []) (.fslice ([]:List AV)) _
 refine eW aN bG bH rfl rfl (by simp [vB]) (by simp) (fun h=>absurd rfl h) (by simp) (by simp) (fun b' hb'=>?_)
 simp only[g9,jG,xF]
 simp -implicitDefEqProofs only[aK,aA,seval,L4]
 exact(aM.refl _).aC hb
abbrev Dn (t:Tm):Prop:=t.cv=true∧t.small=true
theorem PD(n:Int):Dn (vr n):=by
 refine⟨Tm.lR.2 ⟨fun _=>⟨rfl,rfl⟩,fun x hx=>by cases hx⟩,?_⟩
 simp [vr,Tm.small,IE]
theorem xN{k n:Int}{s:ByteArray}{ts:List Tm}(hk:k≠1)(hl:ts.length≤1048576)(h:∀x∈ts,Dn x):Dn (.mk k n s ts):=by
 refine⟨Tm.lR.2 ⟨fun h=>absurd h hk,fun x hx=>(h x hx).1⟩,?_⟩
 simp only[Tm.small,EL,cA,bJ,dW]
 exact⟨hl,fun x hx=>(h x hx).2⟩
def Dr(bs:List Bt)(c p m:Nat)(st:aB)(Q:AV→Prop)(r:AV)(st':aB):Prop:=∃p',p≤p'∧p'≤p+m∧st'=st.aC c (cD bs p')∧Q r
def ND(r:AV):Prop:=∃t:Tm,Dn t∧r=t.av
theorem dO.aC{st:aB}{c p:Nat}{bs:List Bt}{b:Nat}{o:AO}(h:dO st c bs p)(hb:b≠c):dO (st.aC b o) c bs p:=by unfold dO;rw[aB.aL _ _ (dD hb)];exact h
theorem dO.new{st:aB}{c p:Nat}{bs:List Bt}:dO (st.aC c (cD bs p)) c bs p:=aB.aP _ _ _
theorem dO.ne{st:aB}{c p:Nat}{bs:List Bt}{b:Nat}(h:dO st c bs p)(hb:st b=none):b≠c:=by rintro rfl;rw[dO,hb] at h;cases h
abbrev l9:=zi tI_3 (zi zI_3 (zi aX (zi tI_4 (zi zI_4 (zi cE (zi tI_9 (zi zI_9 (zi cI (zi tI_31 (zi zI_31 (zi aN (zi bG (zi bH (zi b9 (zi tI_46 (zi zI_46 (zi dH (zi fA (zi eX (zi fB (zi tI_66 (zi zI_66 (zi bQ (zi bR (zi bS (zi bT (zi bP (zi tI_116 (zi zI_116 (zi tI_147 (zi zI_147 (zi iR (zi lS (zi lT mR))))))))))))))))))))))))))))))))))
theorem WK(bs:List Bt)(c:Nat):∀(d p:Nat) (st:aB),d≤10→p+4 ^ (d+2)≤1099511627776→dO st c bs p→aD prog 103 [.ptr c 0,.int .i64 (d:Int)] st (Dr bs c p (4 ^ (d+2)) st ND)
 | d,p,st,hd,hp,hR=>by
  have IH:=fun(d':Nat) (hlt:d'<d) p st=>WK bs c d' p st
  refine aD.mK (aD.fin ?_)
  refine wF [1000000,5] 2 func103 ntmps103 rfl rfl ?_
  intro _
  simp -implicitDefEqProofs only[aA,seval,l9]
  intro b4 h4
  have h4c:=hR.ne h4
  have hR':=fun o=>hR.aC (o:=o) h4c
  have uG:64≤4 ^ (d+2)∨d=0:=by
   cases d with
   | zero=>exact .inr rfl
   | succ d=>
    left
    have:4 ^ (d+1+2)=64*4 ^ d:=by rw[show d+1+2=d+3 by omega,Nat.pow_add];omega
    have:=Nat.one_le_two_pow (n:=d);have:1≤4 ^ d:=Nat.one_le_pow _ _ (by omega);omega
  have aYN:16≤4 ^ (d+2):=by rcases uG with h | rfl<;>omega
  have jY:∀(o o':AO) (q:Nat) (t:Tm),p≤q→q≤p+4 ^ (d+2)→Dn t→∃b l s0,((st.aC b4 o).aC c (cD bs q)).aC b4 o'=a7 s0 b l∧(l≠[]→s0 b=none)∧(∀e∈l,e.cF=false)∧gZ l∧∃s2,aM s0 s2∧Dr bs c p (4 ^ (d+2)) st ND (AV.fin b l t.av) s2:=fun o o' q t h1 h2 h3=>by
   refine⟨0,[],_,rfl,by simp,by simp,⟨4,by simp⟩,st.aC c (cD bs q),?_,q,h1,h2,rfl,t,h3,Tm.vQ t 0⟩
   intro x
   by_cases e4:x=b4<;>by_cases ec:x=c<;>simp_all [aB.aC]
  refine cV (fun h=>?_) (fun h=>?_)
  case refine_2=>
   simp -implicitDefEqProofs only[h,aA,seval]
   have hRq:=hR' (.cells [.int .i64 0,.int .i64 0,.str ⟨#[]⟩,.fslice []])
   have hq:p+1≤1099511627776:=by omega
   have:=h4c.symm
   refine(nN bs c (p) (by omega) 4 (by omega) (by omega) _ hRq).mono ?_
   rintro _ _ ⟨k,hk,rfl,rfl⟩
   try rw[dC]
   simp -implicitDefEqProofs only[aA,seval]
   refine aQ (fun h1=>?_) (fun h1=>?_)
   · simp -implicitDefEqProofs only[aA,seval]
     refine(nN bs c (p+1) (by omega) 4 (by omega) (by omega) _ dO.new).mono ?_
     rintro _ _ ⟨k2,hk2,rfl,rfl⟩
     rw[dC]
     simp -implicitDefEqProofs only[aA,seval]
     refine(JW (k2:Int) _).to ?_
     simp -implicitDefEqProofs only[bY,cC,eO (bY _),eK (aT _),aK,h4c,aA,seval,l9]
     exact jY _ _ _ (vr k2) (by omega) (by omega) (PD _)
   simp -implicitDefEqProofs only[aA,seval]
   refine aQ (fun h2=>?_) (fun h2=>?_)
   · simp -implicitDefEqProofs only[aA,seval,l9]
     refine(xI [0,1,7,-3,999,-999] (by simp) (by simp) bs c (p+1) (by omega) _ dO.new).mono ?_
     rintro _ _ ⟨x,hx,rfl,rfl⟩
     rw[dC]
     simp -implicitDefEqProofs only[aA,seval]
     refine(CJ x _).to ?_
     simp -implicitDefEqProofs only[bY,cC,eO (bY _),eK (aT _),aK,h4c,aA,seval,l9]
     exact jY _ _ _ (.mk 2 x ⟨#[]⟩ []) (by omega) (by omega) (xN (by omega) (by simp) (by simp))
   · simp -implicitDefEqProofs only[aA,seval,l9]
     refine(FU [⟨#[97]⟩,⟨#[98]⟩,⟨#[110,105,108]⟩,⟨#[91,93]⟩,⟨#[102,111,111]⟩,⟨#[43]⟩] (by simp) (by simp) bs c (p+1) (by omega) _ dO.new).mono ?_
     rintro _ _ ⟨x,hx,rfl,rfl⟩
     rw[dC]
     simp -implicitDefEqProofs only[aA,seval]
     refine(sB x [] (by simp) _).to ?_
     simp -implicitDefEqProofs only[bY,cC,eO (bY _),eK (aT _),aK,h4c,aA,seval,l9]
     exact jY _ _ _ (.mk 3 0 x []) (by omega) (by omega) (xN (by omega) (by simp) (by simp))
  simp -implicitDefEqProofs only[h,aA,seval]
  have hd2:2≤d:=by simp at h;omega
  have hwx:∀z:Int,z=(d:Int)→IntKind.i64.wrap (z - 1)=z - 1:=fun z hz=>wrap64 (by omega) (by omega)
  obtain⟨d',rfl⟩:∃d',d=d'+1:=⟨d - 1,by omega⟩
  have hpd:4 ^ (d'+1+2)=4*4 ^ (d'+2):=by rw[show d'+1+2=d'+2+1 by omega,Nat.pow_succ];omega
  have hp4:4≤4 ^ (d'+2):=by have:1≤4 ^ d':=Nat.one_le_pow _ _ (by omega);rw[Nat.pow_add];omega
  have hwd:IntKind.i64.wrap (((d'+1:Nat):Int) - 1)=(d':Int):=by rw[wrap64 (by omega) (by omega)];omega
  have QX:IntKind.i64.wrap ((d':Int)+1 - 1)=(d':Int):=by rw[wrap64 (by omega) (by omega)];omega
  have IHd:=fun p st=>IH d' (I5 _) p st
  generalize hM:4 ^ (d'+2)=M at *
  rw[hpd] at hp aYN
  refine(nN bs c p (by omega) 4 (by omega) (by omega) _ (hR' _)).mono ?_
  rintro _ _ ⟨k,hk,rfl,rfl⟩
  simp -implicitDefEqProofs only[aA,seval]
  refine aQ (fun h1=>?_) (fun h1=>?_)
  · have hRq:dO ((st.aC b4 (.cells [.int .i64 0,.int .i64 0,.str ⟨#[]⟩,.fslice []])).aC c (cD bs (p+1))) c bs (p+1):=dO.new
    simp -implicitDefEqProofs only[aA,seval]
    refine(nN bs c (p+1) (by omega) 4 (by omega) (by omega) _ hRq).mono ?_
    rintro _ _ ⟨k,hk,rfl,rfl⟩
    try rw[dC]
    simp -implicitDefEqProofs only[aA,seval]
    refine aQ (fun h1=>?_) (fun h1=>?_)
    · simp -implicitDefEqProofs only[aA,seval]
      refine(nN bs c (p+1+1) (by omega) 4 (by omega) (by omega) _ dO.new).mono ?_
      rintro _ _ ⟨k2,hk2,rfl,rfl⟩
      rw[dC]
      simp -implicitDefEqProofs only[aA,seval]
      refine(JW (k2:Int) _).to ?_
      simp -implicitDefEqProofs only[bY,cC,eO (bY _),eK (aT _),aK,h4c,aA,seval,l9]
      exact jY _ _ _ (vr k2) (by omega) (by omega) (PD _)
    simp -implicitDefEqProofs only[aA,seval]
    refine aQ (fun h2=>?_) (fun h2=>?_)
    · simp -implicitDefEqProofs only[aA,seval,l9]
      refine(xI [0,1,7,-3,999,-999] (by simp) (by simp) bs c (p+1+1) (by omega) _ dO.new).mono ?_
      rintro _ _ ⟨x,hx,rfl,rfl⟩
      rw[dC]
      simp -implicitDefEqProofs only[aA,seval]
      refine(CJ x _).to ?_
      simp -implicitDefEqProofs only[bY,cC,eO (bY _),eK (aT _),aK,h4c,aA,seval,l9]
      exact jY _ _ _ (.mk 2 x ⟨#[]⟩ []) (by omega) (by omega) (xN (by omega) (by simp) (by simp))
    · simp -implicitDefEqProofs only[aA,seval,l9]
      refine(FU [⟨#[97]⟩,⟨#[98]⟩,⟨#[110,105,108]⟩,⟨#[91,93]⟩,⟨#[102,111,111]⟩,⟨#[43]⟩] (by simp) (by simp) bs c (p+1+1) (by omega) _ dO.new).mono ?_
      rintro _ _ ⟨x,hx,rfl,rfl⟩
      rw[dC]
      simp -implicitDefEqProofs only[aA,seval]
      refine(sB x [] (by simp) _).to ?_
      simp -implicitDefEqProofs only[bY,cC,eO (bY _),eK (aT _),aK,h4c,aA,seval,l9]
      exact jY _ _ _ (.mk 3 0 x []) (by omega) (by omega) (xN (by omega) (by simp) (by simp))
  · simp -implicitDefEqProofs only[aA,seval]
    refine(nN bs c (p+1) (by omega) 3 (by omega) (by omega) _ dO.new).mono ?_
    rintro _ _ ⟨k2,hk2,rfl,rfl⟩
    rw[dC]
    simp -implicitDefEqProofs only[aA,seval]
    refine aQ (fun h2=>?_) (fun h2=>?_)
    · simp -implicitDefEqProofs only[QX,aA,seval]
      refine(IHd (p+1+1) _ (by omega) (by omega) dO.new).mono ?_
      rintro _ _ ⟨p1,hp1,aYK,rfl,t1,ht1,rfl⟩
      rw[dC]
      simp -implicitDefEqProofs only[QX,aA,seval]
      refine(IHd p1 _ (by omega) (by omega) dO.new).mono ?_
      rintro _ _ ⟨p2,hp2,a66,rfl,t2,ht2,rfl⟩
      rw[dC]
      simp -implicitDefEqProofs only[aA,seval,l9]
      refine(sB ⟨#[46]⟩ [t1,t2] (by simp) _).to ?_
      simp -implicitDefEqProofs only[bY,cC,eO (bY _),eK (aT _),aK,h4c,aA,seval,l9]
      exact jY _ _ _ (.mk 3 0 ⟨#[46]⟩ [t1,t2]) (by omega) (by omega) (xN (by omega) (by simp) (by intro x hx;simp only[cX,dN,dV] at hx;rcases hx with rfl | rfl<;>assumption))
    · simp -implicitDefEqProofs only[aA,seval,l9]
      refine(FU [⟨#[102]⟩,⟨#[103]⟩,⟨#[115]⟩,⟨#[43]⟩,⟨#[61]⟩,⟨#[105,115]⟩,⟨#[102,111,111]⟩] (by simp) (by simp) bs c (p+1+1) (by omega) _ dO.new).mono ?_
      rintro _ _ ⟨x,_,rfl,rfl⟩
      rw[dC]
      simp -implicitDefEqProofs only[aA,seval]
      refine(aSU x _).to ?_
      simp -implicitDefEqProofs only[aK,aA,↓aU,seval,l9]
      intro b5 h5
      have h54:b5≠b4:=by rintro rfl;simp [aB.aC,h4c] at h5
      have h5c:b5≠c:=by rintro rfl;simp [aB.aC] at h5
      have hn5:st b5=none:=by rw[aB.aL _ _ h5c,aB.aL _ _ h54] at h5;exact h5
      refine(xI [2,1,3,2] (by simp) (by simp) bs c (p+1+1+1) (by omega) _ (dO.new.aC h5c)).mono ?_
      rintro _ _ ⟨y,hy,rfl,rfl⟩
      obtain⟨n,rfl,hn⟩:∃n:Nat,y=n∧n≤3:=by
       simp only[cX,dN,dV] at hy
       rcases hy with rfl | rfl | rfl | rfl
       · exact⟨2,rfl,by omega⟩
       · exact⟨1,rfl,by omega⟩
       · exact⟨3,rfl,by omega⟩
       · exact⟨2,rfl,by omega⟩
      rw[aB.wQ h5c,aB.oU _ _ _ h5c]
      have hW4:∀q,((st.aC b4 (.cells [.int .i64 0,.int .i64 0,.str ⟨#[]⟩,.fslice []])).aC c (cD bs q)) b4=some (.cells [.int .i64 0,.int .i64 0,.str ⟨#[]⟩,.fslice []]):=fun q=>by rw[aB.aL _ _ h4c,aB.aP]
      simp -implicitDefEqProofs only[aA,seval]
      refine iE (σ:=Nat×Nat×List Tm×Nat) [1000000,5] [0,1,4,5]
       (fun s=>(s.2.2.1.map Tm.av≠[]→(aB.aC ((st.aC b4 (.cells [.int .i64 0,.int .i64 0,.str ⟨#[]⟩,.fslice []])).aC c (cD bs s.2.2.2)) b5 (.cells ([.int .i64 3,.int .i64 0,.str x]++ [bD 4 s.2.1 (s.2.2.1.map Tm.av)]))) s.2.1=none)∧s.2.2.1.length+s.1≤3∧(∀t∈s.2.2.1,Dn t)∧p≤s.2.2.2∧s.2.2.2+s.1*M≤p+4*M)
       (fun s=>[(6,.int .i64 s.1)]) (fun s=>fK ((st.aC b4 (.cells [.int .i64 0,.int .i64 0,.str ⟨#[]⟩,.fslice []])).aC c (cD bs s.2.2.2)) b5 s.2.1 [.int .i64 3,.int .i64 0,.str x] (s.2.2.1.map Tm.av)) (fun s=>s.1) (by decide +kernel)
       ⟨(n,0,[],p+1+1+1+1),⟨fun h=>absurd rfl h,by simpa using hn,by simp,by simp only;omega,?_⟩,aO.mk (by simp -implicitDefEqProofs only[aA,seval])⟩ ?_
      · simp only
        have:=rZ M hn
        omega
      rintro⟨i,b,acc,q⟩ ⟨i1,i2,i3,i4,i5⟩
      simp only at i1 i2 i3 i4 i5
      simp -implicitDefEqProofs only[aA,seval]
      refine aQ (fun h3=>?_) (fun h3=>?_)
      · simp only[bJ] at h3
        have hbo:=eN i1
        have hSc:((st.aC b4 (.cells [.int .i64 0,.int .i64 0,.str ⟨#[]⟩,.fslice []])).aC c (cD bs q)) c≠none:=by rw[aB.aP];simp
        have hRk:dO (fK ((st.aC b4 (.cells [.int .i64 0,.int .i64 0,.str ⟨#[]⟩,.fslice []])).aC c (cD bs q)) b5 b [.int .i64 3,.int .i64 0,.str x] (acc.map Tm.av)) c bs q:=by
         unfold dO
         rw[gS i1 hSc h5c.symm,aB.aP]
         try rfl
        have hM1:M≤i*M:=by have:=rZ M (show 1≤i by omega);omega
        have hMi:(i - 1)*M+M=i*M:=by rw[←qV];congr 1;omega
        have hwi:IntKind.i64.wrap ((i:Int) - 1)=((i - 1:Nat):Int):=by rw[wrap64 (by omega) (by omega)];omega
        have cZ:(acc.map Tm.av).length≤3:=by rw[aF];omega
        simp -implicitDefEqProofs only[aA,seval]
        refine ET [(0,1),(1,1),(2,1),(3,1),(4,1),(5,0),(6,1),(7,0),(8,1),(9,2)] [0,1,2,3,4,6,8] (eH.aC b5 (.cells [.int .i64 3,.int .i64 0,.str x,bD 4 b (acc.map Tm.av)])) mixed (by decide +kernel) (by decide +kernel) (by decide +kernel) rfl (iF hbo) ?_
        simp -implicitDefEqProofs only[QX,mZ,aA,seval,l9]
        refine(IHd q _ (by omega) (by omega) hRk).mono ?_
        rintro _ _ ⟨q',hq1,hq2,rfl,t,ht,rfl⟩
        obtain⟨e1,i1'⟩:=qH (o:=cD bs q') i1 hSc h5c.symm
        rw[dC] at e1 i1'
        rw[e1]
        simp -implicitDefEqProofs only[aT,aJ,cG,aA,seval,l9]
        refine⟨iF (eN i1'),?_⟩
        refine eW aN bG bH rfl rfl (fM (aJ _) (cC _)) (d6 _) i1' (by simp only[aS,aZ];omega) (by simp only[aS,aZ];omega) (fun b' hb'=>?_)
        rw[show acc.map Tm.av++ [t.av]=(acc++ [t]).map Tm.av by simp] at hb' ⊢
        obtain⟨g1,g2,g3⟩:=oL hb'
        simp only[fL,eR] at g1 g3
        simp -implicitDefEqProofs only[aK,fJ,m6,aA,seval,l9]
        refine⟨iF g3,?_⟩
        simp -implicitDefEqProofs only[g3,g1,hwi,aA,seval]
        refine⟨(i - 1,b',acc++ [t],q'),by simp only;omega,⟨g2,by simp only[dM,aS,aZ];omega,fun u hu=>?_,by simp only;omega,by simp only;omega⟩,aO.mk (by simp -implicitDefEqProofs only[aA,seval])⟩
        rcases fF.1 hu with hu | hu
        · exact i3 u hu
        · simp only[cX,dN,dV] at hu
          subst hu
          exact ht
      · have hbo:=eN i1
        have h4o:=gS i1 (x:=b4) (by rw[hW4];simp) h54.symm
        rw[hW4] at h4o
        simp -implicitDefEqProofs only[aK,hbo,h4o,fJ,aA,seval,l9]
        obtain⟨g5,g6⟩:=kE (o:=.cells [.int .i64 3,.int .i64 0,.str x,bD 4 b (acc.map Tm.av)]) i1 (show((st.aC b4 (.cells [.int .i64 0,.int .i64 0,.str ⟨#[]⟩,.fslice []])).aC c (cD bs q)) b4≠none by rw[hW4];simp) h54.symm
        refine⟨b,_,_,g5,g6,iU _,⟨4,d6 _⟩,st.aC c (cD bs q),?_,q,i4,by omega,rfl,.mk 3 0 x acc,xN (by omega) (by omega) i3,?_⟩
        · intro y
          by_cases e4:y=b4<;>by_cases ec:y=c<;>by_cases e5:y=b5<;>simp_all [aB.aC]
        · simp only[fZ,bA,aW,eG,iY,iP,aV]
termination_by d=>d
decreasing_by exact hlt
abbrev a7F:=zi tI_3 (zi zI_3 (zi aX (zi tI_4 (zi zI_4 cE))))
theorem sC(b:Bool)(st:aB):aD prog 325 [.bool b] st (fun r st'=>r=.int .i64 (iM b)∧st'=st):=by
 refine wF [1000000] 1 func325 ntmps325 rfl rfl ?_
 intro _
 simp -implicitDefEqProofs only[aA,seval]
 cases b
 · simp -implicitDefEqProofs only[iM,aA,seval]
 · simp -implicitDefEqProofs only[iM,aA,seval]
abbrev a7G:=zi tI_4 (zi zI_4 (zi cE (zi tI_9 (zi zI_9 cI))))
theorem aTF(s:ByteArray)(st:aB):aD prog 329 [.str s] st (fun r st'=>r=.bool (gB q9 s)∧st'=st):=by
 have hin:gB q9 s=(decide (s=⟨#[60]⟩)||(decide (s=⟨#[62]⟩)||(decide (s=⟨#[61,60]⟩)||(decide (s=⟨#[62,61]⟩)||decide (s=⟨#[61,58,61]⟩))))):=by
  simp only[gB,q9,BQ,List.any_nil,EU]
 rw[hin]
 refine wF [1000000] 1 func329 ntmps329 rfl rfl ?_
 intro _
 simp -implicitDefEqProofs only[aA,seval]
 refine cV (fun h1=>?_) (fun h1=>?_)
 case refine_2=>
  simp -implicitDefEqProofs only[h1,aA,seval]
  simp at h1;simp [h1]
 simp -implicitDefEqProofs only[h1,aA,seval]
 refine cV (fun h2=>?_) (fun h2=>?_)
 case refine_2=>
  simp -implicitDefEqProofs only[h2,aA,seval]
  simp at h2;simp [h2]
 simp -implicitDefEqProofs only[h2,aA,seval]
 refine cV (fun h3=>?_) (fun h3=>?_)
 case refine_2=>
  simp -implicitDefEqProofs only[h3,aA,seval]
  simp at h3;simp [h3]
 simp -implicitDefEqProofs only[h3,aA,seval]
 refine cV (fun h4=>?_) (fun h4=>?_)
 case refine_2=>
  simp -implicitDefEqProofs only[h4,aA,seval]
  simp at h4;simp [h4]
 simp -implicitDefEqProofs only[h4,aA,seval]
theorem aTH(s:ByteArray)(a b:Int)(st:aB):aD prog 372 [.str s,.int .i64 a,.int .i64 b] st (fun r st'=>r=.bool (J6 s a b)∧st'=st):=by
 unfold J6
 refine wF [1000000] 3 func372 ntmps372 rfl rfl ?_
 intro _
 simp -implicitDefEqProofs only[aA,seval]
 refine aQ (fun h6=>?_) (fun h6=>?_)
 · simp -implicitDefEqProofs only[aA,seval]
   rw[aH (by simpa using h6)]
 rw[aE (by simpa using h6)]
 simp -implicitDefEqProofs only[aA,seval]
 refine aQ (fun h7=>?_) (fun h7=>?_)
 · simp -implicitDefEqProofs only[aA,seval]
   rw[aH (by simpa using h7)]
 rw[aE (by simpa using h7)]
 simp -implicitDefEqProofs only[aA,seval]
 refine aQ (fun h8=>?_) (fun h8=>?_)
 · simp -implicitDefEqProofs only[aA,seval]
   rw[aH (by simpa using h8)]
 rw[aE (by simpa using h8)]
 simp -implicitDefEqProofs only[aA,seval]
 refine aQ (fun h9=>?_) (fun h9=>?_)
 · simp -implicitDefEqProofs only[aA,seval]
   rw[aH (by simpa using h9)]
 rw[aE (by simpa using h9)]
 simp -implicitDefEqProofs only[aA,seval]
abbrev SS:=zi tI_3 (zi zI_3 (zi aX (zi tI_4 (zi zI_4 (zi cE (zi tI_9 (zi zI_9 (zi cI (zi tI_31 (zi zI_31 (zi aN (zi bG (zi bH (zi b9 (zi tI_66 (zi zI_66 (zi bQ (zi bR (zi bS (zi bT bP))))))))))))))))))))
theorem aTE(n:Int)(s:ByteArray)(x y:Tm){N:Int}(hx:cJ N x)(hy:cJ N y)(st:aB):aD prog 330 [(Tm.mk 3 n s [x,y]).av] st (fun r st'=>r=.int .i64 (xK s x y)∧st'=st):=by
 have d4:dF prog 31 (.slice [x.av,y.av]) (.int .i64 0)=some (.pptr x.av):=bM (av:=Tm.av) (l:=[x,y]) (i:=0) aN rfl (aJ x)
 have gN:dF prog 31 (.slice [x.av,y.av]) (.int .i64 1)=some (.pptr y.av):=bM (av:=Tm.av) (l:=[x,y]) (i:=1) aN rfl (aJ y)
 have hax:=fun st=>JX x st hx
 have hay:=fun st=>JX y st hy
 unfold xK both
 simp only[aV,bA,aW]
 refine wF [1000000] 1 func330 ntmps330 rfl rfl ?_
 intro _
 simp -implicitDefEqProofs only[d4,aT,aJ,aA,seval,SS]
 refine(hax _).to ?_
 generalize x.ev.1=a at *
 generalize x.ev.2=ca at *
 generalize y.ev.1=b at *
 generalize y.ev.2=cb at *
 simp -implicitDefEqProofs only[aA,seval]
 refine aQ (fun h4=>?_) (fun h4=>?_)
 · simp -implicitDefEqProofs only[aA,seval]
   have h4':ca≠0:=by simpa using h4
   rw[aH h4']
 have h4':ca=0:=by simpa using h4
 subst h4'
 rw[aE (by simp)]
 simp -implicitDefEqProofs only[gN,aT,aJ,aA,seval,SS]
 refine(hay _).to ?_
 simp -implicitDefEqProofs only[aA,seval]
 refine aQ (fun h5=>?_) (fun h5=>?_)
 · simp -implicitDefEqProofs only[aA,seval]
   have h5':cb≠0:=by simpa using h5
   rw[aH h5']
 have h5':cb=0:=by simpa using h5
 subst h5'
 rw[aE (by simp)]
 simp -implicitDefEqProofs only[aA,seval,SS]
 refine(aTH s a b _).to ?_
 simp -implicitDefEqProofs only[aA,seval]
 refine(sC _ _).to ?_
 simp -implicitDefEqProofs only[aA,seval]
abbrev EA:=zi tI_3 (zi zI_3 (zi aX (zi tI_4 (zi zI_4 (zi cE (zi tI_9 (zi zI_9 (zi cI (zi tI_31 (zi zI_31 (zi aN (zi bG (zi bH (zi b9 (zi tI_66 (zi zI_66 (zi bQ (zi bR (zi bS (zi bT bP))))))))))))))))))))
theorem aTJ(n:Int)(s:ByteArray)(x:Tm)(hs:s=⟨#[118,97,114]⟩∨s=⟨#[110,111,110,118,97,114]⟩∨s=⟨#[97,116,111,109]⟩∨s=⟨#[105,110,116]⟩)(st:aB) :
 aD prog 331 [(Tm.mk 3 n s [x]).av] st (fun r st'=>r=.int .i64 (iM (s8 s x))∧st'=st):=by
 obtain⟨xk,xn,xs,xt⟩:=x
 have d4:dF prog 31 (.slice [(Tm.mk xk xn xs xt).av]) (.int .i64 0)=some (.pptr (Tm.mk xk xn xs xt).av):=bM (av:=Tm.av) (l:=[Tm.mk xk xn xs xt]) (i:=0) aN rfl (aJ _)
 simp only[aV] at d4
 simp only[bA,aW,aV]
 refine wF [1000000] 1 func331 ntmps331 rfl rfl ?_
 intro _
 simp -implicitDefEqProofs only[d4,aA,↓aU,seval,EA]
 refine aQ (fun h=>?_) (fun h=>?_)
 · have hs':s=⟨#[118,97,114]⟩:=by simpa using h
   subst hs'
   simp -implicitDefEqProofs only[aA,seval,EA]
   refine(sC _ _).to ?_
   simp -implicitDefEqProofs only[aA,seval]
   rfl
 have h1:s≠⟨#[118,97,114]⟩:=by simpa using h
 simp -implicitDefEqProofs only[aA,seval]
 refine aQ (fun h=>?_) (fun h=>?_)
 · have hs':s=⟨#[110,111,110,118,97,114]⟩:=by simpa using h
   subst hs'
   simp -implicitDefEqProofs only[aA,seval,EA]
   refine(sC _ _).to ?_
   simp -implicitDefEqProofs only[aA,seval]
   rfl
 have h2:s≠⟨#[110,111,110,118,97,114]⟩:=by simpa using h
 simp -implicitDefEqProofs only[aA,seval]
 refine aQ (fun h=>?_) (fun h=>?_)
 · have hs':s=⟨#[105,110,116]⟩:=by simpa using h
   subst hs'
   simp -implicitDefEqProofs only[aA,seval,EA]
   refine(sC _ _).to ?_
   simp -implicitDefEqProofs only[aA,seval]
   rfl
 have h3:s≠⟨#[105,110,116]⟩:=by simpa using h
 have hs':s=⟨#[97,116,111,109]⟩:=by simpa [h1,h2,h3] using hs
 subst hs'
 have et:s8 ⟨#[97,116,111,109]⟩ (Tm.mk xk xn xs xt)=(decide (xk=3)&&decide ((xt.length:Int)=0)):=rfl
 rw[et]
 simp -implicitDefEqProofs only[aA,seval,EA]
 refine cV (fun h4=>?_) (fun h4=>?_)
 · simp -implicitDefEqProofs only[h4,aF,aA,seval,EA]
   refine(sC _ _).to ?_
   simp -implicitDefEqProofs only[aA,seval]
 · simp -implicitDefEqProofs only[h4,aA,seval]
   refine(sC _ _).to ?_
   simp -implicitDefEqProofs only[aA,seval]
   simp at h4;simp []
def qZ(x y:Tm):Tm×Int:=if x.k=1∨y.k=1 then(Tm.zero,2) else if x.k≠2∨y.k≠3∨y.ts.length=0 then(Tm.zero,3) else match m7 x y with
 | some u=>(u,0)
 | none=>(Tm.zero,1)
abbrev oT:=zi tI_3 (zi zI_3 (zi aX (zi tI_31 (zi zI_31 (zi aN (zi bG (zi bH (zi b9 (zi tI_66 (zi zI_66 (zi bQ (zi bR (zi bS (zi bT bP))))))))))))))
theorem aTD{N:Int}(n:Int)(s:ByteArray)(x y z:Tm)(hy:cJ N y)(st:aB):aD prog 328 [(Tm.mk 3 n s [x,y,z]).av] st (fun r st'=>r=.tup [(qZ x y).1.av,.int .i64 (qZ x y).2]∧st'=st):=by
 have d4:dF prog 31 (.slice [x.av,y.av,z.av]) (.int .i64 0)=some (.pptr x.av):=bM (av:=Tm.av) (l:=[x,y,z]) (i:=0) aN rfl (aJ x)
 have gN:dF prog 31 (.slice [x.av,y.av,z.av]) (.int .i64 1)=some (.pptr y.av):=bM (av:=Tm.av) (l:=[x,y,z]) (i:=1) aN rfl (aJ y)
 obtain⟨xk,xn,xs,xt⟩:=x
 obtain⟨yk,yn,ys,yt⟩:=y
 have hyl:yt.length≤4:=by
  exact hy.kind.2
 rw[aV] at d4
 simp only[aV xk,aV yk] at d4 gN
 unfold qZ
 simp only[aV 3,bA,aW,aV xk,aV yk,Tm.k,Tm.ts]
 refine aD.done ?_
 refine wF [1000000] 1 func328 ntmps328 rfl rfl ?_
 intro _
 simp -implicitDefEqProofs only[d4,gN,aA,↓aU,seval,oT]
 intro b hb
 have pF:∀o (p:Tm×Int) (k:Int),p=(Tm.zero,k)→(AV.tup [.agg [.int .i64 0,.int .i64 0,.str ⟨#[]⟩,.fslice []],.int .i64 k]).soft=.tup [p.1.av,.int .i64 p.2]∧aM (st.aC b o) st:=fun o p k e=>by
  rw[e]
  exact⟨by simp only[Tm.zero,aV,kO,k7,j6,l8,nD,bA,aW,aW],(aM.refl _).aC hb⟩
 refine cV (fun h=>?_) (fun h=>?_)
 case refine_2=>
  have h':xk=1:=by simpa using h
  simp -implicitDefEqProofs only[h,aK,aA,seval,oT]
  exact pF _ _ 2 (aH (.inl h'))
 have hx1:xk≠1:=by simpa using h
 simp -implicitDefEqProofs only[h,aA,seval,oT]
 refine aQ (fun h1=>?_) (fun h1=>?_)
 · have h':yk=1:=by simpa using h1
   simp -implicitDefEqProofs only[aK,aA,seval,oT]
   exact pF _ _ 2 (aH (.inr h'))
 have hy1:yk≠1:=by simpa using h1
 rw[aE (fun h2=>h2.elim hx1 hy1)]
 simp -implicitDefEqProofs only[aA,seval,oT]
 refine cV (fun h4=>?_) (fun h4=>?_)
 case refine_2=>
  have h':xk≠2:=by simpa using h4
  simp -implicitDefEqProofs only[h4,aK,aA,seval,oT]
  exact pF _ _ 3 (aH (.inl h'))
 have hx2:xk=2:=by simpa using h4
 simp -implicitDefEqProofs only[h4,aA,seval,oT]
 refine cV (fun h5=>?_) (fun h5=>?_)
 case refine_2=>
  have h':yk≠3:=by simpa using h5
  simp -implicitDefEqProofs only[h5,aK,aA,seval,oT]
  exact pF _ _ 3 (aH (.inr (.inl h')))
 have hy3:yk=3:=by simpa using h5
 simp -implicitDefEqProofs only[h5,aF,aA,seval,oT]
 refine aQ (fun h6=>?_) (fun h6=>?_)
 · have h':yt.length=0:=by simp at h6;simp [h6]
   simp -implicitDefEqProofs only[aK,aA,seval,oT]
   exact pF _ _ 3 (aH (.inr (.inr h')))
 have hyt:yt.length≠0:=by simp at h6;simpa using h6
 rw[aE (by simp [hx2,hy3];intro h7;simp [h7] at hyt)]
 simp -implicitDefEqProofs only[aA,seval,oT]
 have hno:¬(1≤xn∧xn≤yt.length)→(match m7 (.mk xk xn xs xt) (.mk yk yn ys yt) with | some u=>(u,(0:Int)) | none=>(Tm.zero,1))=(Tm.zero,(1:Int)):=fun h'=>by
  have ea:m7 (.mk xk xn xs xt) (.mk yk yn ys yt)=none:=aE h'
  rw[ea]
 refine cV (fun h7=>?_) (fun h7=>?_)
 case refine_2=>
  have h':xn<1:=by simpa using h7
  simp -implicitDefEqProofs only[h7,aK,aA,seval,oT]
  exact pF _ _ 1 (hno (by omega))
 have hl1:¬xn<1:=by simpa using h7
 simp -implicitDefEqProofs only[h7,aF,aA,seval,oT]
 refine aQ (fun h8=>?_) (fun h8=>?_)
 · have h':(yt.length:Int)<xn:=by simpa using h8
   simp -implicitDefEqProofs only[aK,aA,seval,oT]
   exact pF _ _ 1 (hno (by omega))
 have hl2:¬(yt.length:Int)<xn:=by simpa using h8
 have h':1≤xn∧xn≤yt.length:=by omega
 obtain⟨i,hi⟩:∃i:Nat,xn - 1=i:=⟨(xn - 1).toNat,by omega⟩
 have hlt:i<yt.length:=by omega
 obtain⟨u,hu⟩:∃u,yt[i]?=some u:=⟨_,eE hlt⟩
 have ea:m7 (.mk xk xn xs xt) (.mk yk yn ys yt)=some u:=by
  refine(aH h').trans ?_
  show yt[(xn - 1).toNat]?=some u
  rw[hi,kR,hu]
 rw[ea]
 have hw:IntKind.i64.wrap (xn - 1)=(i:Int):=by rw[wrap64 (by omega) (by omega)];exact hi
 have P2:=bM (av:=Tm.av) (P:=prog) aN hu (aJ u)
 simp -implicitDefEqProofs only[bY,cC,eO (bY _),eK (aT _),P2,hw,aT,aJ,aK,aA,seval,oT]
 exact⟨by simp only[k7,j6,Tm.soft,bA,aW,Tm.soft],(aM.refl _).aC hb⟩
theorem aZP(n:Int):(nU n).av=(Tm.mk 2 n ⟨#[]⟩ []).av:=rfl
end Go.AW
