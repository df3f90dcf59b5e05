import Derived.Test.YthigelfjekcbmaaGreatDoorUzj
import Derived.Test.YthigelfjekcbmaaGreatDoorUzi
import Derived.Test.YthigelfjekcbmaaGreatDoorUzf
import Derived.Test.YthigelfjekcbmaaGreatDoorUzh
set_option linter.unusedSimpArgs false
set_option linter.unusedVariables false
set_option maxRecDepth 100000
namespace Go.AW
open Go.Proofs.Tryz
abbrev aRT:=zi tI_3 (zi zI_3 (zi aU (zi tI_28 (zi zI_28 (zi aO (zi bF (zi bG (zi bZ (zi tI_52 (zi zI_52 (zi bU (zi bV (zi bX (zi bY bT))))))))))))))
theorem aVX(l:List Tm)(g:FuncId)(eF:List AV)(p:Tm→Bool)(J E:aB→Prop)(hc:∀x∈l,∀s,J s→aD prog g ([Tm.av x]++eF) s (fun r s'=>r=.bool (p x)∧(p x=true→E s')∧(p x=false→J s')))(st:aB)(h0:J st) :
 aD prog 214 [.slice (l.map Tm.av),.func g eF] st (fun r st'=>r=.int .i64 (uO p l 0)∧(l.any p=true→E st')∧(l.any p=false→J st')):=by
 refine wF [1000000] 2 func214 ntmps214 rfl rfl ?_
 simp only[eQ,AV.fits,eR,aF]
 intro ⟨hl,_⟩
 simp -implicitDefEqProofs only[aF,aA,seval,aRT]
 refine eL (σ:=aB) [1000000] [0,1,7] l (fun i s=>J s∧uO p (l.drop i) i=uO p l 0∧(l.drop i).any p=l.any p) (fun i _=>[(8,.int .i64 i)]) (fun _ s=>s) (by decide +kernel) ⟨st,⟨h0,rfl,rfl⟩,aP.mk (by simp -implicitDefEqProofs only[aA,↓aS,seval])⟩ (fun i x s hx hlt bR hdr hinv=>?_) (fun s hge hinv=>?_)
 case refine_2=>
  obtain⟨i1,i2,i3⟩:=hinv
  rw[lH] at i2 i3
  simp -implicitDefEqProofs only[hge,aA,seval]
  exact⟨by rw[←i2];try rfl,fun h=>(by rw[←i3] at h;cases h),fun _=>i1⟩
 obtain⟨i1,i2,i3⟩:=hinv
 rw[hdr,uO] at i2
 rw[hdr,EB] at i3
 have hw:=bO (n:=(i:Int)+1)
 simp -implicitDefEqProofs only[bR,bQ (av:=Tm.av) aO hx (aM x),aY,aM,aA,seval,aRT]
 refine(hc x (dA hx) s i1).mono ?_
 rintro _ s2 ⟨rfl,hE,hJ⟩
 simp -implicitDefEqProofs only[aA,seval]
 refine aQ (fun h=>?_) (fun h=>?_)
 · rw[aH h] at i2
   rw[h,yR] at i3
   simp -implicitDefEqProofs only[aA,seval]
   exact⟨by rw[i2],fun _=>hE h,fun h'=>(by rw[←i3] at h';cases h')⟩
 · rw[aE (by simp [h])] at i2
   rw[h,sH] at i3
   simp -implicitDefEqProofs only[aA,seval]
   exact⟨s2,⟨hJ h,i2,i3⟩,aP.mk (by simp -implicitDefEqProofs only[hw,aA,seval])⟩
theorem aVF(l:List Tm)(g:FuncId)(eF:List AV)(p:Tm→Bool)(J E:aB→Prop)(hc:∀x∈l,∀s,J s→aD prog g ([Tm.av x]++eF) s (fun r s'=>r=.bool (p x)∧(p x=true→E s')∧(p x=false→J s')))(st:aB)(h0:J st) :
 aD prog 172 [.slice (l.map Tm.av),.func g eF] st (fun r st'=>r=.bool (l.any p)∧(l.any p=true→E st')∧(l.any p=false→J st')):=by
 refine wF [1000000] 2 func172 ntmps172 rfl rfl ?_
 intro _
 simp -implicitDefEqProofs only[aA,seval]
 refine(aVX l g eF p J E hc st h0).mono ?_
 rintro _ s2 ⟨rfl,hE,hJ⟩
 simp -implicitDefEqProofs only[a3H,aA,seval]
 exact⟨hE,hJ⟩
def Occ(R:Int→Tm)(n:Int)(t:Tm)(st:aB)(mm:Nat)(M:List Int)(r:AV)(st':aB):Prop:=
 r=.bool (decide (n∈(t.aN R).vl))∧∃M',st'=st.aC mm (.map (m6 M'))∧(n∉(t.aN R).vl→∀v∈M',v∈M∨n∉(R v).vl)
abbrev a7S:=zi tI_3 (zi zI_3 (zi aU (zi tI_4 (zi zI_4 (zi cI (zi tI_52 (zi zI_52 (zi bU (zi bV (zi bX (zi bY (zi bT (zi tI_178 (zi zI_178 (zi tI_272 (zi zI_272 LD))))))))))))))))
theorem aYB{c mm:Nat}{n:Int}{t:Tm}{st:aB}{Q:AV→aB→Prop}(hc:aD prog 282 [.ptr c 0,.int .i64 n,t.av,.map mm] st Q) :
 aD prog 291 [t.av,.pptr (.ptr c 0),.pptr (.int .i64 n),.pptr (.map mm)] st Q:=by
 refine wF [1000000] 4 func291 ntmps291 rfl rfl ?_
 intro _
 simp -implicitDefEqProofs only[aA,seval,a7S]
 refine hc.mono ?_
 intro r s h
 simp -implicitDefEqProofs only[aA,seval]
 exact h
abbrev AZ:=zi tI_3 (zi zI_3 (zi aU (zi tI_4 (zi zI_4 (zi cI (zi tI_28 (zi zI_28 (zi aO (zi bF (zi bG (zi bZ (zi tI_52 (zi zI_52 (zi bU (zi bV (zi bX (zi bY (zi bT (zi tI_178 (zi zI_178 (zi tI_272 (zi zI_272 (zi LD (zi tI_291 (zi zI_291 aTV)))))))))))))))))))))))))
theorem SF{σ:Sub}{R:Int→Tm}{rk:Int→Nat}{B:Nat}(G:Good σ R rk B){n:Int}(hn:σ n=none)(c m mm:Nat)(q:AV)(hmm:mm≠c∧mm≠m) :
 ∀(K:Nat) (t:Tm) (M:List Int) (st:aB),j8 st c m q σ→st mm=some (.map (m6 M))→(∀w∈t.vl,rk w<K)→(∀v∈M,n∉(R v).vl∨∀w∈t.vl,rk w<rk v) →
 aD prog 282 [.ptr c 0,.int .i64 n,t.av,.map mm] st (Occ R n t st mm M)
 | K,.mk k x s ts,M,st,hS,hM,hK,N0=>by
  have IH1:=fun(K':Nat) (hK':K'<K) t M st=>SF G hn c m mm q hmm K' t M st
  have IH2:=fun(y:Tm) (hy:y∈ts) M st=>SF G hn c m mm q hmm K y M st
  have hlk:=a37 (P:=prog) (n:=x) hM LD aU a8W
  simp only[a8]
  refine wF [1000000] 4 func282 ntmps282 rfl rfl ?_
  intro _
  simp -implicitDefEqProofs only[aA,seval,AZ]
  refine aQ (fun h=>?_) (fun h=>?_)
  · simp only[bK] at h
    have hvl:(Tm.mk k x s ts).vl= [x]:=Tm.oT h
    have hmv:(Tm.mk k x s ts).aN R=R x:=Tm.oE R h
    have hKx:rk x<K:=hK x (by rw[hvl];simp)
    simp -implicitDefEqProofs only[hlk,aA,seval,AZ]
    refine aQ (fun h2=>?_) (fun h2=>?_)
    · simp only[bK] at h2
      simp -implicitDefEqProofs only[aA,seval]
      have hno:n∉(R x).vl:=by
       rcases N0 x h2 with h | h
       · exact h
       · exact absurd (h x (by rw[hvl];simp)) (Nat.lt_irrefl _)
      refine⟨by rw[hmv];simp [hno],M,?_,fun _ v hv=>.inl hv⟩
      funext y
      simp only[aB.aC]
      split
      · rename_i e;rw[e,hM]
      · rfl
    · simp only[dL] at h2
      simp -implicitDefEqProofs only[aA,seval,AZ]
      refine a8N hM LD aU ?_
      simp -implicitDefEqProofs only[aA,seval,AZ]
      obtain⟨f,hwk⟩:=G.wk (Tm.mk k x s ts)
      generalize hu:wk σ (Tm.mk k x s ts)=u at *
      have hS':=hS.P7 (o:=.map (m6 (x::M))) hmm.1 hmm.2
      have hcw:=MO hwk c m q _ hS'
      rw[a8] at hcw
      refine hcw.to ?_
      have UT:u.aN R=R x:=by rw[hwk.aN G.xX,hmv]
      have lD:=hwk.end
      have hrk:=hwk.J7 G
      obtain⟨k',x',s',ts'⟩:=u
      simp only[a8]
      simp -implicitDefEqProofs only[aA,↓aS,seval,AZ]
      refine aQ (fun h3=>?_) (fun h3=>?_)
      · simp only[bK] at h3
        simp -implicitDefEqProofs only[aA,seval,AZ]
        have rV:R x'=vr x':=G.free (lD h3)
        rw[Tm.oE R h3,rV] at UT
        refine⟨?_,x::M,rfl,fun hno v hv=>?_⟩
        · rw[hmv,←UT,A7]
          simp [eq_comm]
        · rcases dB.1 hv with rfl | hv
          · exact .inr (by rw[hmv] at hno;exact hno)
          · exact .inl hv
      · simp only[dL] at h3
        simp -implicitDefEqProofs only[aA,seval,AZ]
        have hf0:f≠0:=by
         rintro rfl
         cases hwk with
         | stop _=>exact h3 h
        have hr':∀w∈(Tm.mk k' x' s' ts').vl,rk w<rk x:=fun w hw=>by
         obtain⟨v,hv,_,hlt⟩:=hrk w hw
         rw[hvl] at hv
         simp only[dB,dV,eA] at hv
         subst hv
         exact hlt hf0
        have:=IH1 (rk x) hKx (Tm.mk k' x' s' ts') (x::M) _ hS' (aB.aJ _ _ _) hr' (fun v hv=>by
         rcases dB.1 hv with rfl | hv
         · exact .inr hr'
         · rcases N0 v hv with h5 | h5
           · exact .inl h5
           · refine .inr fun w hw=>Nat.lt_trans (hr' w hw) ?_
             exact h5 x (by rw[hvl];simp))
        rw[a8] at this
        refine this.mono ?_
        rintro _ _ ⟨rfl,M',rfl,hM'⟩
        simp -implicitDefEqProofs only[aA,seval]
        rw[UT] at hM' ⊢
        refine⟨by rw[hmv],M',rfl,fun hno v hv=>?_⟩
        rw[hmv] at hno
        rcases hM' hno v hv with h5 | h5
        · rcases dB.1 h5 with rfl | h5
          · exact .inr hno
          · exact .inl h5
        · exact .inr h5
  · simp only[dL] at h
    simp -implicitDefEqProofs only[aA,seval,AZ]
    have hmv:=Tm.mZ R (n:=x) (s:=s) (ts:=ts) h
    have a04:ts.any (fun y=>decide (n∈(y.aN R).vl))=decide (n∈((Tm.mk k x s ts).aN R).vl):=by
     rw[hmv,vI]
     simp only[List.any_eq_true,bK]
     rw[Tm.mI h]
     constructor
     · rintro⟨y,hy,h2⟩;exact⟨_,cY.2 ⟨y,hy,rfl⟩,h2⟩
     · rintro⟨z,hz,h2⟩
       obtain⟨y,hy,rfl⟩:=cY.1 hz
       exact⟨y,hy,h2⟩
    refine(aVF ts _ _ (fun y=>decide (n∈(y.aN R).vl)) (fun s1=>∃M',s1=st.aC mm (.map (m6 M'))∧∀v∈M',v∈M∨n∉(R v).vl) (fun s1=>∃M',s1=st.aC mm (.map (m6 M'))) ?_ st ⟨M,?_,fun v hv=>.inl hv⟩).mono ?_
    · rintro y hy s1 ⟨M',rfl,hM'⟩
      simp only[fE,eD]
      have hc:=IH2 y hy M' (st.aC mm (.map (m6 M'))) (hS.P7 hmm.1 hmm.2) (aB.aJ _ _ _) (fun w hw=>hK w ((Tm.mI h).2 ⟨y,hy,hw⟩)) (fun v hv=>by
       rcases hM' v hv with h5 | h5
       · rcases N0 v h5 with h6 | h6
         · exact .inl h6
         · exact .inr fun w hw=>h6 w ((Tm.mI h).2 ⟨y,hy,hw⟩)
       · exact .inl h5)
      refine(aYB hc).mono ?_
      rintro _ _ ⟨rfl,M2,rfl,hM2⟩
      rw[cK]
      refine⟨rfl,fun _=>⟨M2,rfl⟩,fun hno=>⟨M2,rfl,fun v hv=>?_⟩⟩
      simp only[dL] at hno
      rcases hM2 hno v hv with h5 | h5
      · exact hM' v h5
      · exact .inr h5
    · funext y
      simp only[aB.aC]
      split
      · rename_i e;rw[e,hM]
      · rfl
    · rintro _ s2 ⟨rfl,hE,hJ⟩
      rw[a04] at hE hJ ⊢
      simp -implicitDefEqProofs only[aA,seval]
      by_cases hno:n∈((Tm.mk k x s ts).aN R).vl
      · obtain⟨M2,rfl⟩:=hE (by simp [hno])
        exact⟨rfl,M2,rfl,fun h=>absurd hno h⟩
      · obtain⟨M2,rfl,h5⟩:=hJ (by simp [hno])
        exact⟨rfl,M2,rfl,fun _=>h5⟩
termination_by K t=>(K,SizeOf.sizeOf t)
decreasing_by
 · exact Prod.Lex.left _ _ hK'
 · have:=List.sizeOf_lt_of_mem hy
   exact Prod.Lex.right _ (by simp only[Tm.mk.sizeOf_spec];omega)
abbrev O8:=zi tI_3 (zi zI_3 (zi aU (zi tI_4 (zi zI_4 (zi cI (zi tI_40 (zi zI_40 (zi dT (zi fJ (zi fK (zi fU (zi tI_52 (zi zI_52 (zi bU (zi bV (zi bX (zi bY (zi bT (zi tI_178 (zi zI_178 (zi tI_207 (zi zI_207 (zi DZ (zi tI_209 (zi zI_209 (zi FA (zi FB (zi EW (zi tI_272 (zi zI_272 LD))))))))))))))))))))))))))))))
theorem aAB{σ:Sub}(hg:cX σ){n:Int}(hn:σ n=none){t:Tm}{r:Bool}{σ':Sub}{add:List Int}(hb:lA σ n t=(r,σ',add))(c m:Nat)(q:AV)(tr:List Int)(st:aB)(hS:gX st c m q σ tr)(hl:tr.length+add.length≤1099511627776) :
 aD prog 259 [.ptr c 0,.int .i64 n,t.av] st (fun r' st'=>r'=.bool r∧wS c m st q σ' (tr++add) st'):=by
 obtain⟨rk,B,G⟩:=hg.rs
 refine wF [1000000] 3 func259 ntmps259 rfl rfl ?_
 intro _
 simp -implicitDefEqProofs only[aA,seval,O8]
 intro mm hmm
 obtain⟨hmc,a2C⟩:=hS.sub.ne hmm
 rw[←a4K]
 have hS1:=hS.G3 (o:=.map (m6 [])) hmm
 refine(SF G hn c m mm q ⟨hmc,a2C⟩ B t [] _ hS1.sub (aB.aJ _ _ _) (fun w _=>G.bd w) (fun v hv=>absurd hv (dV))).mono ?_
 rintro _ _ ⟨rfl,M',rfl,_⟩
 have hS2:=hS.G3 (o:=.map (m6 M')) hmm
 have hQ2:nJ c m st q (st.aC mm (.map (m6 M'))) q:=nJ.G3 hmm
 rw[cK]
 generalize st.aC mm (.map (m6 M'))=s2 at *
 obtain⟨hqa,hqw,hqj,hqc,hqs⟩:=hS2.shape
 simp -implicitDefEqProofs only[aA,seval]
 unfold lA at hb
 refine aQ (fun h=>?_) (fun h=>?_)
 · simp only[bK] at h
   rw[aH h] at hb
   obtain⟨rfl,rfl,rfl⟩:false=r∧σ=σ'∧[]=add:=by simpa using hb
   simp -implicitDefEqProofs only[aA,seval]
   exact⟨q,hS2,hQ2⟩
 · simp only[dL] at h
   rw[aE h] at hb
   obtain⟨rfl,rfl,rfl⟩:true=r∧σ.set n t=σ'∧[n]=add:=by simpa using hb
   simp -implicitDefEqProofs only[aA,seval]
   refine wP [(0,1),(1,1),(2,1),(4,1),(3,2),(5,2),(6,0)] [0,1,2,4,3,5] mixed ?_
   simp -implicitDefEqProofs only[hS2.sub.cells,aA,seval,O8]
   refine a8O hS2.sub.map DZ aU ?_
   have hcm:=hS2.sub.cm
   have hS3:gX (s2.aC m (.map (mapOf (σ.set n t)))) c m q (σ.set n t) tr:=by
    refine⟨⟨by rw[aB.aG _ _ hcm];exact hS2.sub.cells,aB.aJ _ _ _⟩,?_,hS2.apart⟩
    rcases hS2.fT with h4 | ⟨b',cs,e1,e2,e3⟩
    · exact .inl h4
    · refine .inr ⟨b',cs,e1,?_,e3⟩
      rw[aB.aG _ _ (by rintro rfl;exact hS2.OB (by rw[e1];simp [dU]))]
      exact e2
   have hQ3:nJ c m st q (s2.aC m (.map (mapOf (σ.set n t)))) q:=⟨fun b o h h1 h2 h3=>by rw[aB.aG _ _ h2];exact hQ2.frame b o h h1 h2 h3,fun _ h=>.inl h⟩
   generalize s2.aC m (.map (mapOf (σ.set n t)))=s3 at *
   simp -implicitDefEqProofs only[hS3.sub.cells,hqa,aA,seval,O8]
   refine a75 dT fJ fK rfl (by omega) hS3 (by simpa using hl) (fun q' s4 ht hc' hm' hk hf=>?_)
   have h4c:s4 c=some (.cells [.map m,q]):=by rw[hk c hS3.apart hc'];exact hS3.sub.cells
   have h4m:s4 m=some (.map (mapOf (σ.set n t))):=by rw[hk m hS3.OB hm'];exact hS3.sub.map
   have aOL:q'.cells= [q']∧q'.storable=true:=by
    rcases ht with ⟨rfl,_⟩ | ⟨b',cs,rfl,_⟩<;>exact⟨rfl,rfl⟩
   simp -implicitDefEqProofs only[aK,h4c,aOL.1,aOL.2,aA,seval,O8]
   refine⟨q',⟨⟨aB.aJ _ _ _,by rw[aB.aG _ _ (dG hcm)];exact h4m⟩,?_,hc'⟩,⟨fun b o h h1 h2 h3=>?_,fun b hb=>?_⟩⟩
   · rcases ht with h4 | ⟨b',cs,e1,e2,e3⟩
     · exact .inl h4
     · refine .inr ⟨b',cs,e1,?_,e3⟩
       rw[aB.aG _ _ (by rintro rfl;exact hc' (by rw[e1];simp [dU]))]
       exact e2
   · rw[aB.aG _ _ h1,hk b h3 (fun h4=>?_)]
     · exact hQ3.frame b o h h1 h2 h3
     · rcases hf b h4 with h5 | h5
       · exact h3 h5
       · rw[hQ3.frame b o h h1 h2 h3] at h5;cases h5
   · rcases hf b hb with h5 | h5
     · exact .inl h5
     · by_cases h6:b∈dU q
       · exact .inl h6
       · refine .inr ?_
         cases hst:st b with
         | none=>rfl
         | some o=>
          exfalso
          have h1:b≠c:=by rintro rfl;rw[hS3.sub.cells] at h5;cases h5
          have h2:b≠m:=by rintro rfl;rw[hS3.sub.map] at h5;cases h5
          rw[hQ3.frame b o hst h1 h2 h6] at h5;cases h5
abbrev Sm (t:Tm):Prop:=t.small=true
theorem a6Q:∀t:Tm,t.k≠1→Sm t→∀x∈t.ts,Sm x:=fun t _ h x hx=>by
 cases t
 exact(Tm.rC h).2 x hx
abbrev sC:=zi tI_3 (zi zI_3 (zi aU (zi tI_4 (zi zI_4 (zi cI (zi tI_9 (zi zI_9 (zi cT (zi tI_28 (zi zI_28 (zi aO (zi bF (zi bG (zi bZ (zi tI_52 (zi zI_52 (zi bU (zi bV (zi bX (zi bY (zi bT (zi tI_178 zI_178))))))))))))))))))))))
theorem aBM:∀(g:Nat) (σ:Sub) (a b:Tm) (r:Bool) (σ':Sub) (add:List Int),cX σ→c9 Sm σ→Sm a→Sm b→dM g σ a b=some (r,σ',add)→∀(c m:Nat) (q:AV) (tr:List Int) (st:aB),gX st c m q σ tr→tr.length+add.length≤1099511627776 →
 aD prog 228 [.ptr c 0,a.av,b.av] st (fun r' st'=>r'=.bool r∧wS c m st q σ' (tr++add) st')
 | 0,σ,a,b,r,σ',add,hg,hsm,ha0,hb0,h,c,m,q,tr,st,hS,hl=>by simp only[dM] at h;cases h
 | g+1,σ,a,b,r,σ',add,hg,hsm,ha0,hb0,h,c,m,q,tr,st,hS,hl=>by
  have IH:=aBM g
  obtain⟨rk,B,G⟩:=hg.rs
  obtain⟨fa,wa⟩:=G.wk a
  obtain⟨fb,wb⟩:=G.wk b
  have hca:=fun st (hS:j8 st c m q σ)=>MO wa c m q st hS
  have hcb:=fun st (hS:j8 st c m q σ)=>MO wb c m q st hS
  have ea:=wa.end
  have eb:=wb.end
  have hsa:=wa.all (p:=Sm) hsm ha0
  have hsb:=wb.all (p:=Sm) hsm hb0
  replace h:=P4 h
  generalize wk σ a=a1 at *
  generalize wk σ b=b1 at *
  clear wa wb
  refine wF [1000000,4,5] 3 func228 ntmps228 rfl rfl ?_
  intro g7
  simp -implicitDefEqProofs only[aA,seval]
  intro b4 h4 b5 h5
  have h54:b5≠b4:=by rintro rfl;rw[aB.aJ] at h5;cases h5
  have hn5:st b5=none:=by rw[aB.aG st _ h54] at h5;exact h5
  have hS':∀o o',gX ((st.aC b4 o).aC b5 o') c m q σ tr:=fun o o'=>(hS.G3 h4).G3 (by rw[aB.aG _ _ h54];exact hn5)
  refine wP [(0,1),(3,1),(1,2),(2,2),(4,2),(5,2),(6,0),(7,0)] [0,3,1,2,4,5] mixed ?_
  simp -implicitDefEqProofs only[h54.symm,aA,seval,sC]
  refine j6 (hca _ (hS' _ _).sub) ?_
  simp -implicitDefEqProofs only[aA,seval,sC]
  refine j6 (hcb _ (hS' _ _).sub) ?_
  obtain⟨ka,na,sa,tsa⟩:=a1
  obtain⟨kb,nb,sb',tsb⟩:=b1
  obtain⟨hla,aOA⟩:=Tm.rC hsa
  obtain⟨hlb,aOB⟩:=Tm.rC hsb
  simp only[a8]
  simp only[Tm.k,Tm.n,Tm.ts] at h ea eb
  have hl4:∀q',q'=q→b4∉dU q:=fun _ _ hb=>by obtain⟨cs,e⟩:=hS.KK b4 hb;rw[h4] at e;cases e
  have hl5:b5∉dU q:=fun hb=>by obtain⟨cs,e⟩:=hS.KK b5 hb;rw[hn5] at e;cases e
  obtain⟨h4c,h4m⟩:=hS.sub.ne h4
  obtain⟨h5c,h5m⟩:=hS.sub.ne hn5
  have hQ:∀o o',nJ c m st q ((st.aC b4 o).aC b5 o') q:=fun o o'=>⟨fun x p h _ _ _=>by
   rw[aB.aG _ _ (by rintro rfl;rw[hn5] at h;cases h),aB.aG _ _ (by rintro rfl;rw[h4] at h;cases h)];exact h,fun _ h=>.inl h⟩
  simp -implicitDefEqProofs only[aK,h54,h54.symm,aA,seval,sC]
  rw[aB.yM h54,aB.yM h54.symm]
  have fW:∀o o',wS c m st q σ tr ((st.aC b4 o).aC b5 o'):=fun o o'=>⟨q,hS' _ _,hQ _ _⟩
  rcases h with ⟨h1,h2,h3,rfl,rfl,rfl⟩ | ⟨h1,h2,h3⟩ | ⟨h1,h2,h3⟩ | ⟨h1,h2,h3,h4⟩ | ⟨h1,h2,h3,rfl,rfl,rfl⟩
  · subst h1 h2 h3
    simp -implicitDefEqProofs only[bE,h54.symm,aA,seval,sC]
    exact fW _ _
  · subst h1
    have hcb:=aAB hg (ea rfl) h3 c m q tr _ (hS' (.cells [.int .i64 1,.int .i64 na,.str sa,.slice (tsa.map Tm.av)]) (.cells [.int .i64 kb,.int .i64 nb,.str sb',.slice (tsb.map Tm.av)])) hl
    rw[a8] at hcb
    by_cases h5:kb=1
    · subst h5
      have h6:¬na=nb:=fun e=>h2 ⟨rfl,e⟩
      simp -implicitDefEqProofs only[bE,h6,bM,h54.symm,aA,seval,sC]
      refine hcb.mono ?_
      rintro _ s2 ⟨rfl,hp⟩
      simp -implicitDefEqProofs only[aA,seval]
      exact hp.from (hQ _ _) (hS' _ _)
    · simp -implicitDefEqProofs only[bE,h5,bM,h54.symm,aA,seval,sC]
      refine hcb.mono ?_
      rintro _ s2 ⟨rfl,hp⟩
      simp -implicitDefEqProofs only[aA,seval]
      exact hp.from (hQ _ _) (hS' _ _)
  · subst h2
    have hcb:=aAB hg (eb rfl) h3 c m q tr _ (hS' (.cells [.int .i64 ka,.int .i64 na,.str sa,.slice (tsa.map Tm.av)]) (.cells [.int .i64 1,.int .i64 nb,.str sb',.slice (tsb.map Tm.av)])) hl
    rw[a8] at hcb
    simp -implicitDefEqProofs only[bE,h1,bM,h54.symm,aA,seval,sC]
    refine hcb.mono ?_
    rintro _ s2 ⟨rfl,hp⟩
    simp -implicitDefEqProofs only[aA,seval]
    exact hp.from (hQ _ _) (hS' _ _)
  · rw[uK] at h3
    simp only[Tm.k,Tm.n,Tm.s,Tm.ts] at h3
    obtain⟨rfl,rfl,rfl,hlen⟩:=h3
    have c8:decide ((tsa.length:Int)=(tsb.length:Int))=true:=by simp [hlen]
    simp -implicitDefEqProofs only[bE,bM,c8,h54.symm,aF,h1,aA,seval,sC]
    have hS0:=hS' (.cells [.int .i64 ka,.int .i64 na,.str sa,.slice (tsa.map Tm.av)]) (.cells [.int .i64 ka,.int .i64 na,.str sa,.slice (tsb.map Tm.av)])
    have hQ0:=hQ (.cells [.int .i64 ka,.int .i64 na,.str sa,.slice (tsa.map Tm.av)]) (.cells [.int .i64 ka,.int .i64 na,.str sa,.slice (tsb.map Tm.av)])
    have e4:((st.aC b4 (.cells [.int .i64 ka,.int .i64 na,.str sa,.slice (tsa.map Tm.av)])).aC b5 (.cells [.int .i64 ka,.int .i64 na,.str sa,.slice (tsb.map Tm.av)])) b4=some (.cells [.int .i64 ka,.int .i64 na,.str sa,.slice (tsa.map Tm.av)]):=by rw[aB.aG _ _ h54.symm,aB.aJ]
    have e5:((st.aC b4 (.cells [.int .i64 ka,.int .i64 na,.str sa,.slice (tsa.map Tm.av)])).aC b5 (.cells [.int .i64 ka,.int .i64 na,.str sa,.slice (tsb.map Tm.av)])) b5=some (.cells [.int .i64 ka,.int .i64 na,.str sa,.slice (tsb.map Tm.av)]):=aB.aJ _ _ _
    generalize (st.aC b4 (.cells [.int .i64 ka,.int .i64 na,.str sa,.slice (tsa.map Tm.av)])).aC b5 (.cells [.int .i64 ka,.int .i64 na,.str sa,.slice (tsb.map Tm.av)])=s0 at *
    refine eL (σ:=Sub×List Int×List Int×AV×aB) [1000000,4,5] [0,4,5,79] tsa
     (fun i p=>cX p.1∧c9 Sm p.1∧gX p.2.2.2.2 c m p.2.2.2.1 p.1 (tr++p.2.1)∧nJ c m s0 q p.2.2.2.2 p.2.2.2.1∧eJ g p.1 (tsa.drop i) (tsb.drop i)=some (r,σ',p.2.2.1)∧p.2.1++p.2.2.1=add)
     (fun i _=>[(6,.bool false),(80,.int .i64 i)]) (fun _ p=>p.2.2.2.2) (by decide +kernel)
     ⟨(σ,[],add,q,s0),⟨hg,hsm,by rw[iV];exact hS0,nJ.refl _ _ _ _,h4,rfl⟩,aP.mk (by simp -implicitDefEqProofs only[aA,↓aS,seval])⟩ (fun i x p hx hlt bR hdr hinv=>?_) (fun p hge hinv=>?_)
    case refine_2=>
     obtain⟨σi,ai,rest,qi,si⟩:=p
     obtain⟨i1,i2,i3,i4,i5,i6⟩:=hinv
     simp only at i1 i2 i3 i4 i5 i6
     rw[lH,hlen,lH] at i5
     simp only[eJ,Option.some.injEq,Prod.mk.injEq] at i5
     obtain⟨rfl,rfl,rfl⟩:=i5
     rw[iV] at i6
     subst i6
     simp -implicitDefEqProofs only[hge,aA,seval]
     exact⟨qi,i3,hQ0.trans hS0 i4⟩
    obtain⟨σi,ai,rest,qi,si⟩:=p
    obtain⟨i1,i2,i3,i4,i5,i6⟩:=hinv
    simp only at i1 i2 i3 i4 i5 i6
    obtain⟨y,hy⟩:∃y,tsb[i]?=some y:=⟨_,fF (by omega)⟩
    have CV:tsb.drop i=y::tsb.drop (i+1):=by
     obtain⟨h1,h2⟩:=gW.1 hy
     rw[rH h1,h2]
    rw[hdr,CV,eJ] at i5
    have f4:=i4.frame b4 _ e4 h4c h4m (hl4 q rfl)
    have f5:=i4.frame b5 _ e5 h5c h5m hl5
    have hw:=bO (n:=(i:Int)+1)
    simp -implicitDefEqProofs only[bR,aA,seval]
    refine wP [(0,1),(1,1),(3,1),(6,1),(8,1),(2,2),(4,1),(5,2),(7,2),(9,1),(10,2),(11,0),(12,1)] [0,1,3,6,8,2,4,5,7,9,10,12] mixed ?_
    simp -implicitDefEqProofs only[f4,f5,bQ (av:=Tm.av) aO hx (aM x),bQ (av:=Tm.av) aO hy (aM y),aA,seval,sC]
    cases hu:dM g σi x y with
    | none=>rw[hu] at i5;cases i5
    | some p1=>
     obtain⟨r1,σ1,tr1⟩:=p1
     rw[hu] at i5
     have hx1:Sm x:=aOA x (dA hx)
     have hy1:Sm y:=aOB y (dA hy)
     have hU:=yL i1 hu
     have hA:=(P6 a6Q g).1 σi x y r1 σ1 tr1 i1 hu i2 hx1 hy1
     have oD:tr1.length≤rest.length:=by
      cases r1 with
      | false=>simp only[Option.some.injEq,Prod.mk.injEq] at i5;rw[i5.2.2];exact dC _
      | true=>
       simp only at i5
       cases hu2:eJ g σ1 (tsa.drop (i+1)) (tsb.drop (i+1)) with
       | none=>rw[hu2] at i5;cases i5
       | some p2=>
        obtain⟨r2,σ2,tr2⟩:=p2
        rw[hu2] at i5
        simp only[Option.some.injEq,Prod.mk.injEq] at i5
        rw[←i5.2.2,dW];omega
     have a03:add.length=ai.length+rest.length:=by rw[←i6,dW]
     refine(IH σi x y r1 σ1 tr1 i1 i2 hx1 hy1 hu c m qi (tr++ai) si i3 (by rw[dW];omega)).mono ?_
     rintro _ s2 ⟨rfl,q2,hS2,hQ2⟩
     cases r1 with
     | false=>
      simp only[Option.some.injEq,Prod.mk.injEq] at i5
      obtain⟨rfl,rfl,rfl⟩:=i5
      simp -implicitDefEqProofs only[aA,seval]
      rw[←i6,←nE]
      exact⟨q2,hS2,hQ0.trans hS0 (i4.trans i3 hQ2)⟩
     | true=>
      simp only at i5
      cases hu2:eJ g σ1 (tsa.drop (i+1)) (tsb.drop (i+1)) with
      | none=>rw[hu2] at i5;cases i5
      | some p2=>
       obtain⟨r2,σ2,tr2⟩:=p2
       rw[hu2] at i5
       simp only[Option.some.injEq,Prod.mk.injEq] at i5
       obtain⟨rfl,rfl,rfl⟩:=i5
       simp -implicitDefEqProofs only[aA,seval]
       exact⟨(σ1,ai++tr1,tr2,q2,s2),⟨hU.iR,hA,by rw[←nE];exact hS2,i4.trans i3 hQ2,hu2,by rw[nE];exact i6⟩,aP.mk (by simp -implicitDefEqProofs only[hw,aA,seval])⟩
  · have hd:ka=kb→na=nb→sa=sb'→¬(tsa.length:Int)=(tsb.length:Int):=by
     intro e1 e2 e3 e4
     have:v5 (Tm.mk ka na sa tsa) (Tm.mk kb nb sb' tsb)=true:=uK.2 ⟨e1,e2,e3,by simp only[Tm.ts];omega⟩
     rw[h3] at this;cases this
    by_cases e1:ka=kb
    · by_cases e2:na=nb
      · by_cases e3:sa=sb'
        · have e4:=hd e1 e2 e3
          subst e1 e2 e3
          simp -implicitDefEqProofs only[bM,bE,h54.symm,h1,aF,e4,aA,seval,sC]
          exact fW _ _
        · subst e1 e2
          simp -implicitDefEqProofs only[bM,bE,h54.symm,h1,e3,aA,seval,sC]
          exact fW _ _
      · subst e1
        simp -implicitDefEqProofs only[bM,bE,h54.symm,h1,e2,aA,seval,sC]
        exact fW _ _
    · clear hd
      simp -implicitDefEqProofs only[bM,h54.symm,h1,h2,e1,aA,seval,sC]
      exact fW _ _
theorem a4G(σ:Sub)(l:List Int)(n:Int):pG (mapOf (σ.out l)) n none=mapOf (σ.out (l++ [n])):=by
 funext x
 unfold pG mapOf Sub.out
 by_cases h:x=n
 · simp [h]
 · simp only[h,d4,eK,ED,eA]
theorem aY9{P:Program}{st:aB}{m:Nat}{σ:Sub}{l:List Int}{t kt et:TypeId}{n:Int}{K:AV→aB→Prop}(hm:st m=some (.map (mapOf (σ.out l))))(hu:P.underlying t=some (.map kt et))(hk:P.underlying kt=some (.int .i64))
 (h:K (.tup []) (st.aC m (.map (mapOf (σ.out (l++ [n])))))):BU P t st (.map m) (.int .i64 n) K:=by
 unfold BU
 simp only[hu,hm,hk]
 rw[a4G]
 exact h
theorem Sub.VU(σ:Sub):σ.out []=σ:=by funext n;simp [Sub.out]
theorem a6K{φ:AF}{d b n k:Nat}(h:φ d=.int .i64 (k:Int))(hk:k=0∨k<n):fY prog φ 40 (.mslice b 0 n 1) (some (.tmp d)) none none=some (.mslice b k (n - k) 1):=by
 have h1:dJ φ none n n=some n:=rfl
 have h2:dJ φ (some (.tmp d)) 0 n=some k:=by
  unfold dJ
  simp only[show φ.eval (.tmp d)=φ d from rfl,h]
  rw[aH (by omega)]
  simp
 unfold fY nK
 rw[aE (by simp [pE])]
 simp only[dT,h1,h2]
 by_cases h3:k=0
 · subst h3;simp
 · have h4:k<n:=by omega
   simp [h3,h4]
theorem a6N{φ:AF}{d b n:Nat}(h:φ d=.int .i64 (n:Int))(hn:n≠0):fY prog φ 40 (.mslice b 0 n 1) (some (.tmp d)) none none=some .eslice:=by
 have h1:dJ φ none n n=some n:=rfl
 have h2:dJ φ (some (.tmp d)) 0 n=some n:=by
  unfold dJ
  simp only[show φ.eval (.tmp d)=φ d from rfl,h]
  rw[aH (by omega)]
  simp
 unfold fY nK
 rw[aE (by simp [pE])]
 simp only[dT,h1,h2]
 simp [hn]
theorem WN{φ:AF}{t:TypeId}{ag:Bool}{w d b n k:Nat}(hI:eI prog t=some (ag,w))(h:φ d=.int .i64 (k:Int))(hk:k≤n):fY prog φ t (.mslice b 0 n w) none (some (.tmp d)) none=some (.mslice b 0 k w):=by
 have h1:dJ φ (some (.tmp d)) n n=some k:=by
  unfold dJ
  simp only[show φ.eval (.tmp d)=φ d from rfl,h]
  rw[aH (by omega)]
  simp
 have h2:dJ φ none 0 k=some 0:=rfl
 unfold fY nK
 rw[aE (by simp [pE])]
 simp only[hI,h1,h2]
 simp
theorem aQU{φ:AF}{t:TypeId}{ag:Bool}{w d:Nat}(hI:eI prog t=some (ag,w))(h:φ d=.int .i64 0):fY prog φ t (.fslice []) none (some (.tmp d)) none=some (.fslice []):=by
 have h1:dJ φ (some (.tmp d)) 0 0=some 0:=by
  unfold dJ
  simp only[show φ.eval (.tmp d)=φ d from rfl,h]
  simp
 have h2:dJ φ none 0 0=some 0:=rfl
 unfold fY
 rw[aH ⟨rfl,rfl⟩]
 simp only[hI,h1,h2]
theorem a6L{φ:AF}{d:Nat}(h:φ d=.int .i64 0):fY prog φ 40 (.fslice []) (some (.tmp d)) none none=some (.fslice []):=by
 have h1:dJ φ none 0 0=some 0:=rfl
 have h2:dJ φ (some (.tmp d)) 0 0=some 0:=by
  unfold dJ
  simp only[show φ.eval (.tmp d)=φ d from rfl,h]
  simp
 unfold fY
 rw[aH ⟨rfl,rfl⟩]
 simp only[dT,h1,h2]
theorem a1P{P:Program}{t:TypeId}{ag:Bool}{b o len w i:Nat}(hI:eI P t=some (ag,w))(hi:i<len):dN P t (.mslice b o len w) (.int .i64 (i:Int))=some (.ptr b (o+i*w)):=by
 unfold dN
 simp only[hI]
 rw[aH ⟨by omega,by omega,trivial⟩]
 simp
abbrev DP:=zi tI_3 (zi zI_3 (zi aU (zi tI_40 (zi zI_40 (zi dT (zi fJ (zi fK (zi fU (zi tI_178 (zi zI_178 (zi tI_207 (zi zI_207 (zi DZ (zi tI_209 (zi zI_209 (zi FA (zi FB EW)))))))))))))))))
theorem SL(σ:Sub)(tr:List Int)(mark:Nat)(hm:mark≤tr.length)(c m:Nat)(q:AV)(st:aB)(hS:gX st c m q σ tr)(hl:tr.length≤1099511627776) :
 aD prog 194 [.ptr c 0,.int .i64 (mark:Int)] st (fun r st'=>r=.tup []∧∃q',gX st' c m q' (σ.out (tr.drop mark)) (tr.take mark)∧(∀b∈dU q',b∈dU q)∧∀x o,st x=some o→x≠c→x≠m→st' x=some o):=by
 have hcm:=hS.sub.cm
 rcases hS.fT with ⟨rfl,rfl⟩ | ⟨b,cs,rfl,hb,hcs⟩
 · obtain rfl:mark=0:=by simpa using hm
   have e1:=hS.sub.cells
   have hsl:=fun(φ:AF) (d:Nat) (h:φ d=.int .i64 0)=>a6L h
   have hsh:=fun(φ:AF) (d:Nat) (h:φ d=.int .i64 0)=>aQU dT h
   simp only[Int.ofNat_zero]
   refine wF [1000000] 2 func194 ntmps194 rfl rfl ?_
   intro _
   simp -implicitDefEqProofs only[e1,hsl,aA,seval,DP]
   refine eL (σ:=Unit) [1000000] [0,1,11,12] ([]:List Int) (fun i _=>True) (fun i _=>[(13,.int .i64 i)]) (fun _ _=>st) (by decide +kernel) ⟨(),trivial,aP.mk (by simp -implicitDefEqProofs only[aA,↓aS,seval])⟩ (fun i x _ hx hlt bR hdr hinv=>?_) (fun _ hge hinv=>?_)
   · simp at hlt
   · simp -implicitDefEqProofs only[aX,aK,e1,hsh,aA,seval,DP]
     rw[Sub.VU]
     refine⟨.fslice [],⟨⟨aB.aJ _ _ _,?_⟩,.inl ⟨rfl,rfl⟩,by simp [dU]⟩,fun _ h=>h,fun x o h h1 h2=>by rw[aB.aG _ _ h1];exact h⟩
     rw[aB.aG _ _ hcm.symm,hS.sub.map]
 · have e1:=hS.sub.cells
   have hbc:b≠c:=fun e=>hS.apart (by simp [dU,e])
   have hbm:b≠m:=fun e=>hS.OB (by simp [dU,e])
   have hc':∀o,(st.aC m o) c=some (.cells [.map m,.mslice b 0 tr.length 1]):=fun o=>by rw[aB.aG _ _ hcm];exact e1
   have hb':∀o,(st.aC m o) b=some (.cells cs):=fun o=>by rw[aB.aG _ _ hbm];exact hb
   have hm0:st.aC m (.map (mapOf σ))=st:=by
    funext x
    unfold aB.aC
    split
    · rename_i h;rw[h,hS.sub.map]
    · rfl
   have fW:∀st',st'=(st.aC m (.map (mapOf (σ.out (tr.drop mark))))).aC c (.cells [.map m,.mslice b 0 mark 1])→∃q',gX st' c m q' (σ.out (tr.drop mark)) (tr.take mark)∧(∀x∈dU q',x∈dU (.mslice b 0 tr.length 1))∧∀x o,st x=some o→x≠c→x≠m→st' x=some o:=by
    rintro _ rfl
    have hlt:(tr.take mark).length=mark:=by rw[eC];omega
    refine⟨.mslice b 0 mark 1,⟨⟨aB.aJ _ _ _,by rw[aB.aG _ _ hcm.symm,aB.aJ]⟩,.inr ⟨b,cs,by rw[hlt],by rw[aB.aG _ _ hbc];exact hb' _,?_⟩,by simpa [dU] using dG hbc⟩,fun x h=>h,fun x o h h1 h2=>by rw[aB.aG _ _ h1,aB.aG _ _ h2];exact h⟩
    rw[hlt,G9,←hcs,yZ,mL hm]
   have hsh:=fun(φ:AF) (d:Nat) (h:φ d=.int .i64 (mark:Int))=>WN (b:=b) dT h hm
   by_cases hk:mark=0∨mark<tr.length
   · have hsl:=fun(φ:AF) (d:Nat) (h:φ d=.int .i64 (mark:Int))=>a6K (b:=b) h hk
     refine wF [1000000] 2 func194 ntmps194 rfl rfl ?_
     intro _
     simp -implicitDefEqProofs only[e1,hsl,aA,seval,DP]
     refine eL (σ:=Unit) [1000000] [0,1,11,12] (tr.drop mark) (fun i _=>True) (fun i _=>[(13,.int .i64 i)]) (fun i _=>st.aC m (.map (mapOf (σ.out ((tr.drop mark).take i))))) (by decide +kernel) ⟨(),trivial,by rw[l7,Sub.VU,hm0];exact aP.mk (by simp -implicitDefEqProofs only[aA,↓aS,seval])⟩ (fun i x _ hx hlt bR hdr hinv=>?_) (fun _ hge hinv=>?_)
     · have hw:=wrap64 (n:=(i:Int)+1) (by omega) (by rw[lO] at hlt;omega)
       have htk:(tr.drop mark).take (i+1)=(tr.drop mark).take i++ [x]:=by rw[gC,hx];simp
       rw[lO] at hlt bR
       have bAM:decide ((i:Int)<((tr.length - mark:Nat):Int))=true:=by simp;omega
       have hxt:tr[mark+i]?=some x:=by rw[QO] at hx;exact hx
       have a1H:cs=(tr.take (mark+i)).map iv++ [iv x]++((tr.drop (mark+i+1)).map iv++cs.drop tr.length):=by
        have h1:cs=tr.map iv++cs.drop tr.length:=by rw[←hcs];exact(tT _ _).symm
        have h2:tr.map iv=(tr.take (mark+i)).map iv++iv x::(tr.drop (mark+i+1)).map iv:=by
         have h3:tr.drop (mark+i)=x::tr.drop (mark+i+1):=by
          obtain⟨g1,g2⟩:=gW.1 hxt
          rw[rH g1,g2]
         rw[←bB (f:=iv),←h3,←oY,tT]
        rw[h2] at h1
        exact h1.trans (by simp)
       have hA:((tr.take (mark+i)).map iv).length=mark+i:=by simp only[aF,eC];omega
       have hat:=a1P (P:=prog) (b:=b) (o:=mark) (len:=tr.length - mark) (w:=1) (i:=i) dT hlt
       have hcb:=hb' (.map (mapOf (σ.out ((tr.drop mark).take i))))
       rw[a1H] at hcb
       have UF:=hc' (.map (mapOf (σ.out ((tr.drop mark).take i))))
       obtain⟨e1',e2,e3,e4,e5,e6⟩:=VJ (B:=(tr.drop (mark+i+1)).map iv++cs.drop tr.length) hA
       simp -implicitDefEqProofs only[e6,hat,hcb,UF,bR,EH,aA,seval,DP]
       refine aY9 (aB.aJ _ _ _) DZ aU ?_
       rw[cK,←htk]
       simp -implicitDefEqProofs only[hw,aA,seval]
       exact⟨(),aP.mk (by simp -implicitDefEqProofs only[aA,seval])⟩
     · rw[fG]
       rw[lO] at hge
       have UF:=hc' (.map (mapOf (σ.out (tr.drop mark))))
       have a1V:decide (((tr.length - mark:Nat):Int)<((tr.length - mark:Nat):Int))=false:=by simp
       simp -implicitDefEqProofs only[UF,hge,lO,aK,hsh,aA,seval,DP]
       exact fW _ rfl
   · obtain rfl:mark=tr.length:=by omega
     have hn0:tr.length≠0:=by omega
     have hsl:=fun(φ:AF) (d:Nat) (h:φ d=.int .i64 (tr.length:Int))=>a6N (b:=b) h hn0
     refine wF [1000000] 2 func194 ntmps194 rfl rfl ?_
     intro _
     simp -implicitDefEqProofs only[e1,hsl,mO,fU,aA,↓aS,seval,DP]
     refine eL (σ:=Unit) [1000000] [0,1,11,12] ([]:List Int) (fun i _=>True) (fun i _=>[(13,.int .i64 i)]) (fun _ _=>st) (by decide +kernel) ⟨(),trivial,aP.mk (by simp -implicitDefEqProofs only[aA,↓aS,seval])⟩ (fun i x _ hx hlt bR hdr hinv=>?_) (fun _ hge hinv=>?_)
     · simp at hlt
     · simp -implicitDefEqProofs only[aX,aK,e1,hsh,aA,seval,DP]
       refine fW _ ?_
       rw[lH,Sub.VU,hm0]
def YE(v:Tm)(D:Nat)(cnt cb:Nat)(st:aB)(r:AV)(st':aB):Prop:=
 ∃o7:Nat,o7≤121∧st'=st.aC cb (.cells [.int .i64 o7]) ∧
  if v.flat D=true∧cnt+v.nodes≤120 then r=.tup [v.av,.bool true]∧o7=cnt+v.nodes else r=.tup [Tm.zero.av,.bool false]
theorem GQ{α:Type}(f:α→Nat):∀l m:List α,bH f (l++m)=bH f l+bH f m
 | [],m=>by simp [bH]
 | x::l,m=>by simp only[fE,bH,GQ f l m];omega
abbrev Cv (t:Tm):Prop:=t.cv=true
theorem aNM{σ:Sub}{R:Int→Tm}{rk:Int→Nat}{B f:Nat}(G:Good σ R rk B){t:Tm}{k n:Int}{s:ByteArray}{ts:List Tm}(hw:gR σ f t (.mk k n s ts))(hc:Cv (.mk k n s ts)):t.aN R=.mk k n s (ts.map (Tm.aN R)):=by
 rw[←hw.aN G.xX]
 by_cases hk:k=1
 · rw[Tm.oE R hk,G.free (show σ n=none from hw.end hk)]
   obtain⟨h1,_⟩:=Tm.pS.1 hc
   obtain⟨rfl,rfl⟩:=h1 hk
   rw[hk];try rfl
 · rw[Tm.mZ R hk]
abbrev u7:=zi tI_3 (zi zI_3 (zi aU (zi tI_4 (zi zI_4 (zi cI (zi tI_9 (zi zI_9 (zi cT (zi tI_28 (zi zI_28 (zi aO (zi bF (zi bG (zi bZ (zi tI_52 (zi zI_52 (zi bU (zi bV (zi bX (zi bY (zi bT (zi tI_178 (zi zI_178 (zi tI_240 zI_240))))))))))))))))))))))))
theorem aBE{σ:Sub}{R:Int→Tm}{rk:Int→Nat}{B:Nat}(G:Good σ R rk B)(hcv:c9 Cv σ)(hsm:c9 Sm σ)(c m cb:Nat)(q:AV)(hcb:cb≠c∧cb≠m) :
 ∀(D:Nat) (t:Tm) (cnt:Nat) (st:aB),D≤31→Cv t→Sm t→cnt≤120→j8 st c m q σ→st cb=some (.cells [.int .i64 cnt]) →
 aD prog 222 [.ptr c 0,t.av,.int .i64 (31 - D:Int),.ptr cb 0] st (YE (t.aN R) D cnt cb st)
 | D,t,cnt,st,hD,hct,hst,bAI,hS,hC=>by
  have IH:=fun(D':Nat) (hlt:D'<D) (x:Tm) cnt st=>aBE G hcv hsm c m cb q hcb D' x cnt st
  obtain⟨f,hw⟩:=G.wk t
  generalize wk σ t=u at *
  have hcu:=hw.all (p:=Cv) hcv hct
  have hsu:=hw.all (p:=Sm) hsm hst
  have hcw:=fun st (hS:j8 st c m q σ)=>MO hw c m q st hS
  obtain⟨k,n,s,ts⟩:=u
  have hv:=aNM G hw hcu
  rw[hv]
  obtain⟨hlen,qV⟩:=Tm.rC hsu
  obtain⟨_,a1J⟩:=Tm.pS.1 hcu
  refine aD.kS (aD.fin ?_)
  refine wF [1000000,5,10] 4 func222 ntmps222 rfl rfl ?_
  intro _
  simp -implicitDefEqProofs only[aA,seval,u7]
  intro b5 h5 b8 h8
  have h85:b8≠b5:=by rintro rfl;rw[aB.aJ] at h8;cases h8
  have hn8:st b8=none:=by rw[aB.aG st _ h85] at h8;exact h8
  have hS':∀o o',j8 ((st.aC b5 o).aC b8 o') c m q σ:=fun o o'=>(hS.aC h5).aC (by rw[aB.aG _ _ h85];exact hn8)
  have hb5:cb≠b5:=by rintro rfl;rw[hC] at h5;cases h5
  have hb8:cb≠b8:=by rintro rfl;rw[hC] at hn8;cases hn8
  have hwc:IntKind.i64.wrap ((cnt:Int)+1)=(cnt:Int)+1:=wrap64 (by omega) (by omega)
  simp -implicitDefEqProofs only[h85.symm,aA,seval]
  refine(hcw _ (hS' _ _)).to ?_
  simp only[a8]
  simp -implicitDefEqProofs only[aK,h85.symm,hb5,hb8,hC,hwc,aA,seval,u7]
  have UK:∀(st':aB) (o7:Nat),o7≤121→aL st' (st.aC cb (.cells [.int .i64 o7]))→¬((Tm.mk k n s (ts.map (Tm.aN R))).flat D=true∧cnt+(Tm.mk k n s (ts.map (Tm.aN R))).nodes≤120) →
   ∃b l s0,st'=aV s0 b l∧(l≠[]→s0 b=none)∧(∀e∈l,e.cJ=false)∧iU l∧∃s2,aL s0 s2∧YE (Tm.mk k n s (ts.map (Tm.aN R))) D cnt cb st (AV.fin b l (.tup [.agg [.int .i64 0,.int .i64 0,.str ⟨#[]⟩,.fslice []],.bool false])) s2:=fun st' o7 h1 h2 h3=>by
   refine⟨0,[],st',rfl,by simp,by simp,⟨4,by simp⟩,_,h2,o7,h1,rfl,?_⟩
   rw[aE h3]
   simp only[Tm.zero,a8,gG,kK,eS,rP,kA,qO,bB,aW]
  have hdr:∀o5 o8 o5' o8' o7,aL (((((st.aC b5 o5).aC b8 o8).aC b5 o5').aC cb (.cells [.int .i64 o7])).aC b8 o8') (st.aC cb (.cells [.int .i64 o7])):=fun o5 o8 o5' o8' o7 x=>by
   by_cases e5:x=b5<;>by_cases e8:x=b8<;>by_cases ec:x=cb<;>simp_all [aB.aC]
  refine cU (fun h=>?_) (fun h=>?_)
  case refine_2=>
   simp -implicitDefEqProofs only[h,aK,h85,hb8.symm,aA,seval,u7]
   refine UK _ (cnt+1) (by omega) (hdr _ _ _ _ _) ?_
   simp at h
   rw[Tm.iS]
   omega
  simp -implicitDefEqProofs only[h,aA,seval]
  simp at h
  refine aQ (fun h2=>?_) (fun h2=>?_)
  · simp only[bK] at h2
    obtain rfl:D=0:=by omega
    simp -implicitDefEqProofs only[aK,h85,hb8.symm,aA,↓aS,seval,u7]
    exact UK _ (cnt+1) (by omega) (hdr _ _ _ _ _) (by rw[Tm.I8];simp)
  simp only[dL] at h2
  obtain⟨D',rfl⟩:∃D',D=D'+1:=⟨D - 1,by omega⟩
  have a1K:IntKind.i64.wrap (31 - ((D':Int)+1)+1)=31 - (D':Int):=by rw[wrap64 (by omega) (by omega)];omega
  simp -implicitDefEqProofs only[aK,hb5.symm,aA,↓aS,seval,u7]
  intro b10 h10
  have TX:b10≠b5:=by rintro rfl;simp [aB.aC,hb5.symm] at h10
  have FE:b10≠b8:=by rintro rfl;simp [aB.aC,h85,hb8.symm] at h10
  have TY:b10≠cb:=by rintro rfl;simp [aB.aC] at h10
  have a2D:st b10=none:=by rw[aB.aG _ _ TY,aB.aG _ _ TX,aB.aG _ _ FE,aB.aG _ _ TX] at h10;exact h10
  simp -implicitDefEqProofs only[hb5.symm,TX.symm,aF,aA,seval,u7]
  rw[aB.yM h85]
  have hWS:j8 ((st.aC b8 (.cells [.int .i64 0,.int .i64 0,.str ⟨#[]⟩,.fslice []])).aC b5 (.cells [.int .i64 k,.int .i64 n,.str s,.slice (ts.map Tm.av)])) c m q σ:=(hS.aC hn8).aC (by rw[aB.aG _ _ h85.symm];exact h5)
  have hW8:((st.aC b8 (.cells [.int .i64 0,.int .i64 0,.str ⟨#[]⟩,.fslice []])).aC b5 (.cells [.int .i64 k,.int .i64 n,.str s,.slice (ts.map Tm.av)])) b8=some (.cells [.int .i64 0,.int .i64 0,.str ⟨#[]⟩,.fslice []]):=by rw[aB.aG _ _ h85,aB.aJ]
  have hWd:∀X Y Z,aL (((((st.aC b8 (.cells [.int .i64 0,.int .i64 0,.str ⟨#[]⟩,.fslice []])).aC b5 (.cells [.int .i64 k,.int .i64 n,.str s,.slice (ts.map Tm.av)])).aC cb X).aC b8 Y).aC b10 Z) (st.aC cb X):=fun X Y Z x=>by
   by_cases e5:x=b5<;>by_cases e8:x=b8<;>by_cases ec:x=cb<;>by_cases e10:x=b10<;>simp_all [aB.aC]
  generalize ((st.aC b8 (.cells [.int .i64 0,.int .i64 0,.str ⟨#[]⟩,.fslice []])).aC b5 (.cells [.int .i64 k,.int .i64 n,.str s,.slice (ts.map Tm.av)]))=W at *
  obtain⟨a0Y,a0Z⟩:=hS.ne a2D
  refine eL (σ:=Nat) [1000000,5,10] [0,2,3,8,10,40,41] ts
   (fun i b=>(((ts.take i).map (Tm.aN R)).map Tm.av≠[]→(aB.aC (W.aC cb (.cells [.int .i64 ((cnt+1+bH Tm.nodes ((ts.take i).map (Tm.aN R)):Nat):Int)])) b10 (.cells ([.int .i64 k,.int .i64 n,.str s]++ [aZ 4 b (((ts.take i).map (Tm.aN R)).map Tm.av)]))) b=none) ∧
    cnt+1+bH Tm.nodes ((ts.take i).map (Tm.aN R))≤120∧((ts.take i).map (Tm.aN R)).all (fun x=>x.flat D')=true)
   (fun i b=>[(9,.bool false),(42,.int .i64 i)])
   (fun i b=>fX (W.aC cb (.cells [.int .i64 ((cnt+1+bH Tm.nodes ((ts.take i).map (Tm.aN R)):Nat):Int)])) b10 b [.int .i64 k,.int .i64 n,.str s] (((ts.take i).map (Tm.aN R)).map Tm.av)) (by decide +kernel)
   ⟨0,⟨fun h=>absurd rfl h,by simp [bH];omega,by simp⟩,aP.mk (by simp -implicitDefEqProofs only[aA,↓aS,seval])⟩ (fun i x b hx hlt bR CV hinv=>?_) (fun b hge hinv=>?_)
  · obtain⟨i1,i2,i3⟩:=hinv
    have htk:(ts.take (i+1)).map (Tm.aN R)=(ts.take i).map (Tm.aN R)++ [x.aN R]:=by rw[gC,hx];simp
    have c8:(((ts.take i).map (Tm.aN R)).map Tm.av).length=i:=by simp only[aF,eC];omega
    have hw:=bO (n:=(i:Int)+1)
    have iB:=dA hx
    generalize hl0:(ts.take i).map (Tm.aN R)=l0 at *
    generalize hc0:cnt+1+bH Tm.nodes l0=c0 at *
    have hWc:(W.aC cb (.cells [.int .i64 (c0:Int)])) cb≠none:=by rw[aB.aJ];simp
    have hs1:=iE i1 hWc TY.symm
    have hsS:j8 (fX (W.aC cb (.cells [.int .i64 (c0:Int)])) b10 b [.int .i64 k,.int .i64 n,.str s] (l0.map Tm.av)) c m q σ:=by
     have h1:=(hWS.P7 (o:=.cells [.int .i64 (c0:Int)]) hcb.1 hcb.2)
     exact⟨by rw[iE i1 (by rw[h1.cells];simp) a0Y.symm];exact h1.cells,by rw[iE i1 (by rw[h1.map];simp) a0Z.symm];exact h1.map⟩
    rw[aB.aJ] at hs1
    simp -implicitDefEqProofs only[bR,a1K,bQ (av:=Tm.av) aO hx (aM x),aY,aM,aA,↓aS,seval,u7]
    refine(IH D' (LP _) x c0 _ (by omega) (a1J x iB) (qV x iB) i2 hsS hs1).mono ?_
    rintro r s2 ⟨o7,a1E,rfl,hr⟩
    obtain⟨e1,i1'⟩:=r0 (o:=.cells [.int .i64 (o7:Int)]) i1 hWc TY.symm
    rw[e1,cK]
    rw[cK] at i1'
    have uM:(ts.map (Tm.aN R))=l0++(x.aN R)::(ts.drop (i+1)).map (Tm.aN R):=by rw[←hl0,←bB,←CV,←oY,tT]
    by_cases hok:(x.aN R).flat D'=true∧c0+(x.aN R).nodes≤120
    · rw[aH hok] at hr
      obtain⟨rfl,rfl⟩:=hr
      have hbo:=fA i1'
      simp -implicitDefEqProofs only[aY,aM,cH,cP,hbo,mP,aA,↓aS,seval,u7]
      refine eE aO bF bG rfl rfl (fL (aM _) (cH _)) (d9 _) i1' (by simp only[c8,aT,aX];omega) (by simp only[c8,aT,aX];omega) (fun b' hb'=>?_)
      rw[show l0.map Tm.av++ [(x.aN R).av]=((ts.take (i+1)).map (Tm.aN R)).map Tm.av by rw[htk];simp] at hb' ⊢
      obtain⟨g1,g2,g3⟩:=p7 hb'
      simp only[fE,eD] at g1 g3
      have hcc:cnt+1+bH Tm.nodes ((ts.take (i+1)).map (Tm.aN R))=c0+(x.aN R).nodes:=by rw[htk,GQ,bH,bH,←hc0];omega
      simp -implicitDefEqProofs only[g3,mQ,fH,g1,hw,aK,aA,seval,u7]
      rw[hcc]
      exact⟨b',⟨g2,hok.2,by rw[htk,EA,i3];simp [hok.1]⟩,aP.mk (by simp -implicitDefEqProofs only[aA,seval])⟩
    · rw[aE hok] at hr
      subst hr
      obtain⟨e2,i2'⟩:=r0 (x:=b8) (o:=.cells [.int .i64 0,.int .i64 0,.str ⟨#[]⟩,.fslice []]) i1' (by rw[aB.aG _ _ hb8.symm,hW8];simp) FE.symm
      have h8o:=iE i1' (x:=b8) (by rw[aB.aG _ _ hb8.symm,hW8];simp) FE.symm
      rw[aB.aG _ _ hb8.symm,hW8] at h8o
      simp -implicitDefEqProofs only[aK,h8o,Tm.zero,a8,aW,aA,↓aS,seval,u7]
      rw[e2]
      refine UK _ o7 a1E (a3U (hWd _ _ _) i2') ?_
      rw[Tm.iS,Tm.xL,uM,EA,k0,GQ,bH]
      rintro⟨h3,h4⟩
      simp only[cE] at h3
      exact hok ⟨h3.2.1,by omega⟩
  · obtain⟨i1,i2,i3⟩:=hinv
    rw[fG] at i1 i2 i3 ⊢
    have hbo:=fA i1
    have hx8:(W.aC cb (.cells [.int .i64 ((cnt+1+bH Tm.nodes (ts.map (Tm.aN R)):Nat):Int)])) b8≠none:=by rw[aB.aG _ _ hb8.symm,hW8];simp
    have h8o:=iE i1 (x:=b8) hx8 FE.symm
    rw[aB.aG _ _ hb8.symm,hW8] at h8o
    simp -implicitDefEqProofs only[aK,hge,hbo,h8o,fH,aA,seval,u7]
    obtain⟨h5,h6⟩:=lK (o:=.cells [.int .i64 k,.int .i64 n,.str s,aZ 4 b ((ts.map (Tm.aN R)).map Tm.av)]) i1 hx8 FE.symm
    have AB:cnt+(Tm.mk k n s (ts.map (Tm.aN R))).nodes=cnt+1+bH Tm.nodes (ts.map (Tm.aN R)):=by rw[Tm.iS];omega
    refine⟨b,_,_,h5,h6,jJ _,⟨4,d9 _⟩,_,?_,_,Nat.le_succ_of_le i2,rfl,?_⟩
    · rw[aB.nD _ _ _ FE]
      exact hWd _ _ _
    · rw[aH ⟨by rw[Tm.xL];exact i3,by rw[AB];exact i2⟩,AB]
      refine⟨?_,rfl⟩
      simp only[kK,gG,bB,aW,eS,kA,rP,jE,a8]
termination_by D=>D
decreasing_by exact hlt
def OH(v:Tm):AV:=if v.flat 30=true∧v.nodes≤120 then .tup [v.av,.bool true] else .tup [Tm.zero.av,.bool false]
abbrev W7:=zi tI_3 (zi zI_3 (zi aU (zi tI_4 (zi zI_4 (zi cI (zi tI_52 (zi zI_52 (zi bU (zi bV (zi bX (zi bY (zi bT (zi tI_178 (zi zI_178 (zi tI_240 zI_240)))))))))))))))
theorem aBD{σ:Sub}{R:Int→Tm}{rk:Int→Nat}{B:Nat}(G:Good σ R rk B)(hcv:c9 Cv σ)(hsm:c9 Sm σ)(c m:Nat)(q:AV)(t:Tm)(hct:Cv t)(hst:Sm t)(st:aB)(hS:j8 st c m q σ) :
 aD prog 183 [.ptr c 0,t.av] st (fun r st'=>r=OH (t.aN R)∧st'=st):=by
 refine aD.done ?_
 refine wF [1000000,6] 2 func183 ntmps183 rfl rfl ?_
 intro _
 simp -implicitDefEqProofs only[aK,aA,↓aS,seval,W7]
 intro b4 h4 b6 h6
 have hne:b6≠b4:=by rintro rfl;rw[aB.aJ] at h6;cases h6
 have hn6:st b6=none:=by rw[aB.aG st _ hne] at h6;exact h6
 have hS':∀o o',j8 ((st.aC b4 o).aC b6 o') c m q σ:=fun o o'=>(hS.aC h4).aC (by rw[aB.aG _ _ hne];exact hn6)
 obtain⟨h6c,h6m⟩:=hS.ne hn6
 have hc:=aBE G hcv hsm c m b6 q ⟨h6c,h6m⟩ 30 t 0 _ (by omega) hct hst (by omega) (hS' (.cells [.int .i64 0,.int .i64 0,.str ⟨#[]⟩,.fslice []]) (.cells [.int .i64 0])) (aB.aJ _ _ _)
 rw[show(31 - ((30:Nat):Int))=1 from rfl] at hc
 refine hc.mono ?_
 rintro r s2 ⟨o7,_,rfl,hr⟩
 unfold OH
 rw[iA] at hr
 split at hr
 · rename_i hok
   obtain⟨rfl,_⟩:=hr
   rw[aH hok]
   simp -implicitDefEqProofs only[b9,cH,aK,hne.symm,aA,seval,W7]
   exact⟨by simp only[jQ,sB,Tm.soft,bB,aW],(((aL.refl _).aC h4).aC hn6).aC h4⟩
 · rename_i hok
   subst hr
   rw[aE hok]
   simp -implicitDefEqProofs only[Tm.zero,a8,aW,aK,hne.symm,aA,seval,W7]
   exact⟨by simp only[jI,jQ,jB,sB,nB,nA,bB,aW],(((aL.refl _).aC h4).aC hn6).aC h4⟩
abbrev a7T:=zi tI_178 (zi zI_178 (zi tI_207 (zi zI_207 (zi DZ (zi tI_209 (zi zI_209 (zi FA (zi FB EW))))))))
theorem aX8(st:aB):aD prog 148 [] st (fun r st'=>∃c m,r=.ptr c 0∧gX st' c m (.fslice []) Sub.none []∧nJ c m st (.fslice []) st' (.fslice [])∧st c=none∧st m=none):=by
 refine wF [1000000,3] 0 func148 ntmps148 rfl rfl ?_
 intro _
 simp -implicitDefEqProofs only[aA,seval,a7T]
 intro m hm c hc
 have hne:c≠m:=by rintro rfl;rw[aB.aJ] at hc;cases hc
 have hnc:st c=none:=by rw[aB.aG st _ hne] at hc;exact hc
 refine⟨c,m,rfl,⟨⟨aB.aJ _ _ _,by rw[aB.aG _ _ hne.symm,aB.aJ];try rfl⟩,.inl ⟨rfl,rfl⟩,by simp [dU]⟩,⟨fun x o h h1 h2 _=>by rw[aB.aG _ _ h1,aB.aG _ _ h2];exact h,by simp [dU]⟩,hnc,hm⟩
theorem j8.acc{st:aB}{c m b:Nat}{q:AV}{σ:Sub}{l:List AV}(h:j8 st c m q σ)(hb:l≠[]→st b=none):j8 (aV st b l) c m q σ:=by
 cases l with
 | nil=>exact h
 | cons x l=>exact h.aC (hb (by simp))
abbrev bA1:=zi tI_3 (zi zI_3 (zi aU (zi tI_23 (zi zI_23 (zi aCA (zi aB8 (zi aCB (zi aSZ (zi tI_28 (zi zI_28 (zi aO (zi bF (zi bG (zi bZ (zi tI_52 (zi zI_52 (zi bU (zi bV (zi bX (zi bY (zi bT (zi tI_118 (zi zI_118 (zi aMG (zi aMH (zi aMI (zi aMJ ZN)))))))))))))))))))))))))))
abbrev XA:=zi tI_3 (zi zI_3 (zi aU (zi tI_4 (zi zI_4 (zi cI (zi tI_28 (zi zI_28 (zi aO (zi bF (zi bG (zi bZ (zi tI_52 (zi zI_52 (zi bU (zi bV (zi bX (zi bY bT)))))))))))))))))
theorem ME(l l':List Tm)(g:FuncId)(st:aB)(hc:∀x∈l,∀(y:Tm) (st:aB),aD prog g [Tm.av x,Tm.av y] st (fun r st'=>r=.bool (Tm.same x y)∧st'=st)) :
 aD prog 81 [.slice (l.map Tm.av),.slice (l'.map Tm.av),.func g []] st (fun r st'=>r=.bool (jP Tm.same l l')∧st'=st):=by
 refine wF [1000000] 3 func81 ntmps81 rfl rfl ?_
 simp only[eQ,AV.fits,eR,aF]
 intro ⟨⟨hl,_⟩,⟨hl',_⟩⟩
 simp -implicitDefEqProofs only[aF,aA,seval,XA]
 refine⟨fun h4=>?_,fun h4=>?_⟩
 · simp -implicitDefEqProofs only[aA,seval]
   simp only[lT,dL] at h4
   rw[CK _ (show l.length≠l'.length by omega)]
 simp only[qD,bK] at h4
 have h4':l.length=l'.length:=by omega
 simp -implicitDefEqProofs only[aF,aA,seval,XA]
 refine eL (σ:=Unit) [1000000] [1,2,15,16] l (fun i _=>∀(j:Nat) (x y:Tm),j<i→l[j]?=some x→l'[j]?=some y→Tm.same x y=true) (fun i _=>[(17,.int .i64 i)]) (fun _ _=>st) (by decide +kernel) ⟨(),by intro j x y h;omega,aP.mk (by simp -implicitDefEqProofs only[aA,↓aS,seval])⟩ (fun i x _ hx hlt bR hdr cS=>?_) (fun _ hge cS=>?_)
 case refine_2=>
  simp -implicitDefEqProofs only[hge,aA,seval]
  rw[CI _ h4' (fun j x y h6 h7=>cS j x y (by have:=(gW.1 h6).1;omega) h6 h7)]
 obtain⟨y,hy⟩:∃y,l'[i]?=some y:=⟨_,fF (h4'▸hlt)⟩
 have hw:=bO (n:=(i:Int)+1)
 simp -implicitDefEqProofs only[bR,aY,aM,cH,cP,bQ (av:=Tm.av) aO hx (aM x),bQ (av:=Tm.av) aO hy (aM y),aA,↓aS,seval,XA]
 refine(hc x (dA hx) y _).to ?_
 simp -implicitDefEqProofs only[aA,seval]
 refine⟨fun h6=>?_,fun h6=>?_⟩
 · simp -implicitDefEqProofs only[aA,seval]
   have h7:Tm.same x y=false:=by simpa using h6
   rw[CJ _ i x y hx hy h7]
 have h7:Tm.same x y=true:=by simpa using h6
 simp -implicitDefEqProofs only[aA,seval]
 refine⟨(),fun j u v hj hu hv=>?_,aP.mk (by simp -implicitDefEqProofs only[hw,aA,seval])⟩
 rcases k7 j i with h8 | h8
 · exact cS j u v h8 hu hv
 · obtain rfl:j=i:=by omega
   rw[hx] at hu;rw[hy] at hv;cases hu;cases hv;exact h7
abbrev bA0:=zi tI_3 (zi zI_3 (zi aU (zi tI_9 (zi zI_9 (zi cT (zi tI_23 (zi zI_23 (zi aCA (zi aB8 (zi aCB (zi aSZ (zi tI_28 (zi zI_28 (zi aO (zi bF (zi bG (zi bZ (zi tI_52 (zi zI_52 (zi bU (zi bV (zi bX (zi bY (zi bT (zi tI_118 (zi zI_118 (zi aMG (zi aMH (zi aMI (zi aMJ ZN))))))))))))))))))))))))))))))
abbrev PC:=zi tI_3 (zi zI_3 (zi aU (zi tI_4 (zi zI_4 (zi cI (zi tI_9 (zi zI_9 (zi cT (zi tI_28 (zi zI_28 (zi aO (zi bF (zi bG (zi bZ (zi tI_52 (zi zI_52 (zi bU (zi bV (zi bX (zi bY bT))))))))))))))))))))
theorem EY:∀(a b:Tm) (st:aB),aD prog 82 [a.av,b.av] st (fun r st'=>r=.bool (a.same b)∧st'=st)
 | .mk k n s ts,.mk k' n' s' ts',st=>by
  have hc:=ME ts ts' 82 st fun x hx y st=>EY x y st
  refine wF [] 2 func82 ntmps82 rfl rfl ?_
  intro _
  simp only[a8,Tm.WJ]
  simp -implicitDefEqProofs only[aA,seval,PC]
  refine cU (fun h1=>?_) (fun h1=>?_)
  case refine_2=>
   simp -implicitDefEqProofs only[h1,aA,seval]
   simp at h1
   simp []
  simp -implicitDefEqProofs only[h1,aA,seval,PC]
  refine cU (fun h2=>?_) (fun h2=>?_)
  case refine_2=>
   simp -implicitDefEqProofs only[h2,aA,seval]
   simp at h2
   simp []
  simp -implicitDefEqProofs only[h2,aA,seval,PC]
  refine cU (fun h3=>?_) (fun h3=>?_)
  case refine_2=>
   simp -implicitDefEqProofs only[h3,aA,seval]
   simp at h3
   simp []
  simp -implicitDefEqProofs only[h3,aA,seval,PC]
  refine hc.to ?_
  simp -implicitDefEqProofs only[aA,seval]
termination_by a=>SizeOf.sizeOf a
decreasing_by have:=List.sizeOf_lt_of_mem hx;simp only[Tm.mk.sizeOf_spec];omega
abbrev GY:=zi tI_3 (zi zI_3 (zi aU (zi tI_4 (zi zI_4 (zi cI (zi tI_9 (zi zI_9 (zi cT (zi tI_28 (zi zI_28 (zi aO (zi bF (zi bG (zi bZ (zi tI_52 (zi zI_52 (zi bU (zi bV (zi bX (zi bY bT))))))))))))))))))))
theorem H9:∀(a b:Tm) (st:aB),aD prog 95 [a.av,b.av] st (fun r st'=>r=.bool (a.same b)∧st'=st)
 | .mk k n s ts,.mk k' n' s' ts',st=>by
  have hc:=fun(x:Tm) (hx:x∈ts) y st=>H9 x y st
  refine wF [] 2 func95 ntmps95 rfl rfl ?_
  simp only[a8,eQ,AV.fits,eR,aF,Tm.WJ]
  intro ⟨⟨_,_,_,hl,_⟩,⟨_,_,_,hl',_⟩⟩
  simp -implicitDefEqProofs only[aA,seval,GY]
  refine cU (fun h1=>?_) (fun h1=>?_)
  case refine_2=>
   simp -implicitDefEqProofs only[h1,aA,seval]
   simp at h1
   simp [h1]
  simp -implicitDefEqProofs only[h1,aA,seval,GY]
  refine cU (fun h2=>?_) (fun h2=>?_)
  case refine_2=>
   simp -implicitDefEqProofs only[h2,aA,seval]
   simp at h2
   simp [h2]
  simp -implicitDefEqProofs only[h2,aA,seval,GY]
  refine cU (fun h3=>?_) (fun h3=>?_)
  case refine_2=>
   simp -implicitDefEqProofs only[h3,aA,seval]
   simp at h3
   simp [h3]
  simp -implicitDefEqProofs only[h3,aF,aA,seval,GY]
  refine⟨fun h4=>?_,fun h4=>?_⟩
  · simp -implicitDefEqProofs only[aA,seval]
    simp only[lT,dL] at h4
    rw[CK _ (show ts.length≠ts'.length by omega)]
    simp
  simp -implicitDefEqProofs only[aA,seval]
  simp only[qD,bK] at h1 h2 h3 h4
  have h4':ts.length=ts'.length:=by omega
  subst h1 h2 h3
  simp only[bE,eP]
  refine yP (α:=Nat) [] (fun i=>i≤ts.length∧∀(j:Nat) (x y:Tm),j<i→ts[j]?=some x→ts'[j]?=some y→Tm.same x y=true)
   (fun i=>[(2,.pptr (.agg [.int .i64 k,.int .i64 n,.str s,.slice (ts.map Tm.av)])),(3,.pptr (.agg [.int .i64 k,.int .i64 n,.str s,.slice (ts'.map Tm.av)])),(5,.int .i64 i)]) (fun _=>st) (fun i=>ts.length - i) (by decide +kernel)
   ⟨0,⟨by omega,by intro j x y h;omega⟩,aP.mk (by simp -implicitDefEqProofs only[aA,↓aS,seval])⟩ ?_
  intro i ⟨hi,cS⟩
  simp -implicitDefEqProofs only[aF,aA,seval,GY]
  refine⟨fun h5=>?_,fun h5=>?_⟩
  case refine_2=>
   simp -implicitDefEqProofs only[aA,seval]
   simp only[dL,n0] at h5
   rw[CI _ h4' (fun j x y h6 h7=>cS j x y (by have:=(gW.1 h6).1;omega) h6 h7)]
  simp only[bK,n0] at h5
  obtain⟨x,hx⟩:∃x,ts[i]?=some x:=⟨_,fF h5⟩
  obtain⟨y,hy⟩:∃y,ts'[i]?=some y:=⟨_,fF (h4'▸h5)⟩
  simp -implicitDefEqProofs only[aA,seval]
  refine L9 mixed (by decide +kernel) (by decide +kernel) ?_
  simp -implicitDefEqProofs only[bQ (av:=Tm.av) aO hx (aM x),bQ (av:=Tm.av) aO hy (aM y),aY,aM,aA,seval,GY]
  refine(hc x (dA hx) y st).to ?_
  simp -implicitDefEqProofs only[aA,seval]
  refine⟨fun h6=>?_,fun h6=>?_⟩
  · simp -implicitDefEqProofs only[aA,seval]
    have h7:Tm.same x y=false:=by simpa using h6
    rw[CJ _ i x y hx hy h7]
  have h7:Tm.same x y=true:=by simpa using h6
  simp -implicitDefEqProofs only[aA,seval]
  refine⟨i+1,by omega,⟨by omega,fun j u v hj hu hv=>?_⟩,aP.mk ?_⟩
  · rcases k7 j i with h8 | h8
    · exact cS j u v h8 hu hv
    · obtain rfl:j=i:=by omega
      rw[hx] at hu;rw[hy] at hv;cases hu;cases hv;exact h7
  · have:=bO (n:=(i:Int)+1)
    simp -implicitDefEqProofs only[this,aA,seval]
termination_by a=>SizeOf.sizeOf a
decreasing_by have:=List.sizeOf_lt_of_mem hx;simp only[Tm.mk.sizeOf_spec];omega
abbrev bAW:=zi tI_3 (zi zI_3 (zi aU (zi tI_4 (zi zI_4 cI))))
theorem qK(b:Bool)(st:aB):aD prog 227 [.bool b] st (fun r st'=>r=.int .i64 (jO b)∧st'=st):=by
 refine wF [1000000] 1 func227 ntmps227 rfl rfl ?_
 intro _
 simp -implicitDefEqProofs only[aA,seval]
 cases b
 · simp -implicitDefEqProofs only[jO,aA,seval]
 · simp -implicitDefEqProofs only[jO,aA,seval]
abbrev a7B:=zi tI_2 (zi zI_2 (zi LC (zi tI_3 (zi zI_3 (zi aU (zi tI_52 (zi zI_52 (zi bU (zi bV (zi bX (zi bY bT)))))))))))
theorem aYA(n:Int)(st:aB):aD prog 230 [.int .i64 n] st (fun r st'=>r=(pF n).av∧st'=st):=by
 refine aD.done ?_
 refine wF [1000000] 1 func230 ntmps230 rfl rfl ?_
 intro _
 simp -implicitDefEqProofs only[aK,aA,seval,a7B]
 intro b hb
 unfold pF
 exact⟨by simp only[a8,jI,jB,nB,lW,bB,aW,aW],(aL.refl _).aC hb⟩
abbrev WT:=zi tI_3 (zi zI_3 (zi aU (zi tI_4 (zi zI_4 (zi cI (zi tI_9 (zi zI_9 (zi cT (zi tI_28 (zi zI_28 (zi aO (zi bF (zi bG (zi bZ (zi tI_52 (zi zI_52 (zi bU (zi bV (zi bX (zi bY (zi bT (zi tI_138 (zi zI_138 (zi j9 (zi nQ (zi nR oR))))))))))))))))))))))))))
theorem aWB(k n:Int)(s:ByteArray)(ts:List Tm)(st:aB):aD prog 225 [(Tm.mk k n s ts).av] st (fun r st'=>r=.bool (decide (k=3)&&decide ((ts.length:Int)=2)&&gS sR s)∧st'=st):=by
 simp only[a8]
 refine wF [1000000] 1 func225 ntmps225 rfl rfl ?_
 intro _
 simp -implicitDefEqProofs only[aA,seval,WT]
 refine cU (fun h=>?_) (fun h=>?_)
 · simp -implicitDefEqProofs only[h,aF,aA,seval,WT]
   refine cU (fun h2=>?_) (fun h2=>?_)
   · simp -implicitDefEqProofs only[h2,aA,seval,WT]
     refine(RX sR s _).to ?_
     simp -implicitDefEqProofs only[aA,seval]
     simp [gS]
   · simp -implicitDefEqProofs only[h2,aA,seval]
     simp []
 · simp -implicitDefEqProofs only[h,aA,seval]
   simp []
abbrev WU:=zi tI_3 (zi zI_3 (zi aU (zi tI_4 (zi zI_4 (zi cI (zi tI_9 (zi zI_9 (zi cT (zi tI_28 (zi zI_28 (zi aO (zi bF (zi bG (zi bZ (zi tI_52 (zi zI_52 (zi bU (zi bV (zi bX (zi bY bT))))))))))))))))))))
theorem aWA(n:Int)(s:ByteArray)(x y:Tm)(hs:gS sR s=true){N:Int}(hx:cO N x)(hy:cO N y)(st:aB):aD prog 226 [(Tm.mk 3 n s [x,y]).av] st (fun r st'=>r=.int .i64 (zR s x y)∧st'=st):=by
 have eG:dN prog 28 (.slice [x.av,y.av]) (.int .i64 0)=some (.pptr x.av):=bQ (av:=Tm.av) (l:=[x,y]) (i:=0) aO rfl (aM x)
 have fR:dN prog 28 (.slice [x.av,y.av]) (.int .i64 1)=some (.pptr y.av):=bQ (av:=Tm.av) (l:=[x,y]) (i:=1) aO rfl (aM y)
 have hax:=fun st=>MF x st hx
 have hay:=fun st=>MF y st hy
 unfold zR both
 simp only[a8,bB,aW]
 refine wF [1000000] 1 func226 ntmps226 rfl rfl ?_
 intro _
 simp -implicitDefEqProofs only[eG,aY,aM,aA,seval,WU]
 refine(hax _).to ?_
 generalize x.ev.1=a at *
 generalize x.ev.2=ca at *
 generalize y.ev.1=b at *
 generalize y.ev.2=cb at *
 simp -implicitDefEqProofs only[aA,seval]
 refine aQ (fun h4=>?_) (fun h4=>?_)
 · simp -implicitDefEqProofs only[aA,seval]
   have h4':ca≠0:=by simpa using h4
   rw[aH h4']
 have h4':ca=0:=by simpa using h4
 subst h4'
 rw[aE (by simp)]
 simp -implicitDefEqProofs only[fR,aY,aM,aA,seval,WU]
 refine(hay _).to ?_
 simp -implicitDefEqProofs only[aA,seval]
 refine aQ (fun h5=>?_) (fun h5=>?_)
 · simp -implicitDefEqProofs only[aA,seval]
   have h5':cb≠0:=by simpa using h5
   rw[aH h5']
 have h5':cb=0:=by simpa using h5
 subst h5'
 rw[aE (by simp)]
 unfold MT
 simp -implicitDefEqProofs only[aA,seval,WU]
 refine aQ (fun h6=>?_) (fun h6=>?_)
 · simp -implicitDefEqProofs only[aA,seval]
   rw[aH (by simpa using h6)]
   refine(qK _ _).to ?_
   simp -implicitDefEqProofs only[aA,seval]
 rw[aE (by simpa using h6)]
 simp -implicitDefEqProofs only[aA,seval]
 refine aQ (fun h7=>?_) (fun h7=>?_)
 · simp -implicitDefEqProofs only[aA,seval]
   rw[aH (by simpa using h7)]
   refine(qK _ _).to ?_
   simp -implicitDefEqProofs only[aA,seval]
 rw[aE (by simpa using h7)]
 simp -implicitDefEqProofs only[aA,seval]
 refine aQ (fun h8=>?_) (fun h8=>?_)
 · simp -implicitDefEqProofs only[aA,seval]
   rw[aH (by simpa using h8)]
   refine(qK _ _).to ?_
   simp -implicitDefEqProofs only[aA,seval]
 rw[aE (by simpa using h8)]
 simp -implicitDefEqProofs only[aA,seval]
 refine aQ (fun h9=>?_) (fun h9=>?_)
 · simp -implicitDefEqProofs only[aA,seval]
   rw[aH (by simpa using h9)]
   refine(qK _ _).to ?_
   simp -implicitDefEqProofs only[aA,seval]
 rw[aE (by simpa using h9)]
 simp -implicitDefEqProofs only[aA,seval]
 refine(qK _ _).to ?_
 simp -implicitDefEqProofs only[aA,seval]
theorem N9{ts:List Tm}(h:ts.length=0):ts= []:=sI h
theorem JV{ts:List Tm}(h:ts.length=1):∃x,ts= [x]:=by
 match ts,h with
 | [x],_=>exact⟨x,rfl⟩
theorem wB{ts:List Tm}(h:ts.length=2):∃x y,ts= [x,y]:=by
 match ts,h with
 | [x,y],_=>exact⟨x,y,rfl⟩
theorem aO2{ts:List Tm}(h:ts.length=3):∃x y z,ts= [x,y,z]:=by
 match ts,h with
 | [x,y,z],_=>exact⟨x,y,z,rfl⟩
theorem aTC{σ:Sub}{f:Nat}{t u:Tm}(h:gR σ f t u):wk σ u=u:=(gR.stop h.end).wk
end Go.AW
namespace Go.AW

end Go.AW
namespace Go.AW
open Go.Proofs.Tryz
theorem a65{α:Type}(f:α→Nat)(l:List α)(i:Nat):bH f (l.take i)≤bH f l:=by
 have:=GQ f (l.take i) (l.drop i)
 rw[tT] at this
 omega
def Full(v:Tm)(room:Nat)(st:aB)(r:AV)(st':aB):Prop:=
 st'=st∧∃(x:Tm) (left:Int),r=.tup [x.av,.int .i64 left]∧-1≤left∧if v.nodes≤room then x=v∧left=(room:Int) - v.nodes else left<0
abbrev Bt:=Fin 256
def gE(b:Bt):AV:=.int .u8 (b.val:Int)
theorem MC(b:Bt):(gE b).width=1:=rfl
def cW(st:aB)(c:Nat)(bs:List Bt)(p:Nat):Prop:=st c=some (.cells [.slice (bs.map gE),.int .i64 (p:Int)])
def b7(bs:List Bt)(p:Nat):AO:=.cells [.slice (bs.map gE),.int .i64 (p:Int)]
theorem PJ(a b:Nat):(a:Int).tmod (b:Int)=((a % b:Nat):Int):=(Int.ofNat_tmod a b).symm
theorem aRD(a b:Nat):(a:Int).tdiv (b:Int)=((a / b:Nat):Int):=(Int.ofNat_tdiv a b).symm
theorem aT8(a b:Nat)(ha:a<2 ^ 62)(hb:b<2 ^ 62):∃m:Nat,HT .i64 (a:Int) (b:Int)=(m:Int):=by
 have hx:=Nat.xor_lt_two_pow ha hb
 refine⟨a ^^^ b,?_⟩
 unfold HT
 show IntKind.i64.wrap (((BitVec.ofInt 64 (a:Int) ^^^ BitVec.ofInt 64 (b:Int)).toNat:Nat):Int)=_
 rw[BitVec.ofInt_natCast,BitVec.ofInt_natCast,BitVec.toNat_xor,BitVec.toNat_ofNat,BitVec.toNat_ofNat,Nat.mod_eq_of_lt (by omega),Nat.mod_eq_of_lt (by omega)]
 rw[wrap64 (by omega) (by omega)]
abbrev KM:=zi tI_3 (zi zI_3 (zi aU (zi tI_5 (zi zI_5 (zi mH (zi tI_47 (zi zI_47 (zi mU (zi pT (zi pU (zi pJ (zi tI_91 (zi zI_91 (zi tI_137 (zi zI_137 (zi aMM (zi aMN ZP)))))))))))))))))
theorem mS(bs:List Bt)(c p:Nat)(hp:p≤1099511627776)(n:Nat)(hn:1≤n)(hn2:n≤1048576)(st:aB)(h:cW st c bs p) :
 aD prog 93 [.ptr c 0,.int .i64 (n:Int)] st (fun r st'=>∃k:Nat,k<n∧r=.int .i64 (k:Int)∧st'=st.aC c (b7 bs (p+1))):=by
 unfold cW at h
 refine wF [1000000] 2 func93 ntmps93 rfl rfl ?_
 intro _
 have hw1:IntKind.i64.wrap ((p:Int)+1)=(p:Int)+1:=wrap64 (by omega) (by omega)
 simp -implicitDefEqProofs only[aK,h,hw1,aA,seval,KM]
 have hn1:¬(n:Int)<1:=by omega
 have hw2:IntKind.i64.wrap ((p:Int)+1 - 1)=(p:Int):=by rw[wrap64 (by omega) (by omega)];omega
 have hst:∀(q:aB),q c=some (.cells [.slice (bs.map gE),.int .i64 ((p:Int)+1)])→True:=fun _ _=>trivial
 have hrd:b7 bs (p+1)=.cells [.slice (bs.map gE),.int .i64 ((p:Int)+1)]:=by simp [b7]
 rw[hrd]
 refine cU (fun h1=>?_) (fun h1=>?_)
 case refine_2=>simp [hn1] at h1
 simp -implicitDefEqProofs only[bM,dX,hn1,aF,aA,seval,KM]
 refine aQ (fun h2=>?_) (fun h2=>?_)
 · simp -implicitDefEqProofs only[aA,seval]
   exact⟨0,by omega,rfl⟩
 simp -implicitDefEqProofs only[hw2,aF,aA,seval,KM]
 have hbl:bs.length≠0:=by simpa using h2
 refine aQ (fun h3=>?_) (fun h3=>?_)
 · simp only[bK] at h3
   obtain⟨x,hx⟩:∃x,bs[p]?=some x:=⟨_,fF (by omega)⟩
   have hx2:=x.isLt
   have hb1:IntKind.i64.wrap (x.val:Int)=(x.val:Int):=wrap64 (by omega) (by omega)
   have hn0:¬(n:Int)=0:=by omega
   have T8:dN prog 47 (.slice (bs.map gE)) (.int .i64 (p:Int))=some (.pptr (.int .u8 x.val)):=bQ (av:=gE) mU hx (MC x)
   simp -implicitDefEqProofs only[T8,vM,hb1,hn0,aA,seval,KM]
   exact⟨x.val % n,Nat.mod_lt _ (by omega),by rw[PJ]⟩
 · simp only[dL] at h3
   obtain⟨x,hx⟩:∃x,bs[p % bs.length]?=some x:=⟨_,fF (Nat.mod_lt _ (by omega))⟩
   obtain⟨y,hy⟩:∃y,bs[(p*7+3) % bs.length]?=some y:=⟨_,fF (Nat.mod_lt _ (by omega))⟩
   have hx2:=x.isLt
   have hy2:=y.isLt
   have hl0:¬(bs.length:Int)=0:=by omega
   simp -implicitDefEqProofs only[aA,seval]
   refine vF [(0,1),(1,1),(2,1),(3,1),(4,1),(5,1),(6,1),(7,1),(8,1),(9,1),(10,1),(11,1),(12,1),(13,1),(14,1),(15,1),(16,1),(17,1),(18,1),(19,1),(20,1),(21,1),(22,1),(23,1),(24,1),(25,1),(26,1),(27,1),(28,1),(29,1),(30,1),(31,1),(32,1),(33,1),(34,1),(35,1),(36,1),(37,1),(38,1),(39,1),(40,1),(41,1),(42,1),(43,1),(44,1),(45,1)] [0,1,2,3,4,5,6,7,8,9,10,11,12,13,14,15,16,17,18,19,20,21,22,23,24,25,26,27,28,29,30,31,32,33,34,35,36,37,38,39,40,41,42,43,44,45] (dQ.aC c (.cells [.slice (bs.map gE),.int .i64 ((p:Int)+1)])) mixed (by decide +kernel) (by decide +kernel) (by decide +kernel) rfl (eV (aB.aJ _ _ _)) ?_
   have e7:IntKind.i64.wrap ((p:Int)*7)=(p:Int)*7:=wrap64 (by omega) (by omega)
   have e8:IntKind.i64.wrap ((p:Int)*7+3)=(p:Int)*7+3:=wrap64 (by omega) (by omega)
   have e9:((p:Int)*7+3).tmod (bs.length:Int)=(((p*7+3) % bs.length:Nat):Int):=by rw[←PJ];congr 1
   have f1:IntKind.i64.wrap ((x.val:Int)*131)=(x.val:Int)*131:=wrap64 (by omega) (by omega)
   have f2:IntKind.i64.wrap ((y.val:Int)*1117)=(y.val:Int)*1117:=wrap64 (by omega) (by omega)
   have f3:IntKind.i64.wrap ((x.val:Int)*131+(y.val:Int)*1117)=(x.val:Int)*131+(y.val:Int)*1117:=wrap64 (by omega) (by omega)
   have f4:IntKind.i64.wrap ((p:Int)*29)=(p:Int)*29:=wrap64 (by omega) (by omega)
   have f5:IntKind.i64.wrap ((x.val:Int)*131+(y.val:Int)*1117+(p:Int)*29)=(x.val:Int)*131+(y.val:Int)*1117+(p:Int)*29:=wrap64 (by omega) (by omega)
   have hb1:IntKind.i64.wrap (x.val:Int)=(x.val:Int):=wrap64 (by omega) (by omega)
   have hb2:IntKind.i64.wrap (y.val:Int)=(y.val:Int):=wrap64 (by omega) (by omega)
   generalize hjx:p % bs.length=jx at *
   generalize hjy:(p*7+3) % bs.length=jy at *
   have e10:(p:Int).tmod (bs.length:Int)=(jx:Int):=by rw[PJ,hjx]
   have T8:dN prog 47 (.slice (bs.map gE)) (.int .i64 (jx:Int))=some (.pptr (.int .u8 x.val)):=bQ (av:=gE) mU hx (MC x)
   have a07:dN prog 47 (.slice (bs.map gE)) (.int .i64 (jy:Int))=some (.pptr (.int .u8 y.val)):=bQ (av:=gE) mU hy (MC y)
   have hdv:p / bs.length≤p:=Nat.div_le_self _ _
   generalize hq:p / bs.length=q at *
   have hqq:IntKind.i64.wrap ((p:Int).tdiv (bs.length:Int))=(q:Int):=by rw[aRD,hq,wrap64 (by omega) (by omega)]
   have f6:IntKind.i64.wrap ((q:Int)*53)=(q:Int)*53:=wrap64 (by omega) (by omega)
   obtain⟨z,hz,hz2⟩:∃z:Nat,(x.val:Int)*131+(y.val:Int)*1117+(p:Int)*29+(q:Int)*53=(z:Int)∧z<2 ^ 61:=⟨x.val*131+y.val*1117+p*29+q*53,by omega,by omega⟩
   have f7:IntKind.i64.wrap ((x.val:Int)*131+(y.val:Int)*1117+(p:Int)*29+(q:Int)*53)=(z:Int):=by rw[hz];exact wrap64 (by omega) (by omega)
   have bAV:z / 64≤z:=Nat.div_le_self _ _
   obtain⟨m,hm⟩:=aT8 z (z / 64) (by omega) (by omega)
   have f8:IntKind.i64.wrap ((z:Int).tdiv 64)=((z / 64:Nat):Int):=by rw[show(64:Int)=((64:Nat):Int) from rfl,aRD,wrap64 (by omega) (by omega)]
   generalize z / 64=z2 at *
   have hn0:¬(n:Int)=0:=by omega
   simp -implicitDefEqProofs only[aF,hl0,e7,e8,e9,e10,f1,f2,f3,f4,f5,f6,f7,f8,hm,hn0,T8,a07,hb1,hb2,hqq,vM,aA,seval,KM]
   exact⟨m % n,Nat.mod_lt _ (by omega),rfl⟩
abbrev aRG:=zi tI_3 (zi zI_3 (zi aU (zi tI_40 (zi zI_40 (zi dT (zi fJ (zi fK (zi fU (zi tI_91 zI_91)))))))))
theorem aX9(l:List Int)(h1:1≤l.length)(h2:l.length≤1048576)(bs:List Bt)(c p:Nat)(hp:p≤1099511627776)(st:aB)(h:cW st c bs p) :
 aD prog 90 [.ptr c 0,.slice (l.map iv)] st (fun r st'=>∃x∈l,r=.int .i64 x∧st'=st.aC c (b7 bs (p+1))):=by
 refine wF [1000000] 2 func90 ntmps90 rfl rfl ?_
 intro _
 simp -implicitDefEqProofs only[aF,aA,seval,aRG]
 refine(mS bs c p hp l.length h1 h2 st h).mono ?_
 rintro _ _ ⟨k,hk,rfl,rfl⟩
 obtain⟨x,hx⟩:∃x,l[k]?=some x:=⟨_,fF hk⟩
 have hat:=bQ (av:=iv) dT hx rfl
 simp -implicitDefEqProofs only[hat,aA,seval,aRG]
 exact⟨x,dA hx,rfl⟩
theorem nO(l:List Int)(h1:1≤l.length)(h2:l.length≤1048576)(bs:List Bt)(c p:Nat)(hp:p≤1099511627776)(st:aB)(h:cW st c bs p) :
 aD prog 90 [.ptr c 0,.fslice (l.map iv)] st (fun r st'=>∃x∈l,r=.int .i64 x∧st'=st.aC c (b7 bs (p+1))):=
 aD.rD (by simp only[jA,AV.soft];exact aX9 l h1 h2 bs c p hp st h)
abbrev aRF:=zi tI_3 (zi zI_3 (zi aU (zi tI_9 (zi zI_9 (zi cT (zi tI_91 (zi zI_91 (zi tI_138 (zi zI_138 (zi j9 (zi nQ (zi nR oR))))))))))))
theorem aYC(l:List ByteArray)(h1:1≤l.length)(h2:l.length≤1048576)(bs:List Bt)(c p:Nat)(hp:p≤1099511627776)(st:aB)(h:cW st c bs p) :
 aD prog 146 [.ptr c 0,.slice (l.map AV.str)] st (fun r st'=>∃x∈l,r=.str x∧st'=st.aC c (b7 bs (p+1))):=by
 refine wF [1000000] 2 func146 ntmps146 rfl rfl ?_
 intro _
 simp -implicitDefEqProofs only[aF,aA,seval,aRF]
 refine(mS bs c p hp l.length h1 h2 st h).mono ?_
 rintro _ _ ⟨k,hk,rfl,rfl⟩
 obtain⟨x,hx⟩:∃x,l[k]?=some x:=⟨_,fF hk⟩
 have hat:=bQ (av:=AV.str) j9 hx rfl
 simp -implicitDefEqProofs only[hat,aA,seval,aRF]
 exact⟨x,dA hx,rfl⟩
theorem H8(l:List ByteArray)(h1:1≤l.length)(h2:l.length≤1048576)(bs:List Bt)(c p:Nat)(hp:p≤1099511627776)(st:aB)(h:cW st c bs p) :
 aD prog 146 [.ptr c 0,.fslice (l.map AV.str)] st (fun r st'=>∃x∈l,r=.str x∧st'=st.aC c (b7 bs (p+1))):=
 aD.rD (by simp only[jA,AV.soft];exact aYC l h1 h2 bs c p hp st h)
abbrev W1:=zi tI_3 (zi zI_3 (zi aU (zi tI_47 (zi zI_47 (zi mU (zi pT (zi pU (zi pJ (zi tI_91 (zi zI_91 (zi tI_137 (zi zI_137 (zi aMM (zi aMN ZP))))))))))))))
theorem H6(bs:List Bt)(st:aB):aD prog 71 [.slice (bs.map gE)] st (fun r st'=>∃c bs',r=.ptr c 0∧st c=none∧st'=st.aC c (b7 bs' 0)):=by
 refine wF [1000000,10] 1 func71 ntmps71 rfl rfl ?_
 simp only[eQ,AV.fits,eR,aF]
 intro ⟨hl,_⟩
 have hs:bs.length>2000→∀φ,fY prog φ 47 (.slice (bs.map gE)) none (some (.const (.int .i64 2000))) none=some (.slice ((bs.take 2000).map gE)):=fun h φ=>by
  have h2:((0:Int)≤2000∧(2000:Int)≤(bs.map gE).length):=⟨by omega,by rw[aF];omega⟩
  have h3:dJ φ (some (.const (.int .i64 2000))) (bs.map gE).length (bs.map gE).length=some 2000:=by
   show(if((0:Int)≤2000∧(2000:Int)≤(bs.map gE).length) then some (Int.toNat 2000) else none)=some 2000
   exact aH h2
  unfold fY nK
  rw[aE (by simp [pE])]
  simp only[mU]
  have h4:dJ φ none (bs.map gE).length (bs.map gE).length=some (bs.map gE).length:=rfl
  rw[h4]
  simp only[h3]
  have h5:dJ φ none 0 2000=some 0:=rfl
  rw[h5]
  simp
 simp -implicitDefEqProofs only[aF,aA,seval,W1]
 refine aQ (fun h=>?_) (fun h=>?_)
 · simp only[bK] at h
   have hs':=hs (by omega)
   simp -implicitDefEqProofs only[hs',aA,seval,W1]
   intro b hb
   exact⟨b,bs.take 2000,rfl,hb,by simp [b7]⟩
 · simp -implicitDefEqProofs only[aA,seval,W1]
   intro b hb
   exact⟨b,bs,rfl,hb,by simp [b7]⟩
abbrev a7F:=zi tI_3 (zi zI_3 (zi aU (zi tI_52 (zi zI_52 (zi bU (zi bV (zi bX (zi bY bT))))))))
theorem MJ(n:Int)(st:aB):aD prog 160 [.int .i64 n] st (fun r st'=>r=(vr n).av∧st'=st):=by
 refine aD.done ?_
 refine wF [1000000] 1 func160 ntmps160 rfl rfl ?_
 intro _
 simp -implicitDefEqProofs only[aK,aA,seval,a7F]
 intro b hb
 exact⟨by simp only[vr,a8,jI,jB,nB,lW,bB,aW],(aL.refl _).aC hb⟩
abbrev a7E:=zi tI_2 (zi zI_2 (zi LC (zi tI_3 (zi zI_3 (zi aU (zi tI_52 (zi zI_52 (zi bU (zi bV (zi bX (zi bY bT)))))))))))
theorem EZ(n:Int)(st:aB):aD prog 147 [.int .i64 n] st (fun r st'=>r=(Tm.mk 2 n ⟨#[]⟩ []).av∧st'=st):=by
 refine aD.done ?_
 refine wF [1000000] 1 func147 ntmps147 rfl rfl ?_
 intro _
 simp -implicitDefEqProofs only[aK,aA,seval,a7E]
 intro b hb
 exact⟨by simp only[a8,jI,jB,nB,lW,bB,aW],(aL.refl _).aC hb⟩
abbrev O3:=zi tI_3 (zi zI_3 (zi aU (zi tI_9 (zi zI_9 (zi cT (zi tI_28 (zi zI_28 (zi aO (zi bF (zi bG (zi bZ (zi tI_52 (zi zI_52 (zi bU (zi bV (zi bX (zi bY bT)))))))))))))))))
theorem aW6(s:ByteArray)(l:List Tm)(hl:l.length≤1048576)(st:aB):aD prog 119 [.str s,.slice (l.map Tm.av)] st (fun r st'=>r=(Tm.mk 3 0 s l).av∧st'=st):=by
 refine aD.qM (aD.fin ?_)
 refine wF [1000000] 2 func119 ntmps119 rfl rfl ?_
 intro _
 simp -implicitDefEqProofs only[aA,seval,O3]
 intro b hb
 change kP prog 28 (aV (st.aC b (.cells [.int .i64 0,.int .i64 0,.str ⟨#[]⟩,.fslice []])) 0 []) (aZ 4 0 []) (.slice (l.map Tm.av)) _
 refine eE aO bF bG rfl rfl (by intro e he;simp only[cY] at he;obtain⟨t,_,rfl⟩:=he;exact⟨aM _,cH _⟩) (by simp) (fun h=>absurd rfl h) (by simp only[aX,aF];omega) (by simp only[aX,aF];omega) (fun b' hb'=>?_)
 rw[eD] at hb' ⊢
 have hne:l.map Tm.av≠[]→b≠b':=fun h e=>by have:=hb' h;rw[←e,aB.aJ] at this;cases this
 have h1:aV (st.aC b (.cells [.int .i64 0,.int .i64 0,.str ⟨#[]⟩,.fslice []])) b' (l.map Tm.av) b=some (.cells [.int .i64 0,.int .i64 0,.str ⟨#[]⟩,.fslice []]):=by
  by_cases h:l.map Tm.av= []
  · rw[h,oA,aB.aJ]
  · rw[nL (hne h),aB.aJ]
 simp -implicitDefEqProofs only[aK,h1,mQ,fH,nM,aA,seval,O3]
 rw[lQ hne,cK]
 exact⟨b',l.map Tm.av,st.aC b _,rfl,fun h=>by rw[aB.aG _ _ (dG (hne h))];have:=hb' h;rwa [aB.aG _ _ (dG (hne h))] at this,jJ _,⟨4,d9 _⟩,by simp only[a8,gG,eS,kA,mV,bB,aW],(aL.refl _).aC hb⟩
theorem t9(s:ByteArray)(l:List Tm)(hl:l.length≤1048576)(st:aB):aD prog 119 [.str s,.fslice (l.map Tm.av)] st (fun r st'=>r=(Tm.mk 3 0 s l).av∧st'=st):=
 aD.rD (by simp only[jA,AV.soft];exact aW6 s l hl st)
theorem aW7(s:ByteArray)(st:aB):aD prog 119 [.str s,.fslice []] st (fun r st'=>r=.agg [.int .i64 3,.int .i64 0,.str s,.fslice []]∧st'=st):=by
 refine aD.drop ?_
 refine wF [1000000] 2 func119 ntmps119 rfl rfl ?_
 intro _
 simp -implicitDefEqProofs only[aA,seval,O3]
 intro b hb
 change kP prog 28 (aV (st.aC b (.cells [.int .i64 0,.int .i64 0,.str ⟨#[]⟩,.fslice []])) 0 []) (aZ 4 0 []) (.fslice ([]:List AV)) _
 refine eE aO bF bG rfl rfl (by simp [vQ]) (by simp) (fun h=>absurd rfl h) (by simp) (by simp) (fun b' hb'=>?_)
 simp only[iV,jV,oA]
 simp -implicitDefEqProofs only[aK,aA,seval,O3]
 exact(aL.refl _).aC hb
abbrev Dn (t:Tm):Prop:=t.cv=true∧t.small=true
theorem S0(n:Int):Dn (vr n):=by
 refine⟨Tm.pS.2 ⟨fun _=>⟨rfl,rfl⟩,fun x hx=>by cases hx⟩,?_⟩
 simp [vr,Tm.small,K5]
theorem zW{k n:Int}{s:ByteArray}{ts:List Tm}(hk:k≠1)(hl:ts.length≤1048576)(h:∀x∈ts,Dn x):Dn (.mk k n s ts):=by
 refine⟨Tm.pS.2 ⟨fun h=>absurd h hk,fun x hx=>(h x hx).1⟩,?_⟩
 simp only[Tm.small,K6,cE,bK,eM]
 exact⟨hl,fun x hx=>(h x hx).2⟩
def Dr(bs:List Bt)(c p m:Nat)(st:aB)(Q:AV→Prop)(r:AV)(st':aB):Prop:=∃p',p≤p'∧p'≤p+m∧st'=st.aC c (b7 bs p')∧Q r
def QH(r:AV):Prop:=∃t:Tm,Dn t∧r=t.av
theorem cW.aC{st:aB}{c p:Nat}{bs:List Bt}{b:Nat}{o:AO}(h:cW st c bs p)(hb:b≠c):cW (st.aC b o) c bs p:=by unfold cW;rw[aB.aG _ _ (dG hb)];exact h
theorem cW.new{st:aB}{c p:Nat}{bs:List Bt}:cW (st.aC c (b7 bs p)) c bs p:=aB.aJ _ _ _
theorem cW.ne{st:aB}{c p:Nat}{bs:List Bt}{b:Nat}(h:cW st c bs p)(hb:st b=none):b≠c:=by rintro rfl;rw[cW,hb] at h;cases h
abbrev nC:=zi tI_3 (zi zI_3 (zi aU (zi tI_4 (zi zI_4 (zi cI (zi tI_9 (zi zI_9 (zi cT (zi tI_28 (zi zI_28 (zi aO (zi bF (zi bG (zi bZ (zi tI_40 (zi zI_40 (zi dT (zi fJ (zi fK (zi fU (zi tI_52 (zi zI_52 (zi bU (zi bV (zi bX (zi bY (zi bT (zi tI_91 (zi zI_91 (zi tI_138 (zi zI_138 (zi j9 (zi nQ (zi nR oR))))))))))))))))))))))))))))))))))
theorem aAO(bs:List Bt)(c:Nat):∀(d p:Nat) (st:aB),d≤10→p+4 ^ (d+2)≤1099511627776→cW st c bs p→aD prog 181 [.ptr c 0,.int .i64 (d:Int)] st (Dr bs c p (4 ^ (d+2)) st QH)
 | d,p,st,hd,hp,hR=>by
  have IH:=fun(d':Nat) (hlt:d'<d) p st=>aAO bs c d' p st
  refine aD.kS (aD.fin ?_)
  refine wF [1000000,5] 2 func181 ntmps181 rfl rfl ?_
  intro _
  simp -implicitDefEqProofs only[aA,seval,nC]
  intro b4 h4
  have h4c:=hR.ne h4
  have hR':=fun o=>hR.aC (o:=o) h4c
  have a2P:64≤4 ^ (d+2)∨d=0:=by
   cases d with
   | zero=>exact .inr rfl
   | succ d=>
    left
    have:4 ^ (d+1+2)=64*4 ^ d:=by rw[show d+1+2=d+3 by omega,Nat.pow_add];omega
    have:=Nat.one_le_two_pow (n:=d);have:1≤4 ^ d:=Nat.one_le_pow _ _ (by omega);omega
  have a2Q:16≤4 ^ (d+2):=by rcases a2P with h | rfl<;>omega
  have lD:∀(o o':AO) (q:Nat) (t:Tm),p≤q→q≤p+4 ^ (d+2)→Dn t→∃b l s0,((st.aC b4 o).aC c (b7 bs q)).aC b4 o'=aV s0 b l∧(l≠[]→s0 b=none)∧(∀e∈l,e.cJ=false)∧iU l∧∃s2,aL s0 s2∧Dr bs c p (4 ^ (d+2)) st QH (AV.fin b l t.av) s2:=fun o o' q t h1 h2 h3=>by
   refine⟨0,[],_,rfl,by simp,by simp,⟨4,by simp⟩,st.aC c (b7 bs q),?_,q,h1,h2,rfl,t,h3,Tm.xJ t 0⟩
   intro x
   by_cases e4:x=b4<;>by_cases ec:x=c<;>simp_all [aB.aC]
  refine cU (fun h=>?_) (fun h=>?_)
  case refine_2=>
   simp -implicitDefEqProofs only[h,aA,seval]
   have hRq:=hR' (.cells [.int .i64 0,.int .i64 0,.str ⟨#[]⟩,.fslice []])
   have hq:p+1≤1099511627776:=by omega
   have:=h4c.symm
   refine(mS bs c (p) (by omega) 4 (by omega) (by omega) _ hRq).mono ?_
   rintro _ _ ⟨k,hk,rfl,rfl⟩
   try rw[cK]
   simp -implicitDefEqProofs only[aA,seval]
   refine aQ (fun h1=>?_) (fun h1=>?_)
   · simp -implicitDefEqProofs only[aA,seval]
     refine(mS bs c (p+1) (by omega) 4 (by omega) (by omega) _ cW.new).mono ?_
     rintro _ _ ⟨k2,hk2,rfl,rfl⟩
     rw[cK]
     simp -implicitDefEqProofs only[aA,seval]
     refine(MJ (k2:Int) _).to ?_
     simp -implicitDefEqProofs only[b9,cH,eW (b9 _),eU (aY _),aK,h4c,aA,seval,nC]
     exact lD _ _ _ (vr k2) (by omega) (by omega) (S0 _)
   simp -implicitDefEqProofs only[aA,seval]
   refine aQ (fun h2=>?_) (fun h2=>?_)
   · simp -implicitDefEqProofs only[aA,seval,nC]
     refine(nO [0,1,7,-3,999,-999] (by simp) (by simp) bs c (p+1) (by omega) _ cW.new).mono ?_
     rintro _ _ ⟨x,hx,rfl,rfl⟩
     rw[cK]
     simp -implicitDefEqProofs only[aA,seval]
     refine(EZ x _).to ?_
     simp -implicitDefEqProofs only[b9,cH,eW (b9 _),eU (aY _),aK,h4c,aA,seval,nC]
     exact lD _ _ _ (.mk 2 x ⟨#[]⟩ []) (by omega) (by omega) (zW (by omega) (by simp) (by simp))
   · simp -implicitDefEqProofs only[aA,seval,nC]
     refine(H8 [⟨#[97]⟩,⟨#[98]⟩,⟨#[110,105,108]⟩,⟨#[91,93]⟩,⟨#[102,111,111]⟩,⟨#[43]⟩] (by simp) (by simp) bs c (p+1) (by omega) _ cW.new).mono ?_
     rintro _ _ ⟨x,hx,rfl,rfl⟩
     rw[cK]
     simp -implicitDefEqProofs only[aA,seval]
     refine(t9 x [] (by simp) _).to ?_
     simp -implicitDefEqProofs only[b9,cH,eW (b9 _),eU (aY _),aK,h4c,aA,seval,nC]
     exact lD _ _ _ (.mk 3 0 x []) (by omega) (by omega) (zW (by omega) (by simp) (by simp))
  simp -implicitDefEqProofs only[h,aA,seval]
  have hd2:2≤d:=by simp at h;omega
  have hwx:∀z:Int,z=(d:Int)→IntKind.i64.wrap (z - 1)=z - 1:=fun z hz=>wrap64 (by omega) (by omega)
  obtain⟨d',rfl⟩:∃d',d=d'+1:=⟨d - 1,by omega⟩
  have hpd:4 ^ (d'+1+2)=4*4 ^ (d'+2):=by rw[show d'+1+2=d'+2+1 by omega,Nat.pow_succ];omega
  have hp4:4≤4 ^ (d'+2):=by have:1≤4 ^ d':=Nat.one_le_pow _ _ (by omega);rw[Nat.pow_add];omega
  have hwd:IntKind.i64.wrap (((d'+1:Nat):Int) - 1)=(d':Int):=by rw[wrap64 (by omega) (by omega)];omega
  have U6:IntKind.i64.wrap ((d':Int)+1 - 1)=(d':Int):=by rw[wrap64 (by omega) (by omega)];omega
  have IHd:=fun p st=>IH d' (LP _) p st
  generalize hM:4 ^ (d'+2)=M at *
  rw[hpd] at hp a2Q
  refine(mS bs c p (by omega) 4 (by omega) (by omega) _ (hR' _)).mono ?_
  rintro _ _ ⟨k,hk,rfl,rfl⟩
  simp -implicitDefEqProofs only[aA,seval]
  refine aQ (fun h1=>?_) (fun h1=>?_)
  · have hRq:cW ((st.aC b4 (.cells [.int .i64 0,.int .i64 0,.str ⟨#[]⟩,.fslice []])).aC c (b7 bs (p+1))) c bs (p+1):=cW.new
    simp -implicitDefEqProofs only[aA,seval]
    refine(mS bs c (p+1) (by omega) 4 (by omega) (by omega) _ hRq).mono ?_
    rintro _ _ ⟨k,hk,rfl,rfl⟩
    try rw[cK]
    simp -implicitDefEqProofs only[aA,seval]
    refine aQ (fun h1=>?_) (fun h1=>?_)
    · simp -implicitDefEqProofs only[aA,seval]
      refine(mS bs c (p+1+1) (by omega) 4 (by omega) (by omega) _ cW.new).mono ?_
      rintro _ _ ⟨k2,hk2,rfl,rfl⟩
      rw[cK]
      simp -implicitDefEqProofs only[aA,seval]
      refine(MJ (k2:Int) _).to ?_
      simp -implicitDefEqProofs only[b9,cH,eW (b9 _),eU (aY _),aK,h4c,aA,seval,nC]
      exact lD _ _ _ (vr k2) (by omega) (by omega) (S0 _)
    simp -implicitDefEqProofs only[aA,seval]
    refine aQ (fun h2=>?_) (fun h2=>?_)
    · simp -implicitDefEqProofs only[aA,seval,nC]
      refine(nO [0,1,7,-3,999,-999] (by simp) (by simp) bs c (p+1+1) (by omega) _ cW.new).mono ?_
      rintro _ _ ⟨x,hx,rfl,rfl⟩
      rw[cK]
      simp -implicitDefEqProofs only[aA,seval]
      refine(EZ x _).to ?_
      simp -implicitDefEqProofs only[b9,cH,eW (b9 _),eU (aY _),aK,h4c,aA,seval,nC]
      exact lD _ _ _ (.mk 2 x ⟨#[]⟩ []) (by omega) (by omega) (zW (by omega) (by simp) (by simp))
    · simp -implicitDefEqProofs only[aA,seval,nC]
      refine(H8 [⟨#[97]⟩,⟨#[98]⟩,⟨#[110,105,108]⟩,⟨#[91,93]⟩,⟨#[102,111,111]⟩,⟨#[43]⟩] (by simp) (by simp) bs c (p+1+1) (by omega) _ cW.new).mono ?_
      rintro _ _ ⟨x,hx,rfl,rfl⟩
      rw[cK]
      simp -implicitDefEqProofs only[aA,seval]
      refine(t9 x [] (by simp) _).to ?_
      simp -implicitDefEqProofs only[b9,cH,eW (b9 _),eU (aY _),aK,h4c,aA,seval,nC]
      exact lD _ _ _ (.mk 3 0 x []) (by omega) (by omega) (zW (by omega) (by simp) (by simp))
  · simp -implicitDefEqProofs only[aA,seval]
    refine(mS bs c (p+1) (by omega) 3 (by omega) (by omega) _ cW.new).mono ?_
    rintro _ _ ⟨k2,hk2,rfl,rfl⟩
    rw[cK]
    simp -implicitDefEqProofs only[aA,seval]
    refine aQ (fun h2=>?_) (fun h2=>?_)
    · simp -implicitDefEqProofs only[U6,aA,seval]
      refine(IHd (p+1+1) _ (by omega) (by omega) cW.new).mono ?_
      rintro _ _ ⟨p1,hp1,a2N,rfl,t1,ht1,rfl⟩
      rw[cK]
      simp -implicitDefEqProofs only[U6,aA,seval]
      refine(IHd p1 _ (by omega) (by omega) cW.new).mono ?_
      rintro _ _ ⟨p2,hp2,bAQ,rfl,t2,ht2,rfl⟩
      rw[cK]
      simp -implicitDefEqProofs only[aA,seval,nC]
      refine(t9 ⟨#[46]⟩ [t1,t2] (by simp) _).to ?_
      simp -implicitDefEqProofs only[b9,cH,eW (b9 _),eU (aY _),aK,h4c,aA,seval,nC]
      exact lD _ _ _ (.mk 3 0 ⟨#[46]⟩ [t1,t2]) (by omega) (by omega) (zW (by omega) (by simp) (by intro x hx;simp only[dB,dV,eA] at hx;rcases hx with rfl | rfl<;>assumption))
    · simp -implicitDefEqProofs only[aA,seval,nC]
      refine(H8 [⟨#[102]⟩,⟨#[103]⟩,⟨#[115]⟩,⟨#[43]⟩,⟨#[61]⟩,⟨#[105,115]⟩,⟨#[102,111,111]⟩] (by simp) (by simp) bs c (p+1+1) (by omega) _ cW.new).mono ?_
      rintro _ _ ⟨x,_,rfl,rfl⟩
      rw[cK]
      simp -implicitDefEqProofs only[aA,seval]
      refine(aW7 x _).to ?_
      simp -implicitDefEqProofs only[aK,aA,↓aS,seval,nC]
      intro b5 h5
      have h54:b5≠b4:=by rintro rfl;simp [aB.aC,h4c] at h5
      have h5c:b5≠c:=by rintro rfl;simp [aB.aC] at h5
      have hn5:st b5=none:=by rw[aB.aG _ _ h5c,aB.aG _ _ h54] at h5;exact h5
      refine(nO [2,1,3,2] (by simp) (by simp) bs c (p+1+1+1) (by omega) _ (cW.new.aC h5c)).mono ?_
      rintro _ _ ⟨y,hy,rfl,rfl⟩
      obtain⟨n,rfl,hn⟩:∃n:Nat,y=n∧n≤3:=by
       simp only[dB,dV,eA] at hy
       rcases hy with rfl | rfl | rfl | rfl
       · exact⟨2,rfl,by omega⟩
       · exact⟨1,rfl,by omega⟩
       · exact⟨3,rfl,by omega⟩
       · exact⟨2,rfl,by omega⟩
      rw[aB.yM h5c,aB.nD _ _ _ h5c]
      have hW4:∀q,((st.aC b4 (.cells [.int .i64 0,.int .i64 0,.str ⟨#[]⟩,.fslice []])).aC c (b7 bs q)) b4=some (.cells [.int .i64 0,.int .i64 0,.str ⟨#[]⟩,.fslice []]):=fun q=>by rw[aB.aG _ _ h4c,aB.aJ]
      simp -implicitDefEqProofs only[aA,seval]
      refine iT (σ:=Nat×Nat×List Tm×Nat) [1000000,5] [0,1,4,5]
       (fun s=>(s.2.2.1.map Tm.av≠[]→(aB.aC ((st.aC b4 (.cells [.int .i64 0,.int .i64 0,.str ⟨#[]⟩,.fslice []])).aC c (b7 bs s.2.2.2)) b5 (.cells ([.int .i64 3,.int .i64 0,.str x]++ [aZ 4 s.2.1 (s.2.2.1.map Tm.av)]))) s.2.1=none)∧s.2.2.1.length+s.1≤3∧(∀t∈s.2.2.1,Dn t)∧p≤s.2.2.2∧s.2.2.2+s.1*M≤p+4*M)
       (fun s=>[(6,.int .i64 s.1)]) (fun s=>fX ((st.aC b4 (.cells [.int .i64 0,.int .i64 0,.str ⟨#[]⟩,.fslice []])).aC c (b7 bs s.2.2.2)) b5 s.2.1 [.int .i64 3,.int .i64 0,.str x] (s.2.2.1.map Tm.av)) (fun s=>s.1) (by decide +kernel)
       ⟨(n,0,[],p+1+1+1+1),⟨fun h=>absurd rfl h,by simpa using hn,by simp,by simp only;omega,?_⟩,aP.mk (by simp -implicitDefEqProofs only[aA,seval])⟩ ?_
      · simp only
        have:=tU M hn
        omega
      rintro⟨i,b,acc,q⟩ ⟨i1,i2,i3,i4,i5⟩
      simp only at i1 i2 i3 i4 i5
      simp -implicitDefEqProofs only[aA,seval]
      refine aQ (fun h3=>?_) (fun h3=>?_)
      · simp only[bK] at h3
        have hbo:=fA i1
        have hSc:((st.aC b4 (.cells [.int .i64 0,.int .i64 0,.str ⟨#[]⟩,.fslice []])).aC c (b7 bs q)) c≠none:=by rw[aB.aJ];simp
        have hRk:cW (fX ((st.aC b4 (.cells [.int .i64 0,.int .i64 0,.str ⟨#[]⟩,.fslice []])).aC c (b7 bs q)) b5 b [.int .i64 3,.int .i64 0,.str x] (acc.map Tm.av)) c bs q:=by
         unfold cW
         rw[iE i1 hSc h5c.symm,aB.aJ]
         try rfl
        have hM1:M≤i*M:=by have:=tU M (show 1≤i by omega);omega
        have hMi:(i - 1)*M+M=i*M:=by rw[←sK];congr 1;omega
        have hwi:IntKind.i64.wrap ((i:Int) - 1)=((i - 1:Nat):Int):=by rw[wrap64 (by omega) (by omega)];omega
        have c8:(acc.map Tm.av).length≤3:=by rw[aF];omega
        simp -implicitDefEqProofs only[aA,seval]
        refine vF [(0,1),(1,1),(2,1),(3,1),(4,1),(5,0),(6,1),(7,0),(8,1),(9,2)] [0,1,2,3,4,6,8] (dQ.aC b5 (.cells [.int .i64 3,.int .i64 0,.str x,aZ 4 b (acc.map Tm.av)])) mixed (by decide +kernel) (by decide +kernel) (by decide +kernel) rfl (eV hbo) ?_
        simp -implicitDefEqProofs only[U6,mP,aA,seval,nC]
        refine(IHd q _ (by omega) (by omega) hRk).mono ?_
        rintro _ _ ⟨q',hq1,hq2,rfl,t,ht,rfl⟩
        obtain⟨e1,i1'⟩:=r0 (o:=b7 bs q') i1 hSc h5c.symm
        rw[cK] at e1 i1'
        rw[e1]
        simp -implicitDefEqProofs only[aY,aM,cP,aA,seval,nC]
        refine⟨eV (fA i1'),?_⟩
        refine eE aO bF bG rfl rfl (fL (aM _) (cH _)) (d9 _) i1' (by simp only[aT,aX];omega) (by simp only[aT,aX];omega) (fun b' hb'=>?_)
        rw[show acc.map Tm.av++ [t.av]=(acc++ [t]).map Tm.av by simp] at hb' ⊢
        obtain⟨g1,g2,g3⟩:=p7 hb'
        simp only[fE,eD] at g1 g3
        simp -implicitDefEqProofs only[aK,fH,mQ,aA,seval,nC]
        refine⟨eV g3,?_⟩
        simp -implicitDefEqProofs only[g3,g1,hwi,aA,seval]
        refine⟨(i - 1,b',acc++ [t],q'),by simp only;omega,⟨g2,by simp only[dW,aT,aX];omega,fun u hu=>?_,by simp only;omega,by simp only;omega⟩,aP.mk (by simp -implicitDefEqProofs only[aA,seval])⟩
        rcases eK.1 hu with hu | hu
        · exact i3 u hu
        · simp only[dB,dV,eA] at hu
          subst hu
          exact ht
      · have hbo:=fA i1
        have h4o:=iE i1 (x:=b4) (by rw[hW4];simp) h54.symm
        rw[hW4] at h4o
        simp -implicitDefEqProofs only[aK,hbo,h4o,fH,aA,seval,nC]
        obtain⟨g5,g6⟩:=lK (o:=.cells [.int .i64 3,.int .i64 0,.str x,aZ 4 b (acc.map Tm.av)]) i1 (show((st.aC b4 (.cells [.int .i64 0,.int .i64 0,.str ⟨#[]⟩,.fslice []])).aC c (b7 bs q)) b4≠none by rw[hW4];simp) h54.symm
        refine⟨b,_,_,g5,g6,jJ _,⟨4,d9 _⟩,st.aC c (b7 bs q),?_,q,i4,by omega,rfl,.mk 3 0 x acc,zW (by omega) (by omega) i3,?_⟩
        · intro y
          by_cases e4:y=b4<;>by_cases ec:y=c<;>by_cases e5:y=b5<;>simp_all [aB.aC]
        · simp only[gG,bB,aW,eS,kA,jE,a8]
termination_by d=>d
decreasing_by exact hlt
abbrev bAX:=zi tI_3 (zi zI_3 (zi aU (zi tI_4 (zi zI_4 cI))))
theorem uA(b:Bool)(st:aB):aD prog 203 [.bool b] st (fun r st'=>r=.int .i64 (jO b)∧st'=st):=by
 refine wF [1000000] 1 func203 ntmps203 rfl rfl ?_
 intro _
 simp -implicitDefEqProofs only[aA,seval]
 cases b
 · simp -implicitDefEqProofs only[jO,aA,seval]
 · simp -implicitDefEqProofs only[jO,aA,seval]
abbrev bAY:=zi tI_4 (zi zI_4 (zi cI (zi tI_9 (zi zI_9 cT))))
theorem aXS(s:ByteArray)(st:aB):aD prog 207 [.str s] st (fun r st'=>r=.bool (gS sR s)∧st'=st):=by
 have hin:gS sR s=(decide (s=⟨#[60]⟩)||(decide (s=⟨#[62]⟩)||(decide (s=⟨#[61,60]⟩)||(decide (s=⟨#[62,61]⟩)||decide (s=⟨#[61,58,61]⟩))))):=by
  simp only[gS,sR,EB,List.any_nil,G6]
 rw[hin]
 refine wF [1000000] 1 func207 ntmps207 rfl rfl ?_
 intro _
 simp -implicitDefEqProofs only[aA,seval]
 refine cU (fun h1=>?_) (fun h1=>?_)
 case refine_2=>
  simp -implicitDefEqProofs only[h1,aA,seval]
  simp at h1;simp [h1]
 simp -implicitDefEqProofs only[h1,aA,seval]
 refine cU (fun h2=>?_) (fun h2=>?_)
 case refine_2=>
  simp -implicitDefEqProofs only[h2,aA,seval]
  simp at h2;simp [h2]
 simp -implicitDefEqProofs only[h2,aA,seval]
 refine cU (fun h3=>?_) (fun h3=>?_)
 case refine_2=>
  simp -implicitDefEqProofs only[h3,aA,seval]
  simp at h3;simp [h3]
 simp -implicitDefEqProofs only[h3,aA,seval]
 refine cU (fun h4=>?_) (fun h4=>?_)
 case refine_2=>
  simp -implicitDefEqProofs only[h4,aA,seval]
  simp at h4;simp [h4]
 simp -implicitDefEqProofs only[h4,aA,seval]
theorem aXU(s:ByteArray)(a b:Int)(st:aB):aD prog 244 [.str s,.int .i64 a,.int .i64 b] st (fun r st'=>r=.bool (MT s a b)∧st'=st):=by
 unfold MT
 refine wF [1000000] 3 func244 ntmps244 rfl rfl ?_
 intro _
 simp -implicitDefEqProofs only[aA,seval]
 refine aQ (fun h6=>?_) (fun h6=>?_)
 · simp -implicitDefEqProofs only[aA,seval]
   rw[aH (by simpa using h6)]
 rw[aE (by simpa using h6)]
 simp -implicitDefEqProofs only[aA,seval]
 refine aQ (fun h7=>?_) (fun h7=>?_)
 · simp -implicitDefEqProofs only[aA,seval]
   rw[aH (by simpa using h7)]
 rw[aE (by simpa using h7)]
 simp -implicitDefEqProofs only[aA,seval]
 refine aQ (fun h8=>?_) (fun h8=>?_)
 · simp -implicitDefEqProofs only[aA,seval]
   rw[aH (by simpa using h8)]
 rw[aE (by simpa using h8)]
 simp -implicitDefEqProofs only[aA,seval]
 refine aQ (fun h9=>?_) (fun h9=>?_)
 · simp -implicitDefEqProofs only[aA,seval]
   rw[aH (by simpa using h9)]
 rw[aE (by simpa using h9)]
 simp -implicitDefEqProofs only[aA,seval]
abbrev WV:=zi tI_3 (zi zI_3 (zi aU (zi tI_4 (zi zI_4 (zi cI (zi tI_9 (zi zI_9 (zi cT (zi tI_28 (zi zI_28 (zi aO (zi bF (zi bG (zi bZ (zi tI_52 (zi zI_52 (zi bU (zi bV (zi bX (zi bY bT))))))))))))))))))))
theorem aXR(n:Int)(s:ByteArray)(x y:Tm){N:Int}(hx:cO N x)(hy:cO N y)(st:aB):aD prog 208 [(Tm.mk 3 n s [x,y]).av] st (fun r st'=>r=.int .i64 (zR s x y)∧st'=st):=by
 have eG:dN prog 28 (.slice [x.av,y.av]) (.int .i64 0)=some (.pptr x.av):=bQ (av:=Tm.av) (l:=[x,y]) (i:=0) aO rfl (aM x)
 have fR:dN prog 28 (.slice [x.av,y.av]) (.int .i64 1)=some (.pptr y.av):=bQ (av:=Tm.av) (l:=[x,y]) (i:=1) aO rfl (aM y)
 have hax:=fun st=>ML x st hx
 have hay:=fun st=>ML y st hy
 unfold zR both
 simp only[a8,bB,aW]
 refine wF [1000000] 1 func208 ntmps208 rfl rfl ?_
 intro _
 simp -implicitDefEqProofs only[eG,aY,aM,aA,seval,WV]
 refine(hax _).to ?_
 generalize x.ev.1=a at *
 generalize x.ev.2=ca at *
 generalize y.ev.1=b at *
 generalize y.ev.2=cb at *
 simp -implicitDefEqProofs only[aA,seval]
 refine aQ (fun h4=>?_) (fun h4=>?_)
 · simp -implicitDefEqProofs only[aA,seval]
   have h4':ca≠0:=by simpa using h4
   rw[aH h4']
 have h4':ca=0:=by simpa using h4
 subst h4'
 rw[aE (by simp)]
 simp -implicitDefEqProofs only[fR,aY,aM,aA,seval,WV]
 refine(hay _).to ?_
 simp -implicitDefEqProofs only[aA,seval]
 refine aQ (fun h5=>?_) (fun h5=>?_)
 · simp -implicitDefEqProofs only[aA,seval]
   have h5':cb≠0:=by simpa using h5
   rw[aH h5']
 have h5':cb=0:=by simpa using h5
 subst h5'
 rw[aE (by simp)]
 simp -implicitDefEqProofs only[aA,seval,WV]
 refine(aXU s a b _).to ?_
 simp -implicitDefEqProofs only[aA,seval]
 refine(uA _ _).to ?_
 simp -implicitDefEqProofs only[aA,seval]
abbrev GR:=zi tI_3 (zi zI_3 (zi aU (zi tI_4 (zi zI_4 (zi cI (zi tI_9 (zi zI_9 (zi cT (zi tI_28 (zi zI_28 (zi aO (zi bF (zi bG (zi bZ (zi tI_52 (zi zI_52 (zi bU (zi bV (zi bX (zi bY bT))))))))))))))))))))
theorem aXW(n:Int)(s:ByteArray)(x:Tm)(hs:s=⟨#[118,97,114]⟩∨s=⟨#[110,111,110,118,97,114]⟩∨s=⟨#[97,116,111,109]⟩∨s=⟨#[105,110,116]⟩)(st:aB) :
 aD prog 209 [(Tm.mk 3 n s [x]).av] st (fun r st'=>r=.int .i64 (jO (uX s x))∧st'=st):=by
 obtain⟨xk,xn,xs,xt⟩:=x
 have eG:dN prog 28 (.slice [(Tm.mk xk xn xs xt).av]) (.int .i64 0)=some (.pptr (Tm.mk xk xn xs xt).av):=bQ (av:=Tm.av) (l:=[Tm.mk xk xn xs xt]) (i:=0) aO rfl (aM _)
 simp only[a8] at eG
 simp only[bB,aW,a8]
 refine wF [1000000] 1 func209 ntmps209 rfl rfl ?_
 intro _
 simp -implicitDefEqProofs only[eG,aA,↓aS,seval,GR]
 refine aQ (fun h=>?_) (fun h=>?_)
 · have hs':s=⟨#[118,97,114]⟩:=by simpa using h
   subst hs'
   simp -implicitDefEqProofs only[aA,seval,GR]
   refine(uA _ _).to ?_
   simp -implicitDefEqProofs only[aA,seval]
   rfl
 have h1:s≠⟨#[118,97,114]⟩:=by simpa using h
 simp -implicitDefEqProofs only[aA,seval]
 refine aQ (fun h=>?_) (fun h=>?_)
 · have hs':s=⟨#[110,111,110,118,97,114]⟩:=by simpa using h
   subst hs'
   simp -implicitDefEqProofs only[aA,seval,GR]
   refine(uA _ _).to ?_
   simp -implicitDefEqProofs only[aA,seval]
   rfl
 have h2:s≠⟨#[110,111,110,118,97,114]⟩:=by simpa using h
 simp -implicitDefEqProofs only[aA,seval]
 refine aQ (fun h=>?_) (fun h=>?_)
 · have hs':s=⟨#[105,110,116]⟩:=by simpa using h
   subst hs'
   simp -implicitDefEqProofs only[aA,seval,GR]
   refine(uA _ _).to ?_
   simp -implicitDefEqProofs only[aA,seval]
   rfl
 have h3:s≠⟨#[105,110,116]⟩:=by simpa using h
 have hs':s=⟨#[97,116,111,109]⟩:=by simpa [h1,h2,h3] using hs
 subst hs'
 have et:uX ⟨#[97,116,111,109]⟩ (Tm.mk xk xn xs xt)=(decide (xk=3)&&decide ((xt.length:Int)=0)):=rfl
 rw[et]
 simp -implicitDefEqProofs only[aA,seval,GR]
 refine cU (fun h4=>?_) (fun h4=>?_)
 · simp -implicitDefEqProofs only[h4,aF,aA,seval,GR]
   refine(uA _ _).to ?_
   simp -implicitDefEqProofs only[aA,seval]
 · simp -implicitDefEqProofs only[h4,aA,seval]
   refine(uA _ _).to ?_
   simp -implicitDefEqProofs only[aA,seval]
   simp at h4;simp []
def sP(x y:Tm):Tm×Int:=if x.k=1∨y.k=1 then(Tm.zero,2) else if x.k≠2∨y.k≠3∨y.ts.length=0 then(Tm.zero,3) else match oB x y with
 | some u=>(u,0)
 | none=>(Tm.zero,1)
abbrev qB:=zi tI_3 (zi zI_3 (zi aU (zi tI_28 (zi zI_28 (zi aO (zi bF (zi bG (zi bZ (zi tI_52 (zi zI_52 (zi bU (zi bV (zi bX (zi bY bT))))))))))))))
theorem aXQ{N:Int}(n:Int)(s:ByteArray)(x y z:Tm)(hy:cO N y)(st:aB):aD prog 206 [(Tm.mk 3 n s [x,y,z]).av] st (fun r st'=>r=.tup [(sP x y).1.av,.int .i64 (sP x y).2]∧st'=st):=by
 have eG:dN prog 28 (.slice [x.av,y.av,z.av]) (.int .i64 0)=some (.pptr x.av):=bQ (av:=Tm.av) (l:=[x,y,z]) (i:=0) aO rfl (aM x)
 have fR:dN prog 28 (.slice [x.av,y.av,z.av]) (.int .i64 1)=some (.pptr y.av):=bQ (av:=Tm.av) (l:=[x,y,z]) (i:=1) aO rfl (aM y)
 obtain⟨xk,xn,xs,xt⟩:=x
 obtain⟨yk,yn,ys,yt⟩:=y
 have hyl:yt.length≤4:=by
  exact hy.kind.2
 rw[a8] at eG
 simp only[a8 xk,a8 yk] at eG fR
 unfold sP
 simp only[a8 3,bB,aW,a8 xk,a8 yk,Tm.k,Tm.ts]
 refine aD.done ?_
 refine wF [1000000] 1 func206 ntmps206 rfl rfl ?_
 intro _
 simp -implicitDefEqProofs only[eG,fR,aA,↓aS,seval,qB]
 intro b hb
 have iW:∀o (p:Tm×Int) (k:Int),p=(Tm.zero,k)→(AV.tup [.agg [.int .i64 0,.int .i64 0,.str ⟨#[]⟩,.fslice []],.int .i64 k]).soft=.tup [p.1.av,.int .i64 p.2]∧aL (st.aC b o) st:=fun o p k e=>by
  rw[e]
  exact⟨by simp only[Tm.zero,a8,jI,jQ,jB,nB,lW,bB,aW,aW],(aL.refl _).aC hb⟩
 refine cU (fun h=>?_) (fun h=>?_)
 case refine_2=>
  have h':xk=1:=by simpa using h
  simp -implicitDefEqProofs only[h,aK,aA,seval,qB]
  exact iW _ _ 2 (aH (.inl h'))
 have hx1:xk≠1:=by simpa using h
 simp -implicitDefEqProofs only[h,aA,seval,qB]
 refine aQ (fun h1=>?_) (fun h1=>?_)
 · have h':yk=1:=by simpa using h1
   simp -implicitDefEqProofs only[aK,aA,seval,qB]
   exact iW _ _ 2 (aH (.inr h'))
 have hy1:yk≠1:=by simpa using h1
 rw[aE (fun h2=>h2.elim hx1 hy1)]
 simp -implicitDefEqProofs only[aA,seval,qB]
 refine cU (fun h4=>?_) (fun h4=>?_)
 case refine_2=>
  have h':xk≠2:=by simpa using h4
  simp -implicitDefEqProofs only[h4,aK,aA,seval,qB]
  exact iW _ _ 3 (aH (.inl h'))
 have hx2:xk=2:=by simpa using h4
 simp -implicitDefEqProofs only[h4,aA,seval,qB]
 refine cU (fun h5=>?_) (fun h5=>?_)
 case refine_2=>
  have h':yk≠3:=by simpa using h5
  simp -implicitDefEqProofs only[h5,aK,aA,seval,qB]
  exact iW _ _ 3 (aH (.inr (.inl h')))
 have hy3:yk=3:=by simpa using h5
 simp -implicitDefEqProofs only[h5,aF,aA,seval,qB]
 refine aQ (fun h6=>?_) (fun h6=>?_)
 · have h':yt.length=0:=by simp at h6;simp [h6]
   simp -implicitDefEqProofs only[aK,aA,seval,qB]
   exact iW _ _ 3 (aH (.inr (.inr h')))
 have hyt:yt.length≠0:=by simp at h6;simpa using h6
 rw[aE (by simp [hx2,hy3];intro h7;simp [h7] at hyt)]
 simp -implicitDefEqProofs only[aA,seval,qB]
 have hno:¬(1≤xn∧xn≤yt.length)→(match oB (.mk xk xn xs xt) (.mk yk yn ys yt) with | some u=>(u,(0:Int)) | none=>(Tm.zero,1))=(Tm.zero,(1:Int)):=fun h'=>by
  have ea:oB (.mk xk xn xs xt) (.mk yk yn ys yt)=none:=aE h'
  rw[ea]
 refine cU (fun h7=>?_) (fun h7=>?_)
 case refine_2=>
  have h':xn<1:=by simpa using h7
  simp -implicitDefEqProofs only[h7,aK,aA,seval,qB]
  exact iW _ _ 1 (hno (by omega))
 have hl1:¬xn<1:=by simpa using h7
 simp -implicitDefEqProofs only[h7,aF,aA,seval,qB]
 refine aQ (fun h8=>?_) (fun h8=>?_)
 · have h':(yt.length:Int)<xn:=by simpa using h8
   simp -implicitDefEqProofs only[aK,aA,seval,qB]
   exact iW _ _ 1 (hno (by omega))
 have hl2:¬(yt.length:Int)<xn:=by simpa using h8
 have h':1≤xn∧xn≤yt.length:=by omega
 obtain⟨i,hi⟩:∃i:Nat,xn - 1=i:=⟨(xn - 1).toNat,by omega⟩
 have hlt:i<yt.length:=by omega
 obtain⟨u,hu⟩:∃u,yt[i]?=some u:=⟨_,fF hlt⟩
 have ea:oB (.mk xk xn xs xt) (.mk yk yn ys yt)=some u:=by
  refine(aH h').trans ?_
  show yt[(xn - 1).toNat]?=some u
  rw[hi,jT,hu]
 rw[ea]
 have hw:IntKind.i64.wrap (xn - 1)=(i:Int):=by rw[wrap64 (by omega) (by omega)];exact hi
 have T7:=bQ (av:=Tm.av) (P:=prog) aO hu (aM u)
 simp -implicitDefEqProofs only[b9,cH,eW (b9 _),eU (aY _),T7,hw,aY,aM,aK,aA,seval,qB]
 exact⟨by simp only[jQ,jB,Tm.soft,bB,aW,Tm.soft],(aL.refl _).aC hb⟩
theorem a3S(n:Int):(pF n).av=(Tm.mk 2 n ⟨#[]⟩ []).av:=rfl
end Go.AW
