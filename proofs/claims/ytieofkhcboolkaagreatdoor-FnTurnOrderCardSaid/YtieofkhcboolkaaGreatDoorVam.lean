import Derived.Test.YtieofkhcboolkaaGreatDoorVal
import Derived.Test.YtieofkhcboolkaaGreatDoorVai
import Derived.Test.YtieofkhcboolkaaGreatDoorVaf
import Derived.Test.YtieofkhcboolkaaGreatDoorVah
set_option linter.unusedSimpArgs false
set_option linter.unusedVariables false
set_option maxRecDepth 100000
namespace Go.AW
open Go.Proofs.Tryz
abbrev CW:=zi aW (zi cF (zi bR (zi OH (zi pQ GD))))
theorem LS{σ:Sub}{f:Nat}{t u:Tm}(hw:fZ σ f t u)(c m:Nat)(q:AV)(st:aB)(hS:jB st c m q σ):aD prog 359 [.ptr c 0,t.av] st (fun r st'=>r=u.av∧st'=st):=by
 refine aD.done ?_
 refine wF [1000000,3] 2 func359 ntmps359 rfl rfl ?_
 intro _
 simp only[aA,seval,CW]
 intro b3 h3 b4 h4
 have hne:b4≠b3:=by rintro rfl;rw[aB.aJ] at h4;cases h4
 have hn4:st b4=none:=by rw[aB.aH st _ hne] at h4;exact h4
 have hD:∀o o',aL ((st.aC b3 o).aC b4 o') st:=fun o o'=>((aL.refl _).aC h3).aC hn4
 have hS':∀o o',jB ((st.aC b3 o).aC b4 o') c m q σ:=fun o o'=>(hS.aC h3).aC (by rw[aB.aH _ _ hne];exact hn4)
 obtain⟨a5B,bE0⟩:=hS.ne h3
 obtain⟨a5C,bE1⟩:=hS.ne hn4
 refine iJ (σ:=Nat×Tm) [1000000,3] [0,3,4] (fun p=>fZ σ p.1 p.2 u) (fun p=>[]) (fun p=>(st.aC b3 (.cells p.2.av.cells)).aC b4 (.cells [.int .i64 0,.int .i64 0,.str ⟨#[]⟩,.fslice []])) (fun p=>p.1) (by decide +kernel) ⟨(f,t),hw,aO.mk (by simp only[aA,seval])⟩ ?_
 rintro⟨g,t⟩ hw
 obtain⟨k,n,s,ts⟩:=t
 simp only at hw
 simp only[aX]
 simp only[hne.symm,aA,seval,CW]
 refine aP (fun h=>?_) (fun h=>?_)
 case refine_2=>
  simp only[dF] at h
  cases hw with
  | go h1=>exact absurd h1 h
  | stop=>
   simp only[aK,hne.symm,aA,seval,CW]
   exact⟨by rw[←aX,Tm.soft],hD _ _⟩
 simp only[bK] at h
 simp only[aA,seval]
 refine wP [(0,1),(1,1),(2,1),(4,1),(3,2),(5,2),(6,2),(7,1),(8,1),(9,1),(10,0),(11,0),(12,1)] [0,1,2,4,3,5,6,7,8,9,12] mixed ?_
 have hl:=fun(st':aB) (hm:st' m=some (AO.map (mapOf σ)))=>a7B (P:=prog) (n:=n) hm W4 GI bC0
 simp only[hne.symm,hS.cells,a5B.symm,a5C.symm,aA,seval,CW]
 rw[hl _ (hS' _ _).map]
 cases hw with
 | stop hs=>
  rw[show σ n=none from hs h]
  simp only[found,aK,aA,seval,CW]
  intro b5 h5
  have h53:b5≠b3:=by rintro rfl;simp [aB.aH,aB.aJ,hne.symm] at h5
  have h54:b5≠b4:=by rintro rfl;simp [aB.aJ] at h5
  have hn5:st b5=none:=by rw[aB.aH _ _ h54,aB.aH _ _ h53] at h5;exact h5
  simp only[aK,hne.symm,h53.symm,h54.symm,aA,seval,CW]
  exact⟨by rw[←aX,Tm.soft],((((aL.refl _).aC h3).aC hn4).aC hn5).aC hn4⟩
 | go _ h2 h3'=>
  rw[show σ n=some _ from h2]
  simp only[found,aK,aA,seval,CW]
  intro b5 h5
  have h53:b5≠b3:=by rintro rfl;simp [aB.aH,aB.aJ,hne.symm] at h5
  have h54:b5≠b4:=by rintro rfl;simp [aB.aJ] at h5
  have hn5:st b5=none:=by rw[aB.aH _ _ h54,aB.aH _ _ h53] at h5;exact h5
  simp only[hne.symm,h53.symm,aA,seval]
  refine⟨(_,_),Nat.lt_succ_self _,h3',aO.drop (fun x=>?_) (by simp only[aA,seval])⟩
  by_cases e3:x=b3<;>by_cases e4:x=b4<;>by_cases e5:x=b5<;>simp_all [aB.aC]
abbrev aQU:=zi aW (zi cA bR)
theorem aVN(l:List Tm)(g:FuncId)(dD:List AV)(p:Tm→Bool)(J E:aB→Prop)(hc:∀x∈l,∀s,J s→aD prog g ([Tm.av x]++dD) s (fun r s'=>r=.bool (p x)∧(p x=true→E s')∧(p x=false→J s')))(st:aB)(h0:J st) :
 aD prog 230 [.slice (l.map Tm.av),.func g dD] st (fun r st'=>r=.int .i64 (pG p l 0)∧(l.any p=true→E st')∧(l.any p=false→J st')):=by
 refine wF [1000000] 2 func230 ntmps230 rfl rfl ?_
 simp only[eM,AV.fits,eS,aF]
 intro ⟨hl,_⟩
 simp only[aF,aA,seval,aQU]
 refine dX (σ:=aB) [1000000] [0,1,7] l (fun i s=>J s∧pG p (l.drop i) i=pG p l 0∧(l.drop i).any p=l.any p) (fun i _=>[(8,.int .i64 i)]) (fun _ s=>s) (by decide +kernel) ⟨st,⟨h0,rfl,rfl⟩,aO.mk (by simp only[aA,↓aS,seval])⟩ (fun i x s hx hlt bL hdr hinv=>?_) (fun s hge hinv=>?_)
 case refine_2=>
  obtain⟨i1,i2,i3⟩:=hinv
  rw[kB] at i2 i3
  simp only[hge,aA,seval]
  exact⟨by rw[←i2];try rfl,fun h=>(by rw[←i3] at h;cases h),fun _=>i1⟩
 obtain⟨i1,i2,i3⟩:=hinv
 rw[hdr,pG] at i2
 rw[hdr,A4] at i3
 have hw:=bF (n:=(i:Int)+1)
 simp only[bL,bH (av:=Tm.av) bQ hx (aN x),a7,aN,aA,seval,aQU]
 refine(hc x (cH hx) s i1).mono ?_
 rintro _ s2 ⟨rfl,hE,hJ⟩
 simp only[aA,seval]
 refine aP (fun h=>?_) (fun h=>?_)
 · rw[aG h] at i2
   rw[h,wL] at i3
   simp only[aA,seval]
   exact⟨by rw[i2],fun _=>hE h,fun h'=>(by rw[←i3] at h';cases h')⟩
 · rw[aE (by simp [h])] at i2
   rw[h,oY] at i3
   simp only[aA,seval]
   exact⟨s2,⟨hJ h,i2,i3⟩,aO.mk (by simp only[hw,aA,seval])⟩
theorem aVE(l:List Tm)(g:FuncId)(dD:List AV)(p:Tm→Bool)(J E:aB→Prop)(hc:∀x∈l,∀s,J s→aD prog g ([Tm.av x]++dD) s (fun r s'=>r=.bool (p x)∧(p x=true→E s')∧(p x=false→J s')))(st:aB)(h0:J st) :
 aD prog 143 [.slice (l.map Tm.av),.func g dD] st (fun r st'=>r=.bool (l.any p)∧(l.any p=true→E st')∧(l.any p=false→J st')):=by
 refine wF [1000000] 2 func143 ntmps143 rfl rfl ?_
 intro _
 simp only[aA,seval]
 refine(aVN l g dD p J E hc st h0).mono ?_
 rintro _ s2 ⟨rfl,hE,hJ⟩
 simp only[a6F,aA,seval]
 exact⟨hE,hJ⟩
def Occ(R:Int→Tm)(n:Int)(t:Tm)(st:aB)(mm:Nat)(M:List Int)(r:AV)(st':aB):Prop:=
 r=.bool (decide (n∈(t.aM R).vl))∧∃M',st'=st.aC mm (.map (mM M'))∧(n∉(t.aM R).vl→∀v∈M',v∈M∨n∉(R v).vl)
abbrev bBI:=zi aW (zi cF (zi bR (zi pQ WR)))
theorem aYD{c mm:Nat}{n:Int}{t:Tm}{st:aB}{Q:AV→aB→Prop}(hc:aD prog 367 [.ptr c 0,.int .i64 n,t.av,.map mm] st Q) :
 aD prog 373 [t.av,.pptr (.ptr c 0),.pptr (.int .i64 n),.pptr (.map mm)] st Q:=by
 refine wF [1000000] 4 func373 ntmps373 rfl rfl ?_
 intro _
 simp only[aA,seval,bBI]
 refine hc.mono ?_
 intro r s h
 simp only[aA,seval]
 exact h
abbrev AL:=zi aW (zi cF (zi cA (zi bR (zi pQ (zi WR bBW)))))
theorem Q0{σ:Sub}{R:Int→Tm}{rk:Int→Nat}{B:Nat}(G:Good σ R rk B){n:Int}(hn:σ n=none)(c m mm:Nat)(q:AV)(hmm:mm≠c∧mm≠m) :
 ∀(K:Nat) (t:Tm) (M:List Int) (st:aB),jB st c m q σ→st mm=some (.map (mM M))→(∀w∈t.vl,rk w<K)→(∀v∈M,n∉(R v).vl∨∀w∈t.vl,rk w<rk v) →
 aD prog 367 [.ptr c 0,.int .i64 n,t.av,.map mm] st (Occ R n t st mm M)
 | K,.mk k x s ts,M,st,hS,hM,hK,EW=>by
  have IH1:=fun(K':Nat) (hK':K'<K) t M st=>Q0 G hn c m mm q hmm K' t M st
  have IH2:=fun(y:Tm) (hy:y∈ts) M st=>Q0 G hn c m mm q hmm K y M st
  have hlk:=a7A (P:=prog) (n:=x) hM aR4 GI bCZ
  simp only[aX]
  refine wF [1000000] 4 func367 ntmps367 rfl rfl ?_
  intro _
  simp only[aA,seval,AL]
  refine aP (fun h=>?_) (fun h=>?_)
  · simp only[bK] at h
    have hvl:(Tm.mk k x s ts).vl= [x]:=Tm.nI h
    have hmv:(Tm.mk k x s ts).aM R=R x:=Tm.mL R h
    have hKx:rk x<K:=hK x (by rw[hvl];simp)
    simp only[hlk,aA,seval,AL]
    refine aP (fun h2=>?_) (fun h2=>?_)
    · simp only[bK] at h2
      simp only[aA,seval]
      have hno:n∉(R x).vl:=by
       rcases EW x h2 with h | h
       · exact h
       · exact absurd (h x (by rw[hvl];simp)) (Nat.lt_irrefl _)
      refine⟨by rw[hmv];simp [hno],M,?_,fun _ v hv=>.inl hv⟩
      funext y
      simp only[aB.aC]
      split
      · rename_i e;rw[e,hM]
      · rfl
    · simp only[dF] at h2
      simp only[aA,seval,AL]
      refine bCM hM aR4 GI ?_
      simp only[aA,seval,AL]
      obtain⟨f,hwk⟩:=G.wk (Tm.mk k x s ts)
      generalize hu:wk σ (Tm.mk k x s ts)=u at *
      have hS':=hS.O6 (o:=.map (mM (x::M))) hmm.1 hmm.2
      have hcw:=LS hwk c m q _ hS'
      rw[aX] at hcw
      refine hcw.to ?_
      have TC:u.aM R=R x:=by rw[hwk.aM G.xR,hmv]
      have vS:=hwk.end
      have hrk:=hwk.I9 G
      obtain⟨k',x',s',ts'⟩:=u
      simp only[aX]
      simp only[aA,↓aS,seval,AL]
      refine aP (fun h3=>?_) (fun h3=>?_)
      · simp only[bK] at h3
        simp only[aA,seval,AL]
        have rK:R x'=vr x':=G.free (vS h3)
        rw[Tm.mL R h3,rK] at TC
        refine⟨?_,x::M,rfl,fun hno v hv=>?_⟩
        · rw[hmv,←TC,AZ]
          simp [eq_comm]
        · rcases cY.1 hv with rfl | hv
          · exact .inr (by rw[hmv] at hno;exact hno)
          · exact .inl hv
      · simp only[dF] at h3
        simp only[aA,seval,AL]
        have hf0:f≠0:=by
         rintro rfl
         cases hwk with
         | stop _=>exact h3 h
        have hr':∀w∈(Tm.mk k' x' s' ts').vl,rk w<rk x:=fun w hw=>by
         obtain⟨v,hv,_,hlt⟩:=hrk w hw
         rw[hvl] at hv
         simp only[cY,dK,dQ] at hv
         subst hv
         exact hlt hf0
        have:=IH1 (rk x) hKx (Tm.mk k' x' s' ts') (x::M) _ hS' (aB.aJ _ _ _) hr' (fun v hv=>by
         rcases cY.1 hv with rfl | hv
         · exact .inr hr'
         · rcases EW v hv with h5 | h5
           · exact .inl h5
           · refine .inr fun w hw=>Nat.lt_trans (hr' w hw) ?_
             exact h5 x (by rw[hvl];simp))
        rw[aX] at this
        refine this.mono ?_
        rintro _ _ ⟨rfl,M',rfl,hM'⟩
        simp only[aA,seval]
        rw[TC] at hM' ⊢
        refine⟨by rw[hmv],M',rfl,fun hno v hv=>?_⟩
        rw[hmv] at hno
        rcases hM' hno v hv with h5 | h5
        · rcases cY.1 h5 with rfl | h5
          · exact .inr hno
          · exact .inl h5
        · exact .inr h5
  · simp only[dF] at h
    simp only[aA,seval,AL]
    have hmv:=Tm.kO R (n:=x) (s:=s) (ts:=ts) h
    have a3P:ts.any (fun y=>decide (n∈(y.aM R).vl))=decide (n∈((Tm.mk k x s ts).aM R).vl):=by
     rw[hmv,wK]
     simp only[A5,bK]
     rw[Tm.lC h]
     constructor
     · rintro⟨y,hy,h2⟩;exact⟨_,cB.2 ⟨y,hy,rfl⟩,h2⟩
     · rintro⟨z,hz,h2⟩
       obtain⟨y,hy,rfl⟩:=cB.1 hz
       exact⟨y,hy,h2⟩
    refine(aVE ts _ _ (fun y=>decide (n∈(y.aM R).vl)) (fun s1=>∃M',s1=st.aC mm (.map (mM M'))∧∀v∈M',v∈M∨n∉(R v).vl) (fun s1=>∃M',s1=st.aC mm (.map (mM M'))) ?_ st ⟨M,?_,fun v hv=>.inl hv⟩).mono ?_
    · rintro y hy s1 ⟨M',rfl,hM'⟩
      simp only[gV,fB]
      have hc:=IH2 y hy M' (st.aC mm (.map (mM M'))) (hS.O6 hmm.1 hmm.2) (aB.aJ _ _ _) (fun w hw=>hK w ((Tm.lC h).2 ⟨y,hy,hw⟩)) (fun v hv=>by
       rcases hM' v hv with h5 | h5
       · rcases EW v h5 with h6 | h6
         · exact .inl h6
         · exact .inr fun w hw=>h6 w ((Tm.lC h).2 ⟨y,hy,hw⟩)
       · exact .inl h5)
      refine(aYD hc).mono ?_
      rintro _ _ ⟨rfl,M2,rfl,hM2⟩
      rw[dO]
      refine⟨rfl,fun _=>⟨M2,rfl⟩,fun hno=>⟨M2,rfl,fun v hv=>?_⟩⟩
      simp only[dF] at hno
      rcases hM2 hno v hv with h5 | h5
      · exact hM' v h5
      · exact .inr h5
    · funext y
      simp only[aB.aC]
      split
      · rename_i e;rw[e,hM]
      · rfl
    · rintro _ s2 ⟨rfl,hE,hJ⟩
      rw[a3P] at hE hJ ⊢
      simp only[aA,seval]
      by_cases hno:n∈((Tm.mk k x s ts).aM R).vl
      · obtain⟨M2,rfl⟩:=hE (by simp [hno])
        exact⟨rfl,M2,rfl,fun h=>absurd hno h⟩
      · obtain⟨M2,rfl,h5⟩:=hJ (by simp [hno])
        exact⟨rfl,M2,rfl,fun _=>h5⟩
termination_by K t=>(K,SizeOf.sizeOf t)
decreasing_by
 · exact Prod.Lex.left _ _ hK'
 · have:=List.sizeOf_lt_of_mem hy
   exact Prod.Lex.right _ (by simp only[Tm.mk.sizeOf_spec];omega)
abbrev OA:=zi aW (zi cF (zi fJ (zi bR (zi OH (zi pQ (zi GD WR))))))
theorem ZI{σ:Sub}(hg:cQ σ){n:Int}(hn:σ n=none){t:Tm}{r:Bool}{σ':Sub}{add:List Int}(hb:kH σ n t=(r,σ',add))(c m:Nat)(q:AV)(tr:List Int)(st:aB)(hS:gE st c m q σ tr)(hl:tr.length+add.length≤1099511627776) :
 aD prog 360 [.ptr c 0,.int .i64 n,t.av] st (fun r' st'=>r'=.bool r∧wS c m st q σ' (tr++add) st'):=by
 obtain⟨rk,B,G⟩:=hg.rs
 refine wF [1000000] 3 func360 ntmps360 rfl rfl ?_
 intro _
 simp only[aA,seval,OA]
 intro mm hmm
 obtain⟨hmc,a48⟩:=hS.sub.ne hmm
 rw[←a7P]
 have hS1:=hS.GJ (o:=.map (mM [])) hmm
 refine(Q0 G hn c m mm q ⟨hmc,a48⟩ B t [] _ hS1.sub (aB.aJ _ _ _) (fun w _=>G.bd w) (fun v hv=>absurd hv (dK))).mono ?_
 rintro _ _ ⟨rfl,M',rfl,_⟩
 have hS2:=hS.GJ (o:=.map (mM M')) hmm
 have hQ2:mX c m st q (st.aC mm (.map (mM M'))) q:=mX.GJ hmm
 rw[dO]
 generalize st.aC mm (.map (mM M'))=s2 at *
 obtain⟨hqa,hqw,hqj,hqc,hqs⟩:=hS2.shape
 simp only[aA,seval]
 unfold kH at hb
 refine aP (fun h=>?_) (fun h=>?_)
 · simp only[bK] at h
   rw[aG h] at hb
   obtain⟨rfl,rfl,rfl⟩:false=r∧σ=σ'∧[]=add:=by simpa using hb
   simp only[aA,seval]
   exact⟨q,hS2,hQ2⟩
 · simp only[dF] at h
   rw[aE h] at hb
   obtain⟨rfl,rfl,rfl⟩:true=r∧σ.set n t=σ'∧[n]=add:=by simpa using hb
   simp only[aA,seval]
   refine wP [(0,1),(1,1),(2,1),(4,1),(3,2),(5,2),(6,0)] [0,1,2,4,3,5] mixed ?_
   simp only[hS2.sub.cells,aA,seval,OA]
   refine bCO hS2.sub.map W4 GI ?_
   have hcm:=hS2.sub.cm
   have hS3:gE (s2.aC m (.map (mapOf (σ.set n t)))) c m q (σ.set n t) tr:=by
    refine⟨⟨by rw[aB.aH _ _ hcm];exact hS2.sub.cells,aB.aJ _ _ _⟩,?_,hS2.apart⟩
    rcases hS2.eY with h4 | ⟨b',cs,e1,e2,e3⟩
    · exact .inl h4
    · refine .inr ⟨b',cs,e1,?_,e3⟩
      rw[aB.aH _ _ (by rintro rfl;exact hS2.NC (by rw[e1];simp [dM]))]
      exact e2
   have hQ3:mX c m st q (s2.aC m (.map (mapOf (σ.set n t)))) q:=⟨fun b o h h1 h2 h3=>by rw[aB.aH _ _ h2];exact hQ2.frame b o h h1 h2 h3,fun _ h=>.inl h⟩
   generalize s2.aC m (.map (mapOf (σ.set n t)))=s3 at *
   simp only[hS3.sub.cells,hqa,aA,seval,OA]
   refine bB0 fO t7 sQ rfl (by omega) hS3 (by simpa using hl) (fun q' s4 ht hc' hm' hk hf=>?_)
   have h4c:s4 c=some (.cells [.map m,q]):=by rw[hk c hS3.apart hc'];exact hS3.sub.cells
   have h4m:s4 m=some (.map (mapOf (σ.set n t))):=by rw[hk m hS3.NC hm'];exact hS3.sub.map
   have aM2:q'.cells= [q']∧q'.storable=true:=by
    rcases ht with ⟨rfl,_⟩ | ⟨b',cs,rfl,_⟩<;>exact⟨rfl,rfl⟩
   simp only[aK,h4c,aM2.1,aM2.2,aA,seval,OA]
   refine⟨q',⟨⟨aB.aJ _ _ _,by rw[aB.aH _ _ (c9 hcm)];exact h4m⟩,?_,hc'⟩,⟨fun b o h h1 h2 h3=>?_,fun b hb=>?_⟩⟩
   · rcases ht with h4 | ⟨b',cs,e1,e2,e3⟩
     · exact .inl h4
     · refine .inr ⟨b',cs,e1,?_,e3⟩
       rw[aB.aH _ _ (by rintro rfl;exact hc' (by rw[e1];simp [dM]))]
       exact e2
   · rw[aB.aH _ _ h1,hk b h3 (fun h4=>?_)]
     · exact hQ3.frame b o h h1 h2 h3
     · rcases hf b h4 with h5 | h5
       · exact h3 h5
       · rw[hQ3.frame b o h h1 h2 h3] at h5;cases h5
   · rcases hf b hb with h5 | h5
     · exact .inl h5
     · by_cases h6:b∈dM q
       · exact .inl h6
       · refine .inr ?_
         cases hst:st b with
         | none=>rfl
         | some o=>
          exfalso
          have h1:b≠c:=by rintro rfl;rw[hS3.sub.cells] at h5;cases h5
          have h2:b≠m:=by rintro rfl;rw[hS3.sub.map] at h5;cases h5
          rw[hQ3.frame b o hst h1 h2 h6] at h5;cases h5
abbrev Sm (t:Tm):Prop:=t.small=true
theorem bAF:∀t:Tm,t.k≠1→Sm t→∀x∈t.ts,Sm x:=fun t _ h x hx=>by
 cases t
 exact(Tm.qN h).2 x hx
abbrev rV:=zi aW (zi cF (zi cW (zi cA (zi bR pQ))))
theorem aAT:∀(g:Nat) (σ:Sub) (a b:Tm) (r:Bool) (σ':Sub) (add:List Int),cQ σ→cX Sm σ→Sm a→Sm b→dH g σ a b=some (r,σ',add)→∀(c m:Nat) (q:AV) (tr:List Int) (st:aB),gE st c m q σ tr→tr.length+add.length≤1099511627776 →
 aD prog 340 [.ptr c 0,a.av,b.av] st (fun r' st'=>r'=.bool r∧wS c m st q σ' (tr++add) st')
 | 0,σ,a,b,r,σ',add,hg,hsm,ha0,hb0,h,c,m,q,tr,st,hS,hl=>by simp only[dH] at h;cases h
 | g+1,σ,a,b,r,σ',add,hg,hsm,ha0,hb0,h,c,m,q,tr,st,hS,hl=>by
  have IH:=aAT g
  obtain⟨rk,B,G⟩:=hg.rs
  obtain⟨fa,wa⟩:=G.wk a
  obtain⟨fb,wb⟩:=G.wk b
  have hca:=fun st (hS:jB st c m q σ)=>LS wa c m q st hS
  have hcb:=fun st (hS:jB st c m q σ)=>LS wb c m q st hS
  have ea:=wa.end
  have eb:=wb.end
  have hsa:=wa.all (p:=Sm) hsm ha0
  have hsb:=wb.all (p:=Sm) hsm hb0
  replace h:=O3 h
  generalize wk σ a=a1 at *
  generalize wk σ b=b1 at *
  clear wa wb
  refine wF [1000000,4,5] 3 func340 ntmps340 rfl rfl ?_
  intro eR
  simp only[aA,seval]
  intro b4 h4 b5 h5
  have h54:b5≠b4:=by rintro rfl;rw[aB.aJ] at h5;cases h5
  have hn5:st b5=none:=by rw[aB.aH st _ h54] at h5;exact h5
  have hS':∀o o',gE ((st.aC b4 o).aC b5 o') c m q σ tr:=fun o o'=>(hS.GJ h4).GJ (by rw[aB.aH _ _ h54];exact hn5)
  refine wP [(0,1),(3,1),(1,2),(2,2),(4,2),(5,2),(6,0),(7,0)] [0,3,1,2,4,5] mixed ?_
  simp only[h54.symm,aA,seval,rV]
  refine gP (hca _ (hS' _ _).sub) ?_
  simp only[aA,seval,rV]
  refine gP (hcb _ (hS' _ _).sub) ?_
  obtain⟨ka,na,sa,tsa⟩:=a1
  obtain⟨kb,nb,sb',tsb⟩:=b1
  obtain⟨hla,aMO⟩:=Tm.qN hsa
  obtain⟨hlb,aMP⟩:=Tm.qN hsb
  simp only[aX]
  simp only[Tm.k,Tm.n,Tm.ts] at h ea eb
  have hl4:∀q',q'=q→b4∉dM q:=fun _ _ hb=>by obtain⟨cs,e⟩:=hS.JN b4 hb;rw[h4] at e;cases e
  have hl5:b5∉dM q:=fun hb=>by obtain⟨cs,e⟩:=hS.JN b5 hb;rw[hn5] at e;cases e
  obtain⟨h4c,h4m⟩:=hS.sub.ne h4
  obtain⟨h5c,h5m⟩:=hS.sub.ne hn5
  have hQ:∀o o',mX c m st q ((st.aC b4 o).aC b5 o') q:=fun o o'=>⟨fun x p h _ _ _=>by
   rw[aB.aH _ _ (by rintro rfl;rw[hn5] at h;cases h),aB.aH _ _ (by rintro rfl;rw[h4] at h;cases h)];exact h,fun _ h=>.inl h⟩
  simp only[aK,h54,h54.symm,aA,seval,rV]
  rw[aB.AU h54,aB.AU h54.symm]
  have gR:∀o o',wS c m st q σ tr ((st.aC b4 o).aC b5 o'):=fun o o'=>⟨q,hS' _ _,hQ _ _⟩
  rcases h with ⟨h1,h2,h3,rfl,rfl,rfl⟩ | ⟨h1,h2,h3⟩ | ⟨h1,h2,h3⟩ | ⟨h1,h2,h3,h4⟩ | ⟨h1,h2,h3,rfl,rfl,rfl⟩
  · subst h1 h2 h3
    simp only[bM,h54.symm,aA,seval,rV]
    exact gR _ _
  · subst h1
    have hcb:=ZI hg (ea rfl) h3 c m q tr _ (hS' (.cells [.int .i64 1,.int .i64 na,.str sa,.slice (tsa.map Tm.av)]) (.cells [.int .i64 kb,.int .i64 nb,.str sb',.slice (tsb.map Tm.av)])) hl
    rw[aX] at hcb
    by_cases h5:kb=1
    · subst h5
      have h6:¬na=nb:=fun e=>h2 ⟨rfl,e⟩
      simp only[bM,h6,bP,h54.symm,aA,seval,rV]
      refine hcb.mono ?_
      rintro _ s2 ⟨rfl,hp⟩
      simp only[aA,seval]
      exact hp.from (hQ _ _) (hS' _ _)
    · simp only[bM,h5,bP,h54.symm,aA,seval,rV]
      refine hcb.mono ?_
      rintro _ s2 ⟨rfl,hp⟩
      simp only[aA,seval]
      exact hp.from (hQ _ _) (hS' _ _)
  · subst h2
    have hcb:=ZI hg (eb rfl) h3 c m q tr _ (hS' (.cells [.int .i64 ka,.int .i64 na,.str sa,.slice (tsa.map Tm.av)]) (.cells [.int .i64 1,.int .i64 nb,.str sb',.slice (tsb.map Tm.av)])) hl
    rw[aX] at hcb
    simp only[bM,h1,bP,h54.symm,aA,seval,rV]
    refine hcb.mono ?_
    rintro _ s2 ⟨rfl,hp⟩
    simp only[aA,seval]
    exact hp.from (hQ _ _) (hS' _ _)
  · rw[uG] at h3
    simp only[Tm.k,Tm.n,Tm.s,Tm.ts] at h3
    obtain⟨rfl,rfl,rfl,hlen⟩:=h3
    have cM:decide ((tsa.length:Int)=(tsb.length:Int))=true:=by simp [hlen]
    simp only[bM,bP,cM,h54.symm,aF,h1,aA,seval,rV]
    have hS0:=hS' (.cells [.int .i64 ka,.int .i64 na,.str sa,.slice (tsa.map Tm.av)]) (.cells [.int .i64 ka,.int .i64 na,.str sa,.slice (tsb.map Tm.av)])
    have hQ0:=hQ (.cells [.int .i64 ka,.int .i64 na,.str sa,.slice (tsa.map Tm.av)]) (.cells [.int .i64 ka,.int .i64 na,.str sa,.slice (tsb.map Tm.av)])
    have e4:((st.aC b4 (.cells [.int .i64 ka,.int .i64 na,.str sa,.slice (tsa.map Tm.av)])).aC b5 (.cells [.int .i64 ka,.int .i64 na,.str sa,.slice (tsb.map Tm.av)])) b4=some (.cells [.int .i64 ka,.int .i64 na,.str sa,.slice (tsa.map Tm.av)]):=by rw[aB.aH _ _ h54.symm,aB.aJ]
    have e5:((st.aC b4 (.cells [.int .i64 ka,.int .i64 na,.str sa,.slice (tsa.map Tm.av)])).aC b5 (.cells [.int .i64 ka,.int .i64 na,.str sa,.slice (tsb.map Tm.av)])) b5=some (.cells [.int .i64 ka,.int .i64 na,.str sa,.slice (tsb.map Tm.av)]):=aB.aJ _ _ _
    generalize (st.aC b4 (.cells [.int .i64 ka,.int .i64 na,.str sa,.slice (tsa.map Tm.av)])).aC b5 (.cells [.int .i64 ka,.int .i64 na,.str sa,.slice (tsb.map Tm.av)])=s0 at *
    refine dX (σ:=Sub×List Int×List Int×AV×aB) [1000000,4,5] [0,4,5,79] tsa
     (fun i p=>cQ p.1∧cX Sm p.1∧gE p.2.2.2.2 c m p.2.2.2.1 p.1 (tr++p.2.1)∧mX c m s0 q p.2.2.2.2 p.2.2.2.1∧dZ g p.1 (tsa.drop i) (tsb.drop i)=some (r,σ',p.2.2.1)∧p.2.1++p.2.2.1=add)
     (fun i _=>[(6,.bool false),(80,.int .i64 i)]) (fun _ p=>p.2.2.2.2) (by decide +kernel)
     ⟨(σ,[],add,q,s0),⟨hg,hsm,by rw[gM];exact hS0,mX.refl _ _ _ _,h4,rfl⟩,aO.mk (by simp only[aA,↓aS,seval])⟩ (fun i x p hx hlt bL hdr hinv=>?_) (fun p hge hinv=>?_)
    case refine_2=>
     obtain⟨σi,ai,rest,qi,si⟩:=p
     obtain⟨i1,i2,i3,i4,i5,i6⟩:=hinv
     simp only at i1 i2 i3 i4 i5 i6
     rw[kB,hlen,kB] at i5
     simp only[dZ,Option.some.injEq,Prod.mk.injEq] at i5
     obtain⟨rfl,rfl,rfl⟩:=i5
     rw[gM] at i6
     subst i6
     simp only[hge,aA,seval]
     exact⟨qi,i3,hQ0.trans hS0 i4⟩
    obtain⟨σi,ai,rest,qi,si⟩:=p
    obtain⟨i1,i2,i3,i4,i5,i6⟩:=hinv
    simp only at i1 i2 i3 i4 i5 i6
    obtain⟨y,hy⟩:∃y,tsb[i]?=some y:=⟨_,d4 (by omega)⟩
    have ER:tsb.drop i=y::tsb.drop (i+1):=by
     obtain⟨h1,h2⟩:=fA.1 hy
     rw[qS h1,h2]
    rw[hdr,ER,dZ] at i5
    have f4:=i4.frame b4 _ e4 h4c h4m (hl4 q rfl)
    have f5:=i4.frame b5 _ e5 h5c h5m hl5
    have hw:=bF (n:=(i:Int)+1)
    simp only[bL,aA,seval]
    refine wP [(0,1),(1,1),(3,1),(6,1),(8,1),(2,2),(4,1),(5,2),(7,2),(9,1),(10,2),(11,0),(12,1)] [0,1,3,6,8,2,4,5,7,9,10,12] mixed ?_
    simp only[f4,f5,bH (av:=Tm.av) bQ hx (aN x),bH (av:=Tm.av) bQ hy (aN y),aA,seval,rV]
    cases hu:dH g σi x y with
    | none=>rw[hu] at i5;cases i5
    | some p1=>
     obtain⟨r1,σ1,tr1⟩:=p1
     rw[hu] at i5
     have hx1:Sm x:=aMO x (cH hx)
     have hy1:Sm y:=aMP y (cH hy)
     have hU:=yG i1 hu
     have hA:=(O5 bAF g).1 σi x y r1 σ1 tr1 i1 hu i2 hx1 hy1
     have qC:tr1.length≤rest.length:=by
      cases r1 with
      | false=>simp only[Option.some.injEq,Prod.mk.injEq] at i5;rw[i5.2.2];exact cU _
      | true=>
       simp only at i5
       cases hu2:dZ g σ1 (tsa.drop (i+1)) (tsb.drop (i+1)) with
       | none=>rw[hu2] at i5;cases i5
       | some p2=>
        obtain⟨r2,σ2,tr2⟩:=p2
        rw[hu2] at i5
        simp only[Option.some.injEq,Prod.mk.injEq] at i5
        rw[←i5.2.2,dN];omega
     have a3O:add.length=ai.length+rest.length:=by rw[←i6,dN]
     refine(IH σi x y r1 σ1 tr1 i1 i2 hx1 hy1 hu c m qi (tr++ai) si i3 (by rw[dN];omega)).mono ?_
     rintro _ s2 ⟨rfl,q2,hS2,hQ2⟩
     cases r1 with
     | false=>
      simp only[Option.some.injEq,Prod.mk.injEq] at i5
      obtain⟨rfl,rfl,rfl⟩:=i5
      simp only[aA,seval]
      rw[←i6,←lL]
      exact⟨q2,hS2,hQ0.trans hS0 (i4.trans i3 hQ2)⟩
     | true=>
      simp only at i5
      cases hu2:dZ g σ1 (tsa.drop (i+1)) (tsb.drop (i+1)) with
      | none=>rw[hu2] at i5;cases i5
      | some p2=>
       obtain⟨r2,σ2,tr2⟩:=p2
       rw[hu2] at i5
       simp only[Option.some.injEq,Prod.mk.injEq] at i5
       obtain⟨rfl,rfl,rfl⟩:=i5
       simp only[aA,seval]
       exact⟨(σ1,ai++tr1,tr2,q2,s2),⟨hU.gY,hA,by rw[←lL];exact hS2,i4.trans i3 hQ2,hu2,by rw[lL];exact i6⟩,aO.mk (by simp only[hw,aA,seval])⟩
  · have hd:ka=kb→na=nb→sa=sb'→¬(tsa.length:Int)=(tsb.length:Int):=by
     intro e1 e2 e3 e4
     have:vR (Tm.mk ka na sa tsa) (Tm.mk kb nb sb' tsb)=true:=uG.2 ⟨e1,e2,e3,by simp only[Tm.ts];omega⟩
     rw[h3] at this;cases this
    by_cases e1:ka=kb
    · by_cases e2:na=nb
      · by_cases e3:sa=sb'
        · have e4:=hd e1 e2 e3
          subst e1 e2 e3
          simp only[bP,bM,h54.symm,h1,aF,e4,aA,seval,rV]
          exact gR _ _
        · subst e1 e2
          simp only[bP,bM,h54.symm,h1,e3,aA,seval,rV]
          exact gR _ _
      · subst e1
        simp only[bP,bM,h54.symm,h1,e2,aA,seval,rV]
        exact gR _ _
    · clear hd
      simp only[bP,h54.symm,h1,h2,e1,aA,seval,rV]
      exact gR _ _
theorem a7J(σ:Sub)(l:List Int)(n:Int):oR (mapOf (σ.out l)) n none=mapOf (σ.out (l++ [n])):=by
 funext x
 unfold oR mapOf Sub.out
 by_cases h:x=n
 · simp [h]
 · simp only[h,dT,eH,DI,dQ]
theorem aZS{P:Program}{st:aB}{m:Nat}{σ:Sub}{l:List Int}{t kt et:TypeId}{n:Int}{K:AV→aB→Prop}(hm:st m=some (.map (mapOf (σ.out l))))(hu:P.underlying t=some (.map kt et))(hk:P.underlying kt=some (.int .i64))
 (h:K (.tup []) (st.aC m (.map (mapOf (σ.out (l++ [n])))))):BF P t st (.map m) (.int .i64 n) K:=by
 unfold BF
 simp only[hu,hm,hk]
 rw[a7J]
 exact h
theorem Sub.UH(σ:Sub):σ.out []=σ:=by funext n;simp [Sub.out]
theorem a99{φ:AF}{d b n k:Nat}(h:φ d=.int .i64 (k:Int))(hk:k=0∨k<n):eV prog φ 26 (.mslice b 0 n 1) (some (.tmp d)) none none=some (.mslice b k (n - k) 1):=by
 have h1:dC φ none n n=some n:=rfl
 have h2:dC φ (some (.tmp d)) 0 n=some k:=by
  unfold dC
  simp only[show φ.eval (.tmp d)=φ d from rfl,h]
  rw[aG (by omega)]
  simp
 unfold eV mG
 rw[aE (by simp [nV])]
 simp only[fO,h1,h2]
 by_cases h3:k=0
 · subst h3;simp
 · have h4:k<n:=by omega
   simp [h3,h4]
theorem bAC{φ:AF}{d b n:Nat}(h:φ d=.int .i64 (n:Int))(hn:n≠0):eV prog φ 26 (.mslice b 0 n 1) (some (.tmp d)) none none=some .eslice:=by
 have h1:dC φ none n n=some n:=rfl
 have h2:dC φ (some (.tmp d)) 0 n=some n:=by
  unfold dC
  simp only[show φ.eval (.tmp d)=φ d from rfl,h]
  rw[aG (by omega)]
  simp
 unfold eV mG
 rw[aE (by simp [nV])]
 simp only[fO,h1,h2]
 simp [hn]
theorem VD{φ:AF}{t:TypeId}{ag:Bool}{w d b n k:Nat}(hI:eI prog t=some (ag,w))(h:φ d=.int .i64 (k:Int))(hk:k≤n):eV prog φ t (.mslice b 0 n w) none (some (.tmp d)) none=some (.mslice b 0 k w):=by
 have h1:dC φ (some (.tmp d)) n n=some k:=by
  unfold dC
  simp only[show φ.eval (.tmp d)=φ d from rfl,h]
  rw[aG (by omega)]
  simp
 have h2:dC φ none 0 k=some 0:=rfl
 unfold eV mG
 rw[aE (by simp [nV])]
 simp only[hI,h1,h2]
 simp
theorem aPN{φ:AF}{t:TypeId}{ag:Bool}{w d:Nat}(hI:eI prog t=some (ag,w))(h:φ d=.int .i64 0):eV prog φ t (.fslice []) none (some (.tmp d)) none=some (.fslice []):=by
 have h1:dC φ (some (.tmp d)) 0 0=some 0:=by
  unfold dC
  simp only[show φ.eval (.tmp d)=φ d from rfl,h]
  simp
 have h2:dC φ none 0 0=some 0:=rfl
 unfold eV
 rw[aG ⟨rfl,rfl⟩]
 simp only[hI,h1,h2]
theorem bAA{φ:AF}{d:Nat}(h:φ d=.int .i64 0):eV prog φ 26 (.fslice []) (some (.tmp d)) none none=some (.fslice []):=by
 have h1:dC φ none 0 0=some 0:=rfl
 have h2:dC φ (some (.tmp d)) 0 0=some 0:=by
  unfold dC
  simp only[show φ.eval (.tmp d)=φ d from rfl,h]
  simp
 unfold eV
 rw[aG ⟨rfl,rfl⟩]
 simp only[fO,h1,h2]
theorem a4K{P:Program}{t:TypeId}{ag:Bool}{b o len w i:Nat}(hI:eI P t=some (ag,w))(hi:i<len):c8 P t (.mslice b o len w) (.int .i64 (i:Int))=some (.ptr b (o+i*w)):=by
 unfold c8
 simp only[hI]
 rw[aG ⟨by omega,by omega,trivial⟩]
 simp
abbrev CT:=zi aW (zi fJ (zi OH (zi pQ GD)))
theorem Q6(σ:Sub)(tr:List Int)(mark:Nat)(hm:mark≤tr.length)(c m:Nat)(q:AV)(st:aB)(hS:gE st c m q σ tr)(hl:tr.length≤1099511627776) :
 aD prog 309 [.ptr c 0,.int .i64 (mark:Int)] st (fun r st'=>r=.tup []∧∃q',gE st' c m q' (σ.out (tr.drop mark)) (tr.take mark)∧(∀b∈dM q',b∈dM q)∧∀x o,st x=some o→x≠c→x≠m→st' x=some o):=by
 have hcm:=hS.sub.cm
 rcases hS.eY with ⟨rfl,rfl⟩ | ⟨b,cs,rfl,hb,hcs⟩
 · obtain rfl:mark=0:=by simpa using hm
   have e1:=hS.sub.cells
   have hsl:=fun(φ:AF) (d:Nat) (h:φ d=.int .i64 0)=>bAA h
   have hsh:=fun(φ:AF) (d:Nat) (h:φ d=.int .i64 0)=>aPN fO h
   simp only[Int.ofNat_zero]
   refine wF [1000000] 2 func309 ntmps309 rfl rfl ?_
   intro _
   simp only[e1,hsl,aA,seval,CT]
   refine dX (σ:=Unit) [1000000] [0,1,11,12] ([]:List Int) (fun i _=>True) (fun i _=>[(13,.int .i64 i)]) (fun _ _=>st) (by decide +kernel) ⟨(),trivial,aO.mk (by simp only[aA,↓aS,seval])⟩ (fun i x _ hx hlt bL hdr hinv=>?_) (fun _ hge hinv=>?_)
   · simp at hlt
   · simp only[aZ,aK,e1,hsh,aA,seval,CT]
     rw[Sub.UH]
     refine⟨.fslice [],⟨⟨aB.aJ _ _ _,?_⟩,.inl ⟨rfl,rfl⟩,by simp [dM]⟩,fun _ h=>h,fun x o h h1 h2=>by rw[aB.aH _ _ h1];exact h⟩
     rw[aB.aH _ _ hcm.symm,hS.sub.map]
 · have e1:=hS.sub.cells
   have hbc:b≠c:=fun e=>hS.apart (by simp [dM,e])
   have hbm:b≠m:=fun e=>hS.NC (by simp [dM,e])
   have hc':∀o,(st.aC m o) c=some (.cells [.map m,.mslice b 0 tr.length 1]):=fun o=>by rw[aB.aH _ _ hcm];exact e1
   have hb':∀o,(st.aC m o) b=some (.cells cs):=fun o=>by rw[aB.aH _ _ hbm];exact hb
   have hm0:st.aC m (.map (mapOf σ))=st:=by
    funext x
    unfold aB.aC
    split
    · rename_i h;rw[h,hS.sub.map]
    · rfl
   have gR:∀st',st'=(st.aC m (.map (mapOf (σ.out (tr.drop mark))))).aC c (.cells [.map m,.mslice b 0 mark 1])→∃q',gE st' c m q' (σ.out (tr.drop mark)) (tr.take mark)∧(∀x∈dM q',x∈dM (.mslice b 0 tr.length 1))∧∀x o,st x=some o→x≠c→x≠m→st' x=some o:=by
    rintro _ rfl
    have hlt:(tr.take mark).length=mark:=by rw[c7];omega
    refine⟨.mslice b 0 mark 1,⟨⟨aB.aJ _ _ _,by rw[aB.aH _ _ hcm.symm,aB.aJ]⟩,.inr ⟨b,cs,by rw[hlt],by rw[aB.aH _ _ hbc];exact hb' _,?_⟩,by simpa [dM] using c9 hbc⟩,fun x h=>h,fun x o h h1 h2=>by rw[aB.aH _ _ h1,aB.aH _ _ h2];exact h⟩
    rw[hlt,GS,←hcs,yP,kZ hm]
   have hsh:=fun(φ:AF) (d:Nat) (h:φ d=.int .i64 (mark:Int))=>VD (b:=b) fO h hm
   by_cases hk:mark=0∨mark<tr.length
   · have hsl:=fun(φ:AF) (d:Nat) (h:φ d=.int .i64 (mark:Int))=>a99 (b:=b) h hk
     refine wF [1000000] 2 func309 ntmps309 rfl rfl ?_
     intro _
     simp only[e1,hsl,aA,seval,CT]
     refine dX (σ:=Unit) [1000000] [0,1,11,12] (tr.drop mark) (fun i _=>True) (fun i _=>[(13,.int .i64 i)]) (fun i _=>st.aC m (.map (mapOf (σ.out ((tr.drop mark).take i))))) (by decide +kernel) ⟨(),trivial,by rw[jA,Sub.UH,hm0];exact aO.mk (by simp only[aA,↓aS,seval])⟩ (fun i x _ hx hlt bL hdr hinv=>?_) (fun _ hge hinv=>?_)
     · have hw:=wrap64 (n:=(i:Int)+1) (by omega) (by rw[mB] at hlt;omega)
       have htk:(tr.drop mark).take (i+1)=(tr.drop mark).take i++ [x]:=by rw[dY,hx];simp
       rw[mB] at hlt bL
       have bEY:decide ((i:Int)<((tr.length - mark:Nat):Int))=true:=by simp;omega
       have hxt:tr[mark+i]?=some x:=by rw[PI] at hx;exact hx
       have a4A:cs=(tr.take (mark+i)).map iv++ [iv x]++((tr.drop (mark+i+1)).map iv++cs.drop tr.length):=by
        have h1:cs=tr.map iv++cs.drop tr.length:=by rw[←hcs];exact(pT _ _).symm
        have h2:tr.map iv=(tr.take (mark+i)).map iv++iv x::(tr.drop (mark+i+1)).map iv:=by
         have h3:tr.drop (mark+i)=x::tr.drop (mark+i+1):=by
          obtain⟨g1,g2⟩:=fA.1 hxt
          rw[qS g1,g2]
         rw[←bA (f:=iv),←h3,←o7,pT]
        rw[h2] at h1
        exact h1.trans (by simp)
       have hA:((tr.take (mark+i)).map iv).length=mark+i:=by simp only[aF,c7];omega
       have hat:=a4K (P:=prog) (b:=b) (o:=mark) (len:=tr.length - mark) (w:=1) (i:=i) fO hlt
       have hcb:=hb' (.map (mapOf (σ.out ((tr.drop mark).take i))))
       rw[a4A] at hcb
       have SX:=hc' (.map (mapOf (σ.out ((tr.drop mark).take i))))
       obtain⟨e1',e2,e3,e4,e5,e6⟩:=TV (B:=(tr.drop (mark+i+1)).map iv++cs.drop tr.length) hA
       simp only[e6,hat,hcb,SX,bL,wR,aA,seval,CT]
       refine aZS (aB.aJ _ _ _) W4 GI ?_
       rw[dO,←htk]
       simp only[hw,aA,seval]
       exact⟨(),aO.mk (by simp only[aA,seval])⟩
     · rw[dS]
       rw[mB] at hge
       have SX:=hc' (.map (mapOf (σ.out (tr.drop mark))))
       have bEW:decide (((tr.length - mark:Nat):Int)<((tr.length - mark:Nat):Int))=false:=by simp
       simp only[SX,hge,mB,aK,hsh,aA,seval,CT]
       exact gR _ rfl
   · obtain rfl:mark=tr.length:=by omega
     have hn0:tr.length≠0:=by omega
     have hsl:=fun(φ:AF) (d:Nat) (h:φ d=.int .i64 (tr.length:Int))=>bAC (b:=b) h hn0
     refine wF [1000000] 2 func309 ntmps309 rfl rfl ?_
     intro _
     simp only[e1,hsl,lP,KF,aA,↓aS,seval,CT]
     refine dX (σ:=Unit) [1000000] [0,1,11,12] ([]:List Int) (fun i _=>True) (fun i _=>[(13,.int .i64 i)]) (fun _ _=>st) (by decide +kernel) ⟨(),trivial,aO.mk (by simp only[aA,↓aS,seval])⟩ (fun i x _ hx hlt bL hdr hinv=>?_) (fun _ hge hinv=>?_)
     · simp at hlt
     · simp only[aZ,aK,e1,hsh,aA,seval,CT]
       refine gR _ ?_
       rw[kB,Sub.UH,hm0]
def XS(v:Tm)(D:Nat)(cnt cb:Nat)(st:aB)(r:AV)(st':aB):Prop:=
 ∃oK:Nat,oK≤121∧st'=st.aC cb (.cells [.int .i64 oK]) ∧
  if v.flat D=true∧cnt+v.nodes≤120 then r=.tup [v.av,.bool true]∧oK=cnt+v.nodes else r=.tup [Tm.zero.av,.bool false]
theorem FW{α:Type}(f:α→Nat):∀l m:List α,bB f (l++m)=bB f l+bB f m
 | [],m=>by simp [bB]
 | x::l,m=>by simp only[gV,bB,FW f l m];omega
abbrev Cv (t:Tm):Prop:=t.cv=true
theorem aLY{σ:Sub}{R:Int→Tm}{rk:Int→Nat}{B f:Nat}(G:Good σ R rk B){t:Tm}{k n:Int}{s:ByteArray}{ts:List Tm}(hw:fZ σ f t (.mk k n s ts))(hc:Cv (.mk k n s ts)):t.aM R=.mk k n s (ts.map (Tm.aM R)):=by
 rw[←hw.aM G.xR]
 by_cases hk:k=1
 · rw[Tm.mL R hk,G.free (show σ n=none from hw.end hk)]
   obtain⟨h1,_⟩:=Tm.nQ.1 hc
   obtain⟨rfl,rfl⟩:=h1 hk
   rw[hk];try rfl
 · rw[Tm.kO R hk]
abbrev uU:=zi aW (zi cF (zi cW (zi cA (zi bR (zi J4 pQ)))))
theorem aAK{σ:Sub}{R:Int→Tm}{rk:Int→Nat}{B:Nat}(G:Good σ R rk B)(hcv:cX Cv σ)(hsm:cX Sm σ)(c m cb:Nat)(q:AV)(hcb:cb≠c∧cb≠m) :
 ∀(D:Nat) (t:Tm) (cnt:Nat) (st:aB),D≤31→Cv t→Sm t→cnt≤120→jB st c m q σ→st cb=some (.cells [.int .i64 cnt]) →
 aD prog 336 [.ptr c 0,t.av,.int .i64 (31 - D:Int),.ptr cb 0] st (XS (t.aM R) D cnt cb st)
 | D,t,cnt,st,hD,hct,hst,bES,hS,hC=>by
  have IH:=fun(D':Nat) (hlt:D'<D) (x:Tm) cnt st=>aAK G hcv hsm c m cb q hcb D' x cnt st
  obtain⟨f,hw⟩:=G.wk t
  generalize wk σ t=u at *
  have hcu:=hw.all (p:=Cv) hcv hct
  have hsu:=hw.all (p:=Sm) hsm hst
  have hcw:=fun st (hS:jB st c m q σ)=>LS hw c m q st hS
  obtain⟨k,n,s,ts⟩:=u
  have hv:=aLY G hw hcu
  rw[hv]
  obtain⟨hlen,qB⟩:=Tm.qN hsu
  obtain⟨_,a4C⟩:=Tm.nQ.1 hcu
  refine aD.nR (aD.fin ?_)
  refine wF [1000000,5,10] 4 func336 ntmps336 rfl rfl ?_
  intro _
  simp only[aA,seval,uU]
  intro b5 h5 b8 h8
  have h85:b8≠b5:=by rintro rfl;rw[aB.aJ] at h8;cases h8
  have hn8:st b8=none:=by rw[aB.aH st _ h85] at h8;exact h8
  have hS':∀o o',jB ((st.aC b5 o).aC b8 o') c m q σ:=fun o o'=>(hS.aC h5).aC (by rw[aB.aH _ _ h85];exact hn8)
  have hb5:cb≠b5:=by rintro rfl;rw[hC] at h5;cases h5
  have hb8:cb≠b8:=by rintro rfl;rw[hC] at hn8;cases hn8
  have hwc:IntKind.i64.wrap ((cnt:Int)+1)=(cnt:Int)+1:=wrap64 (by omega) (by omega)
  simp only[h85.symm,aA,seval]
  refine(hcw _ (hS' _ _)).to ?_
  simp only[aX]
  simp only[aK,h85.symm,hb5,hb8,hC,hwc,aA,seval,uU]
  have S5:∀(st':aB) (oK:Nat),oK≤121→aL st' (st.aC cb (.cells [.int .i64 oK]))→¬((Tm.mk k n s (ts.map (Tm.aM R))).flat D=true∧cnt+(Tm.mk k n s (ts.map (Tm.aM R))).nodes≤120) →
   ∃b l s0,st'=bE s0 b l∧(l≠[]→s0 b=none)∧(∀e∈l,e.cD=false)∧iT l∧∃s2,aL s0 s2∧XS (Tm.mk k n s (ts.map (Tm.aM R))) D cnt cb st (AV.fin b l (.tup [.agg [.int .i64 0,.int .i64 0,.str ⟨#[]⟩,.fslice []],.bool false])) s2:=fun st' oK h1 h2 h3=>by
   refine⟨0,[],st',rfl,by simp,by simp,⟨4,by simp⟩,_,h2,oK,h1,rfl,?_⟩
   rw[aE h3]
   simp only[Tm.zero,aX,iX,jS,eW,rB,m9,nS,bA,aY]
  have hdr:∀o5 o8 o5' o8' oK,aL (((((st.aC b5 o5).aC b8 o8).aC b5 o5').aC cb (.cells [.int .i64 oK])).aC b8 o8') (st.aC cb (.cells [.int .i64 oK])):=fun o5 o8 o5' o8' oK x=>by
   by_cases e5:x=b5<;>by_cases e8:x=b8<;>by_cases ec:x=cb<;>simp_all [aB.aC]
  refine cT (fun h=>?_) (fun h=>?_)
  case refine_2=>
   simp only[h,aK,h85,hb8.symm,aA,seval,uU]
   refine S5 _ (cnt+1) (by omega) (hdr _ _ _ _ _) ?_
   simp at h
   rw[Tm.gJ]
   omega
  simp only[h,aA,seval]
  simp at h
  refine aP (fun h2=>?_) (fun h2=>?_)
  · simp only[bK] at h2
    obtain rfl:D=0:=by omega
    simp only[aK,h85,hb8.symm,aA,↓aS,seval,uU]
    exact S5 _ (cnt+1) (by omega) (hdr _ _ _ _ _) (by rw[Tm.H3];simp)
  simp only[dF] at h2
  obtain⟨D',rfl⟩:∃D',D=D'+1:=⟨D - 1,by omega⟩
  have a4D:IntKind.i64.wrap (31 - ((D':Int)+1)+1)=31 - (D':Int):=by rw[wrap64 (by omega) (by omega)];omega
  simp only[aK,hb5.symm,aA,↓aS,seval,uU]
  intro b10 h10
  have SE:b10≠b5:=by rintro rfl;simp [aB.aC,hb5.symm] at h10
  have EH:b10≠b8:=by rintro rfl;simp [aB.aC,h85,hb8.symm] at h10
  have SF:b10≠cb:=by rintro rfl;simp [aB.aC] at h10
  have a49:st b10=none:=by rw[aB.aH _ _ SF,aB.aH _ _ SE,aB.aH _ _ EH,aB.aH _ _ SE] at h10;exact h10
  simp only[hb5.symm,SE.symm,aF,aA,seval,uU]
  rw[aB.AU h85]
  have hWS:jB ((st.aC b8 (.cells [.int .i64 0,.int .i64 0,.str ⟨#[]⟩,.fslice []])).aC b5 (.cells [.int .i64 k,.int .i64 n,.str s,.slice (ts.map Tm.av)])) c m q σ:=(hS.aC hn8).aC (by rw[aB.aH _ _ h85.symm];exact h5)
  have hW8:((st.aC b8 (.cells [.int .i64 0,.int .i64 0,.str ⟨#[]⟩,.fslice []])).aC b5 (.cells [.int .i64 k,.int .i64 n,.str s,.slice (ts.map Tm.av)])) b8=some (.cells [.int .i64 0,.int .i64 0,.str ⟨#[]⟩,.fslice []]):=by rw[aB.aH _ _ h85,aB.aJ]
  have hWd:∀X Y Z,aL (((((st.aC b8 (.cells [.int .i64 0,.int .i64 0,.str ⟨#[]⟩,.fslice []])).aC b5 (.cells [.int .i64 k,.int .i64 n,.str s,.slice (ts.map Tm.av)])).aC cb X).aC b8 Y).aC b10 Z) (st.aC cb X):=fun X Y Z x=>by
   by_cases e5:x=b5<;>by_cases e8:x=b8<;>by_cases ec:x=cb<;>by_cases e10:x=b10<;>simp_all [aB.aC]
  generalize ((st.aC b8 (.cells [.int .i64 0,.int .i64 0,.str ⟨#[]⟩,.fslice []])).aC b5 (.cells [.int .i64 k,.int .i64 n,.str s,.slice (ts.map Tm.av)]))=W at *
  obtain⟨a3I,a3J⟩:=hS.ne a49
  refine dX (σ:=Nat) [1000000,5,10] [0,2,3,8,10,40,41] ts
   (fun i b=>(((ts.take i).map (Tm.aM R)).map Tm.av≠[]→(aB.aC (W.aC cb (.cells [.int .i64 ((cnt+1+bB Tm.nodes ((ts.take i).map (Tm.aM R)):Nat):Int)])) b10 (.cells ([.int .i64 k,.int .i64 n,.str s]++ [bS 4 b (((ts.take i).map (Tm.aM R)).map Tm.av)]))) b=none) ∧
    cnt+1+bB Tm.nodes ((ts.take i).map (Tm.aM R))≤120∧((ts.take i).map (Tm.aM R)).all (fun x=>x.flat D')=true)
   (fun i b=>[(9,.bool false),(42,.int .i64 i)])
   (fun i b=>lE (W.aC cb (.cells [.int .i64 ((cnt+1+bB Tm.nodes ((ts.take i).map (Tm.aM R)):Nat):Int)])) b10 b [.int .i64 k,.int .i64 n,.str s] (((ts.take i).map (Tm.aM R)).map Tm.av)) (by decide +kernel)
   ⟨0,⟨fun h=>absurd rfl h,by simp [bB];omega,by simp⟩,aO.mk (by simp only[aA,↓aS,seval])⟩ (fun i x b hx hlt bL ER hinv=>?_) (fun b hge hinv=>?_)
  · obtain⟨i1,i2,i3⟩:=hinv
    have htk:(ts.take (i+1)).map (Tm.aM R)=(ts.take i).map (Tm.aM R)++ [x.aM R]:=by rw[dY,hx];simp
    have cM:(((ts.take i).map (Tm.aM R)).map Tm.av).length=i:=by simp only[aF,c7];omega
    have hw:=bF (n:=(i:Int)+1)
    have eT:=cH hx
    generalize hl0:(ts.take i).map (Tm.aM R)=l0 at *
    generalize hc0:cnt+1+bB Tm.nodes l0=c0 at *
    have hWc:(W.aC cb (.cells [.int .i64 (c0:Int)])) cb≠none:=by rw[aB.aJ];simp
    have hs1:=oQ i1 hWc SF.symm
    have hsS:jB (lE (W.aC cb (.cells [.int .i64 (c0:Int)])) b10 b [.int .i64 k,.int .i64 n,.str s] (l0.map Tm.av)) c m q σ:=by
     have h1:=(hWS.O6 (o:=.cells [.int .i64 (c0:Int)]) hcb.1 hcb.2)
     exact⟨by rw[oQ i1 (by rw[h1.cells];simp) a3I.symm];exact h1.cells,by rw[oQ i1 (by rw[h1.map];simp) a3J.symm];exact h1.map⟩
    rw[aB.aJ] at hs1
    simp only[bL,a4D,bH (av:=Tm.av) bQ hx (aN x),a7,aN,aA,↓aS,seval,uU]
    refine(IH D' (Nat.lt_succ_self _) x c0 _ (by omega) (a4C x eT) (qB x eT) i2 hsS hs1).mono ?_
    rintro r s2 ⟨oK,a35,rfl,hr⟩
    obtain⟨e1,i1'⟩:=aNM (o:=.cells [.int .i64 (oK:Int)]) i1 hWc SF.symm
    rw[e1,dO]
    rw[dO] at i1'
    have uI:(ts.map (Tm.aM R))=l0++(x.aM R)::(ts.drop (i+1)).map (Tm.aM R):=by rw[←hl0,←bA,←ER,←o7,pT]
    by_cases hok:(x.aM R).flat D'=true∧c0+(x.aM R).nodes≤120
    · rw[aG hok] at hr
      obtain⟨rfl,rfl⟩:=hr
      have hbo:=mK i1'
      simp only[a7,aN,cI,cP,hbo,sD,aA,↓aS,seval,uU]
      refine eO bQ jE jF rfl rfl (fQ (aN _) (cI _)) (gO _) i1' (by simp only[cM,aU,aZ];omega) (by simp only[cM,aU,aZ];omega) (fun b' hb'=>?_)
      rw[show l0.map Tm.av++ [(x.aM R).av]=((ts.take (i+1)).map (Tm.aM R)).map Tm.av by rw[htk];simp] at hb' ⊢
      obtain⟨g1,g2,g3⟩:=xS hb'
      simp only[gV,fB] at g1 g3
      have hcc:cnt+1+bB Tm.nodes ((ts.take (i+1)).map (Tm.aM R))=c0+(x.aM R).nodes:=by rw[htk,FW,bB,bB,←hc0];omega
      simp only[g3,qZ,kF,g1,hw,aK,aA,seval,uU]
      rw[hcc]
      exact⟨b',⟨g2,hok.2,by rw[htk,DF,i3];simp [hok.1]⟩,aO.mk (by simp only[aA,seval])⟩
    · rw[aE hok] at hr
      subst hr
      obtain⟨e2,i2'⟩:=aNM (x:=b8) (o:=.cells [.int .i64 0,.int .i64 0,.str ⟨#[]⟩,.fslice []]) i1' (by rw[aB.aH _ _ hb8.symm,hW8];simp) EH.symm
      have h8o:=oQ i1' (x:=b8) (by rw[aB.aH _ _ hb8.symm,hW8];simp) EH.symm
      rw[aB.aH _ _ hb8.symm,hW8] at h8o
      simp only[aK,h8o,Tm.zero,aX,aY,aA,↓aS,seval,uU]
      rw[e2]
      refine S5 _ oK a35 (a6X (hWd _ _ _) i2') ?_
      rw[Tm.gJ,Tm.xG,uI,DF,kY,FW,bB]
      rintro⟨h3,h4⟩
      simp only[bV] at h3
      exact hok ⟨h3.2.1,by omega⟩
  · obtain⟨i1,i2,i3⟩:=hinv
    rw[dS] at i1 i2 i3 ⊢
    have hbo:=mK i1
    have hx8:(W.aC cb (.cells [.int .i64 ((cnt+1+bB Tm.nodes (ts.map (Tm.aM R)):Nat):Int)])) b8≠none:=by rw[aB.aH _ _ hb8.symm,hW8];simp
    have h8o:=oQ i1 (x:=b8) hx8 EH.symm
    rw[aB.aH _ _ hb8.symm,hW8] at h8o
    simp only[aK,hge,hbo,h8o,kF,aA,seval,uU]
    obtain⟨h5,h6⟩:=vY (o:=.cells [.int .i64 k,.int .i64 n,.str s,bS 4 b ((ts.map (Tm.aM R)).map Tm.av)]) i1 hx8 EH.symm
    have zU:cnt+(Tm.mk k n s (ts.map (Tm.aM R))).nodes=cnt+1+bB Tm.nodes (ts.map (Tm.aM R)):=by rw[Tm.gJ];omega
    refine⟨b,_,_,h5,h6,oV _,⟨4,gO _⟩,_,?_,_,Nat.le_succ_of_le i2,rfl,?_⟩
    · rw[aB.lZ _ _ _ EH]
      exact hWd _ _ _
    · rw[aG ⟨by rw[Tm.xG];exact i3,by rw[zU];exact i2⟩,zU]
      refine⟨?_,rfl⟩
      simp only[jS,iX,bA,aY,eW,m9,rB,oI,aX]
termination_by D=>D
decreasing_by exact hlt
def NK(v:Tm):AV:=if v.flat 30=true∧v.nodes≤120 then .tup [v.av,.bool true] else .tup [Tm.zero.av,.bool false]
abbrev WA:=zi aW (zi cF (zi bR (zi J4 pQ)))
theorem aAJ{σ:Sub}{R:Int→Tm}{rk:Int→Nat}{B:Nat}(G:Good σ R rk B)(hcv:cX Cv σ)(hsm:cX Sm σ)(c m:Nat)(q:AV)(t:Tm)(hct:Cv t)(hst:Sm t)(st:aB)(hS:jB st c m q σ) :
 aD prog 305 [.ptr c 0,t.av] st (fun r st'=>r=NK (t.aM R)∧st'=st):=by
 refine aD.done ?_
 refine wF [1000000,6] 2 func305 ntmps305 rfl rfl ?_
 intro _
 simp only[aK,aA,↓aS,seval,WA]
 intro b4 h4 b6 h6
 have hne:b6≠b4:=by rintro rfl;rw[aB.aJ] at h6;cases h6
 have hn6:st b6=none:=by rw[aB.aH st _ hne] at h6;exact h6
 have hS':∀o o',jB ((st.aC b4 o).aC b6 o') c m q σ:=fun o o'=>(hS.aC h4).aC (by rw[aB.aH _ _ hne];exact hn6)
 obtain⟨h6c,h6m⟩:=hS.ne hn6
 have hc:=aAK G hcv hsm c m b6 q ⟨h6c,h6m⟩ 30 t 0 _ (by omega) hct hst (by omega) (hS' (.cells [.int .i64 0,.int .i64 0,.str ⟨#[]⟩,.fslice []]) (.cells [.int .i64 0])) (aB.aJ _ _ _)
 rw[show(31 - ((30:Nat):Int))=1 from rfl] at hc
 refine hc.mono ?_
 rintro r s2 ⟨oK,_,rfl,hr⟩
 unfold NK
 rw[gZ] at hr
 split at hr
 · rename_i hok
   obtain⟨rfl,_⟩:=hr
   rw[aG hok]
   simp only[cE,cI,aK,hne.symm,aA,seval,WA]
   exact⟨by simp only[jJ,rU,Tm.soft,bA,aY],(((aL.refl _).aC h4).aC hn6).aC h4⟩
 · rename_i hok
   subst hr
   rw[aE hok]
   simp only[Tm.zero,aX,aY,aK,hne.symm,aA,seval,WA]
   exact⟨by simp only[iF,jJ,iG,rU,mR,nE,bA,aY],(((aL.refl _).aC h4).aC hn6).aC h4⟩
abbrev bBJ:=zi OH (zi pQ GD)
theorem aYA(st:aB):aD prog 243 [] st (fun r st'=>∃c m,r=.ptr c 0∧gE st' c m (.fslice []) Sub.none []∧mX c m st (.fslice []) st' (.fslice [])∧st c=none∧st m=none):=by
 refine wF [1000000,3] 0 func243 ntmps243 rfl rfl ?_
 intro _
 simp only[aA,seval,bBJ]
 intro m hm c hc
 have hne:c≠m:=by rintro rfl;rw[aB.aJ] at hc;cases hc
 have hnc:st c=none:=by rw[aB.aH st _ hne] at hc;exact hc
 refine⟨c,m,rfl,⟨⟨aB.aJ _ _ _,by rw[aB.aH _ _ hne.symm,aB.aJ];try rfl⟩,.inl ⟨rfl,rfl⟩,by simp [dM]⟩,⟨fun x o h h1 h2 _=>by rw[aB.aH _ _ h1,aB.aH _ _ h2];exact h,by simp [dM]⟩,hnc,hm⟩
theorem jB.acc{st:aB}{c m b:Nat}{q:AV}{σ:Sub}{l:List AV}(h:jB st c m q σ)(hb:l≠[]→st b=none):jB (bE st b l) c m q σ:=by
 cases l with
 | nil=>exact h
 | cons x l=>exact h.aC (hb (by simp))
abbrev bFB:=zi aW (zi cA (zi bR (zi aRD aRI)))
abbrev WB:=zi aW (zi cF (zi cA bR))
theorem ZE(l l':List Tm)(g:FuncId)(st:aB)(hc:∀x∈l,∀(y:Tm) (st:aB),aD prog g [Tm.av x,Tm.av y] st (fun r st'=>r=.bool (Tm.same x y)∧st'=st)) :
 aD prog 125 [.slice (l.map Tm.av),.slice (l'.map Tm.av),.func g []] st (fun r st'=>r=.bool (mH Tm.same l l')∧st'=st):=by
 refine wF [1000000] 3 func125 ntmps125 rfl rfl ?_
 simp only[eM,AV.fits,eS,aF]
 intro ⟨⟨hl,_⟩,⟨hl',_⟩⟩
 simp only[aF,aA,seval,WB]
 refine⟨fun h4=>?_,fun h4=>?_⟩
 · simp only[aA,seval]
   simp only[lJ,dF] at h4
   rw[RX _ (show l.length≠l'.length by omega)]
 simp only[tH,bK] at h4
 have h4':l.length=l'.length:=by omega
 simp only[aF,aA,seval,WB]
 refine dX (σ:=Unit) [1000000] [1,2,15,16] l (fun i _=>∀(j:Nat) (x y:Tm),j<i→l[j]?=some x→l'[j]?=some y→Tm.same x y=true) (fun i _=>[(17,.int .i64 i)]) (fun _ _=>st) (by decide +kernel) ⟨(),by intro j x y h;omega,aO.mk (by simp only[aA,↓aS,seval])⟩ (fun i x _ hx hlt bL hdr dV=>?_) (fun _ hge dV=>?_)
 case refine_2=>
  simp only[hge,aA,seval]
  rw[RU _ h4' (fun j x y h6 h7=>dV j x y (by have:=(fA.1 h6).1;omega) h6 h7)]
 obtain⟨y,hy⟩:∃y,l'[i]?=some y:=⟨_,d4 (h4'▸hlt)⟩
 have hw:=bF (n:=(i:Int)+1)
 simp only[bL,a7,aN,cI,cP,bH (av:=Tm.av) bQ hx (aN x),bH (av:=Tm.av) bQ hy (aN y),aA,↓aS,seval,WB]
 refine(hc x (cH hx) y _).to ?_
 simp only[aA,seval]
 refine⟨fun h6=>?_,fun h6=>?_⟩
 · simp only[aA,seval]
   have h7:Tm.same x y=false:=by simpa using h6
   rw[RV _ i x y hx hy h7]
 have h7:Tm.same x y=true:=by simpa using h6
 simp only[aA,seval]
 refine⟨(),fun j u v hj hu hv=>?_,aO.mk (by simp only[hw,aA,seval])⟩
 rcases lN j i with h8 | h8
 · exact dV j u v h8 hu hv
 · obtain rfl:j=i:=by omega
   rw[hx] at hu;rw[hy] at hv;cases hu;cases hv;exact h7
abbrev bFC:=zi aW (zi cW (zi cA (zi bR (zi aRD aRI))))
abbrev OC:=zi aW (zi cF (zi cW (zi cA bR)))
theorem QQ:∀(a b:Tm) (st:aB),aD prog 71 [a.av,b.av] st (fun r st'=>r=.bool (a.same b)∧st'=st)
 | .mk k n s ts,.mk k' n' s' ts',st=>by
  have hc:=ZE ts ts' 71 st fun x hx y st=>QQ x y st
  refine wF [] 2 func71 ntmps71 rfl rfl ?_
  intro _
  simp only[aX,Tm.U3]
  simp only[aA,seval,OC]
  refine cT (fun h1=>?_) (fun h1=>?_)
  case refine_2=>
   simp only[h1,aA,seval]
   simp at h1
   simp []
  simp only[h1,aA,seval,OC]
  refine cT (fun h2=>?_) (fun h2=>?_)
  case refine_2=>
   simp only[h2,aA,seval]
   simp at h2
   simp []
  simp only[h2,aA,seval,OC]
  refine cT (fun h3=>?_) (fun h3=>?_)
  case refine_2=>
   simp only[h3,aA,seval]
   simp at h3
   simp []
  simp only[h3,aA,seval,OC]
  refine hc.to ?_
  simp only[aA,seval]
termination_by a=>SizeOf.sizeOf a
decreasing_by have:=List.sizeOf_lt_of_mem hx;simp only[Tm.mk.sizeOf_spec];omega
abbrev F6:=zi aW (zi cF (zi cW (zi cA bR)))
theorem aAQ:∀(a b:Tm) (st:aB),aD prog 291 [a.av,b.av] st (fun r st'=>r=.bool (a.same b)∧st'=st)
 | .mk k n s ts,.mk k' n' s' ts',st=>by
  have hc:=fun(x:Tm) (hx:x∈ts) y st=>aAQ x y st
  refine wF [] 2 func291 ntmps291 rfl rfl ?_
  simp only[aX,eM,AV.fits,eS,aF,Tm.U3]
  intro ⟨⟨_,_,_,hl,_⟩,⟨_,_,_,hl',_⟩⟩
  simp only[aA,seval,F6]
  refine cT (fun h1=>?_) (fun h1=>?_)
  case refine_2=>
   simp only[h1,aA,seval]
   simp at h1
   simp [h1]
  simp only[h1,aA,seval,F6]
  refine cT (fun h2=>?_) (fun h2=>?_)
  case refine_2=>
   simp only[h2,aA,seval]
   simp at h2
   simp [h2]
  simp only[h2,aA,seval,F6]
  refine cT (fun h3=>?_) (fun h3=>?_)
  case refine_2=>
   simp only[h3,aA,seval]
   simp at h3
   simp [h3]
  simp only[h3,aF,aA,seval,F6]
  refine⟨fun h4=>?_,fun h4=>?_⟩
  · simp only[aA,seval]
    simp only[lJ,dF] at h4
    rw[RX _ (show ts.length≠ts'.length by omega)]
    simp
  simp only[aA,seval]
  simp only[tH,bK] at h1 h2 h3 h4
  have h4':ts.length=ts'.length:=by omega
  subst h1 h2 h3
  simp only[bM,dU]
  refine yJ (α:=Nat) [] (fun i=>i≤ts.length∧∀(j:Nat) (x y:Tm),j<i→ts[j]?=some x→ts'[j]?=some y→Tm.same x y=true)
   (fun i=>[(2,.pptr (.agg [.int .i64 k,.int .i64 n,.str s,.slice (ts.map Tm.av)])),(3,.pptr (.agg [.int .i64 k,.int .i64 n,.str s,.slice (ts'.map Tm.av)])),(5,.int .i64 i)]) (fun _=>st) (fun i=>ts.length - i) (by decide +kernel)
   ⟨0,⟨by omega,by intro j x y h;omega⟩,aO.mk (by simp only[aA,↓aS,seval])⟩ ?_
  intro i ⟨hi,dV⟩
  simp only[aF,aA,seval,F6]
  refine⟨fun h5=>?_,fun h5=>?_⟩
  case refine_2=>
   simp only[aA,seval]
   simp only[dF,nL] at h5
   rw[RU _ h4' (fun j x y h6 h7=>dV j x y (by have:=(fA.1 h6).1;omega) h6 h7)]
  simp only[bK,nL] at h5
  obtain⟨x,hx⟩:∃x,ts[i]?=some x:=⟨_,d4 h5⟩
  obtain⟨y,hy⟩:∃y,ts'[i]?=some y:=⟨_,d4 (h4'▸h5)⟩
  simp only[aA,seval]
  refine aT9 mixed (by decide +kernel) (by decide +kernel) ?_
  simp only[bH (av:=Tm.av) bQ hx (aN x),bH (av:=Tm.av) bQ hy (aN y),a7,aN,aA,seval,F6]
  refine(hc x (cH hx) y st).to ?_
  simp only[aA,seval]
  refine⟨fun h6=>?_,fun h6=>?_⟩
  · simp only[aA,seval]
    have h7:Tm.same x y=false:=by simpa using h6
    rw[RV _ i x y hx hy h7]
  have h7:Tm.same x y=true:=by simpa using h6
  simp only[aA,seval]
  refine⟨i+1,by omega,⟨by omega,fun j u v hj hu hv=>?_⟩,aO.mk ?_⟩
  · rcases lN j i with h8 | h8
    · exact dV j u v h8 hu hv
    · obtain rfl:j=i:=by omega
      rw[hx] at hu;rw[hy] at hv;cases hu;cases hv;exact h7
  · have:=bF (n:=(i:Int)+1)
    simp only[this,aA,seval]
termination_by a=>SizeOf.sizeOf a
decreasing_by have:=List.sizeOf_lt_of_mem hx;simp only[Tm.mk.sizeOf_spec];omega
abbrev bE6:=zi aW cF
theorem pY(b:Bool)(st:aB):aD prog 339 [.bool b] st (fun r st'=>r=.int .i64 (iN b)∧st'=st):=by
 refine wF [1000000] 1 func339 ntmps339 rfl rfl ?_
 intro _
 simp only[aA,seval]
 cases b
 · simp only[iN,aA,seval]
 · simp only[iN,aA,seval]
abbrev bA0:=zi OI (zi aW bR)
theorem aYC(n:Int)(st:aB):aD prog 342 [.int .i64 n] st (fun r st'=>r=(oP n).av∧st'=st):=by
 refine aD.done ?_
 refine wF [1000000] 1 func342 ntmps342 rfl rfl ?_
 intro _
 simp only[aK,aA,seval,bA0]
 intro b hb
 unfold oP
 exact⟨by simp only[aX,iF,iG,mR,lV,bA,aY,aY],(aL.refl _).aC hb⟩
abbrev VP:=zi aW (zi cF (zi cW (zi cA (zi bR pP))))
theorem aV3(k n:Int)(s:ByteArray)(ts:List Tm)(st:aB):aD prog 337 [(Tm.mk k n s ts).av] st (fun r st'=>r=.bool (decide (k=3)&&decide ((ts.length:Int)=2)&&gB sL s)∧st'=st):=by
 simp only[aX]
 refine wF [1000000] 1 func337 ntmps337 rfl rfl ?_
 intro _
 simp only[aA,seval,VP]
 refine cT (fun h=>?_) (fun h=>?_)
 · simp only[h,aF,aA,seval,VP]
   refine cT (fun h2=>?_) (fun h2=>?_)
   · simp only[h2,aA,seval,VP]
     refine(QN sL s _).to ?_
     simp only[aA,seval]
     simp [gB]
   · simp only[h2,aA,seval]
     simp []
 · simp only[h,aA,seval]
   simp []
abbrev VQ:=zi aW (zi cF (zi cW (zi cA bR)))
theorem aV2(n:Int)(s:ByteArray)(x y:Tm)(hs:gB sL s=true){N:Int}(hx:cJ N x)(hy:cJ N y)(st:aB):aD prog 338 [(Tm.mk 3 n s [x,y]).av] st (fun r st'=>r=.int .i64 (zD s x y)∧st'=st):=by
 have dR:c8 prog 34 (.slice [x.av,y.av]) (.int .i64 0)=some (.pptr x.av):=bH (av:=Tm.av) (l:=[x,y]) (i:=0) bQ rfl (aN x)
 have gN:c8 prog 34 (.slice [x.av,y.av]) (.int .i64 1)=some (.pptr y.av):=bH (av:=Tm.av) (l:=[x,y]) (i:=1) bQ rfl (aN y)
 have hax:=fun st=>LI x st hx
 have hay:=fun st=>LI y st hy
 unfold zD both
 simp only[aX,bA,aY]
 refine wF [1000000] 1 func338 ntmps338 rfl rfl ?_
 intro _
 simp only[dR,a7,aN,aA,seval,VQ]
 refine(hax _).to ?_
 generalize x.ev.1=a at *
 generalize x.ev.2=ca at *
 generalize y.ev.1=b at *
 generalize y.ev.2=cb at *
 simp only[aA,seval]
 refine aP (fun h4=>?_) (fun h4=>?_)
 · simp only[aA,seval]
   have h4':ca≠0:=by simpa using h4
   rw[aG h4']
 have h4':ca=0:=by simpa using h4
 subst h4'
 rw[aE (by simp)]
 simp only[gN,a7,aN,aA,seval,VQ]
 refine(hay _).to ?_
 simp only[aA,seval]
 refine aP (fun h5=>?_) (fun h5=>?_)
 · simp only[aA,seval]
   have h5':cb≠0:=by simpa using h5
   rw[aG h5']
 have h5':cb=0:=by simpa using h5
 subst h5'
 rw[aE (by simp)]
 unfold LY
 simp only[aA,seval,VQ]
 refine aP (fun h6=>?_) (fun h6=>?_)
 · simp only[aA,seval]
   rw[aG (by simpa using h6)]
   refine(pY _ _).to ?_
   simp only[aA,seval]
 rw[aE (by simpa using h6)]
 simp only[aA,seval]
 refine aP (fun h7=>?_) (fun h7=>?_)
 · simp only[aA,seval]
   rw[aG (by simpa using h7)]
   refine(pY _ _).to ?_
   simp only[aA,seval]
 rw[aE (by simpa using h7)]
 simp only[aA,seval]
 refine aP (fun h8=>?_) (fun h8=>?_)
 · simp only[aA,seval]
   rw[aG (by simpa using h8)]
   refine(pY _ _).to ?_
   simp only[aA,seval]
 rw[aE (by simpa using h8)]
 simp only[aA,seval]
 refine aP (fun h9=>?_) (fun h9=>?_)
 · simp only[aA,seval]
   rw[aG (by simpa using h9)]
   refine(pY _ _).to ?_
   simp only[aA,seval]
 rw[aE (by simpa using h9)]
 simp only[aA,seval]
 refine(pY _ _).to ?_
 simp only[aA,seval]
theorem NB{ts:List Tm}(h:ts.length=0):ts= []:=o0 h
theorem IY{ts:List Tm}(h:ts.length=1):∃x,ts= [x]:=by
 match ts,h with
 | [x],_=>exact⟨x,rfl⟩
theorem vZ{ts:List Tm}(h:ts.length=2):∃x y,ts= [x,y]:=by
 match ts,h with
 | [x,y],_=>exact⟨x,y,rfl⟩
theorem aNN{ts:List Tm}(h:ts.length=3):∃x y z,ts= [x,y,z]:=by
 match ts,h with
 | [x,y,z],_=>exact⟨x,y,z,rfl⟩
theorem aSJ{σ:Sub}{f:Nat}{t u:Tm}(h:fZ σ f t u):wk σ u=u:=(fZ.stop h.end).wk
end Go.AW
namespace Go.AW

end Go.AW
namespace Go.AW
open Go.Proofs.Tryz
theorem bAQ{α:Type}(f:α→Nat)(l:List α)(i:Nat):bB f (l.take i)≤bB f l:=by
 have:=FW f (l.take i) (l.drop i)
 rw[pT] at this
 omega
def Full(v:Tm)(room:Nat)(st:aB)(r:AV)(st':aB):Prop:=
 st'=st∧∃(x:Tm) (left:Int),r=.tup [x.av,.int .i64 left]∧-1≤left∧if v.nodes≤room then x=v∧left=(room:Int) - v.nodes else left<0
abbrev bE7:=zi aW cF
theorem tV(b:Bool)(st:aB):aD prog 289 [.bool b] st (fun r st'=>r=.int .i64 (iN b)∧st'=st):=by
 refine wF [1000000] 1 func289 ntmps289 rfl rfl ?_
 intro _
 simp only[aA,seval]
 cases b
 · simp only[iN,aA,seval]
 · simp only[iN,aA,seval]
abbrev bE8:=zi cF cW
theorem aXT(s:ByteArray)(st:aB):aD prog 294 [.str s] st (fun r st'=>r=.bool (gB sL s)∧st'=st):=by
 have hin:gB sL s=(decide (s=⟨#[60]⟩)||(decide (s=⟨#[62]⟩)||(decide (s=⟨#[61,60]⟩)||(decide (s=⟨#[62,61]⟩)||decide (s=⟨#[61,58,61]⟩))))):=by
  simp only[gB,sL,A4,List.any_nil,yK]
 rw[hin]
 refine wF [1000000] 1 func294 ntmps294 rfl rfl ?_
 intro _
 simp only[aA,seval]
 refine cT (fun h1=>?_) (fun h1=>?_)
 case refine_2=>
  simp only[h1,aA,seval]
  simp at h1;simp [h1]
 simp only[h1,aA,seval]
 refine cT (fun h2=>?_) (fun h2=>?_)
 case refine_2=>
  simp only[h2,aA,seval]
  simp at h2;simp [h2]
 simp only[h2,aA,seval]
 refine cT (fun h3=>?_) (fun h3=>?_)
 case refine_2=>
  simp only[h3,aA,seval]
  simp at h3;simp [h3]
 simp only[h3,aA,seval]
 refine cT (fun h4=>?_) (fun h4=>?_)
 case refine_2=>
  simp only[h4,aA,seval]
  simp at h4;simp [h4]
 simp only[h4,aA,seval]
theorem aXV(s:ByteArray)(a b:Int)(st:aB):aD prog 332 [.str s,.int .i64 a,.int .i64 b] st (fun r st'=>r=.bool (LY s a b)∧st'=st):=by
 unfold LY
 refine wF [1000000] 3 func332 ntmps332 rfl rfl ?_
 intro _
 simp only[aA,seval]
 refine aP (fun h6=>?_) (fun h6=>?_)
 · simp only[aA,seval]
   rw[aG (by simpa using h6)]
 rw[aE (by simpa using h6)]
 simp only[aA,seval]
 refine aP (fun h7=>?_) (fun h7=>?_)
 · simp only[aA,seval]
   rw[aG (by simpa using h7)]
 rw[aE (by simpa using h7)]
 simp only[aA,seval]
 refine aP (fun h8=>?_) (fun h8=>?_)
 · simp only[aA,seval]
   rw[aG (by simpa using h8)]
 rw[aE (by simpa using h8)]
 simp only[aA,seval]
 refine aP (fun h9=>?_) (fun h9=>?_)
 · simp only[aA,seval]
   rw[aG (by simpa using h9)]
 rw[aE (by simpa using h9)]
 simp only[aA,seval]
abbrev VR:=zi aW (zi cF (zi cW (zi cA bR)))
theorem aXS(n:Int)(s:ByteArray)(x y:Tm){N:Int}(hx:cJ N x)(hy:cJ N y)(st:aB):aD prog 295 [(Tm.mk 3 n s [x,y]).av] st (fun r st'=>r=.int .i64 (zD s x y)∧st'=st):=by
 have dR:c8 prog 34 (.slice [x.av,y.av]) (.int .i64 0)=some (.pptr x.av):=bH (av:=Tm.av) (l:=[x,y]) (i:=0) bQ rfl (aN x)
 have gN:c8 prog 34 (.slice [x.av,y.av]) (.int .i64 1)=some (.pptr y.av):=bH (av:=Tm.av) (l:=[x,y]) (i:=1) bQ rfl (aN y)
 have hax:=fun st=>LR x st hx
 have hay:=fun st=>LR y st hy
 unfold zD both
 simp only[aX,bA,aY]
 refine wF [1000000] 1 func295 ntmps295 rfl rfl ?_
 intro _
 simp only[dR,a7,aN,aA,seval,VR]
 refine(hax _).to ?_
 generalize x.ev.1=a at *
 generalize x.ev.2=ca at *
 generalize y.ev.1=b at *
 generalize y.ev.2=cb at *
 simp only[aA,seval]
 refine aP (fun h4=>?_) (fun h4=>?_)
 · simp only[aA,seval]
   have h4':ca≠0:=by simpa using h4
   rw[aG h4']
 have h4':ca=0:=by simpa using h4
 subst h4'
 rw[aE (by simp)]
 simp only[gN,a7,aN,aA,seval,VR]
 refine(hay _).to ?_
 simp only[aA,seval]
 refine aP (fun h5=>?_) (fun h5=>?_)
 · simp only[aA,seval]
   have h5':cb≠0:=by simpa using h5
   rw[aG h5']
 have h5':cb=0:=by simpa using h5
 subst h5'
 rw[aE (by simp)]
 simp only[aA,seval,VR]
 refine(aXV s a b _).to ?_
 simp only[aA,seval]
 refine(tV _ _).to ?_
 simp only[aA,seval]
abbrev FX:=zi aW (zi cF (zi cW (zi cA bR)))
theorem aXX(n:Int)(s:ByteArray)(x:Tm)(hs:s=⟨#[118,97,114]⟩∨s=⟨#[110,111,110,118,97,114]⟩∨s=⟨#[97,116,111,109]⟩∨s=⟨#[105,110,116]⟩)(st:aB) :
 aD prog 296 [(Tm.mk 3 n s [x]).av] st (fun r st'=>r=.int .i64 (iN (uR s x))∧st'=st):=by
 obtain⟨xk,xn,xs,xt⟩:=x
 have dR:c8 prog 34 (.slice [(Tm.mk xk xn xs xt).av]) (.int .i64 0)=some (.pptr (Tm.mk xk xn xs xt).av):=bH (av:=Tm.av) (l:=[Tm.mk xk xn xs xt]) (i:=0) bQ rfl (aN _)
 simp only[aX] at dR
 simp only[bA,aY,aX]
 refine wF [1000000] 1 func296 ntmps296 rfl rfl ?_
 intro _
 simp only[dR,aA,↓aS,seval,FX]
 refine aP (fun h=>?_) (fun h=>?_)
 · have hs':s=⟨#[118,97,114]⟩:=by simpa using h
   subst hs'
   simp only[aA,seval,FX]
   refine(tV _ _).to ?_
   simp only[aA,seval]
   rfl
 have h1:s≠⟨#[118,97,114]⟩:=by simpa using h
 simp only[aA,seval]
 refine aP (fun h=>?_) (fun h=>?_)
 · have hs':s=⟨#[110,111,110,118,97,114]⟩:=by simpa using h
   subst hs'
   simp only[aA,seval,FX]
   refine(tV _ _).to ?_
   simp only[aA,seval]
   rfl
 have h2:s≠⟨#[110,111,110,118,97,114]⟩:=by simpa using h
 simp only[aA,seval]
 refine aP (fun h=>?_) (fun h=>?_)
 · have hs':s=⟨#[105,110,116]⟩:=by simpa using h
   subst hs'
   simp only[aA,seval,FX]
   refine(tV _ _).to ?_
   simp only[aA,seval]
   rfl
 have h3:s≠⟨#[105,110,116]⟩:=by simpa using h
 have hs':s=⟨#[97,116,111,109]⟩:=by simpa [h1,h2,h3] using hs
 subst hs'
 have et:uR ⟨#[97,116,111,109]⟩ (Tm.mk xk xn xs xt)=(decide (xk=3)&&decide ((xt.length:Int)=0)):=rfl
 rw[et]
 simp only[aA,seval,FX]
 refine cT (fun h4=>?_) (fun h4=>?_)
 · simp only[h4,aF,aA,seval,FX]
   refine(tV _ _).to ?_
   simp only[aA,seval]
 · simp only[h4,aA,seval]
   refine(tV _ _).to ?_
   simp only[aA,seval]
   simp at h4;simp []
def sH(x y:Tm):Tm×Int:=if x.k=1∨y.k=1 then(Tm.zero,2) else if x.k≠2∨y.k≠3∨y.ts.length=0 then(Tm.zero,3) else match nO x y with
 | some u=>(u,0)
 | none=>(Tm.zero,1)
abbrev pO:=zi aW (zi cA bR)
theorem aXR{N:Int}(n:Int)(s:ByteArray)(x y z:Tm)(hy:cJ N y)(st:aB):aD prog 293 [(Tm.mk 3 n s [x,y,z]).av] st (fun r st'=>r=.tup [(sH x y).1.av,.int .i64 (sH x y).2]∧st'=st):=by
 have dR:c8 prog 34 (.slice [x.av,y.av,z.av]) (.int .i64 0)=some (.pptr x.av):=bH (av:=Tm.av) (l:=[x,y,z]) (i:=0) bQ rfl (aN x)
 have gN:c8 prog 34 (.slice [x.av,y.av,z.av]) (.int .i64 1)=some (.pptr y.av):=bH (av:=Tm.av) (l:=[x,y,z]) (i:=1) bQ rfl (aN y)
 obtain⟨xk,xn,xs,xt⟩:=x
 obtain⟨yk,yn,ys,yt⟩:=y
 have hyl:yt.length≤4:=by
  exact hy.kind.2
 rw[aX] at dR
 simp only[aX xk,aX yk] at dR gN
 unfold sH
 simp only[aX 3,bA,aY,aX xk,aX yk,Tm.k,Tm.ts]
 refine aD.done ?_
 refine wF [1000000] 1 func293 ntmps293 rfl rfl ?_
 intro _
 simp only[dR,gN,aA,↓aS,seval,pO]
 intro b hb
 have kL:∀o (p:Tm×Int) (k:Int),p=(Tm.zero,k)→(AV.tup [.agg [.int .i64 0,.int .i64 0,.str ⟨#[]⟩,.fslice []],.int .i64 k]).soft=.tup [p.1.av,.int .i64 p.2]∧aL (st.aC b o) st:=fun o p k e=>by
  rw[e]
  exact⟨by simp only[Tm.zero,aX,iF,jJ,iG,mR,lV,bA,aY,aY],(aL.refl _).aC hb⟩
 refine cT (fun h=>?_) (fun h=>?_)
 case refine_2=>
  have h':xk=1:=by simpa using h
  simp only[h,aK,aA,seval,pO]
  exact kL _ _ 2 (aG (.inl h'))
 have hx1:xk≠1:=by simpa using h
 simp only[h,aA,seval,pO]
 refine aP (fun h1=>?_) (fun h1=>?_)
 · have h':yk=1:=by simpa using h1
   simp only[aK,aA,seval,pO]
   exact kL _ _ 2 (aG (.inr h'))
 have hy1:yk≠1:=by simpa using h1
 rw[aE (fun h2=>h2.elim hx1 hy1)]
 simp only[aA,seval,pO]
 refine cT (fun h4=>?_) (fun h4=>?_)
 case refine_2=>
  have h':xk≠2:=by simpa using h4
  simp only[h4,aK,aA,seval,pO]
  exact kL _ _ 3 (aG (.inl h'))
 have hx2:xk=2:=by simpa using h4
 simp only[h4,aA,seval,pO]
 refine cT (fun h5=>?_) (fun h5=>?_)
 case refine_2=>
  have h':yk≠3:=by simpa using h5
  simp only[h5,aK,aA,seval,pO]
  exact kL _ _ 3 (aG (.inr (.inl h')))
 have hy3:yk=3:=by simpa using h5
 simp only[h5,aF,aA,seval,pO]
 refine aP (fun h6=>?_) (fun h6=>?_)
 · have h':yt.length=0:=by simp at h6;simp [h6]
   simp only[aK,aA,seval,pO]
   exact kL _ _ 3 (aG (.inr (.inr h')))
 have hyt:yt.length≠0:=by simp at h6;simpa using h6
 rw[aE (by simp [hx2,hy3];intro h7;simp [h7] at hyt)]
 simp only[aA,seval,pO]
 have hno:¬(1≤xn∧xn≤yt.length)→(match nO (.mk xk xn xs xt) (.mk yk yn ys yt) with | some u=>(u,(0:Int)) | none=>(Tm.zero,1))=(Tm.zero,(1:Int)):=fun h'=>by
  have ea:nO (.mk xk xn xs xt) (.mk yk yn ys yt)=none:=aE h'
  rw[ea]
 refine cT (fun h7=>?_) (fun h7=>?_)
 case refine_2=>
  have h':xn<1:=by simpa using h7
  simp only[h7,aK,aA,seval,pO]
  exact kL _ _ 1 (hno (by omega))
 have hl1:¬xn<1:=by simpa using h7
 simp only[h7,aF,aA,seval,pO]
 refine aP (fun h8=>?_) (fun h8=>?_)
 · have h':(yt.length:Int)<xn:=by simpa using h8
   simp only[aK,aA,seval,pO]
   exact kL _ _ 1 (hno (by omega))
 have hl2:¬(yt.length:Int)<xn:=by simpa using h8
 have h':1≤xn∧xn≤yt.length:=by omega
 obtain⟨i,hi⟩:∃i:Nat,xn - 1=i:=⟨(xn - 1).toNat,by omega⟩
 have hlt:i<yt.length:=by omega
 obtain⟨u,hu⟩:∃u,yt[i]?=some u:=⟨_,d4 hlt⟩
 have ea:nO (.mk xk xn xs xt) (.mk yk yn ys yt)=some u:=by
  refine(aG h').trans ?_
  show yt[(xn - 1).toNat]?=some u
  rw[hi,jO,hu]
 rw[ea]
 have hw:IntKind.i64.wrap (xn - 1)=(i:Int):=by rw[wrap64 (by omega) (by omega)];exact hi
 have SO:=bH (av:=Tm.av) (P:=prog) bQ hu (aN u)
 simp only[cE,cI,fN (cE _),fG (a7 _),SO,hw,a7,aN,aK,aA,seval,pO]
 exact⟨by simp only[jJ,iG,Tm.soft,bA,aY,Tm.soft],(aL.refl _).aC hb⟩
theorem a6P(n:Int):(oP n).av=(Tm.mk 2 n ⟨#[]⟩ []).av:=rfl
def cZ(N:Nat)(σ:Sub):List AV:=(List.range N).map fun i:Nat=>cellOf (σ (i:Int))
theorem D0(N:Nat)(σ:Sub):∀e∈cZ N σ,e.width=4:=by intro e h;simp only[cZ,cB] at h;obtain⟨i,_,rfl⟩:=h;exact LT _
theorem BL(N:Nat)(σ:Sub){i:Nat}(h:i<N):(cZ N σ)[i]?=some (cellOf (σ (i:Int))):=by
 simp only[cZ,mA,List.getElem?_range h,oG]
theorem aT6(N:Nat)(σ:Sub){i:Nat}(h:i<N)(u:Tm):(cZ N σ).set i u.av=cZ N (σ.set (i:Int) u):=by
 apply DH
 intro j
 by_cases hj:j<N
 · rw[BL N _ hj,List.getElem?_set]
   by_cases e:i=j
   · subst e
     simp [cZ,hj,Sub.set,cellOf]
   · rw[aE e,BL N _ hj]
     simp only[Sub.set]
     rw[aE (by omega)]
 · rw[wN (by simp [cZ];omega),wN (by simp [cZ];omega)]
def fL(N:Nat)(st:aB)(b:Nat)(σ:Sub):Prop:=st b=some (.cells ((cZ N σ).flatMap AV.cells))
theorem fL.mid{N:Nat}{st:aB}{b:Nat}{σ:Sub}(h:fL N st b σ){i:Nat}(hi:i<N) :
 ∃A B,st b=some (.cells (A++(cellOf (σ (i:Int))).cells++B))∧A.length=i*4∧∀(u:Tm),fL N (st.aC b (.cells (A++u.av.cells++B))) b (σ.set (i:Int) u):=by
 obtain⟨A,B,h1,h2,h3⟩:=a24 (D0 N σ) (BL N σ hi)
 refine⟨A,B,by rw[←h1];exact h,h2,fun u=>?_⟩
 unfold fL
 rw[aB.aJ,←aT6 N σ hi,h3]
theorem fL.aC{N:Nat}{st:aB}{b x:Nat}{σ:Sub}{o:AO}(h:fL N st b σ)(hx:x≠b):fL N (st.aC x o) b σ:=by
 unfold fL
 rw[aB.aH _ _ (c9 hx)]
 exact h
theorem fL.none{N:Nat}{st:aB}{b:Nat}{σ:Sub}(h:fL N st b σ){i:Nat}(hi:i<N)(hn:σ (i:Int)=Option.none) :
 ∃D,st b=some (.cells D)∧D[i*4+0]?=some (.int .i64 0)∧i*4+4≤D.length:=by
 obtain⟨A,B,e1,e2,_⟩:=h.mid hi
 rw[hn] at e1
 obtain⟨r1,r2,r3⟩:=YY (B:=B) (C:=(cellOf Option.none).cells) e2 rfl
 exact⟨_,e1,r3,r1⟩
theorem fL.some{N:Nat}{st:aB}{b:Nat}{σ:Sub}(h:fL N st b σ){i:Nat}(hi:i<N){k n:Int}{s:ByteArray}{ts:List Tm}(hn:σ (i:Int)=Option.some (.mk k n s ts)) :
 ∃D,st b=Option.some (.cells D)∧D[i*4+0]?=Option.some (.int .i64 k)∧i*4+4≤D.length∧List.take 4 (List.drop (i*4) D)= [.int .i64 k,.int .i64 n,.str s,.slice (ts.map Tm.av)]:=by
 obtain⟨A,B,e1,e2,_⟩:=h.mid hi
 rw[hn] at e1
 simp only[cellOf,aX,AV.cells] at e1
 obtain⟨r1,r2,r3⟩:=YY (B:=B) (C:=[.int .i64 k,.int .i64 n,.str s,.slice (ts.map Tm.av)]) e2 rfl
 exact⟨_,e1,r3,r1,r2⟩
theorem fL.set{N:Nat}{st:aB}{b:Nat}{σ:Sub}(h:fL N st b σ){i:Nat}(hi:i<N)(u:Tm) :
 ∃D D',st b=Option.some (.cells D)∧i*4+4≤D.length∧aK D (i*4) u.av.cells=D'∧fL N (st.aC b (.cells D')) b (σ.set (i:Int) u):=by
 obtain⟨A,B,e1,e2,e3⟩:=h.mid hi
 obtain⟨p1,p2⟩:=a8L (B:=B) (C:=(cellOf (σ (i:Int))).cells) (x:=u.av.cells) e2 (aY4 _) (cE u)
 exact⟨_,_,e1,p2,p1,e3 u⟩
abbrev F1:=zi aW (zi cA bR)
theorem ZC{N:Nat}{σ:Sub}(hok:cX (cJ N) σ){f:Nat}{t u:Tm}(hw:fZ σ f t u)(ht:cJ N t)(b:Nat)(st:aB)(hS:fL N st b σ):aD prog 329 [t.av,.mslice b 0 N 4] st (fun r st'=>r=u.av∧st'=st):=by
 refine aD.done ?_
 refine wF [1000000,2] 2 func329 ntmps329 rfl rfl ?_
 intro _
 simp only[aA,seval,F1]
 intro b2 h2 b4 h4
 have hne:b4≠b2:=by rintro rfl;rw[aB.aJ] at h4;cases h4
 have hn4:st b4=none:=by rw[aB.aH st _ hne] at h4;exact h4
 have hb2:b2≠b:=by rintro rfl;rw[fL,h2] at hS;cases hS
 have hb4:b4≠b:=by rintro rfl;rw[fL,hn4] at hS;cases hS
 refine iJ (σ:=Nat×Tm) [1000000,2] [1,2,4] (fun p=>fZ σ p.1 p.2 u∧cJ N p.2) (fun p=>[]) (fun p=>(st.aC b2 (.cells p.2.av.cells)).aC b4 (.cells [.int .i64 0,.int .i64 0,.str ⟨#[]⟩,.fslice []])) (fun p=>p.1) (by decide +kernel) ⟨(f,t),⟨hw,ht⟩,aO.mk (by simp only[aA,seval])⟩ ?_
 rintro⟨g,t⟩ ⟨hw,ht⟩
 obtain⟨k,n,s,ts⟩:=t
 simp only at hw ht
 simp only[aX]
 have vS:k≠1∨σ n=none→u=.mk k n s ts:=fun h=>by
  cases hw with
  | stop _=>rfl
  | go h1 h2 _=>
   simp only[Tm.k] at h1
   rcases h with h | h
   · exact absurd h1 h
   · rw[show σ n=some _ from h2] at h;cases h
 simp only[hne.symm,aA,seval,F1]
 refine cT (fun h=>?_) (fun h=>?_)
 case refine_2=>
  simp only[h,aK,hne.symm,aA,seval,F1]
  simp only[jZ,dF] at h
  rw[vS (.inl h),←aX]
  exact⟨Tm.soft _,((aL.refl _).aC h2).aC hn4⟩
 simp only[bK] at h
 subst h
 obtain⟨hn0,hn1,_⟩:=ht.var
 obtain⟨i,rfl⟩:∃i:Nat,n=i:=⟨n.toNat,by omega⟩
 have hi:i<N:=by omega
 have hi':decide ((i:Int)<(N:Int))=true:=by simp;omega
 simp only[bM,hi',kG,hne.symm,aA,seval,F1]
 have hat:=p8 (P:=prog) (b:=b) (len:=N) bQ hi
 cases hw with
 | stop hs=>
  obtain⟨D,e1,e2,_⟩:=hS.none hi (hs rfl)
  simp only[hat,e1,e2,bM,aK,hne.symm,hb2.symm,hb4.symm,aA,seval,F1]
  exact⟨by rw[←aX,Tm.soft],((aL.refl _).aC h2).aC hn4⟩
 | go h1 h2' h3=>
  simp only[Tm.n] at h2'
  have ho:=hok _ _ h2'
  rename_i g' u'
  obtain⟨k',n',s',ts'⟩:=u'
  have hk':¬k'=0:=by have:=ho.kind.1;omega
  obtain⟨D,e1,e2,e3,e4⟩:=hS.some hi h2'
  have e5:i*4+0+4≤D.length:=e3
  simp only[hat,e1,e2,e3,e4,hk',bP,aK,hne.symm,hb2.symm,hb4.symm,aA,seval,F1]
  rw[aB.AU hne,aB.lZ _ _ _ hne]
  refine⟨(g',.mk k' n' s' ts'),Nat.lt_succ_self _,⟨h3,ho⟩,?_⟩
  simp only[aX]
  exact aO.mk (by simp only[aA,seval])
theorem fL.acc{N:Nat}{st:aB}{b bW:Nat}{σ:Sub}{l:List AV}(h:fL N st b σ)(hb:l≠[]→st bW=Option.none):fL N (bE st bW l) b σ:=by
 cases l with
 | nil=>exact h
 | cons x l=>exact h.aC (by rintro rfl;rw[fL,hb (by simp)] at h;cases h)
abbrev JR:=zi aW (zi cF (zi fJ (zi cA bR)))
theorem aU7{N:Nat}{σ:Sub}{R:Int→Tm}{rk:Int→Nat}{B:Nat}(G:Good σ R rk B)(hok:cX (bG N) σ)(hN:N≤1048576){n:Int}(hn:σ n=none)(t:Tm)(ht:bG N t)(b:Nat)(st:aB)(hS:fL N st b σ) :
 aD prog 330 [.int .i64 n,t.av,.mslice b 0 N 4] st (fun r st'=>r=.bool (decide (n∈(t.aM R).vl))∧st'=st):=by
 refine aD.done ?_
 refine wF [1000000] 3 func330 ntmps330 rfl rfl ?_
 intro _
 simp only[aA,seval,JR]
 have h0:=HN t [] 0 st (Tm.tZ t (ht.1.2.1)) (fun h=>absurd rfl h) (by have:=ht.2;simp only[aZ];omega)
 simp only[aY,iV,y6] at h0
 refine h0.mono ?_
 rintro _ _ ⟨b0,rfl,rfl,hb0⟩
 obtain⟨v1,v2,_⟩:=W7 t (Tm.tZ t (ht.1.2.1)) []
 simp only[aA,seval]
 refine iJ (σ:=Nat×List Int×Nat) [1000000] [0,2]
  (fun p=>p.1≤p.2.1.length∧p.2.1.Nodup∧(∀w∈p.2.1,w∈VN N)∧(p.2.1.map iv≠[]→st p.2.2=none)∧(∀w∈p.2.1.take p.1,w≠n∧∀u,σ w=some u→∀v∈u.vl,v∈p.2.1)∧(∀w∈p.2.1,n∈(R w).vl→n∈(t.aM R).vl)∧(n∈(t.aM R).vl→∃w∈p.2.1,n∈(R w).vl))
  (fun p=>[(6,.bool false),(7,bS 1 p.2.2 (p.2.1.map iv)),(8,.int .i64 p.1)]) (fun p=>bE st p.2.2 (p.2.1.map iv)) (fun p=>N - p.1) (by decide +kernel)
  ⟨(0,t.vars [],b0),⟨iU _,v2 oF,fun w hw=>?_,hb0,by simp,fun w hw hm=>?_,fun hm=>?_⟩,aO.mk (by simp only[aA,↓aS,seval])⟩ ?_
 · rcases (v1 w).1 hw with h | h
   · cases h
   · exact xU.2 (ht.1.2.2 w h)
 · rcases (v1 w).1 hw with h | h
   · cases h
   · exact(AY t).2 ⟨w,h,hm⟩
 · obtain⟨w,hw,hm⟩:=(AY t).1 hm
   exact⟨w,(v1 w).2 (.inr hw),hm⟩
 rintro⟨i,W,bW⟩ ⟨i1,i2,i3,i4,i5,i6,i7⟩
 simp only at i1 i2 i3 i4 i5 i6 i7
 have haL:=BJ (w:=1) (b:=bW) (l:=W.map iv) KF
 have hWl:=FA i2 (fun m hm=>xU.1 (i3 m hm))
 simp only[haL,aF,aA,seval]
 refine aP (fun h=>?_) (fun h=>?_)
 case refine_2=>
  simp only[dF,nL] at h
  obtain rfl:i=W.length:=by omega
  rw[dS] at i5
  simp only[aA,seval]
  have hno:n∉(t.aM R).vl:=fun hm=>by
   obtain⟨w,hw,hnw⟩:=i7 hm
   exact bCX G i5 w hw hnw
  exact⟨by simp only[hno,bP,rU],aL.bE (aL.refl _) i4⟩
 simp only[bK,nL] at h
 obtain⟨w,hx⟩:∃w,W[i]?=some w:=⟨_,d4 h⟩
 have eT:=cH hx
 have hat:=YL (b:=bW) (l:=W.map iv) (i:=i) (x:=iv w) fO (by rw[mA,hx];try rfl)
 obtain⟨gA,zQ⟩:=YM (st:=st) (b:=bW) hx
 have hw:=bF (n:=(i:Int)+1)
 simp only[hat,gA,zQ,wR,aA,seval,JR]
 refine aP (fun h2=>?_) (fun h2=>?_)
 · simp only[bK] at h2
   subst h2
   simp only[aA,seval]
   have hm:w∈(t.aM R).vl:=i6 w eT (by rw[G.free hn,AZ];simp)
   exact⟨by simp only[hm,bM,rU],aL.bE (aL.refl _) i4⟩
 simp only[dF] at h2
 simp only[hat,gA,zQ,wR,aA,seval,JR]
 obtain⟨hw0,hw1⟩:=xU.1 (i3 w eT)
 obtain⟨j,rfl⟩:∃j:Nat,w=j:=⟨w.toNat,by omega⟩
 have hj:j<N:=by omega
 have hj':decide ((j:Int)<(N:Int))=true:=by simp;omega
 have aL9:=p8 (P:=prog) (b:=b) (len:=N) bQ hj
 have hSA:=hS.acc i4
 have htk:W.take (i+1)=W.take i++ [(j:Int)]:=by rw[dY,hx];try rfl
 have step:∀W':List Int,(∀v∈W,v∈W')→(∀u,σ (j:Int)=some u→∀v∈u.vl,v∈W')→∀w∈W'.take (i+1),W'.take (i+1)=W.take (i+1)→w≠n∧∀u,σ w=some u→∀v∈u.vl,v∈W':=by
  intro W' qC jT w hw' hte
  rw[hte,htk] at hw'
  rcases eH.1 hw' with hw' | hw'
  · exact⟨(i5 w hw').1,fun u hu v hv=>qC v ((i5 w hw').2 u hu v hv)⟩
  · simp only[cY,dK,dQ] at hw'
    subst hw'
    exact⟨h2,jT⟩
 cases hs:σ (j:Int) with
 | none=>
  obtain⟨D,e1,e2,_⟩:=hSA.none hj hs
  simp only[hj',aL9,e1,e2,bM,kG,hat,gA,zQ,wR,hw,aA,seval,JR]
  exact⟨(i+1,W,bW),by simp only;omega,⟨h,i2,i3,i4,fun w hw'=>step W (fun _ h=>h) (fun u hu=>by rw[hs] at hu;cases hu) w hw' rfl,i6,i7⟩,aO.mk (by simp only[aA,seval])⟩
 | some u=>
  obtain⟨k',n',s',ts'⟩:=u
  have ho:=hok _ _ hs
  have hk':¬k'=0:=by have:=ho.1.kind.1;omega
  obtain⟨D,e1,e2,e3,e4⟩:=hSA.some hj hs
  simp only[hj',aL9,e1,e2,e3,e4,hk',bP,kG,hat,gA,zQ,wR,aA,seval,JR]
  have hwf:=Tm.tZ _ (ho.1.2.1)
  have hc:=HN (.mk k' n' s' ts') W bW st hwf i4 (by have:=ho.2;omega)
  obtain⟨u1,u2,m,u3⟩:=W7 _ hwf W
  rw[aX] at hc
  refine hc.mono ?_
  rintro _ _ ⟨b',rfl,rfl,hb'⟩
  generalize (Tm.mk k' n' s' ts').vars W=W' at *
  have hte:W'.take (i+1)=W.take (i+1):=by rw[u3,DJ (by omega)]
  have hbd:(Tm.mk k' n' s' ts').aM R=R (j:Int):=(G.bound hs).symm
  simp only[hw,aA,seval]
  refine⟨(i+1,W',b'),by simp only;omega,⟨by rw[u3];simp only[dN];omega,u2 i2,fun w hw'=>?_,hb',fun w hw'=>step W' (fun v hv=>(u1 v).2 (.inl hv)) (fun u hu v hv=>?_) w hw' hte,fun w hw' hm=>?_,fun hm=>?_⟩,aO.mk (by simp only[aA,seval])⟩
  · rcases (u1 w).1 hw' with h | h
    · exact i3 w h
    · exact xU.2 (ho.1.2.2 w h)
  · rw[hs] at hu
    cases hu
    exact(u1 v).2 (.inr hv)
  · rcases (u1 w).1 hw' with h | h
    · exact i6 w h hm
    · refine i6 (j:Int) eT ?_
      rw[←hbd]
      exact(AY _).2 ⟨w,h,hm⟩
  · obtain⟨w,h,hm⟩:=i7 hm
    exact⟨w,(u1 w).2 (.inl h),hm⟩
def AN(N b:Nat)(st:aB)(σ':Sub)(st':aB):Prop:=fL N st' b σ'∧∀x o,st x=some o→x≠b→st' x=some o
theorem AN.refl{N b:Nat}{st:aB}{σ:Sub}(h:fL N st b σ):AN N b st σ st:=⟨h,fun _ _ h _=>h⟩
theorem AN.trans{N b:Nat}{st s2 s3:aB}{σ2 σ3:Sub}(x:AN N b st σ2 s2)(y:AN N b s2 σ3 s3):AN N b st σ3 s3:=⟨y.1,fun q o h hn=>y.2 q o (x.2 q o h hn) hn⟩
def G4(N:Nat)(f:Nat)(b:Nat)(σ:Sub)(a c:Tm)(r:Bool)(σ':Sub):Prop:=∀st,fL N st b σ→aD prog f [a.av,c.av,.mslice b 0 N 4] st (fun r' st'=>r'=.bool r∧AN N b st σ' st')
abbrev n6:=zi aW (zi cF (zi cW (zi cA bR)))
theorem aNO(N:Nat)(hN:N≤1048576)(g:Nat)(bb:Nat)(IH:∀(σ:Sub) (a b:Tm) (r:Bool) (σ':Sub) (add:List Int),cQ σ→cX (bG N) σ→bG N a→bG N b→dH g σ a b=some (r,σ',add)→G4 N 290 bb σ a b r σ')
 (σ:Sub) (a b:Tm) (r:Bool) (σ':Sub) (add:List Int) (hg:cQ σ) (hok:cX (bG N) σ) (ha0:bG N a) (hb0:bG N b) (h:dH (g+1) σ a b=some (r,σ',add))
 (aM7:(wk σ a).k≠1→(wk σ b).k=1→G4 N 290 bb σ (wk σ b) (wk σ a) r σ'):G4 N 290 bb σ a b r σ':=by
 intro st hS
 obtain⟨rk,B,G⟩:=hg.rs
 obtain⟨fa,wa⟩:=G.wk a
 obtain⟨fb,wb⟩:=G.wk b
 have M0:cX (cJ N) σ:=fun n u hu=>(hok n u hu).1
 have hca:=fun st (hS:fL N st bb σ)=>ZC M0 wa ha0.1 bb st hS
 have hcb:=fun st (hS:fL N st bb σ)=>ZC M0 wb hb0.1 bb st hS
 have ea:=wa.end
 have eb:=wb.end
 have hsa:=wa.all (p:=bG N) hok ha0
 have hsb:=wb.all (p:=bG N) hok hb0
 replace h:=O3 h
 generalize wk σ a=a1 at *
 generalize wk σ b=b1 at *
 clear wa wb
 refine wF [1000000,3,4] 3 func290 ntmps290 rfl rfl ?_
 intro eR
 simp only[aA,seval,n6]
 intro b4 h4 b5 h5
 have h54:b5≠b4:=by rintro rfl;rw[aB.aJ] at h5;cases h5
 have hn5:st b5=none:=by rw[aB.aH st _ h54] at h5;exact h5
 have h4b:b4≠bb:=by rintro rfl;rw[fL,h4] at hS;cases hS
 have h5b:b5≠bb:=by rintro rfl;rw[fL,hn5] at hS;cases hS
 have hS':∀o o',fL N ((st.aC b4 o).aC b5 o') bb σ:=fun o o'=>(hS.aC h4b).aC h5b
 have hQ:∀o o',AN N bb st σ ((st.aC b4 o).aC b5 o'):=fun o o'=>⟨hS' o o',fun x p h _=>by
  rw[aB.aH _ _ (by rintro rfl;rw[hn5] at h;cases h),aB.aH _ _ (by rintro rfl;rw[h4] at h;cases h)];exact h⟩
 simp only[cE,fN (cE a),fG (a7 a),h54.symm,aA,seval]
 refine(hca _ (hS' _ _)).to ?_
 simp only[cE,fN (cE b),fG (a7 b),cI,aK,h54,h54.symm,aA,seval,n6]
 rw[aB.AU h54,aB.lZ _ _ _ h54]
 refine(hcb _ (hS' _ _)).to ?_
 obtain⟨ka,na,sa,tsa⟩:=a1
 obtain⟨kb,nb,sb',tsb⟩:=b1
 obtain⟨hla,aMO⟩:=Tm.qN (hsa.1.small)
 obtain⟨hlb,aMP⟩:=Tm.qN (hsb.1.small)
 have gR:∀o o',AN N bb st σ ((st.aC b4 o).aC b5 o'):=hQ
 have hka:=fun h=>(rP N) _ h hsa
 have hkb:=fun h=>(rP N) _ h hsb
 simp only[aX]
 simp only[Tm.k,Tm.n,Tm.ts] at h ea eb aM7 hka hkb
 simp only[dO,aK,h54.symm,aA,seval,n6]
 have var:∀ {n:Int} {t:Tm},n∈VN N→σ n=none→bG N t→kH σ n t=(r,σ',add)→∀s0,fL N s0 bb σ→aD prog 330 [.int .i64 n,t.av,.mslice bb 0 N 4] s0 (fun r' st'=>r'=.bool (!r)∧st'=s0):=by
  intro n t _ hn ht hb s0 hs0
  have:=aU7 G hok hN hn t ht bb s0 hs0
  unfold kH at hb
  split at hb
  · rename_i hm
    cases hb
    simpa [hm] using this
  · rename_i hm
    cases hb
    simpa [hm] using this
 rcases h with ⟨h1,h2,h3,rfl,rfl,rfl⟩ | ⟨h1,h2,h3⟩ | ⟨h1,h2,h3⟩ | ⟨h1,h2,h3,h4⟩ | ⟨h1,h2,h3,rfl,rfl,rfl⟩
 · subst h1 h2 h3
   simp only[bM,kG,h54.symm,aA,seval,n6]
   exact gR _ _
 · subst h1
   have hin:=xU.2 (hsa.1.2.2 na (by rw[Tm.nI rfl];simp))
   obtain⟨hn0,hn1⟩:=xU.1 hin
   have hcw:=var hin (ea rfl) hsb h3 _ (hS' (.cells [.int .i64 1,.int .i64 na,.str sa,.slice (tsa.map Tm.av)]) (.cells [.int .i64 kb,.int .i64 nb,.str sb',.slice (tsb.map Tm.av)]))
   have hna:=ea rfl
   rw[aX] at hcw
   obtain⟨i,rfl⟩:∃i:Nat,na=i:=⟨na.toNat,by omega⟩
   have hi:i<N:=by omega
   have hat:=p8 (P:=prog) (b:=bb) (len:=N) bQ hi
   have h6:kb=1→¬(i:Int)=nb:=fun e1 e=>h2 ⟨e1,e⟩
   have tail:∀(s0:aB),s0=((st.aC b4 (.cells [.int .i64 1,.int .i64 i,.str sa,.slice (tsa.map Tm.av)])).aC b5 (.cells [.int .i64 kb,.int .i64 nb,.str sb',.slice (tsb.map Tm.av)]))→r=true →
    ∃D D',s0 bb=some (.cells D)∧i*4+4≤D.length∧aK D (i*4) [.int .i64 kb,.int .i64 nb,.str sb',.slice (tsb.map Tm.av)]=D'∧AN N bb st σ' (s0.aC bb (.cells D')):=by
    rintro _ rfl rfl
    unfold kH at h3
    split at h3
    · cases h3
    · cases h3
      obtain⟨D,D',e1,e2,e3,e4⟩:=(hS' (.cells [.int .i64 1,.int .i64 i,.str sa,.slice (tsa.map Tm.av)]) (.cells [.int .i64 kb,.int .i64 nb,.str sb',.slice (tsb.map Tm.av)])).set hi (.mk kb nb sb' tsb)
      refine⟨D,D',e1,e2,by rw[←e3,aX];try rfl,e4,fun x o hx hxb=>?_⟩
      rw[aB.aH _ _ hxb]
      exact(hQ _ _).2 x o hx hxb
   by_cases h5:kb=1
   · subst h5
     simp only[bM,h6 rfl,bP,kG,h54.symm,aA,seval,n6]
     refine hcw.to ?_
     cases r with
     | false=>
      simp only[aA,seval]
      unfold kH at h3
      split at h3
      · cases h3
        exact gR _ _
      · cases h3
     | true=>
      obtain⟨D,D',e1,e2,e3,e4⟩:=tail _ rfl rfl
      simp only[hat,e1,e2,aK,h54.symm,aA,seval,n6]
      rw[←e3] at e4
      exact e4
   · simp only[bM,h5,bP,kG,h54.symm,aA,seval,n6]
     refine hcw.to ?_
     cases r with
     | false=>
      simp only[aA,seval]
      unfold kH at h3
      split at h3
      · cases h3
        exact gR _ _
      · cases h3
     | true=>
      obtain⟨D,D',e1,e2,e3,e4⟩:=tail _ rfl rfl
      simp only[hat,e1,e2,aK,h54.symm,aA,seval,n6]
      rw[←e3] at e4
      exact e4
 · subst h2
   have hsw:=aM7 h1 rfl
   simp only[G4,aX] at hsw
   simp only[bM,h1,bP,kG,h54.symm,aA,seval,n6]
   refine(hsw _ (hS' _ _)).mono ?_
   rintro _ s2 ⟨rfl,hp⟩
   simp only[aA,seval]
   exact(hQ _ _).trans hp
 · rw[uG] at h3
   simp only[Tm.k,Tm.n,Tm.s,Tm.ts] at h3
   obtain⟨rfl,rfl,rfl,hlen⟩:=h3
   have cM:decide ((tsa.length:Int)=(tsb.length:Int))=true:=by simp [hlen]
   simp only[bM,bP,cM,kG,h54.symm,aF,h1,aA,seval,n6]
   have hS0:=hS' (.cells [.int .i64 ka,.int .i64 na,.str sa,.slice (tsa.map Tm.av)]) (.cells [.int .i64 ka,.int .i64 na,.str sa,.slice (tsb.map Tm.av)])
   have hQ0:=hQ (.cells [.int .i64 ka,.int .i64 na,.str sa,.slice (tsa.map Tm.av)]) (.cells [.int .i64 ka,.int .i64 na,.str sa,.slice (tsb.map Tm.av)])
   have e4:((st.aC b4 (.cells [.int .i64 ka,.int .i64 na,.str sa,.slice (tsa.map Tm.av)])).aC b5 (.cells [.int .i64 ka,.int .i64 na,.str sa,.slice (tsb.map Tm.av)])) b4=some (.cells [.int .i64 ka,.int .i64 na,.str sa,.slice (tsa.map Tm.av)]):=by rw[aB.aH _ _ h54.symm,aB.aJ]
   have e5:((st.aC b4 (.cells [.int .i64 ka,.int .i64 na,.str sa,.slice (tsa.map Tm.av)])).aC b5 (.cells [.int .i64 ka,.int .i64 na,.str sa,.slice (tsb.map Tm.av)])) b5=some (.cells [.int .i64 ka,.int .i64 na,.str sa,.slice (tsb.map Tm.av)]):=aB.aJ _ _ _
   generalize (st.aC b4 (.cells [.int .i64 ka,.int .i64 na,.str sa,.slice (tsa.map Tm.av)])).aC b5 (.cells [.int .i64 ka,.int .i64 na,.str sa,.slice (tsb.map Tm.av)])=s0 at *
   refine dX (σ:=Sub×List Int×aB) [1000000,3,4] [2,3,4] tsa
    (fun i p=>cQ p.1∧cX (bG N) p.1∧AN N bb s0 p.1 p.2.2∧dZ g p.1 (tsa.drop i) (tsb.drop i)=some (r,σ',p.2.1))
    (fun i _=>[(6,.bool false),(7,.int .i64 i)]) (fun _ p=>p.2.2) (by decide +kernel)
    ⟨(σ,add,s0),⟨hg,hok,AN.refl hS0,h4⟩,aO.mk (by simp only[aA,↓aS,seval])⟩ (fun i x p hx hlt bL hdr hinv=>?_) (fun p hge hinv=>?_)
   case refine_2=>
    obtain⟨σi,rest,si⟩:=p
    obtain⟨i1,i2,i3,i5⟩:=hinv
    simp only at i1 i2 i3 i5
    have f4:=i3.2 b4 _ e4 h4b
    rw[kB,hlen,kB] at i5
    simp only[dZ,Option.some.injEq,Prod.mk.injEq] at i5
    obtain⟨rfl,rfl,rfl⟩:=i5
    simp only[hge,f4,aF,aA,seval,n6]
    exact hQ0.trans i3
   obtain⟨σi,rest,si⟩:=p
   obtain⟨i1,i2,i3,i5⟩:=hinv
   simp only at i1 i2 i3 i5
   obtain⟨y,hy⟩:∃y,tsb[i]?=some y:=⟨_,d4 (by omega)⟩
   have ER:tsb.drop i=y::tsb.drop (i+1):=by
    obtain⟨h1,h2⟩:=fA.1 hy
    rw[qS h1,h2]
   rw[hdr,ER,dZ] at i5
   have f4:=i3.2 b4 _ e4 h4b
   have f5:=i3.2 b5 _ e5 h5b
   have hw:=bF (n:=(i:Int)+1)
   simp only[bL,aF,f4,aA,seval,n6]
   refine wP [(0,1),(2,1),(5,1),(7,1),(10,1),(1,2),(3,1),(4,2),(6,2),(8,1),(9,2),(11,0),(12,1)] [0,2,5,7,10,1,3,4,6,8,9,12] mixed ?_
   simp only[f4,f5,bH (av:=Tm.av) bQ hx (aN x),bH (av:=Tm.av) bQ hy (aN y),aA,seval,n6]
   cases hu:dH g σi x y with
   | none=>rw[hu] at i5;cases i5
   | some p1=>
    obtain⟨r1,σ1,tr1⟩:=p1
    rw[hu] at i5
    have hx1:bG N x:=hka h1 x (cH hx)
    have hy1:bG N y:=hkb h2 y (cH hy)
    have hU:=yG i1 hu
    have hA:=(O5 (rP N) g).1 σi x y r1 σ1 tr1 i1 hu i2 hx1 hy1
    refine(IH σi x y r1 σ1 tr1 i1 i2 hx1 hy1 hu si i3.1).mono ?_
    rintro _ s2 ⟨rfl,hp2⟩
    cases r1 with
    | false=>
     simp only[Option.some.injEq,Prod.mk.injEq] at i5
     obtain⟨rfl,rfl,rfl⟩:=i5
     simp only[aA,seval]
     exact hQ0.trans (i3.trans hp2)
    | true=>
     simp only at i5
     cases hu2:dZ g σ1 (tsa.drop (i+1)) (tsb.drop (i+1)) with
     | none=>rw[hu2] at i5;cases i5
     | some p2=>
      obtain⟨r2,σ2,tr2⟩:=p2
      rw[hu2] at i5
      simp only[Option.some.injEq,Prod.mk.injEq] at i5
      obtain⟨rfl,rfl,_⟩:=i5
      simp only[aA,seval]
      exact⟨(σ1,tr2,s2),⟨hU.gY,hA,i3.trans hp2,hu2⟩,aO.mk (by simp only[hw,aA,seval])⟩
 · have hd:ka=kb→na=nb→sa=sb'→¬(tsa.length:Int)=(tsb.length:Int):=by
    intro e1 e2 e3 e4
    have:vR (Tm.mk ka na sa tsa) (Tm.mk kb nb sb' tsb)=true:=uG.2 ⟨e1,e2,e3,by simp only[Tm.ts];omega⟩
    rw[h3] at this;cases this
   by_cases e1:ka=kb
   · by_cases e2:na=nb
     · by_cases e3:sa=sb'
       · have e4:=hd e1 e2 e3
         subst e1 e2 e3
         simp only[bP,bM,kG,h54.symm,h1,aF,e4,aA,seval,n6]
         exact gR _ _
       · subst e1 e2
         simp only[bP,bM,kG,h54.symm,h1,e3,aA,seval,n6]
         exact gR _ _
     · subst e1
       simp only[bP,bM,kG,h54.symm,h1,e2,aA,seval,n6]
       exact gR _ _
   · clear hd
     simp only[bP,kG,h54.symm,h1,h2,e1,aA,seval,n6]
     exact gR _ _
theorem ZB(N:Nat)(hN:N≤1048576)(bb:Nat):∀(g:Nat) (σ:Sub) (a b:Tm) (r:Bool) (σ':Sub) (add:List Int),cQ σ→cX (bG N) σ→bG N a→bG N b→dH g σ a b=some (r,σ',add)→G4 N 290 bb σ a b r σ'
 | 0,σ,a,b,r,σ',add,hg,hok,ha,hb,h=>by simp only[dH] at h;cases h
 | g+1,σ,a,b,r,σ',add,hg,hok,ha,hb,h=>by
  refine aNO N hN g bb (ZB N hN bb g) σ a b r σ' add hg hok ha hb h fun h1 h2=>?_
  obtain⟨rk,B,G⟩:=hg.rs
  obtain⟨fa,wa⟩:=G.wk a
  obtain⟨fb,wb⟩:=G.wk b
  have eb:=aSJ wb
  have ea:=aSJ wa
  have hbn:kH σ (wk σ b).n (wk σ a)=(r,σ',add):=by
   rcases O3 h with h | h | h | h | h
   · exact absurd h.1 h1
   · exact absurd h.1 h1
   · exact h.2.2
   · exact absurd h2 h.2.1
   · exact absurd h2 h.2.1
  refine aNO N hN 0 bb (fun σ a b r σ' add _ _ _ _ h=>by simp only[dH] at h;cases h) σ (wk σ b) (wk σ a) r σ' add hg hok (wb.all (p:=bG N) hok hb) (wa.all (p:=bG N) hok ha) ?_ fun h3=>?_
  · rw[dH,eb,ea,aE (fun h=>h1 h.2.1),aG h2,hbn]
  · rw[eb] at h3;exact absurd h2 h3
end Go.AW
namespace Go.AW
noncomputable def tF(σ:Sub)(a b:Tm):Int×Sub×List Int:=(iN (jN σ a b).1,(jN σ a b).2)
noncomputable def w8(σ:Sub)(x y z:Tm):Int×Sub×List Int:=
 if x.k=1∨y.k=1 then(2,σ,[]) else if x.k≠2∨y.k≠3∨y.ts.length=0 then(3,σ,[]) else match nO x y with
  | some u=>tF σ z u
  | none=>(1,σ,[])
noncomputable def dE(σ:Sub)(s:ByteArray):List Tm→Int×Sub×List Int
 | []=>(iN (decide (s=⟨#[116,114,117,101]⟩)),σ,[])
 | [x]=>(iN (uR s x),σ,[])
 | [x,y]=>if gB sL s=true then(zD s x y,σ,[]) else if s=⟨#[61]⟩ then tF σ x y else if s=⟨#[92,61]⟩ then(iN (!(jN σ x y).1),σ,[])
  else if s=⟨#[61,61]⟩ then(iN (x.same y),σ,[]) else if y.ev.2≠0 then(y.ev.2,σ,[]) else tF σ x (oP y.ev.1)
 | [x,y,z]=>w8 σ x y z
 | _=>(0,σ,[])
structure nM (N:Int) (σ:Sub) (σ':Sub) (add:List Int):Prop where
 gY:cQ σ'
 ok:cX (bG N) σ'
 aV:∀n,n∉add→σ' n=σ n
 new:∀n∈add,σ n=none∧σ' n≠none
 nodup:add.Nodup
 gB:∀n∈add,0≤n∧n<N
theorem nM.same{N:Int}{σ:Sub}(hg:cQ σ)(ho:cX (bG N) σ):nM N σ σ []:=⟨hg,ho,fun _ _=>rfl,by simp,oF,by simp⟩
theorem BC.x7{N:Int}{σ:Sub}{a b:Tm}{r:Bool}{σ':Sub}{tr:List Int}(h:BC N σ a b r σ' tr):nM N σ σ' tr:=⟨h.oD.gY,h.ok,h.oD.aV,h.oD.new,h.oD.nodup,h.gB⟩
theorem nM.oD{N:Nat}{σ:Sub}{a b:Tm}(hg:cQ σ)(ho:cX (bG N) σ)(ha:bG N a)(hb:bG N b):nM N σ (jN σ a b).2.1 (jN σ a b).2.2:=by
 obtain⟨r,σ',tr,h⟩:=uZ hg ho ha hb
 rw[h.eq]
 exact h.x7
theorem M8{N:Int}{n:Int}(h:kA n):bG N (oP n):=by
 have h1:=a6Q h
 have h2:=Tm.KG h1
 refine⟨⟨h2.1,h2.2.1,fun v hv=>?_⟩,Tm.C8 h1⟩
 unfold oP at hv
 rw[Tm.lC (by decide)] at hv
 obtain⟨t,ht,_⟩:=hv
 cases ht
theorem YT{N:Int}{x y u:Tm}(hy:bG N y)(hk:y.k≠1)(h:nO x y=some u):bG N u:=rP N y hk hy u (YS h)
theorem NW{N:Nat}{σ:Sub}(hg:cQ σ)(ho:cX (bG N) σ)(s:ByteArray)(ks:List Tm)(hv:∀x∈ks,bG N x):nM N σ (dE σ s ks).2.1 (dE σ s ks).2.2:=by
 have hs:=nM.same hg ho
 match ks,hv with
 | [],_=>exact hs
 | [x],_=>exact hs
 | [x,y],hv=>
  have hx:=hv x (by simp)
  have hy:=hv y (by simp)
  simp only[dE]
  split
  · exact hs
  split
  · exact nM.oD hg ho hx hy
  split
  · exact hs
  split
  · exact hs
  split
  · exact hs
  · exact nM.oD hg ho hx (M8 (Tm.vO y hy.1))
 | [x,y,z],hv=>
  have hy:=hv y (by simp)
  have hz:=hv z (by simp)
  simp only[dE,w8]
  split
  · exact hs
  rename_i h1
  split
  · exact hs
  split
  · rename_i u hu
    exact nM.oD hg ho hz (YT hy (fun h=>h1 (.inr h)) hu)
  · exact hs
 | a::b::c::d::l,_=>exact hs
theorem a0I(ρ:Int→Int):∀t:Tm,(b9 ρ t).ev=t.ev:=by
 intro t
 induction t using Tm.ind with
 | h k n s ts ih=>
  by_cases h1:k=1
  · rw[AD ρ (t:=.mk k n s ts) h1,vr,Tm.zH,Tm.zH,h1]
    simp
  rw[x6 ρ h1,Tm.zH,Tm.zH,pR]
  have:ts.map (Tm.ev∘b9 ρ)=ts.map Tm.ev:=qU fun x hx=>ih x hx
  rw[this]
section
variable {ρ:Int→Int} {N:Int} {σ τ:Sub}
theorem fM.back(S:fM ρ N σ τ):∃δ:Int→Int,∀v,0≤v→v<N→δ (ρ v)=v:=by
 refine⟨fun w=>open Classical in if h:∃v,0≤v∧v<N∧ρ v=w then h.choose else 0,fun v h0 h1=>?_⟩
 have h:∃u,0≤u∧u<N∧ρ u=ρ v:=⟨v,h0,h1,rfl⟩
 simp only[dif_pos h]
 obtain⟨a,b,c⟩:=h.choose_spec
 exact S.inj _ _ a b h0 h1 c
theorem fM.a9E(S:fM ρ N σ τ){x y:Tm}(hx:cJ N x)(hy:cJ N y)(e:b9 ρ x=b9 ρ y):x=y:=by
 obtain⟨δ,hδ⟩:=S.back
 have key:∀ {t:Tm},cJ N t→b9 δ (b9 ρ t)=t:=fun {t} ht=>by
  rw[show b9 δ (b9 ρ t)=t.aM fun v=>vr (δ (ρ v)) from JD ρ _ t]
  rw[pI (g:=vr) t fun v hv=>by rw[hδ v (ht.2.2 v hv).1 (ht.2.2 v hv).2]]
  exact I0 t ht.2.1
 rw[←key hx,e,key hy]
theorem fM.same(S:fM ρ N σ τ){x y:Tm}(hx:cJ N x)(hy:cJ N y):(b9 ρ x).same (b9 ρ y)=x.same y:=by
 rw[wK,Tm.NU,Tm.NU]
 exact⟨S.a9E hx hy,fun e=>by rw[e]⟩
theorem bAY(ρ:Int→Int)(s:ByteArray)(x:Tm):uR s (b9 ρ x)=uR s x:=by
 unfold uR
 rw[AC]
 by_cases h:x.k=1
 · rw[h];simp
 · have:(b9 ρ x).ts.length=x.ts.length:=by
    rw[FP ρ h]
    simp only[Tm.ts,aF]
   rw[this]
theorem aT4(ρ:Int→Int){x y:Tm}(hx:x.k=2)(hy:y.k=3):nO (b9 ρ x) (b9 ρ y)=(nO x y).map (b9 ρ):=by
 obtain⟨k,n,s,ts⟩:=x
 obtain⟨k',n',s',ts'⟩:=y
 simp only[Tm.k] at hx hy
 subst hx hy
 rw[x6 ρ (by decide),x6 ρ (by decide)]
 unfold nO
 show(if 1≤n∧n≤((ts'.map (b9 ρ)).length:Int) then(ts'.map (b9 ρ))[(n - 1).toNat]? else none)=Option.map (b9 ρ) (if 1≤n∧n≤(ts'.length:Int) then ts'[(n - 1).toNat]? else none)
 by_cases h:1≤n∧n≤(ts'.length:Int)
 · rw[aG h,aG (by rw[aF];exact h),mA]
 · rw[aE h,aE (by rw[aF];exact h)];try rfl
def mW(ρ:Int→Int)(N:Int)(x y:Int×Sub×List Int):Prop:=y.1=x.1∧y.2.2=x.2.2.map ρ∧fM ρ N x.2.1 y.2.1
theorem mW.same(S:fM ρ N σ τ)(c:Int):mW ρ N (c,σ,[]) (c,τ,[]):=⟨rfl,rfl,S⟩
end
section
variable {ρ:Int→Int} {N:Nat} {σ τ:Sub}
theorem mW.oD(S:fM ρ N σ τ)(hg:cQ σ)(hg':cQ τ)(ho:cX (bG N) σ){a b:Tm}(ha:bG N a)(hb:bG N b):mW ρ N (tF σ a b) (tF τ (b9 ρ a) (b9 ρ b)):=by
 obtain⟨r,σ',tr,h⟩:=uZ hg ho ha hb
 obtain⟨g,hg2⟩:=h.run
 obtain⟨τ',e,S',_⟩:=S.jN hg hg' ho.mN ha.1 hb.1 hg2
 unfold tF
 rw[h.eq,e]
 exact⟨rfl,rfl,S'⟩
theorem a9F(ρ:Int→Int)(n:Int):b9 ρ (oP n)=oP n:=x6 ρ (by decide)
theorem fM.dE(S:fM ρ N σ τ)(hg:cQ σ)(hg':cQ τ)(ho:cX (bG N) σ)(s:ByteArray)(ks:List Tm)(hv:∀x∈ks,bG N x):mW ρ N (AW.dE σ s ks) (AW.dE τ s (ks.map (b9 ρ))):=by
 match ks,hv with
 | [],_=>exact mW.same S _
 | [x],_=>
  simp only[bA,aY,AW.dE,bAY]
  exact mW.same S _
 | [x,y],hv=>
  have hx:=hv x (by simp)
  have hy:=hv y (by simp)
  have hu:=mW.oD S hg hg' ho hx hy
  simp only[bA,aY,AW.dE,zD,a0I,S.same hx.1 hy.1]
  by_cases h1:gB sL s=true
  · rw[aG h1,aG h1];exact mW.same S _
  rw[aE h1,aE h1]
  by_cases h2:s=⟨#[61]⟩
  · rw[aG h2,aG h2];exact hu
  rw[aE h2,aE h2]
  by_cases h3:s=⟨#[92,61]⟩
  · rw[aG h3,aG h3]
    obtain⟨r,σ',tr,h⟩:=uZ hg ho hx hy
    obtain⟨g,hg2⟩:=h.run
    obtain⟨τ',e,_,_⟩:=S.jN hg hg' ho.mN hx.1 hy.1 hg2
    rw[h.eq,e]
    exact mW.same S _
  rw[aE h3,aE h3]
  by_cases h4:s=⟨#[61,61]⟩
  · rw[aG h4,aG h4];exact mW.same S _
  rw[aE h4,aE h4]
  by_cases h5:y.ev.2≠0
  · rw[aG h5,aG h5];exact mW.same S _
  rw[aE h5,aE h5]
  have:=mW.oD S hg hg' ho hx (M8 (N:=N) (Tm.vO y hy.1))
  rw[a9F] at this
  exact this
 | [x,y,z],hv=>
  have hy:=hv y (by simp)
  have hz:=hv z (by simp)
  simp only[bA,aY,AW.dE,w8,AC]
  by_cases h1:x.k=1∨y.k=1
  · rw[aG h1,aG h1];exact mW.same S _
  rw[aE h1,aE h1]
  have hl:(b9 ρ y).ts.length=y.ts.length:=by
   rw[FP ρ (t:=y) (fun h=>h1 (.inr h))]
   simp only[Tm.ts,aF]
  rw[hl]
  by_cases h2:x.k≠2∨y.k≠3∨y.ts.length=0
  · rw[aG h2,aG h2];exact mW.same S _
  rw[aE h2,aE h2]
  have kx:x.k=2:=yL fun h=>h2 (.inl h)
  have ky:y.k=3:=yL fun h=>h2 (.inr (.inl h))
  rw[aT4 ρ kx ky]
  cases hu:nO x y with
  | none=>exact mW.same S _
  | some u=>exact mW.oD S hg hg' ho hz (YT hy (fun h=>h1 (.inr h)) hu)
 | a::b::c::d::l,_=>
  simp only[bA,AW.dE]
  exact mW.same S _
end
theorem bAI(σ:Sub)(s:ByteArray)(ks:List Tm):0≤(dE σ s ks).1:=by
 have hc:∀b,0≤iN b:=fun b=>by unfold iN;split<;>omega
 have hr:∀n,0≤(jH n).2:=fun n=>by unfold jH;split<;>simp
 have har:∀s a b,0≤(sF s a b).2:=fun s a b=>by
  unfold sF
  split
  · exact hr _
  split
  · exact hr _
  split
  · exact hr _
  split
  · simp
  split
  · simp
  · simp
 have hb:∀(f:Int→Int→Int×Int) (x y:Int×Int),(∀a b,0≤(f a b).2)→0≤x.2→0≤y.2→0≤(both f x y).2:=fun f x y hf hx hy=>by
  unfold both
  split
  · exact hx
  split
  · exact hy
  · exact hf _ _
 have he:∀t:Tm,0≤t.ev.2:=by
  intro t
  induction t using Tm.ind with
  | h k n s ts ih=>
   rw[Tm.zH]
   split
   · simp
   split
   · simp
   split
   · match ts,ih with
     | [],_=>simp [two]
     | [x],_=>simp [two]
     | [x,y],ih=>exact hb _ _ _ (har s) (ih x (by simp)) (ih y (by simp))
     | x::y::z::l,_=>simp [two]
   · simp
 match ks with
 | []=>exact hc _
 | [x]=>exact hc _
 | [x,y]=>
  simp only[dE]
  split
  · exact hb _ _ _ (fun _ _=>hc _) (he x) (he y)
  split
  · exact hc _
  split
  · exact hc _
  split
  · exact hc _
  split
  · exact he y
  · exact hc _
 | [x,y,z]=>
  simp only[dE,w8]
  split
  · simp
  split
  · simp
  split
  · exact hc _
  · simp
 | a::b::c::d::l=>simp [dE]
end Go.AW
