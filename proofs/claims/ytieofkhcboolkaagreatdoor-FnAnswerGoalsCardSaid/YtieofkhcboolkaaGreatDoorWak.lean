import Derived.Test.YtieofkhcboolkaaGreatDoorWaj
import Derived.Test.YtieofkhcboolkaaGreatDoorWai
import Derived.Test.YtieofkhcboolkaaGreatDoorWaf
import Derived.Test.YtieofkhcboolkaaGreatDoorWah
set_option linter.unusedSimpArgs false
set_option linter.unusedVariables false
set_option maxRecDepth 100000
namespace Go.AW
open Go.Proofs.Tryz
abbrev BL:=zi aX (zi bZ (zi bQ (zi EP (zi oV ES))))
theorem J5{σ:Sub}{f:Nat}{t u:Tm}(hw:f0 σ f t u)(c m:Nat)(q:AV)(st:aB)(hS:iY st c m q σ):aD prog 359 [.ptr c 0,t.av] st (fun r st'=>r=u.av∧st'=st):=by
 refine aD.done ?_
 refine wF [1000000,3] 2 func359 ntmps359 rfl rfl ?_
 intro _
 simp only[aA,seval,BL]
 intro b3 h3 b4 h4
 have hne:b4≠b3:=by rintro rfl;rw[aB.aO] at h4;cases h4
 have hn4:st b4=none:=by rw[aB.aM st _ hne] at h4;exact h4
 have hD:∀o o',aL ((st.aC b3 o).aC b4 o') st:=fun o o'=>((aL.refl _).aC h3).aC hn4
 have hS':∀o o',iY ((st.aC b3 o).aC b4 o') c m q σ:=fun o o'=>(hS.aC h3).aC (by rw[aB.aM _ _ hne];exact hn4)
 obtain⟨a05,a9W⟩:=hS.ne h3
 obtain⟨a06,a9X⟩:=hS.ne hn4
 refine iG (σ:=Nat×Tm) [1000000,3] [0,3,4] (fun p=>f0 σ p.1 p.2 u) (fun p=>[]) (fun p=>(st.aC b3 (.cells p.2.av.cells)).aC b4 (.cells [.int .i64 0,.int .i64 0,.str ⟨#[]⟩,.fslice []])) (fun p=>p.1) (by decide +kernel) ⟨(f,t),hw,aN.mk (by simp only[aA,seval])⟩ ?_
 rintro⟨g,t⟩ hw
 obtain⟨k,n,s,ts⟩:=t
 simp only at hw
 simp only[aU]
 simp only[hne.symm,aA,seval,BL]
 refine aP (fun h=>?_) (fun h=>?_)
 case refine_2=>
  simp only[dB] at h
  cases hw with
  | go h1=>exact absurd h1 h
  | stop=>
   simp only[aK,hne.symm,aA,seval,BL]
   exact⟨by rw[←aU,Tm.soft],hD _ _⟩
 simp only[bO] at h
 simp only[aA,seval]
 refine wP [(0,1),(1,1),(2,1),(4,1),(3,2),(5,2),(6,2),(7,1),(8,1),(9,1),(10,0),(11,0),(12,1)] [0,1,2,4,3,5,6,7,8,9,12] mixed ?_
 have hl:=fun(st':aB) (hm:st' m=some (AO.map (mapOf σ)))=>aLN (P:=prog) (n:=n) hm IR y7 aP0
 simp only[hne.symm,hS.cells,a05.symm,a06.symm,aA,seval,BL]
 rw[hl _ (hS' _ _).map]
 cases hw with
 | stop hs=>
  rw[show σ n=none from hs h]
  simp only[found,aK,aA,seval,BL]
  intro b5 h5
  have h53:b5≠b3:=by rintro rfl;simp [aB.aM,aB.aO,hne.symm] at h5
  have h54:b5≠b4:=by rintro rfl;simp [aB.aO] at h5
  have hn5:st b5=none:=by rw[aB.aM _ _ h54,aB.aM _ _ h53] at h5;exact h5
  simp only[aK,hne.symm,h53.symm,h54.symm,aA,seval,BL]
  exact⟨by rw[←aU,Tm.soft],((((aL.refl _).aC h3).aC hn4).aC hn5).aC hn4⟩
 | go _ h2 h3'=>
  rw[show σ n=some _ from h2]
  simp only[found,aK,aA,seval,BL]
  intro b5 h5
  have h53:b5≠b3:=by rintro rfl;simp [aB.aM,aB.aO,hne.symm] at h5
  have h54:b5≠b4:=by rintro rfl;simp [aB.aO] at h5
  have hn5:st b5=none:=by rw[aB.aM _ _ h54,aB.aM _ _ h53] at h5;exact h5
  simp only[hne.symm,h53.symm,aA,seval]
  refine⟨(_,_),I8 _,h3',aN.drop (fun x=>?_) (by simp only[aA,seval])⟩
  by_cases e3:x=b3<;>by_cases e4:x=b4<;>by_cases e5:x=b5<;>simp_all [aB.aC]
abbrev aOC:=zi aX (zi bS bQ)
theorem aSR(l:List Tm)(g:FuncId)(dN:List AV)(p:Tm→Bool)(J E:aB→Prop)(hc:∀x∈l,∀s,J s→aD prog g ([Tm.av x]++dN) s (fun r s'=>r=.bool (p x)∧(p x=true→E s')∧(p x=false→J s')))(st:aB)(h0:J st) :
 aD prog 230 [.slice (l.map Tm.av),.func g dN] st (fun r st'=>r=.int .i64 (oM p l 0)∧(l.any p=true→E st')∧(l.any p=false→J st')):=by
 refine wF [1000000] 2 func230 ntmps230 rfl rfl ?_
 simp only[d7,AV.fits,d9,aE]
 intro ⟨hl,_⟩
 simp only[aE,aA,seval,aOC]
 refine dV (σ:=aB) [1000000] [0,1,7] l (fun i s=>J s∧oM p (l.drop i) i=oM p l 0∧(l.drop i).any p=l.any p) (fun i _=>[(8,.int .i64 i)]) (fun _ s=>s) (by decide +kernel) ⟨st,⟨h0,rfl,rfl⟩,aN.mk (by simp only[aA,↓aR,seval])⟩ (fun i x s hx hlt bH hdr hinv=>?_) (fun s hge hinv=>?_)
 case refine_2=>
  obtain⟨i1,i2,i3⟩:=hinv
  rw[j4] at i2 i3
  simp only[hge,aA,seval]
  exact⟨by rw[←i2];try rfl,fun h=>(by rw[←i3] at h;cases h),fun _=>i1⟩
 obtain⟨i1,i2,i3⟩:=hinv
 rw[hdr,oM] at i2
 rw[hdr,B1] at i3
 have hw:=bL (n:=(i:Int)+1)
 simp only[bH,bD (av:=Tm.av) a8 hx (aH x),aT,aH,aA,seval,aOC]
 refine(hc x (cD hx) s i1).mono ?_
 rintro _ s2 ⟨rfl,hE,hJ⟩
 simp only[aA,seval]
 refine aP (fun h=>?_) (fun h=>?_)
 · rw[aJ h] at i2
   rw[h,vA] at i3
   simp only[aA,seval]
   exact⟨by rw[i2],fun _=>hE h,fun h'=>(by rw[←i3] at h';cases h')⟩
 · rw[aF (by simp [h])] at i2
   rw[h,pU] at i3
   simp only[aA,seval]
   exact⟨s2,⟨hJ h,i2,i3⟩,aN.mk (by simp only[hw,aA,seval])⟩
theorem aSH(l:List Tm)(g:FuncId)(dN:List AV)(p:Tm→Bool)(J E:aB→Prop)(hc:∀x∈l,∀s,J s→aD prog g ([Tm.av x]++dN) s (fun r s'=>r=.bool (p x)∧(p x=true→E s')∧(p x=false→J s')))(st:aB)(h0:J st) :
 aD prog 143 [.slice (l.map Tm.av),.func g dN] st (fun r st'=>r=.bool (l.any p)∧(l.any p=true→E st')∧(l.any p=false→J st')):=by
 refine wF [1000000] 2 func143 ntmps143 rfl rfl ?_
 intro _
 simp only[aA,seval]
 refine(aSR l g dN p J E hc st h0).mono ?_
 rintro _ s2 ⟨rfl,hE,hJ⟩
 simp only[a14,aA,seval]
 exact⟨hE,hJ⟩
def Occ(R:Int→Tm)(n:Int)(t:Tm)(st:aB)(mm:Nat)(M:List Int)(r:AV)(st':aB):Prop:=
 r=.bool (decide (n∈(t.aG R).vl))∧∃M',st'=st.aC mm (.map (lX M'))∧(n∉(t.aG R).vl→∀v∈M',v∈M∨n∉(R v).vl)
abbrev a6Q:=zi aX (zi bZ (zi bQ (zi oV T8)))
theorem aU7{c mm:Nat}{n:Int}{t:Tm}{st:aB}{Q:AV→aB→Prop}(hc:aD prog 367 [.ptr c 0,.int .i64 n,t.av,.map mm] st Q) :
 aD prog 373 [t.av,.pptr (.ptr c 0),.pptr (.int .i64 n),.pptr (.map mm)] st Q:=by
 refine wF [1000000] 4 func373 ntmps373 rfl rfl ?_
 intro _
 simp only[aA,seval,a6Q]
 refine hc.mono ?_
 intro r s h
 simp only[aA,seval]
 exact h
abbrev yU:=zi aX (zi bZ (zi bS (zi bQ (zi oV (zi T8 a64)))))
theorem O2{σ:Sub}{R:Int→Tm}{rk:Int→Nat}{B:Nat}(G:Good σ R rk B){n:Int}(hn:σ n=none)(c m mm:Nat)(q:AV)(hmm:mm≠c∧mm≠m) :
 ∀(K:Nat) (t:Tm) (M:List Int) (st:aB),iY st c m q σ→st mm=some (.map (lX M))→(∀w∈t.vl,rk w<K)→(∀v∈M,n∉(R v).vl∨∀w∈t.vl,rk w<rk v) →
 aD prog 367 [.ptr c 0,.int .i64 n,t.av,.map mm] st (Occ R n t st mm M)
 | K,.mk k x s ts,M,st,hS,hM,hK,GY=>by
  have IH1:=fun(K':Nat) (hK':K'<K) t M st=>O2 G hn c m mm q hmm K' t M st
  have IH2:=fun(y:Tm) (hy:y∈ts) M st=>O2 G hn c m mm q hmm K y M st
  have hlk:=a2Y (P:=prog) (n:=x) hM aPI y7 a7Y
  simp only[aU]
  refine wF [1000000] 4 func367 ntmps367 rfl rfl ?_
  intro _
  simp only[aA,seval,yU]
  refine aP (fun h=>?_) (fun h=>?_)
  · simp only[bO] at h
    have hvl:(Tm.mk k x s ts).vl= [x]:=Tm.mU h
    have hmv:(Tm.mk k x s ts).aG R=R x:=Tm.kI R h
    have hKx:rk x<K:=hK x (by rw[hvl];simp)
    simp only[hlk,aA,seval,yU]
    refine aP (fun h2=>?_) (fun h2=>?_)
    · simp only[bO] at h2
      simp only[aA,seval]
      have hno:n∉(R x).vl:=by
       rcases GY x h2 with h | h
       · exact h
       · exact absurd (h x (by rw[hvl];simp)) (Nat.lt_irrefl _)
      refine⟨by rw[hmv];simp [hno],M,?_,fun _ v hv=>.inl hv⟩
      funext y
      simp only[aB.aC]
      split
      · rename_i e;rw[e,hM]
      · rfl
    · simp only[dB] at h2
      simp only[aA,seval,yU]
      refine a7P hM aPI y7 ?_
      simp only[aA,seval,yU]
      obtain⟨f,hwk⟩:=G.wk (Tm.mk k x s ts)
      generalize hu:wk σ (Tm.mk k x s ts)=u at *
      have hS':=hS.NE (o:=.map (lX (x::M))) hmm.1 hmm.2
      have hcw:=J5 hwk c m q _ hS'
      rw[aU] at hcw
      refine hcw.to ?_
      have QY:u.aG R=R x:=by rw[hwk.aG G.wJ,hmv]
      have iR:=hwk.end
      have hrk:=hwk.HG G
      obtain⟨k',x',s',ts'⟩:=u
      simp only[aU]
      simp only[aA,↓aR,seval,yU]
      refine aP (fun h3=>?_) (fun h3=>?_)
      · simp only[bO] at h3
        simp only[aA,seval,yU]
        have qL:R x'=vr x':=G.free (iR h3)
        rw[Tm.kI R h3,qL] at QY
        refine⟨?_,x::M,rfl,fun hno v hv=>?_⟩
        · rw[hmv,←QY,zA]
          simp [eq_comm]
        · rcases c8.1 hv with rfl | hv
          · exact .inr (by rw[hmv] at hno;exact hno)
          · exact .inl hv
      · simp only[dB] at h3
        simp only[aA,seval,yU]
        have hf0:f≠0:=by
         rintro rfl
         cases hwk with
         | stop _=>exact h3 h
        have hr':∀w∈(Tm.mk k' x' s' ts').vl,rk w<rk x:=fun w hw=>by
         obtain⟨v,hv,_,hlt⟩:=hrk w hw
         rw[hvl] at hv
         simp only[c8,dP,dX] at hv
         subst hv
         exact hlt hf0
        have:=IH1 (rk x) hKx (Tm.mk k' x' s' ts') (x::M) _ hS' (aB.aO _ _ _) hr' (fun v hv=>by
         rcases c8.1 hv with rfl | hv
         · exact .inr hr'
         · rcases GY v hv with h5 | h5
           · exact .inl h5
           · refine .inr fun w hw=>Nat.lt_trans (hr' w hw) ?_
             exact h5 x (by rw[hvl];simp))
        rw[aU] at this
        refine this.mono ?_
        rintro _ _ ⟨rfl,M',rfl,hM'⟩
        simp only[aA,seval]
        rw[QY] at hM' ⊢
        refine⟨by rw[hmv],M',rfl,fun hno v hv=>?_⟩
        rw[hmv] at hno
        rcases hM' hno v hv with h5 | h5
        · rcases c8.1 h5 with rfl | h5
          · exact .inr hno
          · exact .inl h5
        · exact .inr h5
  · simp only[dB] at h
    simp only[aA,seval,yU]
    have hmv:=Tm.i8 R (n:=x) (s:=s) (ts:=ts) h
    have aZU:ts.any (fun y=>decide (n∈(y.aG R).vl))=decide (n∈((Tm.mk k x s ts).aG R).vl):=by
     rw[hmv,u9]
     simp only[List.any_eq_true,bO]
     rw[Tm.kV h]
     constructor
     · rintro⟨y,hy,h2⟩;exact⟨_,cI.2 ⟨y,hy,rfl⟩,h2⟩
     · rintro⟨z,hz,h2⟩
       obtain⟨y,hy,rfl⟩:=cI.1 hz
       exact⟨y,hy,h2⟩
    refine(aSH ts _ _ (fun y=>decide (n∈(y.aG R).vl)) (fun s1=>∃M',s1=st.aC mm (.map (lX M'))∧∀v∈M',v∈M∨n∉(R v).vl) (fun s1=>∃M',s1=st.aC mm (.map (lX M'))) ?_ st ⟨M,?_,fun v hv=>.inl hv⟩).mono ?_
    · rintro y hy s1 ⟨M',rfl,hM'⟩
      simp only[fC,eL]
      have hc:=IH2 y hy M' (st.aC mm (.map (lX M'))) (hS.NE hmm.1 hmm.2) (aB.aO _ _ _) (fun w hw=>hK w ((Tm.kV h).2 ⟨y,hy,hw⟩)) (fun v hv=>by
       rcases hM' v hv with h5 | h5
       · rcases GY v h5 with h6 | h6
         · exact .inl h6
         · exact .inr fun w hw=>h6 w ((Tm.kV h).2 ⟨y,hy,hw⟩)
       · exact .inl h5)
      refine(aU7 hc).mono ?_
      rintro _ _ ⟨rfl,M2,rfl,hM2⟩
      rw[cY]
      refine⟨rfl,fun _=>⟨M2,rfl⟩,fun hno=>⟨M2,rfl,fun v hv=>?_⟩⟩
      simp only[dB] at hno
      rcases hM2 hno v hv with h5 | h5
      · exact hM' v h5
      · exact .inr h5
    · funext y
      simp only[aB.aC]
      split
      · rename_i e;rw[e,hM]
      · rfl
    · rintro _ s2 ⟨rfl,hE,hJ⟩
      rw[aZU] at hE hJ ⊢
      simp only[aA,seval]
      by_cases hno:n∈((Tm.mk k x s ts).aG R).vl
      · obtain⟨M2,rfl⟩:=hE (by simp [hno])
        exact⟨rfl,M2,rfl,fun h=>absurd hno h⟩
      · obtain⟨M2,rfl,h5⟩:=hJ (by simp [hno])
        exact⟨rfl,M2,rfl,fun _=>h5⟩
termination_by K t=>(K,SizeOf.sizeOf t)
decreasing_by
 · exact Prod.Lex.left _ _ hK'
 · have:=List.sizeOf_lt_of_mem hy
   exact Prod.Lex.right _ (by simp only[Tm.mk.sizeOf_spec];omega)
abbrev MK:=zi aX (zi bZ (zi fA (zi bQ (zi EP (zi oV (zi ES T8))))))
theorem W9{σ:Sub}(hg:cS σ){n:Int}(hn:σ n=none){t:Tm}{r:Bool}{σ':Sub}{add:List Int}(hb:j9 σ n t=(r,σ',add))(c m:Nat)(q:AV)(tr:List Int)(st:aB)(hS:gG st c m q σ tr)(hl:tr.length+add.length≤1099511627776) :
 aD prog 360 [.ptr c 0,.int .i64 n,t.av] st (fun r' st'=>r'=.bool r∧vG c m st q σ' (tr++add) st'):=by
 obtain⟨rk,B,G⟩:=hg.rs
 refine wF [1000000] 3 func360 ntmps360 rfl rfl ?_
 intro _
 simp only[aA,seval,MK]
 intro mm hmm
 obtain⟨hmc,a03⟩:=hS.sub.ne hmm
 rw[←a3E]
 have hS1:=hS.EV (o:=.map (lX [])) hmm
 refine(O2 G hn c m mm q ⟨hmc,a03⟩ B t [] _ hS1.sub (aB.aO _ _ _) (fun w _=>G.bd w) (fun v hv=>absurd hv (dP))).mono ?_
 rintro _ _ ⟨rfl,M',rfl,_⟩
 have hS2:=hS.EV (o:=.map (lX M')) hmm
 have hQ2:mH c m st q (st.aC mm (.map (lX M'))) q:=mH.EV hmm
 rw[cY]
 generalize st.aC mm (.map (lX M'))=s2 at *
 obtain⟨hqa,hqw,hqj,hqc,hqs⟩:=hS2.shape
 simp only[aA,seval]
 unfold j9 at hb
 refine aP (fun h=>?_) (fun h=>?_)
 · simp only[bO] at h
   rw[aJ h] at hb
   obtain⟨rfl,rfl,rfl⟩:false=r∧σ=σ'∧[]=add:=by simpa using hb
   simp only[aA,seval]
   exact⟨q,hS2,hQ2⟩
 · simp only[dB] at h
   rw[aF h] at hb
   obtain⟨rfl,rfl,rfl⟩:true=r∧σ.set n t=σ'∧[n]=add:=by simpa using hb
   simp only[aA,seval]
   refine wP [(0,1),(1,1),(2,1),(4,1),(3,2),(5,2),(6,0)] [0,1,2,4,3,5] mixed ?_
   simp only[hS2.sub.cells,aA,seval,MK]
   refine aPO hS2.sub.map IR y7 ?_
   have hcm:=hS2.sub.cm
   have hS3:gG (s2.aC m (.map (mapOf (σ.set n t)))) c m q (σ.set n t) tr:=by
    refine⟨⟨by rw[aB.aM _ _ hcm];exact hS2.sub.cells,aB.aO _ _ _⟩,?_,hS2.apart⟩
    rcases hS2.fG with h4 | ⟨b',cs,e1,e2,e3⟩
    · exact .inl h4
    · refine .inr ⟨b',cs,e1,?_,e3⟩
      rw[aB.aM _ _ (by rintro rfl;exact hS2.LP (by rw[e1];simp [dL]))]
      exact e2
   have hQ3:mH c m st q (s2.aC m (.map (mapOf (σ.set n t)))) q:=⟨fun b o h h1 h2 h3=>by rw[aB.aM _ _ h2];exact hQ2.frame b o h h1 h2 h3,fun _ h=>.inl h⟩
   generalize s2.aC m (.map (mapOf (σ.set n t)))=s3 at *
   simp only[hS3.sub.cells,hqa,aA,seval,MK]
   refine a68 g7 C7 AD rfl (by omega) hS3 (by simpa using hl) (fun q' s4 ht hc' hm' hk hf=>?_)
   have h4c:s4 c=some (.cells [.map m,q]):=by rw[hk c hS3.apart hc'];exact hS3.sub.cells
   have h4m:s4 m=some (.map (mapOf (σ.set n t))):=by rw[hk m hS3.LP hm'];exact hS3.sub.map
   have aK0:q'.cells= [q']∧q'.storable=true:=by
    rcases ht with ⟨rfl,_⟩ | ⟨b',cs,rfl,_⟩<;>exact⟨rfl,rfl⟩
   simp only[aK,h4c,aK0.1,aK0.2,aA,seval,MK]
   refine⟨q',⟨⟨aB.aO _ _ _,by rw[aB.aM _ _ (c7 hcm)];exact h4m⟩,?_,hc'⟩,⟨fun b o h h1 h2 h3=>?_,fun b hb=>?_⟩⟩
   · rcases ht with h4 | ⟨b',cs,e1,e2,e3⟩
     · exact .inl h4
     · refine .inr ⟨b',cs,e1,?_,e3⟩
       rw[aB.aM _ _ (by rintro rfl;exact hc' (by rw[e1];simp [dL]))]
       exact e2
   · rw[aB.aM _ _ h1,hk b h3 (fun h4=>?_)]
     · exact hQ3.frame b o h h1 h2 h3
     · rcases hf b h4 with h5 | h5
       · exact h3 h5
       · rw[hQ3.frame b o h h1 h2 h3] at h5;cases h5
   · rcases hf b hb with h5 | h5
     · exact .inl h5
     · by_cases h6:b∈dL q
       · exact .inl h6
       · refine .inr ?_
         cases hst:st b with
         | none=>rfl
         | some o=>
          exfalso
          have h1:b≠c:=by rintro rfl;rw[hS3.sub.cells] at h5;cases h5
          have h2:b≠m:=by rintro rfl;rw[hS3.sub.map] at h5;cases h5
          rw[hQ3.frame b o hst h1 h2 h6] at h5;cases h5
abbrev Sm (t:Tm):Prop:=t.small=true
theorem a5O:∀t:Tm,t.k≠1→Sm t→∀x∈t.ts,Sm x:=fun t _ h x hx=>by
 cases t
 exact(Tm.nF h).2 x hx
abbrev q7:=zi aX (zi bZ (zi cJ (zi bS (zi bQ oV))))
theorem YO:∀(g:Nat) (σ:Sub) (a b:Tm) (r:Bool) (σ':Sub) (add:List Int),cS σ→cV Sm σ→Sm a→Sm b→dF g σ a b=some (r,σ',add)→∀(c m:Nat) (q:AV) (tr:List Int) (st:aB),gG st c m q σ tr→tr.length+add.length≤1099511627776 →
 aD prog 340 [.ptr c 0,a.av,b.av] st (fun r' st'=>r'=.bool r∧vG c m st q σ' (tr++add) st')
 | 0,σ,a,b,r,σ',add,hg,hsm,ha0,hb0,h,c,m,q,tr,st,hS,hl=>by simp only[dF] at h;cases h
 | g+1,σ,a,b,r,σ',add,hg,hsm,ha0,hb0,h,c,m,q,tr,st,hS,hl=>by
  have IH:=YO g
  obtain⟨rk,B,G⟩:=hg.rs
  obtain⟨fa,wa⟩:=G.wk a
  obtain⟨fb,wb⟩:=G.wk b
  have hca:=fun st (hS:iY st c m q σ)=>J5 wa c m q st hS
  have hcb:=fun st (hS:iY st c m q σ)=>J5 wb c m q st hS
  have ea:=wa.end
  have eb:=wb.end
  have hsa:=wa.all (p:=Sm) hsm ha0
  have hsb:=wb.all (p:=Sm) hsm hb0
  replace h:=NB h
  generalize wk σ a=a1 at *
  generalize wk σ b=b1 at *
  clear wa wb
  refine wF [1000000,4,5] 3 func340 ntmps340 rfl rfl ?_
  intro fF
  simp only[aA,seval]
  intro b4 h4 b5 h5
  have h54:b5≠b4:=by rintro rfl;rw[aB.aO] at h5;cases h5
  have hn5:st b5=none:=by rw[aB.aM st _ h54] at h5;exact h5
  have hS':∀o o',gG ((st.aC b4 o).aC b5 o') c m q σ tr:=fun o o'=>(hS.EV h4).EV (by rw[aB.aM _ _ h54];exact hn5)
  refine wP [(0,1),(3,1),(1,2),(2,2),(4,2),(5,2),(6,0),(7,0)] [0,3,1,2,4,5] mixed ?_
  simp only[h54.symm,aA,seval,q7]
  refine fK (hca _ (hS' _ _).sub) ?_
  simp only[aA,seval,q7]
  refine fK (hcb _ (hS' _ _).sub) ?_
  obtain⟨ka,na,sa,tsa⟩:=a1
  obtain⟨kb,nb,sb',tsb⟩:=b1
  obtain⟨hla,aKQ⟩:=Tm.nF hsa
  obtain⟨hlb,aKR⟩:=Tm.nF hsb
  simp only[aU]
  simp only[Tm.k,Tm.n,Tm.ts] at h ea eb
  have hl4:∀q',q'=q→b4∉dL q:=fun _ _ hb=>by obtain⟨cs,e⟩:=hS.HS b4 hb;rw[h4] at e;cases e
  have hl5:b5∉dL q:=fun hb=>by obtain⟨cs,e⟩:=hS.HS b5 hb;rw[hn5] at e;cases e
  obtain⟨h4c,h4m⟩:=hS.sub.ne h4
  obtain⟨h5c,h5m⟩:=hS.sub.ne hn5
  have hQ:∀o o',mH c m st q ((st.aC b4 o).aC b5 o') q:=fun o o'=>⟨fun x p h _ _ _=>by
   rw[aB.aM _ _ (by rintro rfl;rw[hn5] at h;cases h),aB.aM _ _ (by rintro rfl;rw[h4] at h;cases h)];exact h,fun _ h=>.inl h⟩
  simp only[aK,h54,h54.symm,aA,seval,q7]
  rw[aB.w5 h54,aB.w5 h54.symm]
  have iE:∀o o',vG c m st q σ tr ((st.aC b4 o).aC b5 o'):=fun o o'=>⟨q,hS' _ _,hQ _ _⟩
  rcases h with ⟨h1,h2,h3,rfl,rfl,rfl⟩ | ⟨h1,h2,h3⟩ | ⟨h1,h2,h3⟩ | ⟨h1,h2,h3,h4⟩ | ⟨h1,h2,h3,rfl,rfl,rfl⟩
  · subst h1 h2 h3
    simp only[bF,h54.symm,aA,seval,q7]
    exact iE _ _
  · subst h1
    have hcb:=W9 hg (ea rfl) h3 c m q tr _ (hS' (.cells [.int .i64 1,.int .i64 na,.str sa,.slice (tsa.map Tm.av)]) (.cells [.int .i64 kb,.int .i64 nb,.str sb',.slice (tsb.map Tm.av)])) hl
    rw[aU] at hcb
    by_cases h5:kb=1
    · subst h5
      have h6:¬na=nb:=fun e=>h2 ⟨rfl,e⟩
      simp only[bF,h6,bP,h54.symm,aA,seval,q7]
      refine hcb.mono ?_
      rintro _ s2 ⟨rfl,hp⟩
      simp only[aA,seval]
      exact hp.from (hQ _ _) (hS' _ _)
    · simp only[bF,h5,bP,h54.symm,aA,seval,q7]
      refine hcb.mono ?_
      rintro _ s2 ⟨rfl,hp⟩
      simp only[aA,seval]
      exact hp.from (hQ _ _) (hS' _ _)
  · subst h2
    have hcb:=W9 hg (eb rfl) h3 c m q tr _ (hS' (.cells [.int .i64 ka,.int .i64 na,.str sa,.slice (tsa.map Tm.av)]) (.cells [.int .i64 1,.int .i64 nb,.str sb',.slice (tsb.map Tm.av)])) hl
    rw[aU] at hcb
    simp only[bF,h1,bP,h54.symm,aA,seval,q7]
    refine hcb.mono ?_
    rintro _ s2 ⟨rfl,hp⟩
    simp only[aA,seval]
    exact hp.from (hQ _ _) (hS' _ _)
  · rw[tB] at h3
    simp only[Tm.k,Tm.n,Tm.s,Tm.ts] at h3
    obtain⟨rfl,rfl,rfl,hlen⟩:=h3
    have cF:decide ((tsa.length:Int)=(tsb.length:Int))=true:=by simp [hlen]
    simp only[bF,bP,cF,h54.symm,aE,h1,aA,seval,q7]
    have hS0:=hS' (.cells [.int .i64 ka,.int .i64 na,.str sa,.slice (tsa.map Tm.av)]) (.cells [.int .i64 ka,.int .i64 na,.str sa,.slice (tsb.map Tm.av)])
    have hQ0:=hQ (.cells [.int .i64 ka,.int .i64 na,.str sa,.slice (tsa.map Tm.av)]) (.cells [.int .i64 ka,.int .i64 na,.str sa,.slice (tsb.map Tm.av)])
    have e4:((st.aC b4 (.cells [.int .i64 ka,.int .i64 na,.str sa,.slice (tsa.map Tm.av)])).aC b5 (.cells [.int .i64 ka,.int .i64 na,.str sa,.slice (tsb.map Tm.av)])) b4=some (.cells [.int .i64 ka,.int .i64 na,.str sa,.slice (tsa.map Tm.av)]):=by rw[aB.aM _ _ h54.symm,aB.aO]
    have e5:((st.aC b4 (.cells [.int .i64 ka,.int .i64 na,.str sa,.slice (tsa.map Tm.av)])).aC b5 (.cells [.int .i64 ka,.int .i64 na,.str sa,.slice (tsb.map Tm.av)])) b5=some (.cells [.int .i64 ka,.int .i64 na,.str sa,.slice (tsb.map Tm.av)]):=aB.aO _ _ _
    generalize (st.aC b4 (.cells [.int .i64 ka,.int .i64 na,.str sa,.slice (tsa.map Tm.av)])).aC b5 (.cells [.int .i64 ka,.int .i64 na,.str sa,.slice (tsb.map Tm.av)])=s0 at *
    refine dV (σ:=Sub×List Int×List Int×AV×aB) [1000000,4,5] [0,4,5,79] tsa
     (fun i p=>cS p.1∧cV Sm p.1∧gG p.2.2.2.2 c m p.2.2.2.1 p.1 (tr++p.2.1)∧mH c m s0 q p.2.2.2.2 p.2.2.2.1∧d8 g p.1 (tsa.drop i) (tsb.drop i)=some (r,σ',p.2.2.1)∧p.2.1++p.2.2.1=add)
     (fun i _=>[(6,.bool false),(80,.int .i64 i)]) (fun _ p=>p.2.2.2.2) (by decide +kernel)
     ⟨(σ,[],add,q,s0),⟨hg,hsm,by rw[iB];exact hS0,mH.refl _ _ _ _,h4,rfl⟩,aN.mk (by simp only[aA,↓aR,seval])⟩ (fun i x p hx hlt bH hdr hinv=>?_) (fun p hge hinv=>?_)
    case refine_2=>
     obtain⟨σi,ai,rest,qi,si⟩:=p
     obtain⟨i1,i2,i3,i4,i5,i6⟩:=hinv
     simp only at i1 i2 i3 i4 i5 i6
     rw[j4,hlen,j4] at i5
     simp only[d8,Option.some.injEq,Prod.mk.injEq] at i5
     obtain⟨rfl,rfl,rfl⟩:=i5
     rw[iB] at i6
     subst i6
     simp only[hge,aA,seval]
     exact⟨qi,i3,hQ0.trans hS0 i4⟩
    obtain⟨σi,ai,rest,qi,si⟩:=p
    obtain⟨i1,i2,i3,i4,i5,i6⟩:=hinv
    simp only at i1 i2 i3 i4 i5 i6
    obtain⟨y,hy⟩:∃y,tsb[i]?=some y:=⟨_,eN (by omega)⟩
    have AL:tsb.drop i=y::tsb.drop (i+1):=by
     obtain⟨h1,h2⟩:=gS.1 hy
     rw[rF h1,h2]
    rw[hdr,AL,d8] at i5
    have f4:=i4.frame b4 _ e4 h4c h4m (hl4 q rfl)
    have f5:=i4.frame b5 _ e5 h5c h5m hl5
    have hw:=bL (n:=(i:Int)+1)
    simp only[bH,aA,seval]
    refine wP [(0,1),(1,1),(3,1),(6,1),(8,1),(2,2),(4,1),(5,2),(7,2),(9,1),(10,2),(11,0),(12,1)] [0,1,3,6,8,2,4,5,7,9,10,12] mixed ?_
    simp only[f4,f5,bD (av:=Tm.av) a8 hx (aH x),bD (av:=Tm.av) a8 hy (aH y),aA,seval,q7]
    cases hu:dF g σi x y with
    | none=>rw[hu] at i5;cases i5
    | some p1=>
     obtain⟨r1,σ1,tr1⟩:=p1
     rw[hu] at i5
     have hx1:Sm x:=aKQ x (cD hx)
     have hy1:Sm y:=aKR y (cD hy)
     have hU:=w4 i1 hu
     have hA:=(ND a5O g).1 σi x y r1 σ1 tr1 i1 hu i2 hx1 hy1
     have AS:tr1.length≤rest.length:=by
      cases r1 with
      | false=>simp only[Option.some.injEq,Prod.mk.injEq] at i5;rw[i5.2.2];exact cZ _
      | true=>
       simp only at i5
       cases hu2:d8 g σ1 (tsa.drop (i+1)) (tsb.drop (i+1)) with
       | none=>rw[hu2] at i5;cases i5
       | some p2=>
        obtain⟨r2,σ2,tr2⟩:=p2
        rw[hu2] at i5
        simp only[Option.some.injEq,Prod.mk.injEq] at i5
        rw[←i5.2.2,dM];omega
     have aZS:add.length=ai.length+rest.length:=by rw[←i6,dM]
     refine(IH σi x y r1 σ1 tr1 i1 i2 hx1 hy1 hu c m qi (tr++ai) si i3 (by rw[dM];omega)).mono ?_
     rintro _ s2 ⟨rfl,q2,hS2,hQ2⟩
     cases r1 with
     | false=>
      simp only[Option.some.injEq,Prod.mk.injEq] at i5
      obtain⟨rfl,rfl,rfl⟩:=i5
      simp only[aA,seval]
      rw[←i6,←nP]
      exact⟨q2,hS2,hQ0.trans hS0 (i4.trans i3 hQ2)⟩
     | true=>
      simp only at i5
      cases hu2:d8 g σ1 (tsa.drop (i+1)) (tsb.drop (i+1)) with
      | none=>rw[hu2] at i5;cases i5
      | some p2=>
       obtain⟨r2,σ2,tr2⟩:=p2
       rw[hu2] at i5
       simp only[Option.some.injEq,Prod.mk.injEq] at i5
       obtain⟨rfl,rfl,rfl⟩:=i5
       simp only[aA,seval]
       exact⟨(σ1,ai++tr1,tr2,q2,s2),⟨hU.gW,hA,by rw[←nP];exact hS2,i4.trans i3 hQ2,hu2,by rw[nP];exact i6⟩,aN.mk (by simp only[hw,aA,seval])⟩
  · have hd:ka=kb→na=nb→sa=sb'→¬(tsa.length:Int)=(tsb.length:Int):=by
     intro e1 e2 e3 e4
     have:uK (Tm.mk ka na sa tsa) (Tm.mk kb nb sb' tsb)=true:=tB.2 ⟨e1,e2,e3,by simp only[Tm.ts];omega⟩
     rw[h3] at this;cases this
    by_cases e1:ka=kb
    · by_cases e2:na=nb
      · by_cases e3:sa=sb'
        · have e4:=hd e1 e2 e3
          subst e1 e2 e3
          simp only[bP,bF,h54.symm,h1,aE,e4,aA,seval,q7]
          exact iE _ _
        · subst e1 e2
          simp only[bP,bF,h54.symm,h1,e3,aA,seval,q7]
          exact iE _ _
      · subst e1
        simp only[bP,bF,h54.symm,h1,e2,aA,seval,q7]
        exact iE _ _
    · clear hd
      simp only[bP,h54.symm,h1,h2,e1,aA,seval,q7]
      exact iE _ _
theorem a28(σ:Sub)(l:List Int)(n:Int):n0 (mapOf (σ.out l)) n none=mapOf (σ.out (l++ [n])):=by
 funext x
 unfold n0 mapOf Sub.out
 by_cases h:x=n
 · simp [h]
 · simp only[h,d5,fQ,E8,dX]
theorem aWF{P:Program}{st:aB}{m:Nat}{σ:Sub}{l:List Int}{t kt et:TypeId}{n:Int}{K:AV→aB→Prop}(hm:st m=some (.map (mapOf (σ.out l))))(hu:P.underlying t=some (.map kt et))(hk:P.underlying kt=some (.int .i64))
 (h:K (.tup []) (st.aC m (.map (mapOf (σ.out (l++ [n])))))):zS P t st (.map m) (.int .i64 n) K:=by
 unfold zS
 simp only[hu,hm,hk]
 rw[a28]
 exact h
theorem Sub.SA(σ:Sub):σ.out []=σ:=by funext n;simp [Sub.out]
theorem a5I{φ:AF}{d b n k:Nat}(h:φ d=.int .i64 (k:Int))(hk:k=0∨k<n):gZ prog φ 26 (.mslice b 0 n 1) (some (.tmp d)) none none=some (.mslice b k (n - k) 1):=by
 have h1:dY φ none n n=some n:=rfl
 have h2:dY φ (some (.tmp d)) 0 n=some k:=by
  unfold dY
  simp only[show φ.eval (.tmp d)=φ d from rfl,h]
  rw[aJ (by omega)]
  simp
 unfold gZ oF
 rw[aF (by simp [qP])]
 simp only[g7,h1,h2]
 by_cases h3:k=0
 · subst h3;simp
 · have h4:k<n:=by omega
   simp [h3,h4]
theorem a5L{φ:AF}{d b n:Nat}(h:φ d=.int .i64 (n:Int))(hn:n≠0):gZ prog φ 26 (.mslice b 0 n 1) (some (.tmp d)) none none=some .eslice:=by
 have h1:dY φ none n n=some n:=rfl
 have h2:dY φ (some (.tmp d)) 0 n=some n:=by
  unfold dY
  simp only[show φ.eval (.tmp d)=φ d from rfl,h]
  rw[aJ (by omega)]
  simp
 unfold gZ oF
 rw[aF (by simp [qP])]
 simp only[g7,h1,h2]
 simp [hn]
theorem S3{φ:AF}{t:TypeId}{ag:Bool}{w d b n k:Nat}(hI:eI prog t=some (ag,w))(h:φ d=.int .i64 (k:Int))(hk:k≤n):gZ prog φ t (.mslice b 0 n w) none (some (.tmp d)) none=some (.mslice b 0 k w):=by
 have h1:dY φ (some (.tmp d)) n n=some k:=by
  unfold dY
  simp only[show φ.eval (.tmp d)=φ d from rfl,h]
  rw[aJ (by omega)]
  simp
 have h2:dY φ none 0 k=some 0:=rfl
 unfold gZ oF
 rw[aF (by simp [qP])]
 simp only[hI,h1,h2]
 simp
theorem aNC{φ:AF}{t:TypeId}{ag:Bool}{w d:Nat}(hI:eI prog t=some (ag,w))(h:φ d=.int .i64 0):gZ prog φ t (.fslice []) none (some (.tmp d)) none=some (.fslice []):=by
 have h1:dY φ (some (.tmp d)) 0 0=some 0:=by
  unfold dY
  simp only[show φ.eval (.tmp d)=φ d from rfl,h]
  simp
 have h2:dY φ none 0 0=some 0:=rfl
 unfold gZ
 rw[aJ ⟨rfl,rfl⟩]
 simp only[hI,h1,h2]
theorem a5J{φ:AF}{d:Nat}(h:φ d=.int .i64 0):gZ prog φ 26 (.fslice []) (some (.tmp d)) none none=some (.fslice []):=by
 have h1:dY φ none 0 0=some 0:=rfl
 have h2:dY φ (some (.tmp d)) 0 0=some 0:=by
  unfold dY
  simp only[show φ.eval (.tmp d)=φ d from rfl,h]
  simp
 unfold gZ
 rw[aJ ⟨rfl,rfl⟩]
 simp only[g7,h1,h2]
theorem a0I{P:Program}{t:TypeId}{ag:Bool}{b o len w i:Nat}(hI:eI P t=some (ag,w))(hi:i<len):c9 P t (.mslice b o len w) (.int .i64 (i:Int))=some (.ptr b (o+i*w)):=by
 unfold c9
 simp only[hI]
 rw[aJ ⟨by omega,by omega,trivial⟩]
 simp
abbrev BI:=zi aX (zi fA (zi EP (zi oV ES)))
theorem O6(σ:Sub)(tr:List Int)(mark:Nat)(hm:mark≤tr.length)(c m:Nat)(q:AV)(st:aB)(hS:gG st c m q σ tr)(hl:tr.length≤1099511627776) :
 aD prog 309 [.ptr c 0,.int .i64 (mark:Int)] st (fun r st'=>r=.tup []∧∃q',gG st' c m q' (σ.out (tr.drop mark)) (tr.take mark)∧(∀b∈dL q',b∈dL q)∧∀x o,st x=some o→x≠c→x≠m→st' x=some o):=by
 have hcm:=hS.sub.cm
 rcases hS.fG with ⟨rfl,rfl⟩ | ⟨b,cs,rfl,hb,hcs⟩
 · obtain rfl:mark=0:=by simpa using hm
   have e1:=hS.sub.cells
   have hsl:=fun(φ:AF) (d:Nat) (h:φ d=.int .i64 0)=>a5J h
   have hsh:=fun(φ:AF) (d:Nat) (h:φ d=.int .i64 0)=>aNC g7 h
   simp only[Int.ofNat_zero]
   refine wF [1000000] 2 func309 ntmps309 rfl rfl ?_
   intro _
   simp only[e1,hsl,aA,seval,BI]
   refine dV (σ:=Unit) [1000000] [0,1,11,12] ([]:List Int) (fun i _=>True) (fun i _=>[(13,.int .i64 i)]) (fun _ _=>st) (by decide +kernel) ⟨(),trivial,aN.mk (by simp only[aA,↓aR,seval])⟩ (fun i x _ hx hlt bH hdr hinv=>?_) (fun _ hge hinv=>?_)
   · simp at hlt
   · simp only[aW,aK,e1,hsh,aA,seval,BI]
     rw[Sub.SA]
     refine⟨.fslice [],⟨⟨aB.aO _ _ _,?_⟩,.inl ⟨rfl,rfl⟩,by simp [dL]⟩,fun _ h=>h,fun x o h h1 h2=>by rw[aB.aM _ _ h1];exact h⟩
     rw[aB.aM _ _ hcm.symm,hS.sub.map]
 · have e1:=hS.sub.cells
   have hbc:b≠c:=fun e=>hS.apart (by simp [dL,e])
   have hbm:b≠m:=fun e=>hS.LP (by simp [dL,e])
   have hc':∀o,(st.aC m o) c=some (.cells [.map m,.mslice b 0 tr.length 1]):=fun o=>by rw[aB.aM _ _ hcm];exact e1
   have hb':∀o,(st.aC m o) b=some (.cells cs):=fun o=>by rw[aB.aM _ _ hbm];exact hb
   have hm0:st.aC m (.map (mapOf σ))=st:=by
    funext x
    unfold aB.aC
    split
    · rename_i h;rw[h,hS.sub.map]
    · rfl
   have iE:∀st',st'=(st.aC m (.map (mapOf (σ.out (tr.drop mark))))).aC c (.cells [.map m,.mslice b 0 mark 1])→∃q',gG st' c m q' (σ.out (tr.drop mark)) (tr.take mark)∧(∀x∈dL q',x∈dL (.mslice b 0 tr.length 1))∧∀x o,st x=some o→x≠c→x≠m→st' x=some o:=by
    rintro _ rfl
    have hlt:(tr.take mark).length=mark:=by rw[dC];omega
    refine⟨.mslice b 0 mark 1,⟨⟨aB.aO _ _ _,by rw[aB.aM _ _ hcm.symm,aB.aO]⟩,.inr ⟨b,cs,by rw[hlt],by rw[aB.aM _ _ hbc];exact hb' _,?_⟩,by simpa [dL] using c7 hbc⟩,fun x h=>h,fun x o h h1 h2=>by rw[aB.aM _ _ h1,aB.aM _ _ h2];exact h⟩
    rw[hlt,E7,←hcs,xG,lP hm]
   have hsh:=fun(φ:AF) (d:Nat) (h:φ d=.int .i64 (mark:Int))=>S3 (b:=b) g7 h hm
   by_cases hk:mark=0∨mark<tr.length
   · have hsl:=fun(φ:AF) (d:Nat) (h:φ d=.int .i64 (mark:Int))=>a5I (b:=b) h hk
     refine wF [1000000] 2 func309 ntmps309 rfl rfl ?_
     intro _
     simp only[e1,hsl,aA,seval,BI]
     refine dV (σ:=Unit) [1000000] [0,1,11,12] (tr.drop mark) (fun i _=>True) (fun i _=>[(13,.int .i64 i)]) (fun i _=>st.aC m (.map (mapOf (σ.out ((tr.drop mark).take i))))) (by decide +kernel) ⟨(),trivial,by rw[jG,Sub.SA,hm0];exact aN.mk (by simp only[aA,↓aR,seval])⟩ (fun i x _ hx hlt bH hdr hinv=>?_) (fun _ hge hinv=>?_)
     · have hw:=wrap64 (n:=(i:Int)+1) (by omega) (by rw[mZ] at hlt;omega)
       have htk:(tr.drop mark).take (i+1)=(tr.drop mark).take i++ [x]:=by rw[eA,hx];simp
       rw[mZ] at hlt bH
       have a9V:decide ((i:Int)<((tr.length - mark:Nat):Int))=true:=by simp;omega
       have hxt:tr[mark+i]?=some x:=by rw[NR] at hx;exact hx
       have a0A:cs=(tr.take (mark+i)).map iv++ [iv x]++((tr.drop (mark+i+1)).map iv++cs.drop tr.length):=by
        have h1:cs=tr.map iv++cs.drop tr.length:=by rw[←hcs];exact(sL _ _).symm
        have h2:tr.map iv=(tr.take (mark+i)).map iv++iv x::(tr.drop (mark+i+1)).map iv:=by
         have h3:tr.drop (mark+i)=x::tr.drop (mark+i+1):=by
          obtain⟨g1,g2⟩:=gS.1 hxt
          rw[rF g1,g2]
         rw[←aZ (f:=iv),←h3,←sK,sL]
        rw[h2] at h1
        exact h1.trans (by simp)
       have hA:((tr.take (mark+i)).map iv).length=mark+i:=by simp only[aE,dC];omega
       have hat:=a0I (P:=prog) (b:=b) (o:=mark) (len:=tr.length - mark) (w:=1) (i:=i) g7 hlt
       have hcb:=hb' (.map (mapOf (σ.out ((tr.drop mark).take i))))
       rw[a0A] at hcb
       have QK:=hc' (.map (mapOf (σ.out ((tr.drop mark).take i))))
       obtain⟨e1',e2,e3,e4,e5,e6⟩:=RQ (B:=(tr.drop (mark+i+1)).map iv++cs.drop tr.length) hA
       simp only[e6,hat,hcb,QK,bH,vF,aA,seval,BI]
       refine aWF (aB.aO _ _ _) IR y7 ?_
       rw[cY,←htk]
       simp only[hw,aA,seval]
       exact⟨(),aN.mk (by simp only[aA,seval])⟩
     · rw[dW]
       rw[mZ] at hge
       have QK:=hc' (.map (mapOf (σ.out (tr.drop mark))))
       have a0O:decide (((tr.length - mark:Nat):Int)<((tr.length - mark:Nat):Int))=false:=by simp
       simp only[QK,hge,mZ,aK,hsh,aA,seval,BI]
       exact iE _ rfl
   · obtain rfl:mark=tr.length:=by omega
     have hn0:tr.length≠0:=by omega
     have hsl:=fun(φ:AF) (d:Nat) (h:φ d=.int .i64 (tr.length:Int))=>a5L (b:=b) h hn0
     refine wF [1000000] 2 func309 ntmps309 rfl rfl ?_
     intro _
     simp only[e1,hsl,oE,IT,aA,↓aR,seval,BI]
     refine dV (σ:=Unit) [1000000] [0,1,11,12] ([]:List Int) (fun i _=>True) (fun i _=>[(13,.int .i64 i)]) (fun _ _=>st) (by decide +kernel) ⟨(),trivial,aN.mk (by simp only[aA,↓aR,seval])⟩ (fun i x _ hx hlt bH hdr hinv=>?_) (fun _ hge hinv=>?_)
     · simp at hlt
     · simp only[aW,aK,e1,hsh,aA,seval,BI]
       refine iE _ ?_
       rw[j4,Sub.SA,hm0]
def U7(v:Tm)(D:Nat)(cnt cb:Nat)(st:aB)(r:AV)(st':aB):Prop:=
 ∃nS:Nat,nS≤121∧st'=st.aC cb (.cells [.int .i64 nS]) ∧
  if v.flat D=true∧cnt+v.nodes≤120 then r=.tup [v.av,.bool true]∧nS=cnt+v.nodes else r=.tup [Tm.zero.av,.bool false]
theorem ED{α:Type}(f:α→Nat):∀l m:List α,bK f (l++m)=bK f l+bK f m
 | [],m=>by simp [bK]
 | x::l,m=>by simp only[fC,bK,ED f l m];omega
abbrev Cv (t:Tm):Prop:=t.cv=true
theorem aJ1{σ:Sub}{R:Int→Tm}{rk:Int→Nat}{B f:Nat}(G:Good σ R rk B){t:Tm}{k n:Int}{s:ByteArray}{ts:List Tm}(hw:f0 σ f t (.mk k n s ts))(hc:Cv (.mk k n s ts)):t.aG R=.mk k n s (ts.map (Tm.aG R)):=by
 rw[←hw.aG G.wJ]
 by_cases hk:k=1
 · rw[Tm.kI R hk,G.free (show σ n=none from hw.end hk)]
   obtain⟨h1,_⟩:=Tm.lU.1 hc
   obtain⟨rfl,rfl⟩:=h1 hk
   rw[hk];try rfl
 · rw[Tm.i8 R hk]
abbrev tN:=zi aX (zi bZ (zi cJ (zi bS (zi bQ (zi IE oV)))))
theorem YH{σ:Sub}{R:Int→Tm}{rk:Int→Nat}{B:Nat}(G:Good σ R rk B)(hcv:cV Cv σ)(hsm:cV Sm σ)(c m cb:Nat)(q:AV)(hcb:cb≠c∧cb≠m) :
 ∀(D:Nat) (t:Tm) (cnt:Nat) (st:aB),D≤31→Cv t→Sm t→cnt≤120→iY st c m q σ→st cb=some (.cells [.int .i64 cnt]) →
 aD prog 336 [.ptr c 0,t.av,.int .i64 (31 - D:Int),.ptr cb 0] st (U7 (t.aG R) D cnt cb st)
 | D,t,cnt,st,hD,hct,hst,a9Q,hS,hC=>by
  have IH:=fun(D':Nat) (hlt:D'<D) (x:Tm) cnt st=>YH G hcv hsm c m cb q hcb D' x cnt st
  obtain⟨f,hw⟩:=G.wk t
  generalize wk σ t=u at *
  have hcu:=hw.all (p:=Cv) hcv hct
  have hsu:=hw.all (p:=Sm) hsm hst
  have hcw:=fun st (hS:iY st c m q σ)=>J5 hw c m q st hS
  obtain⟨k,n,s,ts⟩:=u
  have hv:=aJ1 G hw hcu
  rw[hv]
  obtain⟨hlen,mN⟩:=Tm.nF hsu
  obtain⟨_,QM⟩:=Tm.lU.1 hcu
  refine aD.mL (aD.fin ?_)
  refine wF [1000000,5,10] 4 func336 ntmps336 rfl rfl ?_
  intro _
  simp only[aA,seval,tN]
  intro b5 h5 b8 h8
  have h85:b8≠b5:=by rintro rfl;rw[aB.aO] at h8;cases h8
  have hn8:st b8=none:=by rw[aB.aM st _ h85] at h8;exact h8
  have hS':∀o o',iY ((st.aC b5 o).aC b8 o') c m q σ:=fun o o'=>(hS.aC h5).aC (by rw[aB.aM _ _ h85];exact hn8)
  have hb5:cb≠b5:=by rintro rfl;rw[hC] at h5;cases h5
  have hb8:cb≠b8:=by rintro rfl;rw[hC] at hn8;cases hn8
  have hwc:IntKind.i64.wrap ((cnt:Int)+1)=(cnt:Int)+1:=wrap64 (by omega) (by omega)
  simp only[h85.symm,aA,seval]
  refine(hcw _ (hS' _ _)).to ?_
  simp only[aU]
  simp only[aK,h85.symm,hb5,hb8,hC,hwc,aA,seval,tN]
  have QP:∀(st':aB) (nS:Nat),nS≤121→aL st' (st.aC cb (.cells [.int .i64 nS]))→¬((Tm.mk k n s (ts.map (Tm.aG R))).flat D=true∧cnt+(Tm.mk k n s (ts.map (Tm.aG R))).nodes≤120) →
   ∃b l s0,st'=a7 s0 b l∧(l≠[]→s0 b=none)∧(∀e∈l,e.cE=false)∧iI l∧∃s2,aL s0 s2∧U7 (Tm.mk k n s (ts.map (Tm.aG R))) D cnt cb st (AV.fin b l (.tup [.agg [.int .i64 0,.int .i64 0,.str ⟨#[]⟩,.fslice []],.bool false])) s2:=fun st' nS h1 h2 h3=>by
   refine⟨0,[],st',rfl,by simp,by simp,⟨4,by simp⟩,_,h2,nS,h1,rfl,?_⟩
   rw[aF h3]
   simp only[Tm.zero,aU,fO,jS,dZ,nV,iD,nW,aZ,aV]
  have hdr:∀o5 o8 o5' o8' nS,aL (((((st.aC b5 o5).aC b8 o8).aC b5 o5').aC cb (.cells [.int .i64 nS])).aC b8 o8') (st.aC cb (.cells [.int .i64 nS])):=fun o5 o8 o5' o8' nS x=>by
   by_cases e5:x=b5<;>by_cases e8:x=b8<;>by_cases ec:x=cb<;>simp_all [aB.aC]
  refine cU (fun h=>?_) (fun h=>?_)
  case refine_2=>
   simp only[h,aK,h85,hb8.symm,aA,seval,tN]
   refine QP _ (cnt+1) (by omega) (hdr _ _ _ _ _) ?_
   simp at h
   rw[Tm.gK]
   omega
  simp only[h,aA,seval]
  simp at h
  refine aP (fun h2=>?_) (fun h2=>?_)
  · simp only[bO] at h2
    obtain rfl:D=0:=by omega
    simp only[aK,h85,hb8.symm,aA,↓aR,seval,tN]
    exact QP _ (cnt+1) (by omega) (hdr _ _ _ _ _) (by rw[Tm.GF];simp)
  simp only[dB] at h2
  obtain⟨D',rfl⟩:∃D',D=D'+1:=⟨D - 1,by omega⟩
  have a0C:IntKind.i64.wrap (31 - ((D':Int)+1)+1)=31 - (D':Int):=by rw[wrap64 (by omega) (by omega)];omega
  simp only[aK,hb5.symm,aA,↓aR,seval,tN]
  intro b10 h10
  have P4:b10≠b5:=by rintro rfl;simp [aB.aC,hb5.symm] at h10
  have DB:b10≠b8:=by rintro rfl;simp [aB.aC,h85,hb8.symm] at h10
  have P5:b10≠cb:=by rintro rfl;simp [aB.aC] at h10
  have a04:st b10=none:=by rw[aB.aM _ _ P5,aB.aM _ _ P4,aB.aM _ _ DB,aB.aM _ _ P4] at h10;exact h10
  simp only[hb5.symm,P4.symm,aE,aA,seval,tN]
  rw[aB.w5 h85]
  have hWS:iY ((st.aC b8 (.cells [.int .i64 0,.int .i64 0,.str ⟨#[]⟩,.fslice []])).aC b5 (.cells [.int .i64 k,.int .i64 n,.str s,.slice (ts.map Tm.av)])) c m q σ:=(hS.aC hn8).aC (by rw[aB.aM _ _ h85.symm];exact h5)
  have hW8:((st.aC b8 (.cells [.int .i64 0,.int .i64 0,.str ⟨#[]⟩,.fslice []])).aC b5 (.cells [.int .i64 k,.int .i64 n,.str s,.slice (ts.map Tm.av)])) b8=some (.cells [.int .i64 0,.int .i64 0,.str ⟨#[]⟩,.fslice []]):=by rw[aB.aM _ _ h85,aB.aO]
  have hWd:∀X Y Z,aL (((((st.aC b8 (.cells [.int .i64 0,.int .i64 0,.str ⟨#[]⟩,.fslice []])).aC b5 (.cells [.int .i64 k,.int .i64 n,.str s,.slice (ts.map Tm.av)])).aC cb X).aC b8 Y).aC b10 Z) (st.aC cb X):=fun X Y Z x=>by
   by_cases e5:x=b5<;>by_cases e8:x=b8<;>by_cases ec:x=cb<;>by_cases e10:x=b10<;>simp_all [aB.aC]
  generalize ((st.aC b8 (.cells [.int .i64 0,.int .i64 0,.str ⟨#[]⟩,.fslice []])).aC b5 (.cells [.int .i64 k,.int .i64 n,.str s,.slice (ts.map Tm.av)]))=W at *
  obtain⟨aZN,aZO⟩:=hS.ne a04
  refine dV (σ:=Nat) [1000000,5,10] [0,2,3,8,10,40,41] ts
   (fun i b=>(((ts.take i).map (Tm.aG R)).map Tm.av≠[]→(aB.aC (W.aC cb (.cells [.int .i64 ((cnt+1+bK Tm.nodes ((ts.take i).map (Tm.aG R)):Nat):Int)])) b10 (.cells ([.int .i64 k,.int .i64 n,.str s]++ [bE 4 b (((ts.take i).map (Tm.aG R)).map Tm.av)]))) b=none) ∧
    cnt+1+bK Tm.nodes ((ts.take i).map (Tm.aG R))≤120∧((ts.take i).map (Tm.aG R)).all (fun x=>x.flat D')=true)
   (fun i b=>[(9,.bool false),(42,.int .i64 i)])
   (fun i b=>eY (W.aC cb (.cells [.int .i64 ((cnt+1+bK Tm.nodes ((ts.take i).map (Tm.aG R)):Nat):Int)])) b10 b [.int .i64 k,.int .i64 n,.str s] (((ts.take i).map (Tm.aG R)).map Tm.av)) (by decide +kernel)
   ⟨0,⟨fun h=>absurd rfl h,by simp [bK];omega,by simp⟩,aN.mk (by simp only[aA,↓aR,seval])⟩ (fun i x b hx hlt bH AL hinv=>?_) (fun b hge hinv=>?_)
  · obtain⟨i1,i2,i3⟩:=hinv
    have htk:(ts.take (i+1)).map (Tm.aG R)=(ts.take i).map (Tm.aG R)++ [x.aG R]:=by rw[eA,hx];simp
    have cF:(((ts.take i).map (Tm.aG R)).map Tm.av).length=i:=by simp only[aE,dC];omega
    have hw:=bL (n:=(i:Int)+1)
    have gO:=cD hx
    generalize hl0:(ts.take i).map (Tm.aG R)=l0 at *
    generalize hc0:cnt+1+bK Tm.nodes l0=c0 at *
    have hWc:(W.aC cb (.cells [.int .i64 (c0:Int)])) cb≠none:=by rw[aB.aO];simp
    have hs1:=gJ i1 hWc P5.symm
    have hsS:iY (eY (W.aC cb (.cells [.int .i64 (c0:Int)])) b10 b [.int .i64 k,.int .i64 n,.str s] (l0.map Tm.av)) c m q σ:=by
     have h1:=(hWS.NE (o:=.cells [.int .i64 (c0:Int)]) hcb.1 hcb.2)
     exact⟨by rw[gJ i1 (by rw[h1.cells];simp) aZN.symm];exact h1.cells,by rw[gJ i1 (by rw[h1.map];simp) aZO.symm];exact h1.map⟩
    rw[aB.aO] at hs1
    simp only[bH,a0C,bD (av:=Tm.av) a8 hx (aH x),aT,aH,aA,↓aR,seval,tN]
    refine(IH D' (I8 _) x c0 _ (by omega) (QM x gO) (mN x gO) i2 hsS hs1).mono ?_
    rintro r s2 ⟨nS,aZ7,rfl,hr⟩
    obtain⟨e1,i1'⟩:=qQ (o:=.cells [.int .i64 (nS:Int)]) i1 hWc P5.symm
    rw[e1,cY]
    rw[cY] at i1'
    have tD:(ts.map (Tm.aG R))=l0++(x.aG R)::(ts.drop (i+1)).map (Tm.aG R):=by rw[←hl0,←aZ,←AL,←sK,sL]
    by_cases hok:(x.aG R).flat D'=true∧c0+(x.aG R).nodes≤120
    · rw[aJ hok] at hr
      obtain⟨rfl,rfl⟩:=hr
      have hbo:=eF i1'
      simp only[aT,aH,bT,cC,hbo,lQ,aA,↓aR,seval,tN]
      refine eD a8 fW fX rfl rfl (eO (aH _) (bT _)) (dS _) i1' (by simp only[cF,aS,aW];omega) (by simp only[cF,aS,aW];omega) (fun b' hb'=>?_)
      rw[show l0.map Tm.av++ [(x.aG R).av]=((ts.take (i+1)).map (Tm.aG R)).map Tm.av by rw[htk];simp] at hb' ⊢
      obtain⟨g1,g2,g3⟩:=nB hb'
      simp only[fC,eL] at g1 g3
      have hcc:cnt+1+bK Tm.nodes ((ts.take (i+1)).map (Tm.aG R))=c0+(x.aG R).nodes:=by rw[htk,ED,bK,bK,←hc0];omega
      simp only[g3,lR,eT,g1,hw,aK,aA,seval,tN]
      rw[hcc]
      exact⟨b',⟨g2,hok.2,by rw[htk,B0,i3];simp [hok.1]⟩,aN.mk (by simp only[aA,seval])⟩
    · rw[aF hok] at hr
      subst hr
      obtain⟨e2,i2'⟩:=qQ (x:=b8) (o:=.cells [.int .i64 0,.int .i64 0,.str ⟨#[]⟩,.fslice []]) i1' (by rw[aB.aM _ _ hb8.symm,hW8];simp) DB.symm
      have h8o:=gJ i1' (x:=b8) (by rw[aB.aM _ _ hb8.symm,hW8];simp) DB.symm
      rw[aB.aM _ _ hb8.symm,hW8] at h8o
      simp only[aK,h8o,Tm.zero,aU,aV,aA,↓aR,seval,tN]
      rw[e2]
      refine QP _ nS aZ7 (a2M (hWd _ _ _) i2') ?_
      rw[Tm.gK,Tm.v6,tD,B0,j3,ED,bK]
      rintro⟨h3,h4⟩
      simp only[cB] at h3
      exact hok ⟨h3.2.1,by omega⟩
  · obtain⟨i1,i2,i3⟩:=hinv
    rw[dW] at i1 i2 i3 ⊢
    have hbo:=eF i1
    have hx8:(W.aC cb (.cells [.int .i64 ((cnt+1+bK Tm.nodes (ts.map (Tm.aG R)):Nat):Int)])) b8≠none:=by rw[aB.aM _ _ hb8.symm,hW8];simp
    have h8o:=gJ i1 (x:=b8) hx8 DB.symm
    rw[aB.aM _ _ hb8.symm,hW8] at h8o
    simp only[aK,hge,hbo,h8o,eT,aA,seval,tN]
    obtain⟨h5,h6⟩:=jW (o:=.cells [.int .i64 k,.int .i64 n,.str s,bE 4 b ((ts.map (Tm.aG R)).map Tm.av)]) i1 hx8 DB.symm
    have yE:cnt+(Tm.mk k n s (ts.map (Tm.aG R))).nodes=cnt+1+bK Tm.nodes (ts.map (Tm.aG R)):=by rw[Tm.gK];omega
    refine⟨b,_,_,h5,h6,iM _,⟨4,dS _⟩,_,?_,_,Nat.le_succ_of_le i2,rfl,?_⟩
    · rw[aB.n9 _ _ _ DB]
      exact hWd _ _ _
    · rw[aJ ⟨by rw[Tm.v6];exact i3,by rw[yE];exact i2⟩,yE]
      refine⟨?_,rfl⟩
      simp only[jS,fO,aZ,aV,dZ,iD,nV,iJ,aU]
termination_by D=>D
decreasing_by exact hlt
def LV(v:Tm):AV:=if v.flat 30=true∧v.nodes≤120 then .tup [v.av,.bool true] else .tup [Tm.zero.av,.bool false]
abbrev TM:=zi aX (zi bZ (zi bQ (zi IE oV)))
theorem YG{σ:Sub}{R:Int→Tm}{rk:Int→Nat}{B:Nat}(G:Good σ R rk B)(hcv:cV Cv σ)(hsm:cV Sm σ)(c m:Nat)(q:AV)(t:Tm)(hct:Cv t)(hst:Sm t)(st:aB)(hS:iY st c m q σ) :
 aD prog 305 [.ptr c 0,t.av] st (fun r st'=>r=LV (t.aG R)∧st'=st):=by
 refine aD.done ?_
 refine wF [1000000,6] 2 func305 ntmps305 rfl rfl ?_
 intro _
 simp only[aK,aA,↓aR,seval,TM]
 intro b4 h4 b6 h6
 have hne:b6≠b4:=by rintro rfl;rw[aB.aO] at h6;cases h6
 have hn6:st b6=none:=by rw[aB.aM st _ hne] at h6;exact h6
 have hS':∀o o',iY ((st.aC b4 o).aC b6 o') c m q σ:=fun o o'=>(hS.aC h4).aC (by rw[aB.aM _ _ hne];exact hn6)
 obtain⟨h6c,h6m⟩:=hS.ne hn6
 have hc:=YH G hcv hsm c m b6 q ⟨h6c,h6m⟩ 30 t 0 _ (by omega) hct hst (by omega) (hS' (.cells [.int .i64 0,.int .i64 0,.str ⟨#[]⟩,.fslice []]) (.cells [.int .i64 0])) (aB.aO _ _ _)
 rw[show(31 - ((30:Nat):Int))=1 from rfl] at hc
 refine hc.mono ?_
 rintro r s2 ⟨nS,_,rfl,hr⟩
 unfold LV
 rw[fZ] at hr
 split at hr
 · rename_i hok
   obtain⟨rfl,_⟩:=hr
   rw[aJ hok]
   simp only[bR,bT,aK,hne.symm,aA,seval,TM]
   exact⟨by simp only[iT,oT,Tm.soft,aZ,aV],(((aL.refl _).aC h4).aC hn6).aC h4⟩
 · rename_i hok
   subst hr
   rw[aF hok]
   simp only[Tm.zero,aU,aV,aK,hne.symm,aA,seval,TM]
   exact⟨by simp only[jC,iT,jN,oT,k8,nG,aZ,aV],(((aL.refl _).aC h4).aC hn6).aC h4⟩
abbrev a6R:=zi EP (zi oV ES)
theorem aU4(st:aB):aD prog 243 [] st (fun r st'=>∃c m,r=.ptr c 0∧gG st' c m (.fslice []) Sub.none []∧mH c m st (.fslice []) st' (.fslice [])∧st c=none∧st m=none):=by
 refine wF [1000000,3] 0 func243 ntmps243 rfl rfl ?_
 intro _
 simp only[aA,seval,a6R]
 intro m hm c hc
 have hne:c≠m:=by rintro rfl;rw[aB.aO] at hc;cases hc
 have hnc:st c=none:=by rw[aB.aM st _ hne] at hc;exact hc
 refine⟨c,m,rfl,⟨⟨aB.aO _ _ _,by rw[aB.aM _ _ hne.symm,aB.aO];try rfl⟩,.inl ⟨rfl,rfl⟩,by simp [dL]⟩,⟨fun x o h h1 h2 _=>by rw[aB.aM _ _ h1,aB.aM _ _ h2];exact h,by simp [dL]⟩,hnc,hm⟩
theorem iY.acc{st:aB}{c m b:Nat}{q:AV}{σ:Sub}{l:List AV}(h:iY st c m q σ)(hb:l≠[]→st b=none):iY (a7 st b l) c m q σ:=by
 cases l with
 | nil=>exact h
 | cons x l=>exact h.aC (hb (by simp))
abbrev bAA:=zi aX (zi bS (zi bQ (zi aOR aOW)))
abbrev TN:=zi aX (zi bZ (zi bS bQ))
theorem W4(l l':List Tm)(g:FuncId)(st:aB)(hc:∀x∈l,∀(y:Tm) (st:aB),aD prog g [Tm.av x,Tm.av y] st (fun r st'=>r=.bool (Tm.same x y)∧st'=st)) :
 aD prog 125 [.slice (l.map Tm.av),.slice (l'.map Tm.av),.func g []] st (fun r st'=>r=.bool (lV Tm.same l l')∧st'=st):=by
 refine wF [1000000] 3 func125 ntmps125 rfl rfl ?_
 simp only[d7,AV.fits,d9,aE]
 intro ⟨⟨hl,_⟩,⟨hl',_⟩⟩
 simp only[aE,aA,seval,TN]
 refine⟨fun h4=>?_,fun h4=>?_⟩
 · simp only[aA,seval]
   simp only[iV,dB] at h4
   rw[PV _ (show l.length≠l'.length by omega)]
 simp only[lO,bO] at h4
 have h4':l.length=l'.length:=by omega
 simp only[aE,aA,seval,TN]
 refine dV (σ:=Unit) [1000000] [1,2,15,16] l (fun i _=>∀(j:Nat) (x y:Tm),j<i→l[j]?=some x→l'[j]?=some y→Tm.same x y=true) (fun i _=>[(17,.int .i64 i)]) (fun _ _=>st) (by decide +kernel) ⟨(),by intro j x y h;omega,aN.mk (by simp only[aA,↓aR,seval])⟩ (fun i x _ hx hlt bH hdr dJ=>?_) (fun _ hge dJ=>?_)
 case refine_2=>
  simp only[hge,aA,seval]
  rw[PS _ h4' (fun j x y h6 h7=>dJ j x y (by have:=(gS.1 h6).1;omega) h6 h7)]
 obtain⟨y,hy⟩:∃y,l'[i]?=some y:=⟨_,eN (h4'▸hlt)⟩
 have hw:=bL (n:=(i:Int)+1)
 simp only[bH,aT,aH,bT,cC,bD (av:=Tm.av) a8 hx (aH x),bD (av:=Tm.av) a8 hy (aH y),aA,↓aR,seval,TN]
 refine(hc x (cD hx) y _).to ?_
 simp only[aA,seval]
 refine⟨fun h6=>?_,fun h6=>?_⟩
 · simp only[aA,seval]
   have h7:Tm.same x y=false:=by simpa using h6
   rw[PT _ i x y hx hy h7]
 have h7:Tm.same x y=true:=by simpa using h6
 simp only[aA,seval]
 refine⟨(),fun j u v hj hu hv=>?_,aN.mk (by simp only[hw,aA,seval])⟩
 rcases lD j i with h8 | h8
 · exact dJ j u v h8 hu hv
 · obtain rfl:j=i:=by omega
   rw[hx] at hu;rw[hy] at hv;cases hu;cases hv;exact h7
abbrev bAB:=zi aX (zi cJ (zi bS (zi bQ (zi aOR aOW))))
abbrev MM:=zi aX (zi bZ (zi cJ (zi bS bQ)))
theorem FY:∀(a b:Tm) (st:aB),aD prog 71 [a.av,b.av] st (fun r st'=>r=.bool (a.same b)∧st'=st)
 | .mk k n s ts,.mk k' n' s' ts',st=>by
  have hc:=W4 ts ts' 71 st fun x hx y st=>FY x y st
  refine wF [] 2 func71 ntmps71 rfl rfl ?_
  intro _
  simp only[aU,Tm.SW]
  simp only[aA,seval,MM]
  refine cU (fun h1=>?_) (fun h1=>?_)
  case refine_2=>
   simp only[h1,aA,seval]
   simp at h1
   simp []
  simp only[h1,aA,seval,MM]
  refine cU (fun h2=>?_) (fun h2=>?_)
  case refine_2=>
   simp only[h2,aA,seval]
   simp at h2
   simp []
  simp only[h2,aA,seval,MM]
  refine cU (fun h3=>?_) (fun h3=>?_)
  case refine_2=>
   simp only[h3,aA,seval]
   simp at h3
   simp []
  simp only[h3,aA,seval,MM]
  refine hc.to ?_
  simp only[aA,seval]
termination_by a=>SizeOf.sizeOf a
decreasing_by have:=List.sizeOf_lt_of_mem hx;simp only[Tm.mk.sizeOf_spec];omega
abbrev EM:=zi aX (zi bZ (zi cJ (zi bS bQ)))
theorem YL:∀(a b:Tm) (st:aB),aD prog 291 [a.av,b.av] st (fun r st'=>r=.bool (a.same b)∧st'=st)
 | .mk k n s ts,.mk k' n' s' ts',st=>by
  have hc:=fun(x:Tm) (hx:x∈ts) y st=>YL x y st
  refine wF [] 2 func291 ntmps291 rfl rfl ?_
  simp only[aU,d7,AV.fits,d9,aE,Tm.SW]
  intro ⟨⟨_,_,_,hl,_⟩,⟨_,_,_,hl',_⟩⟩
  simp only[aA,seval,EM]
  refine cU (fun h1=>?_) (fun h1=>?_)
  case refine_2=>
   simp only[h1,aA,seval]
   simp at h1
   simp [h1]
  simp only[h1,aA,seval,EM]
  refine cU (fun h2=>?_) (fun h2=>?_)
  case refine_2=>
   simp only[h2,aA,seval]
   simp at h2
   simp [h2]
  simp only[h2,aA,seval,EM]
  refine cU (fun h3=>?_) (fun h3=>?_)
  case refine_2=>
   simp only[h3,aA,seval]
   simp at h3
   simp [h3]
  simp only[h3,aE,aA,seval,EM]
  refine⟨fun h4=>?_,fun h4=>?_⟩
  · simp only[aA,seval]
    simp only[iV,dB] at h4
    rw[PV _ (show ts.length≠ts'.length by omega)]
    simp
  simp only[aA,seval]
  simp only[lO,bO] at h1 h2 h3 h4
  have h4':ts.length=ts'.length:=by omega
  subst h1 h2 h3
  simp only[bF,dU]
  refine w9 (α:=Nat) [] (fun i=>i≤ts.length∧∀(j:Nat) (x y:Tm),j<i→ts[j]?=some x→ts'[j]?=some y→Tm.same x y=true)
   (fun i=>[(2,.pptr (.agg [.int .i64 k,.int .i64 n,.str s,.slice (ts.map Tm.av)])),(3,.pptr (.agg [.int .i64 k,.int .i64 n,.str s,.slice (ts'.map Tm.av)])),(5,.int .i64 i)]) (fun _=>st) (fun i=>ts.length - i) (by decide +kernel)
   ⟨0,⟨by omega,by intro j x y h;omega⟩,aN.mk (by simp only[aA,↓aR,seval])⟩ ?_
  intro i ⟨hi,dJ⟩
  simp only[aE,aA,seval,EM]
  refine⟨fun h5=>?_,fun h5=>?_⟩
  case refine_2=>
   simp only[aA,seval]
   simp only[dB,mY] at h5
   rw[PS _ h4' (fun j x y h6 h7=>dJ j x y (by have:=(gS.1 h6).1;omega) h6 h7)]
  simp only[bO,mY] at h5
  obtain⟨x,hx⟩:∃x,ts[i]?=some x:=⟨_,eN h5⟩
  obtain⟨y,hy⟩:∃y,ts'[i]?=some y:=⟨_,eN (h4'▸h5)⟩
  simp only[aA,seval]
  refine aRD mixed (by decide +kernel) (by decide +kernel) ?_
  simp only[bD (av:=Tm.av) a8 hx (aH x),bD (av:=Tm.av) a8 hy (aH y),aT,aH,aA,seval,EM]
  refine(hc x (cD hx) y st).to ?_
  simp only[aA,seval]
  refine⟨fun h6=>?_,fun h6=>?_⟩
  · simp only[aA,seval]
    have h7:Tm.same x y=false:=by simpa using h6
    rw[PT _ i x y hx hy h7]
  have h7:Tm.same x y=true:=by simpa using h6
  simp only[aA,seval]
  refine⟨i+1,by omega,⟨by omega,fun j u v hj hu hv=>?_⟩,aN.mk ?_⟩
  · rcases lD j i with h8 | h8
    · exact dJ j u v h8 hu hv
    · obtain rfl:j=i:=by omega
      rw[hx] at hu;rw[hy] at hv;cases hu;cases hv;exact h7
  · have:=bL (n:=(i:Int)+1)
    simp only[this,aA,seval]
termination_by a=>SizeOf.sizeOf a
decreasing_by have:=List.sizeOf_lt_of_mem hx;simp only[Tm.mk.sizeOf_spec];omega
abbrev a97:=zi aX bZ
theorem pC(b:Bool)(st:aB):aD prog 339 [.bool b] st (fun r st'=>r=.int .i64 (iO b)∧st'=st):=by
 refine wF [1000000] 1 func339 ntmps339 rfl rfl ?_
 intro _
 simp only[aA,seval]
 cases b
 · simp only[iO,aA,seval]
 · simp only[iO,aA,seval]
abbrev a59:=zi IF (zi aX bQ)
theorem aU6(n:Int)(st:aB):aD prog 342 [.int .i64 n] st (fun r st'=>r=(nZ n).av∧st'=st):=by
 refine aD.done ?_
 refine wF [1000000] 1 func342 ntmps342 rfl rfl ?_
 intro _
 simp only[aK,aA,seval,a59]
 intro b hb
 unfold nZ
 exact⟨by simp only[aU,jC,jN,k8,k7,aZ,aV,aV],(aL.refl _).aC hb⟩
abbrev TA:=zi aX (zi bZ (zi cJ (zi bS (zi bQ mA))))
theorem aS3(k n:Int)(s:ByteArray)(ts:List Tm)(st:aB):aD prog 337 [(Tm.mk k n s ts).av] st (fun r st'=>r=.bool (decide (k=3)&&decide ((ts.length:Int)=2)&&gC rQ s)∧st'=st):=by
 simp only[aU]
 refine wF [1000000] 1 func337 ntmps337 rfl rfl ?_
 intro _
 simp only[aA,seval,TA]
 refine cU (fun h=>?_) (fun h=>?_)
 · simp only[h,aE,aA,seval,TA]
   refine cU (fun h2=>?_) (fun h2=>?_)
   · simp only[h2,aA,seval,TA]
     refine(OO rQ s _).to ?_
     simp only[aA,seval]
     simp [gC]
   · simp only[h2,aA,seval]
     simp []
 · simp only[h,aA,seval]
   simp []
abbrev TB:=zi aX (zi bZ (zi cJ (zi bS bQ)))
theorem aS2(n:Int)(s:ByteArray)(x y:Tm)(hs:gC rQ s=true){N:Int}(hx:cM N x)(hy:cM N y)(st:aB):aD prog 338 [(Tm.mk 3 n s [x,y]).av] st (fun r st'=>r=.int .i64 (xW s x y)∧st'=st):=by
 have dR:c9 prog 34 (.slice [x.av,y.av]) (.int .i64 0)=some (.pptr x.av):=bD (av:=Tm.av) (l:=[x,y]) (i:=0) a8 rfl (aH x)
 have fR:c9 prog 34 (.slice [x.av,y.av]) (.int .i64 1)=some (.pptr y.av):=bD (av:=Tm.av) (l:=[x,y]) (i:=1) a8 rfl (aH y)
 have hax:=fun st=>JX x st hx
 have hay:=fun st=>JX y st hy
 unfold xW both
 simp only[aU,aZ,aV]
 refine wF [1000000] 1 func338 ntmps338 rfl rfl ?_
 intro _
 simp only[dR,aT,aH,aA,seval,TB]
 refine(hax _).to ?_
 generalize x.ev.1=a at *
 generalize x.ev.2=ca at *
 generalize y.ev.1=b at *
 generalize y.ev.2=cb at *
 simp only[aA,seval]
 refine aP (fun h4=>?_) (fun h4=>?_)
 · simp only[aA,seval]
   have h4':ca≠0:=by simpa using h4
   rw[aJ h4']
 have h4':ca=0:=by simpa using h4
 subst h4'
 rw[aF (by simp)]
 simp only[fR,aT,aH,aA,seval,TB]
 refine(hay _).to ?_
 simp only[aA,seval]
 refine aP (fun h5=>?_) (fun h5=>?_)
 · simp only[aA,seval]
   have h5':cb≠0:=by simpa using h5
   rw[aJ h5']
 have h5':cb=0:=by simpa using h5
 subst h5'
 rw[aF (by simp)]
 unfold KC
 simp only[aA,seval,TB]
 refine aP (fun h6=>?_) (fun h6=>?_)
 · simp only[aA,seval]
   rw[aJ (by simpa using h6)]
   refine(pC _ _).to ?_
   simp only[aA,seval]
 rw[aF (by simpa using h6)]
 simp only[aA,seval]
 refine aP (fun h7=>?_) (fun h7=>?_)
 · simp only[aA,seval]
   rw[aJ (by simpa using h7)]
   refine(pC _ _).to ?_
   simp only[aA,seval]
 rw[aF (by simpa using h7)]
 simp only[aA,seval]
 refine aP (fun h8=>?_) (fun h8=>?_)
 · simp only[aA,seval]
   rw[aJ (by simpa using h8)]
   refine(pC _ _).to ?_
   simp only[aA,seval]
 rw[aF (by simpa using h8)]
 simp only[aA,seval]
 refine aP (fun h9=>?_) (fun h9=>?_)
 · simp only[aA,seval]
   rw[aJ (by simpa using h9)]
   refine(pC _ _).to ?_
   simp only[aA,seval]
 rw[aF (by simpa using h9)]
 simp only[aA,seval]
 refine(pC _ _).to ?_
 simp only[aA,seval]
theorem LO{ts:List Tm}(h:ts.length=0):ts= []:=rH h
theorem G6{ts:List Tm}(h:ts.length=1):∃x,ts= [x]:=by
 match ts,h with
 | [x],_=>exact⟨x,rfl⟩
theorem uS{ts:List Tm}(h:ts.length=2):∃x y,ts= [x,y]:=by
 match ts,h with
 | [x,y],_=>exact⟨x,y,rfl⟩
theorem aLJ{ts:List Tm}(h:ts.length=3):∃x y z,ts= [x,y,z]:=by
 match ts,h with
 | [x,y,z],_=>exact⟨x,y,z,rfl⟩
theorem aPZ{σ:Sub}{f:Nat}{t u:Tm}(h:f0 σ f t u):wk σ u=u:=(f0.stop h.end).wk
end Go.AW
namespace Go.AW

end Go.AW
namespace Go.AW
open Go.Proofs.Tryz
theorem a5Y{α:Type}(f:α→Nat)(l:List α)(i:Nat):bK f (l.take i)≤bK f l:=by
 have:=ED f (l.take i) (l.drop i)
 rw[sL] at this
 omega
def Full(v:Tm)(room:Nat)(st:aB)(r:AV)(st':aB):Prop:=
 st'=st∧∃(x:Tm) (left:Int),r=.tup [x.av,.int .i64 left]∧-1≤left∧if v.nodes≤room then x=v∧left=(room:Int) - v.nodes else left<0
abbrev Bt:=Fin 256
def iC(b:Bt):AV:=.int .u8 (b.val:Int)
theorem JT(b:Bt):(iC b).width=1:=rfl
def dG(st:aB)(c:Nat)(bs:List Bt)(p:Nat):Prop:=st c=some (.cells [.slice (bs.map iC),.int .i64 (p:Int)])
def cA(bs:List Bt)(p:Nat):AO:=.cells [.slice (bs.map iC),.int .i64 (p:Int)]
theorem UA(a b:Nat):(a:Int).tmod (b:Int)=((a % b:Nat):Int):=(Int.ofNat_tmod a b).symm
theorem aNR(a b:Nat):(a:Int).tdiv (b:Int)=((a / b:Nat):Int):=(Int.ofNat_tdiv a b).symm
theorem aQQ(a b:Nat)(ha:a<2 ^ 62)(hb:b<2 ^ 62):∃m:Nat,FO .i64 (a:Int) (b:Int)=(m:Int):=by
 have hx:=Nat.xor_lt_two_pow ha hb
 refine⟨a ^^^ b,?_⟩
 unfold FO
 show IntKind.i64.wrap (((BitVec.ofInt 64 (a:Int) ^^^ BitVec.ofInt 64 (b:Int)).toNat:Nat):Int)=_
 rw[BitVec.ofInt_natCast,BitVec.ofInt_natCast,BitVec.toNat_xor,BitVec.toNat_ofNat,BitVec.toNat_ofNat,Nat.mod_eq_of_lt (by omega),Nat.mod_eq_of_lt (by omega)]
 rw[wrap64 (by omega) (by omega)]
abbrev HU:=zi aX (zi kU (zi yZ (zi oW aOQ)))
theorem mJ(bs:List Bt)(c p:Nat)(hp:p≤1099511627776)(n:Nat)(hn:1≤n)(hn2:n≤1048576)(st:aB)(h:dG st c bs p) :
 aD prog 45 [.ptr c 0,.int .i64 (n:Int)] st (fun r st'=>∃k:Nat,k<n∧r=.int .i64 (k:Int)∧st'=st.aC c (cA bs (p+1))):=by
 unfold dG at h
 refine wF [1000000] 2 func45 ntmps45 rfl rfl ?_
 intro _
 have hw1:IntKind.i64.wrap ((p:Int)+1)=(p:Int)+1:=wrap64 (by omega) (by omega)
 simp only[aK,h,hw1,aA,seval,HU]
 have hn1:¬(n:Int)<1:=by omega
 have hw2:IntKind.i64.wrap ((p:Int)+1 - 1)=(p:Int):=by rw[wrap64 (by omega) (by omega)];omega
 have hst:∀(q:aB),q c=some (.cells [.slice (bs.map iC),.int .i64 ((p:Int)+1)])→True:=fun _ _=>trivial
 have hrd:cA bs (p+1)=.cells [.slice (bs.map iC),.int .i64 ((p:Int)+1)]:=by simp [cA]
 rw[hrd]
 refine cU (fun h1=>?_) (fun h1=>?_)
 case refine_2=>simp [hn1] at h1
 simp only[bP,eX,hn1,aE,aA,seval,HU]
 refine aP (fun h2=>?_) (fun h2=>?_)
 · simp only[aA,seval]
   exact⟨0,by omega,rfl⟩
 simp only[hw2,aE,aA,seval,HU]
 have hbl:bs.length≠0:=by simpa using h2
 refine aP (fun h3=>?_) (fun h3=>?_)
 · simp only[bO] at h3
   obtain⟨x,hx⟩:∃x,bs[p]?=some x:=⟨_,eN (by omega)⟩
   have hx2:=x.isLt
   have hb1:IntKind.i64.wrap (x.val:Int)=(x.val:Int):=wrap64 (by omega) (by omega)
   have hn0:¬(n:Int)=0:=by omega
   have QD:c9 prog 22 (.slice (bs.map iC)) (.int .i64 (p:Int))=some (.pptr (.int .u8 x.val)):=bD (av:=iC) GB hx (JT x)
   simp only[QD,sO,hb1,hn0,aA,seval,HU]
   exact⟨x.val % n,Nat.mod_lt _ (by omega),by rw[UA]⟩
 · simp only[dB] at h3
   obtain⟨x,hx⟩:∃x,bs[p % bs.length]?=some x:=⟨_,eN (Nat.mod_lt _ (by omega))⟩
   obtain⟨y,hy⟩:∃y,bs[(p*7+3) % bs.length]?=some y:=⟨_,eN (Nat.mod_lt _ (by omega))⟩
   have hx2:=x.isLt
   have hy2:=y.isLt
   have hl0:¬(bs.length:Int)=0:=by omega
   simp only[aA,seval]
   refine w8 [(0,1),(1,1),(2,1),(3,1),(4,1),(5,1),(6,1),(7,1),(8,1),(9,1),(10,1),(11,1),(12,1),(13,1),(14,1),(15,1),(16,1),(17,1),(18,1),(19,1),(20,1),(21,1),(22,1),(23,1),(24,1),(25,1),(26,1),(27,1),(28,1),(29,1),(30,1),(31,1),(32,1),(33,1),(34,1),(35,1),(36,1),(37,1),(38,1),(39,1),(40,1),(41,1),(42,1),(43,1),(44,1),(45,1)] [0,1,2,3,4,5,6,7,8,9,10,11,12,13,14,15,16,17,18,19,20,21,22,23,24,25,26,27,28,29,30,31,32,33,34,35,36,37,38,39,40,41,42,43,44,45] (eR.aC c (.cells [.slice (bs.map iC),.int .i64 ((p:Int)+1)])) mixed (by decide +kernel) (by decide +kernel) (by decide +kernel) rfl (fY (aB.aO _ _ _)) ?_
   have e7:IntKind.i64.wrap ((p:Int)*7)=(p:Int)*7:=wrap64 (by omega) (by omega)
   have e8:IntKind.i64.wrap ((p:Int)*7+3)=(p:Int)*7+3:=wrap64 (by omega) (by omega)
   have e9:((p:Int)*7+3).tmod (bs.length:Int)=(((p*7+3) % bs.length:Nat):Int):=by rw[←UA];congr 1
   have f1:IntKind.i64.wrap ((x.val:Int)*131)=(x.val:Int)*131:=wrap64 (by omega) (by omega)
   have f2:IntKind.i64.wrap ((y.val:Int)*1117)=(y.val:Int)*1117:=wrap64 (by omega) (by omega)
   have f3:IntKind.i64.wrap ((x.val:Int)*131+(y.val:Int)*1117)=(x.val:Int)*131+(y.val:Int)*1117:=wrap64 (by omega) (by omega)
   have f4:IntKind.i64.wrap ((p:Int)*29)=(p:Int)*29:=wrap64 (by omega) (by omega)
   have f5:IntKind.i64.wrap ((x.val:Int)*131+(y.val:Int)*1117+(p:Int)*29)=(x.val:Int)*131+(y.val:Int)*1117+(p:Int)*29:=wrap64 (by omega) (by omega)
   have hb1:IntKind.i64.wrap (x.val:Int)=(x.val:Int):=wrap64 (by omega) (by omega)
   have hb2:IntKind.i64.wrap (y.val:Int)=(y.val:Int):=wrap64 (by omega) (by omega)
   generalize hjx:p % bs.length=jx at *
   generalize hjy:(p*7+3) % bs.length=jy at *
   have e10:(p:Int).tmod (bs.length:Int)=(jx:Int):=by rw[UA,hjx]
   have QD:c9 prog 22 (.slice (bs.map iC)) (.int .i64 (jx:Int))=some (.pptr (.int .u8 x.val)):=bD (av:=iC) GB hx (JT x)
   have aZ0:c9 prog 22 (.slice (bs.map iC)) (.int .i64 (jy:Int))=some (.pptr (.int .u8 y.val)):=bD (av:=iC) GB hy (JT y)
   have hdv:p / bs.length≤p:=Nat.div_le_self _ _
   generalize hq:p / bs.length=q at *
   have hqq:IntKind.i64.wrap ((p:Int).tdiv (bs.length:Int))=(q:Int):=by rw[aNR,hq,wrap64 (by omega) (by omega)]
   have f6:IntKind.i64.wrap ((q:Int)*53)=(q:Int)*53:=wrap64 (by omega) (by omega)
   obtain⟨z,hz,hz2⟩:∃z:Nat,(x.val:Int)*131+(y.val:Int)*1117+(p:Int)*29+(q:Int)*53=(z:Int)∧z<2 ^ 61:=⟨x.val*131+y.val*1117+p*29+q*53,by omega,by omega⟩
   have f7:IntKind.i64.wrap ((x.val:Int)*131+(y.val:Int)*1117+(p:Int)*29+(q:Int)*53)=(z:Int):=by rw[hz];exact wrap64 (by omega) (by omega)
   have a94:z / 64≤z:=Nat.div_le_self _ _
   obtain⟨m,hm⟩:=aQQ z (z / 64) (by omega) (by omega)
   have f8:IntKind.i64.wrap ((z:Int).tdiv 64)=((z / 64:Nat):Int):=by rw[show(64:Int)=((64:Nat):Int) from rfl,aNR,wrap64 (by omega) (by omega)]
   generalize z / 64=z2 at *
   have hn0:¬(n:Int)=0:=by omega
   simp only[aE,hl0,e7,e8,e9,e10,f1,f2,f3,f4,f5,f6,f7,f8,hm,hn0,QD,aZ0,hb1,hb2,hqq,sO,aA,seval,HU]
   exact⟨m % n,Nat.mod_lt _ (by omega),rfl⟩
abbrev aNU:=zi aX (zi fA oW)
theorem aU5(l:List Int)(h1:1≤l.length)(h2:l.length≤1048576)(bs:List Bt)(c p:Nat)(hp:p≤1099511627776)(st:aB)(h:dG st c bs p) :
 aD prog 43 [.ptr c 0,.slice (l.map iv)] st (fun r st'=>∃x∈l,r=.int .i64 x∧st'=st.aC c (cA bs (p+1))):=by
 refine wF [1000000] 2 func43 ntmps43 rfl rfl ?_
 intro _
 simp only[aE,aA,seval,aNU]
 refine(mJ bs c p hp l.length h1 h2 st h).mono ?_
 rintro _ _ ⟨k,hk,rfl,rfl⟩
 obtain⟨x,hx⟩:∃x,l[k]?=some x:=⟨_,eN hk⟩
 have hat:=bD (av:=iv) g7 hx rfl
 simp only[hat,aA,seval,aNU]
 exact⟨x,cD hx,rfl⟩
theorem xU(l:List Int)(h1:1≤l.length)(h2:l.length≤1048576)(bs:List Bt)(c p:Nat)(hp:p≤1099511627776)(st:aB)(h:dG st c bs p) :
 aD prog 43 [.ptr c 0,.fslice (l.map iv)] st (fun r st'=>∃x∈l,r=.int .i64 x∧st'=st.aC c (cA bs (p+1))):=
 aD.pQ (by simp only[hH,AV.soft];exact aU5 l h1 h2 bs c p hp st h)
abbrev aNT:=zi aX (zi cJ (zi oW mA))
theorem aU8(l:List ByteArray)(h1:1≤l.length)(h2:l.length≤1048576)(bs:List Bt)(c p:Nat)(hp:p≤1099511627776)(st:aB)(h:dG st c bs p) :
 aD prog 141 [.ptr c 0,.slice (l.map AV.str)] st (fun r st'=>∃x∈l,r=.str x∧st'=st.aC c (cA bs (p+1))):=by
 refine wF [1000000] 2 func141 ntmps141 rfl rfl ?_
 intro _
 simp only[aE,aA,seval,aNT]
 refine(mJ bs c p hp l.length h1 h2 st h).mono ?_
 rintro _ _ ⟨k,hk,rfl,rfl⟩
 obtain⟨x,hx⟩:∃x,l[k]?=some x:=⟨_,eN hk⟩
 have hat:=bD (av:=AV.str) qC hx rfl
 simp only[hat,aA,seval,aNT]
 exact⟨x,cD hx,rfl⟩
theorem F3(l:List ByteArray)(h1:1≤l.length)(h2:l.length≤1048576)(bs:List Bt)(c p:Nat)(hp:p≤1099511627776)(st:aB)(h:dG st c bs p) :
 aD prog 141 [.ptr c 0,.fslice (l.map AV.str)] st (fun r st'=>∃x∈l,r=.str x∧st'=st.aC c (cA bs (p+1))):=
 aD.pQ (by simp only[hH,AV.soft];exact aU8 l h1 h2 bs c p hp st h)
abbrev TF:=zi aX (zi yZ (zi oW aOQ))
theorem XJ(bs:List Bt)(st:aB):aD prog 42 [.slice (bs.map iC)] st (fun r st'=>∃c bs',r=.ptr c 0∧st c=none∧st'=st.aC c (cA bs' 0)):=by
 refine wF [1000000,10] 1 func42 ntmps42 rfl rfl ?_
 simp only[d7,AV.fits,d9,aE]
 intro ⟨hl,_⟩
 have hs:bs.length>2000→∀φ,gZ prog φ 22 (.slice (bs.map iC)) none (some (.const (.int .i64 2000))) none=some (.slice ((bs.take 2000).map iC)):=fun h φ=>by
  have h2:((0:Int)≤2000∧(2000:Int)≤(bs.map iC).length):=⟨by omega,by rw[aE];omega⟩
  have h3:dY φ (some (.const (.int .i64 2000))) (bs.map iC).length (bs.map iC).length=some 2000:=by
   show(if((0:Int)≤2000∧(2000:Int)≤(bs.map iC).length) then some (Int.toNat 2000) else none)=some 2000
   exact aJ h2
  unfold gZ oF
  rw[aF (by simp [qP])]
  simp only[GB]
  have h4:dY φ none (bs.map iC).length (bs.map iC).length=some (bs.map iC).length:=rfl
  rw[h4]
  simp only[h3]
  have h5:dY φ none 0 2000=some 0:=rfl
  rw[h5]
  simp
 simp only[aE,aA,seval,TF]
 refine aP (fun h=>?_) (fun h=>?_)
 · simp only[bO] at h
   have hs':=hs (by omega)
   simp only[hs',aA,seval,TF]
   intro b hb
   exact⟨b,bs.take 2000,rfl,hb,by simp [cA]⟩
 · simp only[aA,seval,TF]
   intro b hb
   exact⟨b,bs,rfl,hb,by simp [cA]⟩
abbrev a6C:=zi aX bQ
theorem J1(n:Int)(st:aB):aD prog 138 [.int .i64 n] st (fun r st'=>r=(vr n).av∧st'=st):=by
 refine aD.done ?_
 refine wF [1000000] 1 func138 ntmps138 rfl rfl ?_
 intro _
 simp only[aK,aA,seval,a6C]
 intro b hb
 exact⟨by simp only[vr,aU,jC,jN,k8,k7,aZ,aV],(aL.refl _).aC hb⟩
abbrev a6D:=zi IF (zi aX bQ)
theorem CV(n:Int)(st:aB):aD prog 139 [.int .i64 n] st (fun r st'=>r=(Tm.mk 2 n ⟨#[]⟩ []).av∧st'=st):=by
 refine aD.done ?_
 refine wF [1000000] 1 func139 ntmps139 rfl rfl ?_
 intro _
 simp only[aK,aA,seval,a6D]
 intro b hb
 exact⟨by simp only[aU,jC,jN,k8,k7,aZ,aV],(aL.refl _).aC hb⟩
abbrev MC:=zi aX (zi cJ (zi bS bQ))
theorem aT0(s:ByteArray)(l:List Tm)(hl:l.length≤1048576)(st:aB):aD prog 140 [.str s,.slice (l.map Tm.av)] st (fun r st'=>r=(Tm.mk 3 0 s l).av∧st'=st):=by
 refine aD.oH (aD.fin ?_)
 refine wF [1000000] 2 func140 ntmps140 rfl rfl ?_
 intro _
 simp only[aA,seval,MC]
 intro b hb
 change kD prog 34 (a7 (st.aC b (.cells [.int .i64 0,.int .i64 0,.str ⟨#[]⟩,.fslice []])) 0 []) (bE 4 0 []) (.slice (l.map Tm.av)) _
 refine eD a8 fW fX rfl rfl (by intro e he;simp only[cI] at he;obtain⟨t,_,rfl⟩:=he;exact⟨aH _,bT _⟩) (by simp) (fun h=>absurd rfl h) (by simp only[aW,aE];omega) (by simp only[aW,aE];omega) (fun b' hb'=>?_)
 rw[eL] at hb' ⊢
 have hne:l.map Tm.av≠[]→b≠b':=fun h e=>by have:=hb' h;rw[←e,aB.aO] at this;cases this
 have h1:a7 (st.aC b (.cells [.int .i64 0,.int .i64 0,.str ⟨#[]⟩,.fslice []])) b' (l.map Tm.av) b=some (.cells [.int .i64 0,.int .i64 0,.str ⟨#[]⟩,.fslice []]):=by
  by_cases h:l.map Tm.av= []
  · rw[h,xR,aB.aO]
  · rw[o7 (hne h),aB.aO]
 simp only[aK,h1,lR,eT,nQ,aA,seval,MC]
 rw[o9 hne,cY]
 exact⟨b',l.map Tm.av,st.aC b _,rfl,fun h=>by rw[aB.aM _ _ (c7 (hne h))];have:=hb' h;rwa [aB.aM _ _ (c7 (hne h))] at this,iM _,⟨4,dS _⟩,by simp only[aU,fO,dZ,iD,kF,aZ,aV],(aL.refl _).aC hb⟩
theorem sS(s:ByteArray)(l:List Tm)(hl:l.length≤1048576)(st:aB):aD prog 140 [.str s,.fslice (l.map Tm.av)] st (fun r st'=>r=(Tm.mk 3 0 s l).av∧st'=st):=
 aD.pQ (by simp only[hH,AV.soft];exact aT0 s l hl st)
theorem aT1(s:ByteArray)(st:aB):aD prog 140 [.str s,.fslice []] st (fun r st'=>r=.agg [.int .i64 3,.int .i64 0,.str s,.fslice []]∧st'=st):=by
 refine aD.drop ?_
 refine wF [1000000] 2 func140 ntmps140 rfl rfl ?_
 intro _
 simp only[aA,seval,MC]
 intro b hb
 change kD prog 34 (a7 (st.aC b (.cells [.int .i64 0,.int .i64 0,.str ⟨#[]⟩,.fslice []])) 0 []) (bE 4 0 []) (.fslice ([]:List AV)) _
 refine eD a8 fW fX rfl rfl (by simp [vO]) (by simp) (fun h=>absurd rfl h) (by simp) (by simp) (fun b' hb'=>?_)
 simp only[iB,iK,xR]
 simp only[aK,aA,seval,MC]
 exact(aL.refl _).aC hb
abbrev Dn (t:Tm):Prop:=t.cv=true∧t.small=true
theorem PK(n:Int):Dn (vr n):=by
 refine⟨Tm.lU.2 ⟨fun _=>⟨rfl,rfl⟩,fun x hx=>by cases hx⟩,?_⟩
 simp [vr,Tm.small,IL]
theorem xZ{k n:Int}{s:ByteArray}{ts:List Tm}(hk:k≠1)(hl:ts.length≤1048576)(h:∀x∈ts,Dn x):Dn (.mk k n s ts):=by
 refine⟨Tm.lU.2 ⟨fun h=>absurd h hk,fun x hx=>(h x hx).1⟩,?_⟩
 simp only[Tm.small,ET,cB,bO,dQ]
 exact⟨hl,fun x hx=>(h x hx).2⟩
def Dr(bs:List Bt)(c p m:Nat)(st:aB)(Q:AV→Prop)(r:AV)(st':aB):Prop:=∃p',p≤p'∧p'≤p+m∧st'=st.aC c (cA bs p')∧Q r
def NM(r:AV):Prop:=∃t:Tm,Dn t∧r=t.av
theorem dG.aC{st:aB}{c p:Nat}{bs:List Bt}{b:Nat}{o:AO}(h:dG st c bs p)(hb:b≠c):dG (st.aC b o) c bs p:=by unfold dG;rw[aB.aM _ _ (c7 hb)];exact h
theorem dG.new{st:aB}{c p:Nat}{bs:List Bt}:dG (st.aC c (cA bs p)) c bs p:=aB.aO _ _ _
theorem dG.ne{st:aB}{c p:Nat}{bs:List Bt}{b:Nat}(h:dG st c bs p)(hb:st b=none):b≠c:=by rintro rfl;rw[dG,hb] at h;cases h
abbrev l9:=zi aX (zi bZ (zi cJ (zi fA (zi bS (zi T9 (zi bQ (zi oW mA)))))))
theorem OV(bs:List Bt)(c:Nat):∀(d p:Nat) (st:aB),d≤10→p+4 ^ (d+2)≤1099511627776→dG st c bs p→aD prog 60 [.ptr c 0,.int .i64 (d:Int)] st (Dr bs c p (4 ^ (d+2)) st NM)
 | d,p,st,hd,hp,hR=>by
  have IH:=fun(d':Nat) (hlt:d'<d) p st=>OV bs c d' p st
  refine aD.mL (aD.fin ?_)
  refine wF [1000000,5] 2 func60 ntmps60 rfl rfl ?_
  intro _
  simp only[aA,seval,l9]
  intro b4 h4
  have h4c:=hR.ne h4
  have hR':=fun o=>hR.aC (o:=o) h4c
  have uP:64≤4 ^ (d+2)∨d=0:=by
   cases d with
   | zero=>exact .inr rfl
   | succ d=>
    left
    have:4 ^ (d+1+2)=64*4 ^ d:=by rw[show d+1+2=d+3 by omega,Nat.pow_add];omega
    have:=Nat.one_le_two_pow (n:=d);have:1≤4 ^ d:=Nat.one_le_pow _ _ (by omega);omega
  have a1F:16≤4 ^ (d+2):=by rcases uP with h | rfl<;>omega
  have iR:∀(o o':AO) (q:Nat) (t:Tm),p≤q→q≤p+4 ^ (d+2)→Dn t→∃b l s0,((st.aC b4 o).aC c (cA bs q)).aC b4 o'=a7 s0 b l∧(l≠[]→s0 b=none)∧(∀e∈l,e.cE=false)∧iI l∧∃s2,aL s0 s2∧Dr bs c p (4 ^ (d+2)) st NM (AV.fin b l t.av) s2:=fun o o' q t h1 h2 h3=>by
   refine⟨0,[],_,rfl,by simp,by simp,⟨4,by simp⟩,st.aC c (cA bs q),?_,q,h1,h2,rfl,t,h3,Tm.uI t 0⟩
   intro x
   by_cases e4:x=b4<;>by_cases ec:x=c<;>simp_all [aB.aC]
  refine cU (fun h=>?_) (fun h=>?_)
  case refine_2=>
   simp only[h,aA,seval]
   have hRq:=hR' (.cells [.int .i64 0,.int .i64 0,.str ⟨#[]⟩,.fslice []])
   have hq:p+1≤1099511627776:=by omega
   have:=h4c.symm
   refine(mJ bs c (p) (by omega) 4 (by omega) (by omega) _ hRq).mono ?_
   rintro _ _ ⟨k,hk,rfl,rfl⟩
   try rw[cY]
   simp only[aA,seval]
   refine aP (fun h1=>?_) (fun h1=>?_)
   · simp only[aA,seval]
     refine(mJ bs c (p+1) (by omega) 4 (by omega) (by omega) _ dG.new).mono ?_
     rintro _ _ ⟨k2,hk2,rfl,rfl⟩
     rw[cY]
     simp only[aA,seval]
     refine(J1 (k2:Int) _).to ?_
     simp only[bR,bT,eJ (bR _),eE (aT _),aK,h4c,aA,seval,l9]
     exact iR _ _ _ (vr k2) (by omega) (by omega) (PK _)
   simp only[aA,seval]
   refine aP (fun h2=>?_) (fun h2=>?_)
   · simp only[aA,seval,l9]
     refine(xU [0,1,7,-3,999,-999] (by simp) (by simp) bs c (p+1) (by omega) _ dG.new).mono ?_
     rintro _ _ ⟨x,hx,rfl,rfl⟩
     rw[cY]
     simp only[aA,seval]
     refine(CV x _).to ?_
     simp only[bR,bT,eJ (bR _),eE (aT _),aK,h4c,aA,seval,l9]
     exact iR _ _ _ (.mk 2 x ⟨#[]⟩ []) (by omega) (by omega) (xZ (by omega) (by simp) (by simp))
   · simp only[aA,seval,l9]
     refine(F3 [⟨#[97]⟩,⟨#[98]⟩,⟨#[110,105,108]⟩,⟨#[91,93]⟩,⟨#[102,111,111]⟩,⟨#[43]⟩] (by simp) (by simp) bs c (p+1) (by omega) _ dG.new).mono ?_
     rintro _ _ ⟨x,hx,rfl,rfl⟩
     rw[cY]
     simp only[aA,seval]
     refine(sS x [] (by simp) _).to ?_
     simp only[bR,bT,eJ (bR _),eE (aT _),aK,h4c,aA,seval,l9]
     exact iR _ _ _ (.mk 3 0 x []) (by omega) (by omega) (xZ (by omega) (by simp) (by simp))
  simp only[h,aA,seval]
  have hd2:2≤d:=by simp at h;omega
  have hwx:∀z:Int,z=(d:Int)→IntKind.i64.wrap (z - 1)=z - 1:=fun z hz=>wrap64 (by omega) (by omega)
  obtain⟨d',rfl⟩:∃d',d=d'+1:=⟨d - 1,by omega⟩
  have hpd:4 ^ (d'+1+2)=4*4 ^ (d'+2):=by rw[show d'+1+2=d'+2+1 by omega,Nat.pow_succ];omega
  have hp4:4≤4 ^ (d'+2):=by have:1≤4 ^ d':=Nat.one_le_pow _ _ (by omega);rw[Nat.pow_add];omega
  have hwd:IntKind.i64.wrap (((d'+1:Nat):Int) - 1)=(d':Int):=by rw[wrap64 (by omega) (by omega)];omega
  have Q9:IntKind.i64.wrap ((d':Int)+1 - 1)=(d':Int):=by rw[wrap64 (by omega) (by omega)];omega
  have IHd:=fun p st=>IH d' (I8 _) p st
  generalize hM:4 ^ (d'+2)=M at *
  rw[hpd] at hp a1F
  refine(mJ bs c p (by omega) 4 (by omega) (by omega) _ (hR' _)).mono ?_
  rintro _ _ ⟨k,hk,rfl,rfl⟩
  simp only[aA,seval]
  refine aP (fun h1=>?_) (fun h1=>?_)
  · have hRq:dG ((st.aC b4 (.cells [.int .i64 0,.int .i64 0,.str ⟨#[]⟩,.fslice []])).aC c (cA bs (p+1))) c bs (p+1):=dG.new
    simp only[aA,seval]
    refine(mJ bs c (p+1) (by omega) 4 (by omega) (by omega) _ hRq).mono ?_
    rintro _ _ ⟨k,hk,rfl,rfl⟩
    try rw[cY]
    simp only[aA,seval]
    refine aP (fun h1=>?_) (fun h1=>?_)
    · simp only[aA,seval]
      refine(mJ bs c (p+1+1) (by omega) 4 (by omega) (by omega) _ dG.new).mono ?_
      rintro _ _ ⟨k2,hk2,rfl,rfl⟩
      rw[cY]
      simp only[aA,seval]
      refine(J1 (k2:Int) _).to ?_
      simp only[bR,bT,eJ (bR _),eE (aT _),aK,h4c,aA,seval,l9]
      exact iR _ _ _ (vr k2) (by omega) (by omega) (PK _)
    simp only[aA,seval]
    refine aP (fun h2=>?_) (fun h2=>?_)
    · simp only[aA,seval,l9]
      refine(xU [0,1,7,-3,999,-999] (by simp) (by simp) bs c (p+1+1) (by omega) _ dG.new).mono ?_
      rintro _ _ ⟨x,hx,rfl,rfl⟩
      rw[cY]
      simp only[aA,seval]
      refine(CV x _).to ?_
      simp only[bR,bT,eJ (bR _),eE (aT _),aK,h4c,aA,seval,l9]
      exact iR _ _ _ (.mk 2 x ⟨#[]⟩ []) (by omega) (by omega) (xZ (by omega) (by simp) (by simp))
    · simp only[aA,seval,l9]
      refine(F3 [⟨#[97]⟩,⟨#[98]⟩,⟨#[110,105,108]⟩,⟨#[91,93]⟩,⟨#[102,111,111]⟩,⟨#[43]⟩] (by simp) (by simp) bs c (p+1+1) (by omega) _ dG.new).mono ?_
      rintro _ _ ⟨x,hx,rfl,rfl⟩
      rw[cY]
      simp only[aA,seval]
      refine(sS x [] (by simp) _).to ?_
      simp only[bR,bT,eJ (bR _),eE (aT _),aK,h4c,aA,seval,l9]
      exact iR _ _ _ (.mk 3 0 x []) (by omega) (by omega) (xZ (by omega) (by simp) (by simp))
  · simp only[aA,seval]
    refine(mJ bs c (p+1) (by omega) 3 (by omega) (by omega) _ dG.new).mono ?_
    rintro _ _ ⟨k2,hk2,rfl,rfl⟩
    rw[cY]
    simp only[aA,seval]
    refine aP (fun h2=>?_) (fun h2=>?_)
    · simp only[Q9,aA,seval]
      refine(IHd (p+1+1) _ (by omega) (by omega) dG.new).mono ?_
      rintro _ _ ⟨p1,hp1,a1D,rfl,t1,ht1,rfl⟩
      rw[cY]
      simp only[Q9,aA,seval]
      refine(IHd p1 _ (by omega) (by omega) dG.new).mono ?_
      rintro _ _ ⟨p2,hp2,a9Z,rfl,t2,ht2,rfl⟩
      rw[cY]
      simp only[aA,seval,l9]
      refine(sS ⟨#[46]⟩ [t1,t2] (by simp) _).to ?_
      simp only[bR,bT,eJ (bR _),eE (aT _),aK,h4c,aA,seval,l9]
      exact iR _ _ _ (.mk 3 0 ⟨#[46]⟩ [t1,t2]) (by omega) (by omega) (xZ (by omega) (by simp) (by intro x hx;simp only[c8,dP,dX] at hx;rcases hx with rfl | rfl<;>assumption))
    · simp only[aA,seval,l9]
      refine(F3 [⟨#[102]⟩,⟨#[103]⟩,⟨#[115]⟩,⟨#[43]⟩,⟨#[61]⟩,⟨#[105,115]⟩,⟨#[102,111,111]⟩] (by simp) (by simp) bs c (p+1+1) (by omega) _ dG.new).mono ?_
      rintro _ _ ⟨x,_,rfl,rfl⟩
      rw[cY]
      simp only[aA,seval]
      refine(aT1 x _).to ?_
      simp only[aK,aA,↓aR,seval,l9]
      intro b5 h5
      have h54:b5≠b4:=by rintro rfl;simp [aB.aC,h4c] at h5
      have h5c:b5≠c:=by rintro rfl;simp [aB.aC] at h5
      have hn5:st b5=none:=by rw[aB.aM _ _ h5c,aB.aM _ _ h54] at h5;exact h5
      refine(xU [2,1,3,2] (by simp) (by simp) bs c (p+1+1+1) (by omega) _ (dG.new.aC h5c)).mono ?_
      rintro _ _ ⟨y,hy,rfl,rfl⟩
      obtain⟨n,rfl,hn⟩:∃n:Nat,y=n∧n≤3:=by
       simp only[c8,dP,dX] at hy
       rcases hy with rfl | rfl | rfl | rfl
       · exact⟨2,rfl,by omega⟩
       · exact⟨1,rfl,by omega⟩
       · exact⟨3,rfl,by omega⟩
       · exact⟨2,rfl,by omega⟩
      rw[aB.w5 h5c,aB.n9 _ _ _ h5c]
      have hW4:∀q,((st.aC b4 (.cells [.int .i64 0,.int .i64 0,.str ⟨#[]⟩,.fslice []])).aC c (cA bs q)) b4=some (.cells [.int .i64 0,.int .i64 0,.str ⟨#[]⟩,.fslice []]):=fun q=>by rw[aB.aM _ _ h4c,aB.aO]
      simp only[aA,seval]
      refine iG (σ:=Nat×Nat×List Tm×Nat) [1000000,5] [0,1,4,5]
       (fun s=>(s.2.2.1.map Tm.av≠[]→(aB.aC ((st.aC b4 (.cells [.int .i64 0,.int .i64 0,.str ⟨#[]⟩,.fslice []])).aC c (cA bs s.2.2.2)) b5 (.cells ([.int .i64 3,.int .i64 0,.str x]++ [bE 4 s.2.1 (s.2.2.1.map Tm.av)]))) s.2.1=none)∧s.2.2.1.length+s.1≤3∧(∀t∈s.2.2.1,Dn t)∧p≤s.2.2.2∧s.2.2.2+s.1*M≤p+4*M)
       (fun s=>[(6,.int .i64 s.1)]) (fun s=>eY ((st.aC b4 (.cells [.int .i64 0,.int .i64 0,.str ⟨#[]⟩,.fslice []])).aC c (cA bs s.2.2.2)) b5 s.2.1 [.int .i64 3,.int .i64 0,.str x] (s.2.2.1.map Tm.av)) (fun s=>s.1) (by decide +kernel)
       ⟨(n,0,[],p+1+1+1+1),⟨fun h=>absurd rfl h,by simpa using hn,by simp,by simp only;omega,?_⟩,aN.mk (by simp only[aA,seval])⟩ ?_
      · simp only
        have:=pX M hn
        omega
      rintro⟨i,b,acc,q⟩ ⟨i1,i2,i3,i4,i5⟩
      simp only at i1 i2 i3 i4 i5
      simp only[aA,seval]
      refine aP (fun h3=>?_) (fun h3=>?_)
      · simp only[bO] at h3
        have hbo:=eF i1
        have hSc:((st.aC b4 (.cells [.int .i64 0,.int .i64 0,.str ⟨#[]⟩,.fslice []])).aC c (cA bs q)) c≠none:=by rw[aB.aO];simp
        have hRk:dG (eY ((st.aC b4 (.cells [.int .i64 0,.int .i64 0,.str ⟨#[]⟩,.fslice []])).aC c (cA bs q)) b5 b [.int .i64 3,.int .i64 0,.str x] (acc.map Tm.av)) c bs q:=by
         unfold dG
         rw[gJ i1 hSc h5c.symm,aB.aO]
         try rfl
        have hM1:M≤i*M:=by have:=pX M (show 1≤i by omega);omega
        have hMi:(i - 1)*M+M=i*M:=by rw[←oY];congr 1;omega
        have hwi:IntKind.i64.wrap ((i:Int) - 1)=((i - 1:Nat):Int):=by rw[wrap64 (by omega) (by omega)];omega
        have cF:(acc.map Tm.av).length≤3:=by rw[aE];omega
        simp only[aA,seval]
        refine w8 [(0,1),(1,1),(2,1),(3,1),(4,1),(5,0),(6,1),(7,0),(8,1),(9,2)] [0,1,2,3,4,6,8] (eR.aC b5 (.cells [.int .i64 3,.int .i64 0,.str x,bE 4 b (acc.map Tm.av)])) mixed (by decide +kernel) (by decide +kernel) (by decide +kernel) rfl (fY hbo) ?_
        simp only[Q9,lQ,aA,seval,l9]
        refine(IHd q _ (by omega) (by omega) hRk).mono ?_
        rintro _ _ ⟨q',hq1,hq2,rfl,t,ht,rfl⟩
        obtain⟨e1,i1'⟩:=qQ (o:=cA bs q') i1 hSc h5c.symm
        rw[cY] at e1 i1'
        rw[e1]
        simp only[aT,aH,cC,aA,seval,l9]
        refine⟨fY (eF i1'),?_⟩
        refine eD a8 fW fX rfl rfl (eO (aH _) (bT _)) (dS _) i1' (by simp only[aS,aW];omega) (by simp only[aS,aW];omega) (fun b' hb'=>?_)
        rw[show acc.map Tm.av++ [t.av]=(acc++ [t]).map Tm.av by simp] at hb' ⊢
        obtain⟨g1,g2,g3⟩:=nB hb'
        simp only[fC,eL] at g1 g3
        simp only[aK,eT,lR,aA,seval,l9]
        refine⟨fY g3,?_⟩
        simp only[g3,g1,hwi,aA,seval]
        refine⟨(i - 1,b',acc++ [t],q'),by simp only;omega,⟨g2,by simp only[dM,aS,aW];omega,fun u hu=>?_,by simp only;omega,by simp only;omega⟩,aN.mk (by simp only[aA,seval])⟩
        rcases fQ.1 hu with hu | hu
        · exact i3 u hu
        · simp only[c8,dP,dX] at hu
          subst hu
          exact ht
      · have hbo:=eF i1
        have h4o:=gJ i1 (x:=b4) (by rw[hW4];simp) h54.symm
        rw[hW4] at h4o
        simp only[aK,hbo,h4o,eT,aA,seval,l9]
        obtain⟨g5,g6⟩:=jW (o:=.cells [.int .i64 3,.int .i64 0,.str x,bE 4 b (acc.map Tm.av)]) i1 (show((st.aC b4 (.cells [.int .i64 0,.int .i64 0,.str ⟨#[]⟩,.fslice []])).aC c (cA bs q)) b4≠none by rw[hW4];simp) h54.symm
        refine⟨b,_,_,g5,g6,iM _,⟨4,dS _⟩,st.aC c (cA bs q),?_,q,i4,by omega,rfl,.mk 3 0 x acc,xZ (by omega) (by omega) i3,?_⟩
        · intro y
          by_cases e4:y=b4<;>by_cases ec:y=c<;>by_cases e5:y=b5<;>simp_all [aB.aC]
        · simp only[fO,aZ,aV,dZ,iD,iJ,aU]
termination_by d=>d
decreasing_by exact hlt
abbrev a98:=zi aX bZ
theorem sT(b:Bool)(st:aB):aD prog 289 [.bool b] st (fun r st'=>r=.int .i64 (iO b)∧st'=st):=by
 refine wF [1000000] 1 func289 ntmps289 rfl rfl ?_
 intro _
 simp only[aA,seval]
 cases b
 · simp only[iO,aA,seval]
 · simp only[iO,aA,seval]
abbrev a99:=zi bZ cJ
theorem aUM(s:ByteArray)(st:aB):aD prog 294 [.str s] st (fun r st'=>r=.bool (gC rQ s)∧st'=st):=by
 have hin:gC rQ s=(decide (s=⟨#[60]⟩)||(decide (s=⟨#[62]⟩)||(decide (s=⟨#[61,60]⟩)||(decide (s=⟨#[62,61]⟩)||decide (s=⟨#[61,58,61]⟩))))):=by
  simp only[gC,rQ,B1,List.any_nil,BY]
 rw[hin]
 refine wF [1000000] 1 func294 ntmps294 rfl rfl ?_
 intro _
 simp only[aA,seval]
 refine cU (fun h1=>?_) (fun h1=>?_)
 case refine_2=>
  simp only[h1,aA,seval]
  simp at h1;simp [h1]
 simp only[h1,aA,seval]
 refine cU (fun h2=>?_) (fun h2=>?_)
 case refine_2=>
  simp only[h2,aA,seval]
  simp at h2;simp [h2]
 simp only[h2,aA,seval]
 refine cU (fun h3=>?_) (fun h3=>?_)
 case refine_2=>
  simp only[h3,aA,seval]
  simp at h3;simp [h3]
 simp only[h3,aA,seval]
 refine cU (fun h4=>?_) (fun h4=>?_)
 case refine_2=>
  simp only[h4,aA,seval]
  simp at h4;simp [h4]
 simp only[h4,aA,seval]
theorem aUO(s:ByteArray)(a b:Int)(st:aB):aD prog 332 [.str s,.int .i64 a,.int .i64 b] st (fun r st'=>r=.bool (KC s a b)∧st'=st):=by
 unfold KC
 refine wF [1000000] 3 func332 ntmps332 rfl rfl ?_
 intro _
 simp only[aA,seval]
 refine aP (fun h6=>?_) (fun h6=>?_)
 · simp only[aA,seval]
   rw[aJ (by simpa using h6)]
 rw[aF (by simpa using h6)]
 simp only[aA,seval]
 refine aP (fun h7=>?_) (fun h7=>?_)
 · simp only[aA,seval]
   rw[aJ (by simpa using h7)]
 rw[aF (by simpa using h7)]
 simp only[aA,seval]
 refine aP (fun h8=>?_) (fun h8=>?_)
 · simp only[aA,seval]
   rw[aJ (by simpa using h8)]
 rw[aF (by simpa using h8)]
 simp only[aA,seval]
 refine aP (fun h9=>?_) (fun h9=>?_)
 · simp only[aA,seval]
   rw[aJ (by simpa using h9)]
 rw[aF (by simpa using h9)]
 simp only[aA,seval]
abbrev TC:=zi aX (zi bZ (zi cJ (zi bS bQ)))
theorem aUL(n:Int)(s:ByteArray)(x y:Tm){N:Int}(hx:cM N x)(hy:cM N y)(st:aB):aD prog 295 [(Tm.mk 3 n s [x,y]).av] st (fun r st'=>r=.int .i64 (xW s x y)∧st'=st):=by
 have dR:c9 prog 34 (.slice [x.av,y.av]) (.int .i64 0)=some (.pptr x.av):=bD (av:=Tm.av) (l:=[x,y]) (i:=0) a8 rfl (aH x)
 have fR:c9 prog 34 (.slice [x.av,y.av]) (.int .i64 1)=some (.pptr y.av):=bD (av:=Tm.av) (l:=[x,y]) (i:=1) a8 rfl (aH y)
 have hax:=fun st=>J2 x st hx
 have hay:=fun st=>J2 y st hy
 unfold xW both
 simp only[aU,aZ,aV]
 refine wF [1000000] 1 func295 ntmps295 rfl rfl ?_
 intro _
 simp only[dR,aT,aH,aA,seval,TC]
 refine(hax _).to ?_
 generalize x.ev.1=a at *
 generalize x.ev.2=ca at *
 generalize y.ev.1=b at *
 generalize y.ev.2=cb at *
 simp only[aA,seval]
 refine aP (fun h4=>?_) (fun h4=>?_)
 · simp only[aA,seval]
   have h4':ca≠0:=by simpa using h4
   rw[aJ h4']
 have h4':ca=0:=by simpa using h4
 subst h4'
 rw[aF (by simp)]
 simp only[fR,aT,aH,aA,seval,TC]
 refine(hay _).to ?_
 simp only[aA,seval]
 refine aP (fun h5=>?_) (fun h5=>?_)
 · simp only[aA,seval]
   have h5':cb≠0:=by simpa using h5
   rw[aJ h5']
 have h5':cb=0:=by simpa using h5
 subst h5'
 rw[aF (by simp)]
 simp only[aA,seval,TC]
 refine(aUO s a b _).to ?_
 simp only[aA,seval]
 refine(sT _ _).to ?_
 simp only[aA,seval]
abbrev EE:=zi aX (zi bZ (zi cJ (zi bS bQ)))
theorem aUQ(n:Int)(s:ByteArray)(x:Tm)(hs:s=⟨#[118,97,114]⟩∨s=⟨#[110,111,110,118,97,114]⟩∨s=⟨#[97,116,111,109]⟩∨s=⟨#[105,110,116]⟩)(st:aB) :
 aD prog 296 [(Tm.mk 3 n s [x]).av] st (fun r st'=>r=.int .i64 (iO (tL s x))∧st'=st):=by
 obtain⟨xk,xn,xs,xt⟩:=x
 have dR:c9 prog 34 (.slice [(Tm.mk xk xn xs xt).av]) (.int .i64 0)=some (.pptr (Tm.mk xk xn xs xt).av):=bD (av:=Tm.av) (l:=[Tm.mk xk xn xs xt]) (i:=0) a8 rfl (aH _)
 simp only[aU] at dR
 simp only[aZ,aV,aU]
 refine wF [1000000] 1 func296 ntmps296 rfl rfl ?_
 intro _
 simp only[dR,aA,↓aR,seval,EE]
 refine aP (fun h=>?_) (fun h=>?_)
 · have hs':s=⟨#[118,97,114]⟩:=by simpa using h
   subst hs'
   simp only[aA,seval,EE]
   refine(sT _ _).to ?_
   simp only[aA,seval]
   rfl
 have h1:s≠⟨#[118,97,114]⟩:=by simpa using h
 simp only[aA,seval]
 refine aP (fun h=>?_) (fun h=>?_)
 · have hs':s=⟨#[110,111,110,118,97,114]⟩:=by simpa using h
   subst hs'
   simp only[aA,seval,EE]
   refine(sT _ _).to ?_
   simp only[aA,seval]
   rfl
 have h2:s≠⟨#[110,111,110,118,97,114]⟩:=by simpa using h
 simp only[aA,seval]
 refine aP (fun h=>?_) (fun h=>?_)
 · have hs':s=⟨#[105,110,116]⟩:=by simpa using h
   subst hs'
   simp only[aA,seval,EE]
   refine(sT _ _).to ?_
   simp only[aA,seval]
   rfl
 have h3:s≠⟨#[105,110,116]⟩:=by simpa using h
 have hs':s=⟨#[97,116,111,109]⟩:=by simpa [h1,h2,h3] using hs
 subst hs'
 have et:tL ⟨#[97,116,111,109]⟩ (Tm.mk xk xn xs xt)=(decide (xk=3)&&decide ((xt.length:Int)=0)):=rfl
 rw[et]
 simp only[aA,seval,EE]
 refine cU (fun h4=>?_) (fun h4=>?_)
 · simp only[h4,aE,aA,seval,EE]
   refine(sT _ _).to ?_
   simp only[aA,seval]
 · simp only[h4,aA,seval]
   refine(sT _ _).to ?_
   simp only[aA,seval]
   simp at h4;simp []
def rN(x y:Tm):Tm×Int:=if x.k=1∨y.k=1 then(Tm.zero,2) else if x.k≠2∨y.k≠3∨y.ts.length=0 then(Tm.zero,3) else match m7 x y with
 | some u=>(u,0)
 | none=>(Tm.zero,1)
abbrev oU:=zi aX (zi bS bQ)
theorem aUK{N:Int}(n:Int)(s:ByteArray)(x y z:Tm)(hy:cM N y)(st:aB):aD prog 293 [(Tm.mk 3 n s [x,y,z]).av] st (fun r st'=>r=.tup [(rN x y).1.av,.int .i64 (rN x y).2]∧st'=st):=by
 have dR:c9 prog 34 (.slice [x.av,y.av,z.av]) (.int .i64 0)=some (.pptr x.av):=bD (av:=Tm.av) (l:=[x,y,z]) (i:=0) a8 rfl (aH x)
 have fR:c9 prog 34 (.slice [x.av,y.av,z.av]) (.int .i64 1)=some (.pptr y.av):=bD (av:=Tm.av) (l:=[x,y,z]) (i:=1) a8 rfl (aH y)
 obtain⟨xk,xn,xs,xt⟩:=x
 obtain⟨yk,yn,ys,yt⟩:=y
 have hyl:yt.length≤4:=by
  exact hy.kind.2
 rw[aU] at dR
 simp only[aU xk,aU yk] at dR fR
 unfold rN
 simp only[aU 3,aZ,aV,aU xk,aU yk,Tm.k,Tm.ts]
 refine aD.done ?_
 refine wF [1000000] 1 func293 ntmps293 rfl rfl ?_
 intro _
 simp only[dR,fR,aA,↓aR,seval,oU]
 intro b hb
 have pG:∀o (p:Tm×Int) (k:Int),p=(Tm.zero,k)→(AV.tup [.agg [.int .i64 0,.int .i64 0,.str ⟨#[]⟩,.fslice []],.int .i64 k]).soft=.tup [p.1.av,.int .i64 p.2]∧aL (st.aC b o) st:=fun o p k e=>by
  rw[e]
  exact⟨by simp only[Tm.zero,aU,jC,iT,jN,k8,k7,aZ,aV,aV],(aL.refl _).aC hb⟩
 refine cU (fun h=>?_) (fun h=>?_)
 case refine_2=>
  have h':xk=1:=by simpa using h
  simp only[h,aK,aA,seval,oU]
  exact pG _ _ 2 (aJ (.inl h'))
 have hx1:xk≠1:=by simpa using h
 simp only[h,aA,seval,oU]
 refine aP (fun h1=>?_) (fun h1=>?_)
 · have h':yk=1:=by simpa using h1
   simp only[aK,aA,seval,oU]
   exact pG _ _ 2 (aJ (.inr h'))
 have hy1:yk≠1:=by simpa using h1
 rw[aF (fun h2=>h2.elim hx1 hy1)]
 simp only[aA,seval,oU]
 refine cU (fun h4=>?_) (fun h4=>?_)
 case refine_2=>
  have h':xk≠2:=by simpa using h4
  simp only[h4,aK,aA,seval,oU]
  exact pG _ _ 3 (aJ (.inl h'))
 have hx2:xk=2:=by simpa using h4
 simp only[h4,aA,seval,oU]
 refine cU (fun h5=>?_) (fun h5=>?_)
 case refine_2=>
  have h':yk≠3:=by simpa using h5
  simp only[h5,aK,aA,seval,oU]
  exact pG _ _ 3 (aJ (.inr (.inl h')))
 have hy3:yk=3:=by simpa using h5
 simp only[h5,aE,aA,seval,oU]
 refine aP (fun h6=>?_) (fun h6=>?_)
 · have h':yt.length=0:=by simp at h6;simp [h6]
   simp only[aK,aA,seval,oU]
   exact pG _ _ 3 (aJ (.inr (.inr h')))
 have hyt:yt.length≠0:=by simp at h6;simpa using h6
 rw[aF (by simp [hx2,hy3];intro h7;simp [h7] at hyt)]
 simp only[aA,seval,oU]
 have hno:¬(1≤xn∧xn≤yt.length)→(match m7 (.mk xk xn xs xt) (.mk yk yn ys yt) with | some u=>(u,(0:Int)) | none=>(Tm.zero,1))=(Tm.zero,(1:Int)):=fun h'=>by
  have ea:m7 (.mk xk xn xs xt) (.mk yk yn ys yt)=none:=aF h'
  rw[ea]
 refine cU (fun h7=>?_) (fun h7=>?_)
 case refine_2=>
  have h':xn<1:=by simpa using h7
  simp only[h7,aK,aA,seval,oU]
  exact pG _ _ 1 (hno (by omega))
 have hl1:¬xn<1:=by simpa using h7
 simp only[h7,aE,aA,seval,oU]
 refine aP (fun h8=>?_) (fun h8=>?_)
 · have h':(yt.length:Int)<xn:=by simpa using h8
   simp only[aK,aA,seval,oU]
   exact pG _ _ 1 (hno (by omega))
 have hl2:¬(yt.length:Int)<xn:=by simpa using h8
 have h':1≤xn∧xn≤yt.length:=by omega
 obtain⟨i,hi⟩:∃i:Nat,xn - 1=i:=⟨(xn - 1).toNat,by omega⟩
 have hlt:i<yt.length:=by omega
 obtain⟨u,hu⟩:∃u,yt[i]?=some u:=⟨_,eN hlt⟩
 have ea:m7 (.mk xk xn xs xt) (.mk yk yn ys yt)=some u:=by
  refine(aJ h').trans ?_
  show yt[(xn - 1).toNat]?=some u
  rw[hi,kX,hu]
 rw[ea]
 have hw:IntKind.i64.wrap (xn - 1)=(i:Int):=by rw[wrap64 (by omega) (by omega)];exact hi
 have QB:=bD (av:=Tm.av) (P:=prog) a8 hu (aH u)
 simp only[bR,bT,eJ (bR _),eE (aT _),QB,hw,aT,aH,aK,aA,seval,oU]
 exact⟨by simp only[iT,jN,Tm.soft,aZ,aV,Tm.soft],(aL.refl _).aC hb⟩
theorem a2E(n:Int):(nZ n).av=(Tm.mk 2 n ⟨#[]⟩ []).av:=rfl
end Go.AW
