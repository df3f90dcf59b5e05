/- Substitutions, variables that are walked, unification: plain data. -/
import Derived.Test.YtlepdbmhjkmelaaGreatDoorWqj
import Derived.Test.YtlepdbmhjkmelaaGreatDoorWqi
import Derived.Test.YtlepdbmhjkmelaaGreatDoorWqg
set_option linter.unusedSimpArgs false
set_option linter.unusedVariables false
set_option maxRecDepth 100000
namespace Go.AW
def Tm.k:Tm→Int | .mk k _ _ _=>k
def Tm.n:Tm→Int | .mk _ n _ _=>n
def Tm.s:Tm→ByteArray | .mk _ _ s _=>s
def Tm.ts:Tm→List Tm | .mk _ _ _ ts=>ts
theorem Tm.eta(t:Tm):t=.mk t.k t.n t.s t.ts:=by cases t;rfl
def vr(n:Int):Tm:=.mk 1 n ⟨#[]⟩ []
mutual
def Tm.aL(f:Int→Tm):Tm→Tm
 | .mk k n s ts=>if k=1 then f n else .mk k n s (NY f ts)
def NY(f:Int→Tm):List Tm→List Tm
 | []=>[]
 | t::ts=>t.aL f::NY f ts
end
theorem aP6(f:Int→Tm):∀ts:List Tm,NY f ts=ts.map (Tm.aL f)
 | []=>rfl
 | t::ts=>by simp only[NY,bR,aP6 f ts]
theorem Tm.mG(f:Int→Tm){k n:Int}{s:ByteArray}{ts:List Tm}(h:k=1):(Tm.mk k n s ts).aL f=f n:=by simp only[Tm.aL,h,dV]
theorem Tm.kA(f:Int→Tm){k n:Int}{s:ByteArray}{ts:List Tm}(h:k≠1):(Tm.mk k n s ts).aL f=.mk k n s (ts.map (Tm.aL f)):=by simp only[Tm.aL,h,cM,aP6]
theorem uJ(f:Int→Tm)(n:Int):(vr n).aL f=f n:=Tm.mG f rfl
mutual
def Tm.vl:Tm→List Int
 | .mk k n _ ts=>if k=1 then[n] else IZ ts
def IZ:List Tm→List Int
 | []=>[]
 | t::ts=>t.vl++IZ ts
end
theorem aQF{v:Int}:∀ {ts:List Tm},v∈IZ ts↔∃t∈ts,v∈t.vl
 | []=>by simp [IZ]
 | t::ts=>by simp [IZ,aQF (ts:=ts)]
theorem Tm.mZ{k n:Int}{s:ByteArray}{ts:List Tm}(h:k=1):(Tm.mk k n s ts).vl= [n]:=by simp only[Tm.vl,h,dV]
theorem Tm.kY{k n v:Int}{s:ByteArray}{ts:List Tm}(h:k≠1):v∈(Tm.mk k n s ts).vl↔∃t∈ts,v∈t.vl:=by simp only[Tm.vl,h,cM,aQF]
theorem zN(n:Int):(vr n).vl= [n]:=Tm.mZ rfl
theorem Tm.ind{p:Tm→Prop}(h:∀k n s ts,(∀t∈ts,p t)→p (.mk k n s ts)):∀t,p t
 | .mk k n s ts=>h k n s ts fun t ht=>Tm.ind h t
termination_by t=>SizeOf.sizeOf t
decreasing_by have:=List.sizeOf_lt_of_mem ht;simp only[Tm.mk.sizeOf_spec];omega
theorem o7{f g:Int→Tm}:∀(t:Tm),(∀v∈t.vl,f v=g v)→t.aL f=t.aL g:=by
 intro t
 induction t using Tm.ind with
 | h k n s ts ih=>
  intro h
  by_cases hk:k=1
  · rw[Tm.mG f hk,Tm.mG g hk];exact h n (by rw[Tm.mZ hk];simp)
  · rw[Tm.kA f hk,Tm.kA g hk]
    congr 1
    exact qK fun x hx=>ih x hx fun v hv=>h v ((Tm.kY hk).2 ⟨x,hx,hv⟩)
theorem uI(f g:Int→Tm)(t:Tm):(t.aL f).aL g=t.aL fun v=>(f v).aL g:=by
 induction t using Tm.ind with
 | h k n s ts ih=>
  by_cases hk:k=1
  · rw[Tm.mG f hk,Tm.mG _ hk]
  · rw[Tm.kA f hk,Tm.kA g hk,Tm.kA _ hk,uY]
    congr 1
    exact qK fun x hx=>ih x hx
theorem zL{f:Int→Tm}{w:Int}(t:Tm):w∈(t.aL f).vl↔∃v∈t.vl,w∈(f v).vl:=by
 induction t using Tm.ind with
 | h k n s ts ih=>
  by_cases hk:k=1
  · rw[Tm.mG f hk,Tm.mZ hk];simp
  · rw[Tm.kA f hk,Tm.kY hk]
    constructor
    · rintro⟨x,hx,hw⟩
      obtain⟨y,hy,rfl⟩:=cF.1 hx
      obtain⟨v,hv,hvw⟩:=(ih y hy).1 hw
      exact⟨v,(Tm.kY hk).2 ⟨y,hy,hv⟩,hvw⟩
    · rintro⟨v,hv,hw⟩
      obtain⟨y,hy,hvy⟩:=(Tm.kY hk).1 hv
      exact⟨_,cF.2 ⟨y,hy,rfl⟩,(ih y hy).2 ⟨v,hvy,hw⟩⟩
theorem a58{f:Int→Tm}{v:Int}:∀(t:Tm),v∈t.vl→(f v).nodes≤(t.aL f).nodes∧(t.k≠1→(f v).nodes<(t.aL f).nodes):=by
 intro t
 induction t using Tm.ind with
 | h k n s ts ih=>
  intro hv
  by_cases hk:k=1
  · rw[Tm.mZ hk] at hv
    simp only[cG,cX,dG] at hv
    subst hv
    rw[Tm.mG f hk]
    exact⟨cZ _,fun h=>absurd hk h⟩
  · obtain⟨x,hx,hvx⟩:=(Tm.kY hk).1 hv
    have h1:=(ih x hx hvx).1
    have h2:=pC (f:=Tm.nodes) (cF.2 ⟨x,hx,rfl⟩:x.aL f∈ts.map (Tm.aL f))
    rw[Tm.kA f hk,Tm.lJ]
    omega
abbrev Sub:=Int→Option Tm
def Sub.set(σ:Sub)(n:Int)(t:Tm):Sub:=fun m=>if m=n then some t else σ m
def Sub.none:Sub:=fun _=>Option.none
structure Good (σ:Sub) (R:Int→Tm) (rk:Int→Nat) (B:Nat):Prop where
 xN:∀n,R n=match σ n with | some u=>u.aL R | .none=>vr n
 H4:∀n u,σ n=some u→∀w∈u.vl,rk w<rk n
 bd:∀n,rk n<B
def rV(θ:Int→Tm)(σ:Sub):Prop:=∀n u,σ n=some u→θ n=u.aL θ
section
variable {σ:Sub} {R R':Int→Tm} {rk rk':Int→Nat} {B B':Nat}
theorem Good.none:Good Sub.none vr (fun _=>0) 1:=⟨fun n=>rfl,fun n u h=>(by cases h),fun n=>Nat.zero_lt_one⟩
theorem Good.free(G:Good σ R rk B){n:Int}(h:σ n=.none):R n=vr n:=by rw[G.xN n,h]
theorem Good.bound(G:Good σ R rk B){n:Int}{u:Tm}(h:σ n=some u):R n=u.aL R:=by rw[G.xN n,h]
theorem Good.xA(G:Good σ R rk B):rV R σ:=fun n u h=>G.bound h
theorem Good.ind(G:Good σ R rk B){p:Int→Prop}(h0:∀n,σ n=.none→p n)(h1:∀n u,σ n=some u→(∀w∈u.vl,p w)→p n):∀n,p n:=by
 intro n
 generalize hk:rk n=k
 induction k using Nat.strongRecOn generalizing n with
 | _ k ih=>
  cases h:σ n with
  | none=>exact h0 n h
  | some u=>exact h1 n u h fun w hw=>ih (rk w) (hk▸G.H4 n u h w hw) w rfl
theorem Good.uniq(G:Good σ R rk B)(G':Good σ R' rk' B'):R=R':=by
 funext n
 refine G.ind (p:=fun n=>R n=R' n) (fun n h=>?_) (fun n u h ih=>?_) n
 · rw[G.free h,G'.free h]
 · rw[G.bound h,G'.bound h];exact o7 u ih
theorem Good.a1H(G:Good σ R rk B){θ:Int→Tm}(S:rV θ σ)(n:Int):(R n).aL θ=θ n:=by
 refine G.ind (p:=fun n=>(R n).aL θ=θ n) (fun n h=>?_) (fun n u h ih=>?_) n
 · rw[G.free h,uJ]
 · rw[G.bound h,uI,S n u h];exact o7 u ih
theorem Good.Q4(G:Good σ R rk B){θ:Int→Tm}(S:rV θ σ)(t:Tm):(t.aL R).aL θ=t.aL θ:=by
 rw[uI];exact o7 t fun v _=>G.a1H S v
theorem Good.canon(G:Good σ R rk B)(n:Int):(R n).aL vr=R n:=by
 refine G.ind (p:=fun n=>(R n).aL vr=R n) (fun n h=>?_) (fun n u h ih=>?_) n
 · rw[G.free h,uJ]
 · rw[G.bound h,uI];exact o7 u ih
theorem Good.aWX(G:Good σ R rk B)(t:Tm):(t.aL R).aL vr=t.aL R:=by
 rw[uI];exact o7 t fun v _=>G.canon v
theorem Good.bind(G:Good σ R rk B){n:Int}{t:Tm}(hn:σ n=.none)(ho:n∉(t.aL R).vl) :
 ∃rk' B',Good (σ.set n t) (fun m=>(R m).aL fun v=>if v=n then t.aL R else vr v) rk' B':=by
 have key:(t.aL R).aL (fun v=>if v=n then t.aL R else vr v)=t.aL R:=by
  rw[o7 (g:=vr) (t.aL R) (fun v hv=>aK fun e=>ho (by rw[←e];exact hv)),G.aWX]
 refine⟨fun v=>if n∈(R v).vl then rk v+B else rk v,B+B,fun m=>?_,fun m u h w hw=>?_,fun m=>?_⟩
 · by_cases hm:m=n
   · subst hm
     simp only[Sub.set,dV]
     rw[G.free hn,uJ,aN rfl]
     rw[←uI,key]
   · simp only[Sub.set,hm,cM]
     cases h:σ m with
     | none=>rw[G.free h,uJ,aK hm]
     | some u=>rw[G.bound h,uI]
 · by_cases hm:m=n
   · subst hm
     simp only[Sub.set,dV,Option.some.injEq] at h
     subst h
     have hw':m∉(R w).vl:=fun h=>ho ((zL t).2 ⟨w,hw,h⟩)
     have:m∈(R m).vl:=by rw[G.free hn,zN];simp
     have:=G.bd w
     simp only[hw',cM]
     rw[aN (by assumption)]
     omega
   · simp only[Sub.set,hm,cM] at h
     have h1:=G.H4 m u h w hw
     by_cases hw':n∈(R w).vl
     · have:n∈(R m).vl:=by rw[G.bound h];exact(zL u).2 ⟨w,hw,hw'⟩
       simp only[hw',this,dV];omega
     · simp only[hw',cM];split<;>omega
 · have:=G.bd m
   split<;>omega
end
open Classical in
noncomputable def rs(σ:Sub):Int→Tm:=if h:∃R rk B,Good σ R rk B then h.choose else vr
theorem Good.rs{σ:Sub}{R:Int→Tm}{rk:Int→Nat}{B:Nat}(G:Good σ R rk B):rs σ=R:=by
 unfold AW.rs
 have h:∃R rk B,Good σ R rk B:=⟨R,rk,B,G⟩
 rw[dif_pos h]
 obtain⟨rk',B',G'⟩:=h.choose_spec
 exact G'.uniq G
inductive f9 (σ:Sub):Nat→Tm→Tm→Prop
 | stop {t:Tm} (h:t.k=1→σ t.n=none):f9 σ 0 t t
 | go {f:Nat} {t u v:Tm} (h1:t.k=1) (h2:σ t.n=some u) (h3:f9 σ f u v):f9 σ (f+1) t v
theorem f9.det{σ:Sub}{f g:Nat}{t u v:Tm}(h:f9 σ f t u):f9 σ g t v→u=v:=by
 induction h generalizing g v with
 | stop h=>
  intro h'
  cases h' with
  | stop=>rfl
  | go h1 h2 h3=>rw[h h1] at h2;cases h2
 | go h1 h2 h3 ih=>
  intro h'
  cases h' with
  | stop h=>rw[h h1] at h2;cases h2
  | go h1' h2' h3'=>rw[h2] at h2';cases h2';exact ih h3'
theorem f9.total{σ:Sub}{R:Int→Tm}{rk:Int→Nat}{B:Nat}(G:Good σ R rk B)(t:Tm):∃f u,f9 σ f t u:=by
 have key:∀n,∀t:Tm,t.k=1→t.n=n→∃f u,f9 σ f t u:=by
  intro n
  refine G.ind (p:=fun n=>∀t:Tm,t.k=1→t.n=n→∃f u,f9 σ f t u) (fun n h t hk hn=>?_) (fun n u h ih t hk hn=>?_) n
  · exact⟨0,t,.stop fun _=>by rw[hn,h]⟩
  · by_cases hu:u.k=1
    · have:u.n∈u.vl:=by rw[Tm.eta u,Tm.mZ hu];simp [Tm.n]
      obtain⟨f,v,hv⟩:=ih u.n this u hu rfl
      exact⟨f+1,v,.go hk (by rw[hn,h]) hv⟩
    · exact⟨1,u,.go hk (by rw[hn,h]) (.stop fun h=>absurd h hu)⟩
 by_cases hk:t.k=1
 · exact key t.n t hk rfl
 · exact⟨0,t,.stop fun h=>absurd h hk⟩
theorem Tm.FL{t:Tm}(h:t.k=1):t.vl= [t.n]:=by cases t;exact Tm.mZ h
theorem Tm.D5{t:Tm}(f:Int→Tm)(h:t.k=1):t.aL f=f t.n:=by cases t;exact Tm.mG f h
theorem Tm.rF{t:Tm}(f:Int→Tm)(h:t.k≠1):t.aL f=.mk t.k t.n t.s (t.ts.map (Tm.aL f)):=by cases t;exact Tm.kA f h
theorem f9.end{σ:Sub}{f:Nat}{t u:Tm}(h:f9 σ f t u):u.k=1→σ u.n=none:=by induction h with | stop h=>exact h | go _ _ _ ih=>exact ih
theorem f9.aL{σ:Sub}{θ:Int→Tm}(S:rV θ σ){f:Nat}{t u:Tm}(h:f9 σ f t u):u.aL θ=t.aL θ:=by
 induction h with
 | stop=>rfl
 | go h1 h2 _ ih=>rw[ih,Tm.D5 θ h1,S _ _ h2]
theorem f9.H4{σ:Sub}{R:Int→Tm}{rk:Int→Nat}{B:Nat}(G:Good σ R rk B){f:Nat}{t u:Tm}(h:f9 σ f t u):∀w∈u.vl,∃v∈t.vl,rk w≤rk v∧(f≠0→rk w<rk v):=by
 induction h with
 | stop h=>exact fun w hw=>⟨w,hw,cZ _,fun h=>absurd rfl h⟩
 | @go f t u v h1 h2 _ ih=>
  intro w hw
  obtain⟨x,hx,hle,_⟩:=ih w hw
  have:=G.H4 _ _ h2 x hx
  exact⟨t.n,by rw[Tm.FL h1];simp,by omega,fun _=>by omega⟩
theorem f9.all{σ:Sub}{p:Tm→Prop}(hp:∀n u,σ n=some u→p u){f:Nat}{t u:Tm}(h:f9 σ f t u)(ht:p t):p u:=by
 induction h with
 | stop=>exact ht
 | go _ h2 _ ih=>exact ih (hp _ _ h2)
open Classical in
noncomputable def wk(σ:Sub)(t:Tm):Tm:=if h:∃u f,f9 σ f t u then h.choose else t
theorem f9.wk{σ:Sub}{f:Nat}{t u:Tm}(h:f9 σ f t u):wk σ t=u:=by
 unfold AW.wk
 have h':∃u f,f9 σ f t u:=⟨u,f,h⟩
 rw[dif_pos h']
 obtain⟨g,hg⟩:=h'.choose_spec
 exact hg.det h
theorem Good.wk{σ:Sub}{R:Int→Tm}{rk:Int→Nat}{B:Nat}(G:Good σ R rk B)(t:Tm):∃f,f9 σ f t (wk σ t):=by
 obtain⟨f,u,h⟩:=f9.total G t
 exact⟨f,by rw[h.wk];exact h⟩
open Classical in
noncomputable def j6(σ:Sub)(n:Int)(t:Tm):Bool×Sub×List Int:=if n∈(t.aL (rs σ)).vl then(false,σ,[]) else(true,Sub.set σ n t,[n])
open Classical in
def vG(a b:Tm):Bool:=decide (a.k=b.k)&&decide (a.n=b.n)&&decide (a.s=b.s)&&decide (a.ts.length=b.ts.length)
mutual
noncomputable def dK:Nat→Sub→Tm→Tm→Option (Bool×Sub×List Int)
 | 0,_,_,_=>none
 | g+1,σ,a,b=>
  if(wk σ a).k=1∧(wk σ b).k=1∧(wk σ a).n=(wk σ b).n then some (true,σ,[])
  else if(wk σ a).k=1 then some (j6 σ (wk σ a).n (wk σ b))
  else if(wk σ b).k=1 then some (j6 σ (wk σ b).n (wk σ a))
  else if vG (wk σ a) (wk σ b)=true then eJ g σ (wk σ a).ts (wk σ b).ts
  else some (false,σ,[])
termination_by g=>(g,0)
noncomputable def eJ:Nat→Sub→List Tm→List Tm→Option (Bool×Sub×List Int)
 | g,σ,a::xs,b::ys=>match dK g σ a b with
  | none=>none
  | some (false,σ',tr)=>some (false,σ',tr)
  | some (true,σ',tr)=>match eJ g σ' xs ys with
   | none=>none
   | some (r,σ'',tr')=>some (r,σ'',tr++tr')
 | _,σ,_,_=>some (true,σ,[])
termination_by g _ xs=>(g,xs.length+1)
end
theorem OC{g:Nat}{σ σ':Sub}{a b:Tm}{r:Bool}{add:List Int}(h:dK (g+1) σ a b=some (r,σ',add)) :
 ((wk σ a).k=1∧(wk σ b).k=1∧(wk σ a).n=(wk σ b).n∧true=r∧σ=σ'∧[]=add) ∨
 ((wk σ a).k=1∧¬((wk σ b).k=1∧(wk σ a).n=(wk σ b).n)∧j6 σ (wk σ a).n (wk σ b)=(r,σ',add)) ∨
 ((wk σ a).k≠1∧(wk σ b).k=1∧j6 σ (wk σ b).n (wk σ a)=(r,σ',add)) ∨
 ((wk σ a).k≠1∧(wk σ b).k≠1∧vG (wk σ a) (wk σ b)=true∧eJ g σ (wk σ a).ts (wk σ b).ts=some (r,σ',add)) ∨
 ((wk σ a).k≠1∧(wk σ b).k≠1∧vG (wk σ a) (wk σ b)=false∧false=r∧σ=σ'∧[]=add):=by
 rw[dK] at h
 split at h
 · rename_i h1;exact .inl ⟨h1.1,h1.2.1,h1.2.2,by simpa using h⟩
 · rename_i h1
   split at h
   · rename_i h2;exact .inr (.inl ⟨h2,fun h3=>h1 ⟨h2,h3⟩,nP h⟩)
   · rename_i h2
     split at h
     · rename_i h3;exact .inr (.inr (.inl ⟨h2,h3,nP h⟩))
     · rename_i h3
       split at h
       · rename_i h4;exact .inr (.inr (.inr (.inl ⟨h2,h3,h4,h⟩)))
       · rename_i h4;exact .inr (.inr (.inr (.inr ⟨h2,h3,by simpa using h4,by simpa using h⟩)))
theorem Tm.soft(t:Tm):t.av.soft=t.av:=by cases t;simp [bD,AV.soft,pB]
theorem Tm.AM(t:Tm)(b:Nat):t.av.fin b []=t.av:=Tm.soft t
def Tm.zero:Tm:=.mk 0 0 ⟨#[]⟩ []
mutual
def Tm.cv:Tm→Bool
 | .mk k _ s ts=>(!decide (k=1)||(decide (s=⟨#[]⟩)&&ts.isEmpty))&&NV ts
def NV:List Tm→Bool
 | []=>true
 | t::ts=>t.cv&&NV ts
end
theorem aP3:∀(ts:List Tm),NV ts=ts.all Tm.cv
 | []=>rfl
 | t::ts=>by simp only[NV,jK,aP3 ts]
theorem Tm.oR{k n:Int}{s:ByteArray}{ts:List Tm}:(Tm.mk k n s ts).cv=true↔(k=1→s=⟨#[]⟩∧ts= [])∧∀x∈ts,x.cv=true:=by
 simp only[Tm.cv,aP3,cY,tF,gZ,cL,List.isEmpty_iff,fU,bM]
 constructor
 · exact fun h=>⟨fun hk=>h.1.resolve_left (fun hn=>hn hk),h.2⟩
 · intro h
   refine⟨?_,h.2⟩
   by_cases hk:k=1
   · exact .inr (h.1 hk)
   · exact .inl hk
theorem Tm.tT:∀(t:Tm),t.cv=true→t.wf=true:=by
 intro t
 induction t using Tm.ind with
 | h k n s ts ih=>
  intro h
  obtain⟨h1,h2⟩:=Tm.oR.1 h
  simp only[Tm.wf,VF,cY,tF,gZ,cL,List.isEmpty_iff,fU]
  refine⟨?_,fun x hx=>ih x hx (h2 x hx)⟩
  by_cases hk:k=1
  · exact .inr (h1 hk).2
  · exact .inl hk
theorem Tm.aXN{t:Tm}(h:t.cv=true)(hk:t.k=1):t=vr t.n:=by
 obtain⟨k,n,s,ts⟩:=t
 obtain⟨h1,_⟩:=Tm.oR.1 h
 simp only[Tm.k] at hk
 subst hk
 obtain⟨rfl,rfl⟩:=h1 rfl
 rfl
theorem Tm.a75:∀(t:Tm) (d:Int),t.shape d=true→t.small=true:=by
 intro t
 induction t using Tm.ind with
 | h k n s ts ih=>
  intro d h
  rw[Tm.H9] at h
  simp only[cY,fU] at h
  obtain⟨⟨_,h1⟩,h2⟩:=h
  simp only[Tm.small,IY,cY,bM,fU]
  refine⟨?_,fun x hx=>ih x hx _ (h2 x hx)⟩
  unfold fB at h1
  cases h3:decide (k=1)<;>rw[h3] at h1
  · cases h4:decide (k=2)<;>rw[h4] at h1
    · cases h5:decide (k=3)<;>rw[h5] at h1<;>simp at h1;omega
    · simp at h1;rw[h1.2];simp
  · simp at h1;rw[h1.2];simp
theorem Tm.bAR{t:Tm}(h:t.valid=true):t.small=true:=by simp only[Tm.valid,cY] at h;exact Tm.a75 t 30 h.1
def oZ{α:Type}(p:α→Bool):List α→Int→Int
 | [],_=> -1
 | x::xs,i=>if p x=true then i else oZ p xs (i+1)
theorem SK{α:Type}(p:α→Bool):∀(l:List α) (i:Int),0≤i→(oZ p l i= -1∧l.any p=false)∨∃(j:Nat) (x:α),oZ p l i=i+j∧l[j]?=some x∧p x=true∧l.any p=true∧∀(k:Nat) y,k<j→l[k]?=some y→p y=false
 | [],i,_=>.inl ⟨rfl,rfl⟩
 | x::xs,i,h=>by
  by_cases hp:p x=true
  · exact .inr ⟨0,x,by simp [oZ,hp],rfl,hp,by simp [hp],fun k y hk=>absurd hk (Nat.not_lt_zero k)⟩
  · rcases SK p xs (i+1) (by omega) with ⟨h1,h2⟩ | ⟨j,y,h1,h2,h3,h4,h5⟩
    · exact .inl ⟨by simp [oZ,hp,h1],by simp [hp,h2]⟩
    · refine .inr ⟨j+1,y,by simp only[oZ,hp,h1];simp;omega,by simpa using h2,h3,by simp [h4],fun k z hk hz=>?_⟩
      cases k with
      | zero=>simp at hz;subst hz;simpa using hp
      | succ k=>exact h5 k z (by omega) (by simpa using hz)
theorem a4N{α:Type}(p:α→Bool)(l:List α):decide (0≤oZ p l 0)=l.any p:=by
 rcases SK p l 0 (Int.le_refl 0) with ⟨h1,h2⟩ | ⟨j,y,h1,_,_,h4,_⟩
 · rw[h1,h2];try rfl
 · rw[h1,h4];simp
end Go.AW
namespace Go.AW
open Go.Proofs.Tryz

abbrev aPU:=zi aX (zi dD iP)
theorem XN(l:List Int)(v:Int)(st:aA):aD prog 217 [.slice (l.map iv),.int .i64 v] st (fun r st'=>r=.int .i64 (eN v l 0)∧st'=st):=by
 refine wF [] 2 func217 ntmps217 rfl rfl ?_
 simp only[cV,AV.fits,dE,aE]
 intro ⟨hl,_⟩
 simp only[aE,aB,seval,aPU]
 refine dI (σ:=Unit) [] [0,1,7] l (fun i _=>eN v l 0=eN v (l.drop i) i) (fun i _=>[(8,.int .i64 i)]) (fun _ _=>st) (by decide +kernel) ⟨(),rfl,aP.mk (by simp only[aB,↓aW,seval])⟩ (fun i x _ hx hlt a7 hdr hinv=>?_) (fun _ hge hinv=>?_)
 case refine_2=>
  simp only[hge,aB,seval]
  rw[hinv,iA]
  try rfl
 rw[hdr,eN] at hinv
 have hw:=aZ (n:=(i:Int)+1)
 simp only[a7,bH (av:=iv) iL hx rfl,aB,seval,aPU]
 refine aQ (fun h=>?_) (fun h=>?_)
 · simp only[bM] at h
   rw[aN h] at hinv
   simp only[hinv,aB,seval]
 · simp only[cL] at h
   rw[aK h] at hinv
   simp only[aB,seval]
   exact⟨(),by rw[hinv],aP.mk (by simp only[hw,aB,seval])⟩
theorem aTM(l:List Int)(v:Int)(st:aA):aD prog 200 [.slice (l.map iv),.int .i64 v] st (fun r st'=>r=.bool (decide (v∈l))∧st'=st):=by
 refine wF [] 2 func200 ntmps200 rfl rfl ?_
 intro _
 simp only[aB,seval]
 refine(XN l v st).to ?_
 simp only[aLU v l 0 (Int.le_refl 0),aB,seval]
theorem a71{st:aA}{b:Nat}{l:List Int}{os xs:List AV}(h:Seen (bK st b (l.map iv)) dJ os xs):Seen (bK st b (l.map iv)) dJ (bQ 1 b (l.map iv)::os) (.slice (l.map iv)::xs):=
 Seen.own (SZ (aV.flat (by simp [AV.flat])) (by intro e h;simp only[cF] at h;obtain⟨t,_,rfl⟩:=h;rfl)) h
def Grown(st:aA)(l:List Int)(r:AV)(st':aA):Prop:=∃b',r=bQ 1 b' (l.map iv)∧st'=bK st b' (l.map iv)∧(l.map iv≠[]→st b'=none)
abbrev s9:=zi aX (zi cB (zi cI (zi cC iP)))
theorem XO:∀(t:Tm) (l:List Int) (b:Nat) (st:aA),(l.map iv≠[]→st b=none)→l.length+t.nodes≤1099511627776→aD prog 186 [t.av,bQ 1 b (l.map iv)] (bK st b (l.map iv)) (Grown st (t.vars l))
 | .mk k n s ts,l,b,st,hb,hsz=>by
  have IH:=fun(x:Tm) (hx:x∈ts)=>XO x
  simp only[Tm.vars]
  rw[Tm.lJ] at hsz
  refine wF [] 2 func186 ntmps186 rfl rfl ?_
  simp only[bD,cV,AV.fits,dE,aE]
  intro ⟨⟨_,_,_,hl,_⟩,_⟩
  simp only[aB,seval,s9]
  refine cP (fun h=>?_) (fun h=>?_)
  · simp only[bM] at h
    subst h
    simp only[aB,seval,s9]
    refine(aD.BQ (fun s=>aTM l n s) (a71 (Seen.same .nil)) rfl).to ?_
    simp only[aB,seval]
    refine aQ (fun h=>?_) (fun h=>?_)
    · simp only[gZ,cL] at h
      rw[aN h]
      simp only[aB,seval,s9]
      refine gA iL DE AK rfl rfl (g8 rfl rfl) (by intro e h;simp only[cF] at h;obtain⟨t,_,rfl⟩:=h;rfl) hb (by simp;omega) (by simp;omega) (fun b' hb'=>?_)
      rw[show l.map iv++ [AV.int .i64 n]=(l++ [n]).map iv by simp] at hb' ⊢
      simp only[aB,seval,s9]
      refine dI (σ:=List Int×Nat) [] [4,23,24] ts (fun i p=>cA (ts.drop i) p.1=cA ts (l++ [n])∧p.1.length+aH Tm.nodes (ts.drop i)≤1099511627776∧(p.1.map iv≠[]→st p.2=none)) (fun i p=>[(1,bQ 1 p.2 (p.1.map iv)),(25,.int .i64 i)]) (fun _ p=>bK st p.2 (p.1.map iv)) (by decide +kernel)
       ⟨(l++ [n],b'),⟨rfl,by simp;omega,hb'⟩,aP.mk (by simp only[aE,aB,↓aW,seval])⟩ (fun i x p hx hlt a7 hdr hinv=>?_) (fun p hge hinv=>?_)
      case refine_2=>
       simp only[aE,hge,aB,seval]
       rw[←hinv.1,iA]
       exact⟨p.2,rfl,rfl,hinv.2.2⟩
      obtain⟨acc,b⟩:=p
      rw[hdr] at hinv
      obtain⟨i1,i2,i3⟩:=hinv
      simp only[aH] at i2
      have hw:=aZ (n:=(i:Int)+1)
      simp only[aE,a7,bH (av:=Tm.av) bY hx (aT x),cD,aT,aB,seval,s9]
      intro b2 hb2
      obtain⟨hn2,hne⟩:=CS hb2
      have hc2: [AV.int IntKind.i64 0,AV.int IntKind.i64 0,AV.str ⟨#[]⟩,AV.fslice []].length=4:=rfl
      try simp only[dR,y7 (x:=x.av.cells) (Tm.gB x) hc2,Tm.gB,Tm.e9,rM (Tm.gB x),qS (cD x),cZ,aB,↓aW,seval,s9]
      rw[nR hne]
      refine(IH x (cH hx) acc b _ (fun h=>by rw[aA.aF _ _ (dA (hne h))];exact i3 h) (by omega)).mono ?_
      rintro _ _ ⟨b',rfl,rfl,hb'⟩
      simp only[hw,aB,seval]
      obtain⟨hd,AU⟩:=JV (o:=.cells x.av.cells) hn2 hb'
      have hvl:=Tm.FK x acc
      refine⟨(x.vars acc,b'),⟨i1,by simp only;omega,AU⟩,aP.drop hd (by simp only[aB,seval])⟩
    · simp only[kZ,bM] at h
      rw[aK (by simp [h])]
      simp only[aB,seval,s9]
      refine dI (σ:=List Int×Nat) [] [4,23,24] ts (fun i p=>cA (ts.drop i) p.1=cA ts (l)∧p.1.length+aH Tm.nodes (ts.drop i)≤1099511627776∧(p.1.map iv≠[]→st p.2=none)) (fun i p=>[(1,bQ 1 p.2 (p.1.map iv)),(25,.int .i64 i)]) (fun _ p=>bK st p.2 (p.1.map iv)) (by decide +kernel)
       ⟨(l,b),⟨rfl,by simp;omega,hb⟩,aP.mk (by simp only[aE,aB,↓aW,seval])⟩ (fun i x p hx hlt a7 hdr hinv=>?_) (fun p hge hinv=>?_)
      case refine_2=>
       simp only[aE,hge,aB,seval]
       rw[←hinv.1,iA]
       exact⟨p.2,rfl,rfl,hinv.2.2⟩
      obtain⟨acc,b⟩:=p
      rw[hdr] at hinv
      obtain⟨i1,i2,i3⟩:=hinv
      simp only[aH] at i2
      have hw:=aZ (n:=(i:Int)+1)
      simp only[aE,a7,bH (av:=Tm.av) bY hx (aT x),cD,aT,aB,seval,s9]
      intro b2 hb2
      obtain⟨hn2,hne⟩:=CS hb2
      have hc2: [AV.int IntKind.i64 0,AV.int IntKind.i64 0,AV.str ⟨#[]⟩,AV.fslice []].length=4:=rfl
      try simp only[dR,y7 (x:=x.av.cells) (Tm.gB x) hc2,Tm.gB,Tm.e9,rM (Tm.gB x),qS (cD x),cZ,aB,↓aW,seval,s9]
      rw[nR hne]
      refine(IH x (cH hx) acc b _ (fun h=>by rw[aA.aF _ _ (dA (hne h))];exact i3 h) (by omega)).mono ?_
      rintro _ _ ⟨b',rfl,rfl,hb'⟩
      simp only[hw,aB,seval]
      obtain⟨hd,AU⟩:=JV (o:=.cells x.av.cells) hn2 hb'
      have hvl:=Tm.FK x acc
      refine⟨(x.vars acc,b'),⟨i1,by simp only;omega,AU⟩,aP.drop hd (by simp only[aB,seval])⟩
  · simp only[fG,cL] at h
    rw[aK (by simp [h])]
    simp only[h,aB,seval,s9]
    refine dI (σ:=List Int×Nat) [] [4,23,24] ts (fun i p=>cA (ts.drop i) p.1=cA ts (l)∧p.1.length+aH Tm.nodes (ts.drop i)≤1099511627776∧(p.1.map iv≠[]→st p.2=none)) (fun i p=>[(1,bQ 1 p.2 (p.1.map iv)),(25,.int .i64 i)]) (fun _ p=>bK st p.2 (p.1.map iv)) (by decide +kernel)
     ⟨(l,b),⟨rfl,by simp;omega,hb⟩,aP.mk (by simp only[aE,aB,↓aW,seval])⟩ (fun i x p hx hlt a7 hdr hinv=>?_) (fun p hge hinv=>?_)
    case refine_2=>
     simp only[aE,hge,aB,seval]
     rw[←hinv.1,iA]
     exact⟨p.2,rfl,rfl,hinv.2.2⟩
    obtain⟨acc,b⟩:=p
    rw[hdr] at hinv
    obtain⟨i1,i2,i3⟩:=hinv
    simp only[aH] at i2
    have hw:=aZ (n:=(i:Int)+1)
    simp only[aE,a7,bH (av:=Tm.av) bY hx (aT x),cD,aT,aB,seval,s9]
    intro b2 hb2
    obtain⟨hn2,hne⟩:=CS hb2
    have hc2: [AV.int IntKind.i64 0,AV.int IntKind.i64 0,AV.str ⟨#[]⟩,AV.fslice []].length=4:=rfl
    try simp only[dR,y7 (x:=x.av.cells) (Tm.gB x) hc2,Tm.gB,Tm.e9,rM (Tm.gB x),qS (cD x),cZ,aB,↓aW,seval,s9]
    rw[nR hne]
    refine(IH x (cH hx) acc b _ (fun h=>by rw[aA.aF _ _ (dA (hne h))];exact i3 h) (by omega)).mono ?_
    rintro _ _ ⟨b',rfl,rfl,hb'⟩
    simp only[hw,aB,seval]
    obtain⟨hd,AU⟩:=JV (o:=.cells x.av.cells) hn2 hb'
    have hvl:=Tm.FK x acc
    refine⟨(x.vars acc,b'),⟨i1,by simp only;omega,AU⟩,aP.drop hd (by simp only[aB,seval])⟩
termination_by t=>SizeOf.sizeOf t
decreasing_by have:=List.sizeOf_lt_of_mem hx;simp only[Tm.mk.sizeOf_spec];omega
abbrev UY:=zi aX (zi cI (zi cC iP))
theorem QA(l:List Tm)(st:aA)(hsz:aH Tm.nodes l≤1099511627776):aD prog 175 [.slice (l.map Tm.av)] st (fun r st'=>r=.slice ((cA l []).map iv)∧st'=st):=by
 refine aD.fin ?_
 refine wF [] 1 func175 ntmps175 rfl rfl ?_
 simp only[cV,AV.fits,dE,aE]
 intro ⟨hl,_⟩
 simp only[aE,aB,seval,UY]
 refine dI (σ:=List Int×Nat) [] [2,6,7] l (fun i p=>cA (l.drop i) p.1=cA l ([])∧p.1.length+aH Tm.nodes (l.drop i)≤1099511627776∧(p.1.map iv≠[]→st p.2=none)) (fun i p=>[(3,bQ 1 p.2 (p.1.map iv)),(8,.int .i64 i)]) (fun _ p=>bK st p.2 (p.1.map iv)) (by decide +kernel)
  ⟨([],0),⟨rfl,by simp;omega,by simp⟩,aP.mk (by simp only[bS,lT,aB,↓aW,seval])⟩ (fun i x p hx hlt a7 hdr hinv=>?_) (fun p hge hinv=>?_)
 case refine_2=>
  simp only[hge,aB,seval]
  rw[←hinv.1,iA]
  exact⟨p.2,p.1.map iv,st,rfl,hinv.2.2,by simp [AV.bV],⟨1,aLZ p.1⟩,nT,rfl⟩
 obtain⟨acc,b⟩:=p
 rw[hdr] at hinv
 obtain⟨i1,i2,i3⟩:=hinv
 simp only[aH] at i2
 have hw:=aZ (n:=(i:Int)+1)
 simp only[a7,bH (av:=Tm.av) bY hx (aT x),cD,aT,aB,seval,UY]
 intro b2 hb2
 obtain⟨hn2,hne⟩:=CS hb2
 have mV:∀zs:List AV,zs.length=4→aM zs 0 x.av.cells=x.av.cells:=fun zs h=>y7 (Tm.gB x) h
 try simp only[dR,mV,Tm.gB,Tm.e9,rM (Tm.gB x),qS (cD x),cZ,aB,↓aW,seval,UY]
 rw[nR hne]
 refine(XO x acc b _ (fun h=>by rw[aA.aF _ _ (dA (hne h))];exact i3 h) (by omega)).mono ?_
 rintro _ _ ⟨b',rfl,rfl,hb'⟩
 simp only[hw,aB,seval]
 obtain⟨hd,AU⟩:=JV (o:=.cells x.av.cells) hn2 hb'
 have hvl:=Tm.FK x acc
 exact⟨(x.vars acc,b'),⟨i1,by simp only;omega,AU⟩,aP.drop hd (by simp only[aB,seval])⟩
abbrev IR:=zi aX (zi cI (zi cC iP))
theorem GR:∀(t:Tm) (l:List Int) (b:Nat) (st:aA),t.wf=true→(l.map iv≠[]→st b=none)→l.length+t.nodes≤1099511627776→aD prog 134 [bQ 1 b (l.map iv),t.av] (bK st b (l.map iv)) (Grown st (t.vars l))
 | .mk k n s ts,l,b,st,hwf,hb,hsz=>by
  obtain⟨hk,a4A⟩:=Tm.VQ hwf
  have IH:=fun(x:Tm) (hx:x∈ts) l b st=>GR x l b st (a4A x hx)
  have haL:=GI (w:=1) (b:=b) (l:=l.map iv) I0
  simp only[Tm.vars]
  rw[Tm.lJ] at hsz
  refine wF [] 2 func134 ntmps134 rfl rfl ?_
  simp only[bD,cV,AV.fits,dE,aE]
  intro ⟨_,⟨_,_,_,hl,_⟩⟩
  simp only[aB,seval,IR]
  refine aQ (fun h=>?_) (fun h=>?_)
  · simp only[bM] at h
    obtain rfl:=hk h
    subst h
    simp only[aB,seval]
    have hnn:l.length≤1099511627776:=by omega
    refine dI (σ:=Unit) [] [0,3] l (fun i _=>∀y∈l.take i,y≠n) (fun i _=>[(5,.int .i64 i)]) (fun _ _=>bK st b (l.map iv)) (by decide +kernel) ⟨(),by simp,aP.mk (by simp only[aB,↓aW,seval])⟩ (fun i x _ hx hlt a7 hdr hinv=>?_) (fun _ hge hinv=>?_)
    case refine_2=>
     rw[eD] at hinv
     have fZ:n∉l:=fun h=>hinv n h rfl
     simp only[haL,aE,hge,aB,seval,IR]
     refine gA iL DE AK rfl rfl (g8 rfl rfl) (aLZ l) hb (by simp;omega) (by simp;omega) (fun b' hb'=>?_)
     rw[show l.map iv++ [AV.int .i64 n]=(l++ [n]).map iv by simp] at hb' ⊢
     simp only[aB,seval]
     exact⟨b',by simp [cA,fZ],by simp [cA,fZ],by simp only[cA,fZ,EC,dV];exact hb'⟩
    have hat:=WY (b:=b) (l:=l.map iv) (i:=i) (x:=iv x) iL (by rw[kD,hx];try rfl)
    obtain⟨gD,mU⟩:=WZ (st:=st) (b:=b) hx
    have hw:=aZ (n:=(i:Int)+1)
    simp only[haL,aE,a7,aB,seval]
    refine yD mixed (by decide +kernel) (by decide +kernel) ?_
    simp only[hat,gD,mU,uZ,aB,seval,IR]
    refine aQ (fun h=>?_) (fun h=>?_)
    · simp only[bM] at h
      subst h
      have fZ:=cH hx
      simp only[aB,seval]
      exact⟨b,by simp [cA,fZ],by simp [cA,fZ],by simp only[cA,fZ,L9,cM];exact hb⟩
    · simp only[cL] at h
      simp only[aB,seval]
      refine⟨(),?_,aP.mk (by simp only[hw,aB,seval])⟩
      intro y hy
      rw[fN,hx] at hy
      rcases eL.1 hy with hy | hy
      · exact hinv y hy
      · simp at hy;subst hy;exact h
  · simp only[cL] at h
    rw[aK (by simp [h])]
    simp only[aB,seval]
    refine dI (σ:=List Int×Nat) [] [3,4] ts (fun i p=>cA (ts.drop i) p.1=cA ts l∧p.1.length+aH Tm.nodes (ts.drop i)≤1099511627776∧(p.1.map iv≠[]→st p.2=none)) (fun i p=>[(0,bQ 1 p.2 (p.1.map iv)),(6,.int .i64 i)]) (fun _ p=>bK st p.2 (p.1.map iv)) (by decide +kernel)
     ⟨(l,b),⟨rfl,by simp;omega,hb⟩,aP.mk (by simp only[aB,↓aW,seval])⟩ (fun i x p hx hlt a7 hdr hinv=>?_) (fun p hge hinv=>?_)
    case refine_2=>
     simp only[aE,hge,aB,seval,IR]
     rw[←hinv.1,iA]
     exact⟨p.2,rfl,rfl,hinv.2.2⟩
    obtain⟨acc,b⟩:=p
    rw[hdr] at hinv
    obtain⟨i1,i2,i3⟩:=hinv
    simp only[aH] at i2
    have hw:=aZ (n:=(i:Int)+1)
    simp only[aE,a7,bH (av:=Tm.av) bY hx (aT x),cD,aT,aB,seval,IR]
    refine(IH x (cH hx) acc b st i3 (by omega)).mono ?_
    rintro _ _ ⟨b',rfl,rfl,hb'⟩
    have hvl:=Tm.FK x acc
    simp only[hw,aB,seval]
    exact⟨(x.vars acc,b'),⟨i1,by simp only;omega,hb'⟩,aP.mk (by simp only[aB,seval])⟩
termination_by t=>SizeOf.sizeOf t
decreasing_by have:=List.sizeOf_lt_of_mem hx;simp only[Tm.mk.sizeOf_spec];omega
abbrev a9S:=zi aX (zi dD cC)
theorem P9(n:Int)(st:aA):aD prog 194 [.int .i64 n] st (fun r st'=>r=(vr n).av∧st'=st):=by
 refine aD.done ?_
 refine wF [1000000] 1 func194 ntmps194 rfl rfl ?_
 intro _
 simp only[aB,seval,a9S]
 intro b hb
 simp only[aM,aB,seval]
 exact⟨by simp only[vr,bD,vP,y8,BS,ID,bR,bS,bS],(aO.refl _).aC hb⟩
abbrev vW:=zi aX (zi cI cC)
theorem P1(f:Int→Tm)(g:FuncId)(cU:List AV)(DQ:lO cU=true):∀(t:Tm) (st:aA),t.small=true→(∀n∈t.vl,∀s,aD prog g (.int .i64 n::cU) s (fun r s'=>r=(f n).av∧s'=s)) →
 aD prog 215 [t.av,.func g cU] st (fun r st'=>r=(t.aL f).av∧st'=st)
 | .mk k n s ts,st,hsm,hg=>by
  obtain⟨hlen,sP⟩:=Tm.rJ hsm
  have IH:=fun(x:Tm) (hx:x∈ts) st h=>P1 f g cU DQ x st (sP x hx) h
  refine aD.oS (aD.fin ?_)
  simp only[bD]
  refine wF [1000000,2] 2 func215 ntmps215 rfl rfl ?_
  simp only[cV,AV.fits,dE,aE]
  intro ⟨_,_,_,hl,_⟩
  simp only[aB,seval,vW]
  intro c hc b2 hb2
  have hne:b2≠c:=by rintro rfl;rw[aA.aJ] at hb2;cases hb2
  have hn2:st b2=none:=by rw[aA.aF st _ hne] at hb2;exact hb2
  simp only[hne.symm,aB,seval]
  refine aQ (fun h=>?_) (fun h=>?_)
  · simp only[bM] at h
    subst h
    simp only[hne.symm,aB,seval,vW]
    refine(hg n (by rw[Tm.mZ rfl];simp) _).to ?_
    simp only[aB,seval,vW]
    refine⟨0,[],_,rfl,by simp,by simp,⟨4,by simp⟩,by rw[Tm.AM,Tm.mG f rfl],?_⟩
    exact((aO.refl _).aC hc).aC hn2
  simp only[cL] at h
  have hg':∀x∈ts,∀v∈x.vl,∀s,aD prog g (.int .i64 v::cU) s (fun r s'=>r=(f v).av∧s'=s):=fun x hx v hv=>hg v ((Tm.kY h).2 ⟨x,hx,hv⟩)
  simp only[hne.symm,aM,aE,aB,seval,vW]
  rw[aA.zJ hne]
  refine dI (σ:=Nat) [1000000] [1,2,4,18,19] ts (fun i b=>(((ts.take i).map (Tm.aL f)).map Tm.av≠[]→(aA.aC (st.aC b2 (.cells [AV.int .i64 0,AV.int .i64 0,AV.str ⟨#[]⟩,AV.fslice []])) c (.cells ([AV.int .i64 k,AV.int .i64 n,AV.str s]++ [bQ 4 b (((ts.take i).map (Tm.aL f)).map Tm.av)]))) b=none)) (fun i b=>[(20,.int .i64 i)]) (fun i b=>lH (st.aC b2 (.cells [AV.int .i64 0,AV.int .i64 0,AV.str ⟨#[]⟩,AV.fslice []])) c b [AV.int .i64 k,AV.int .i64 n,AV.str s] (((ts.take i).map (Tm.aL f)).map Tm.av)) (by decide +kernel)
   ⟨0,fun h=>absurd rfl h,aP.mk (by simp only[aB,↓aW,seval])⟩ (fun i x b hx hlt a7 hdr hinv=>?_) (fun b hge hinv=>?_)
  case refine_1=>
   have hw:=aZ (n:=(i:Int)+1)
   have dO:(((ts.take i).map (Tm.aL f)).map Tm.av).length=i:=by simp only[aE,dZ];omega
   have htk:(ts.take (i+1)).map (Tm.aL f)=(ts.take i).map (Tm.aL f)++ [(Tm.aL f) x]:=by rw[fN,hx];simp
   have hbo:=mF hinv
   simp only[a7,bH (av:=Tm.av) bY hx (aT x),aB,↓aW,seval,vW]
   refine wP [(0,1),(3,1),(1,2),(2,2),(4,2),(5,1),(6,0),(7,1),(8,0)] [0,3,1,2,4,5,7] mixed ?_
   simp only[cD,aT,hbo,rZ,aB,seval,vW]
   refine iD (IH x (cH hx) _ (hg' x (cH hx))) ?_
   simp only[cD,aT,Tm.fP,aB,seval,vW]
   refine gA bY lC lE rfl rfl (g8 (aT _) (Tm.e9 _)) (iX _) hinv (by simp only[dO,a8,bG];omega) (by simp only[dO,a8,bG];omega) (fun b' hb'=>?_)
   rw[show(((ts.take i).map (Tm.aL f)).map Tm.av)++ [((Tm.aL f) x).av]=((ts.take (i+1)).map (Tm.aL f)).map Tm.av by rw[htk];simp] at hb' ⊢
   obtain⟨g1,g2,g3⟩:=xB hb'
   simp only[gR,eE] at g1 g3
   simp only[g3,nS,iK,aM,g1,hw,aB,seval,vW]
   exact⟨b',g2,aP.mk (by simp only[aB,seval])⟩
  have hbo:=mF hinv
  rw[eD] at hinv hbo ⊢
  simp only[hge,aB,seval,vW]
  simp only[hbo,aB,seval,vW]
  have hS:(st.aC b2 (.cells [AV.int .i64 0,AV.int .i64 0,AV.str ⟨#[]⟩,AV.fslice []])) b2≠none:=by rw[aA.aJ];simp
  have h1:=oA hinv hS hne
  rw[aA.aJ] at h1
  simp only[h1,iK,aM,aB,seval]
  obtain⟨h2,h3⟩:=vL (o:=.cells [AV.int .i64 k,AV.int .i64 n,AV.str s,bQ 4 b ((ts.map (Tm.aL f)).map Tm.av)]) hinv hS hne
  refine⟨b,_,_,h2,h3,tC _,⟨4,iX _⟩,?_,?_⟩
  · rw[Tm.kA f h]
    simp only[gJ,bR,bS,gW,pV,nT,bD]
  · exact(((aO.refl _).aC hn2).aC hc).aC hn2
termination_by t=>SizeOf.sizeOf t
decreasing_by have:=List.sizeOf_lt_of_mem hx;simp only[Tm.mk.sizeOf_spec];omega


end Go.AW
namespace Go.AW
abbrev cO (σ:Sub):Prop:=∃R rk B,Good σ R rk B
theorem cO.rs{σ:Sub}(h:cO σ):∃rk B,Good σ (rs σ) rk B:=by
 obtain⟨R,rk,B,G⟩:=h
 exact⟨rk,B,by rw[G.rs];exact G⟩
theorem cO.none:cO Sub.none:=⟨_,_,_,Good.none⟩
structure pL (σ:Sub) (a b:List Tm) (r:Bool) (σ':Sub) (tr:List Int):Prop where
 gX:cO σ'
 aU:∀m,m∉tr→σ' m=σ m
 new:∀m∈tr,σ m=none∧σ' m≠none
 nodup:tr.Nodup
 eq:r=true→a.map (Tm.aL (rs σ'))=b.map (Tm.aL (rs σ'))
 gen:∀θ,rV θ σ→a.map (Tm.aL θ)=b.map (Tm.aL θ)→r=true∧rV θ σ'
 same:tr= []→σ'=σ
theorem rV.sub{σ σ':Sub}{θ:Int→Tm}{tr:List Int}(S:rV θ σ')(aU:∀m,m∉tr→σ' m=σ m)(new:∀m∈tr,σ m=none∧σ' m≠none):rV θ σ:=fun n u h=>by
 by_cases hn:n∈tr
 · rw[(new n hn).1] at h;cases h
 · exact S n u (by rw[aU n hn];exact h)
theorem pL.xA{σ σ':Sub}{a b:List Tm}{r:Bool}{tr:List Int}(h:pL σ a b r σ' tr):rV (rs σ') σ:=by
 obtain⟨rk,B,G⟩:=h.gX.rs
 exact G.xA.sub h.aU h.new
theorem pL.stays{σ σ':Sub}{a b:List Tm}{r:Bool}{tr:List Int}(h:pL σ a b r σ' tr)(hg:cO σ){x y:Tm}(e:x.aL (rs σ)=y.aL (rs σ)):x.aL (rs σ')=y.aL (rs σ'):=by
 obtain⟨rk,B,G⟩:=hg.rs
 rw[←G.Q4 h.xA x,←G.Q4 h.xA y,e]
theorem XF{σ:Sub}(hg:cO σ){a b:Tm}{n:Int}(ha:a.k=1)(han:a.n=n)(hn:σ n=none)(hb:b.k=1→σ b.n=none∧b.n≠n){r:Bool}{σ':Sub}{tr:List Int}(h:j6 σ n b=(r,σ',tr)):pL σ [a] [b] r σ' tr:=by
 obtain⟨rk,B,G⟩:=hg.rs
 have hav:∀θ,a.aL θ=θ n:=fun θ=>by rw[Tm.D5 θ ha,han]
 unfold j6 at h
 split at h
 · rename_i fZ
   cases h
   refine⟨hg,fun _ _=>rfl,fun _ h=>absurd h (cX),mJ,fun h=>(by cases h),fun θ S e=>?_,fun _=>rfl⟩
   exfalso
   simp only[bR,bS,List.cons.injEq,dE] at e
   rw[hav] at e
   by_cases hbk:b.k=1
   · rw[Tm.D5 _ hbk,G.free (hb hbk).1,zN] at fZ
     simp only[cG,cX,dG] at fZ
     exact(hb hbk).2 fZ.symm
   · rw[←G.Q4 S b] at e
     have h1:((b.aL (rs σ)).aL θ)=(b.aL (rs σ)).aL θ:=rfl
     have hk:(b.aL (rs σ)).k≠1:=by rw[Tm.rF _ hbk];exact hbk
     have:=(a58 (f:=θ) (b.aL (rs σ)) fZ).2 hk
     rw[e] at this
     exact absurd this (Nat.lt_irrefl _)
 · rename_i fZ
   cases h
   obtain⟨rk',B',G'⟩:=G.bind hn fZ
   have hR:=G'.rs
   refine⟨⟨_,_,_,G'⟩,fun m hm=>?_,fun m hm=>?_,by simp,fun _=>?_,fun θ S e=>⟨rfl,fun m u hu=>?_⟩,fun h=>(by cases h)⟩
   · simp only[cG,cX,dG] at hm
     simp only[Sub.set,hm,cM]
   · simp only[cG,cX,dG] at hm
     subst hm
     exact⟨hn,by simp [Sub.set]⟩
   · simp only[bR,bS,List.cons.injEq,dE]
     rw[hav,hR]
     exact G'.bound (by simp [Sub.set])
   · simp only[bR,bS,List.cons.injEq,dE] at e
     rw[hav] at e
     simp only[Sub.set] at hu
     split at hu
     · rename_i hmn
       cases hu
       rw[hmn,e]
     · exact S m u hu
theorem uD{a b:Tm}:vG a b=true↔a.k=b.k∧a.n=b.n∧a.s=b.s∧a.ts.length=b.ts.length:=by
 simp only[vG,cY,bM,and_assoc]
theorem aQP(g:Nat)(a4P:∀σ a b r σ' tr,cO σ→dK g σ a b=some (r,σ',tr)→pL σ [a] [b] r σ' tr):∀xs ys σ r σ' tr,cO σ→xs.length=ys.length→eJ g σ xs ys=some (r,σ',tr)→pL σ xs ys r σ' tr:=by
 intro xs
 have ihU:=a4P
 induction xs with
 | nil=>
  intro ys σ r σ' tr hg hl h
  cases ys with
  | cons _ _=>simp at hl
  | nil=>
   simp only[eJ,Option.some.injEq,Prod.mk.injEq] at h
   obtain⟨rfl,rfl,rfl⟩:=h
   exact⟨hg,fun _ _=>rfl,fun _ h=>absurd h (cX),mJ,fun _=>rfl,fun θ S _=>⟨rfl,S⟩,fun _=>rfl⟩
 | cons a xs ih=>
  intro ys σ r σ' tr hg hl h
  cases ys with
  | nil=>simp at hl
  | cons b ys=>
   rw[eJ] at h
   cases h1:dK g σ a b with
   | none=>rw[h1] at h;cases h
   | some p=>
    obtain⟨r1,σ1,tr1⟩:=p
    have U1:=ihU σ a b r1 σ1 tr1 hg h1
    rw[h1] at h
    cases r1 with
    | false=>
     simp only[Option.some.injEq,Prod.mk.injEq] at h
     obtain⟨rfl,rfl,rfl⟩:=h
     refine⟨U1.gX,U1.aU,U1.new,U1.nodup,fun h=>(by cases h),fun θ S e=>?_,U1.same⟩
     simp only[bR,List.cons.injEq] at e
     exact U1.gen θ S (by simp [e.1])
    | true=>
     simp only at h
     cases h2:eJ g σ1 xs ys with
     | none=>rw[h2] at h;cases h
     | some p2=>
      obtain⟨r2,σ2,tr2⟩:=p2
      rw[h2] at h
      simp only[Option.some.injEq,Prod.mk.injEq] at h
      obtain⟨rfl,rfl,rfl⟩:=h
      have U2:=ih ys σ1 r2 σ2 tr2 U1.gX (by simpa using hl) h2
      refine⟨U2.gX,fun m hm=>?_,fun m hm=>?_,?_,fun hr=>?_,fun θ S e=>?_,fun h=>?_⟩
      · simp only[eL,jI] at hm
        rw[U2.aU m hm.2,U1.aU m hm.1]
      · rcases eL.1 hm with hm | hm
        · refine⟨(U1.new m hm).1,fun h=>(U1.new m hm).2 ?_⟩
          by_cases h3:m∈tr2
          · exact(U2.new m h3).1
          · rw[←U2.aU m h3];exact h
        · refine⟨?_,(U2.new m hm).2⟩
          by_cases h3:m∈tr1
          · exact(U1.new m h3).1
          · rw[←U1.aU m h3];exact(U2.new m hm).1
      · rw[mA]
        refine⟨U1.nodup,U2.nodup,fun x hx y hy e=>?_⟩
        subst e
        exact(U1.new x hx).2 (U2.new x hy).1
      · have e1:=U1.eq rfl
        simp only[bR,bS,List.cons.injEq,dE] at e1
        simp only[bR]
        rw[U2.stays U1.gX e1,U2.eq hr]
      · simp only[bR,List.cons.injEq] at e
        obtain⟨_,S1⟩:=U1.gen θ S (by simp [e.1])
        exact U2.gen θ S1 e.2
      · simp only[List.append_eq_nil_iff] at h
        rw[U2.same h.2,U1.same h.1]
theorem bAF:∀(g:Nat),(∀σ a b r σ' tr,cO σ→dK g σ a b=some (r,σ',tr)→pL σ [a] [b] r σ' tr) ∧
 ∀xs ys σ r σ' tr,cO σ→xs.length=ys.length→eJ g σ xs ys=some (r,σ',tr)→pL σ xs ys r σ' tr:=by
 intro g
 induction g with
 | zero=>
  have h0:∀σ a b r σ' tr,cO σ→dK 0 σ a b=some (r,σ',tr)→pL σ [a] [b] r σ' tr:=fun σ a b r σ' tr hg h=>by simp only[dK] at h;cases h
  exact⟨h0,aQP _ h0⟩
 | succ g ih=>
  suffices hU:∀σ a b r σ' tr,cO σ→dK (g+1) σ a b=some (r,σ',tr)→pL σ [a] [b] r σ' tr from ⟨hU,aQP _ hU⟩
  intro σ a b r σ' tr hg h
  obtain⟨ihU,ihL⟩:=ih
  have a4O:=fun xs ys σ r σ' tr hg hl h=>ihL xs ys σ r σ' tr hg hl h
  obtain⟨rk,B,G⟩:=hg.rs
  obtain⟨fa,wa⟩:=G.wk a
  obtain⟨fb,wb⟩:=G.wk b
  have hma:∀θ,rV θ σ→(wk σ a).aL θ=a.aL θ:=fun θ S=>wa.aL S
  have hmb:∀θ,rV θ σ→(wk σ b).aL θ=b.aL θ:=fun θ S=>wb.aL S
  -- it suffices to speak of the walked terms
  suffices hw:pL σ [wk σ a] [wk σ b] r σ' tr by
   refine⟨hw.gX,hw.aU,hw.new,hw.nodup,fun hr=>?_,fun θ S e=>?_,hw.same⟩
   · have:=hw.eq hr
     simp only[bR,bS,List.cons.injEq,dE] at this ⊢
     rw[←hma _ hw.xA,←hmb _ hw.xA];exact this
   · refine hw.gen θ S ?_
     simp only[bR,bS,List.cons.injEq,dE] at e ⊢
     rw[hma θ S,hmb θ S];exact e
  have ea:=wa.end
  have eb:=wb.end
  rw[dK] at h
  generalize wk σ a=a at *
  generalize wk σ b=b at *
  split at h
  · rename_i hc
    simp only[Option.some.injEq,Prod.mk.injEq] at h
    obtain⟨rfl,rfl,rfl⟩:=h
    have he:∀θ,a.aL θ=b.aL θ:=fun θ=>by rw[Tm.D5 θ hc.1,Tm.D5 θ hc.2.1,hc.2.2]
    exact⟨hg,fun _ _=>rfl,fun _ h=>absurd h (cX),mJ,fun _=>by simp [he],fun θ S _=>⟨rfl,S⟩,fun _=>rfl⟩
  · rename_i hc
    split at h
    · rename_i ha
      exact XF hg ha rfl (ea ha) (fun hb=>⟨eb hb,fun e=>hc ⟨ha,hb,e.symm⟩⟩) (nP h)
    · rename_i ha
      split at h
      · rename_i hb
        have U:=XF hg hb rfl (eb hb) (fun ha'=>absurd ha' ha) (nP h)
        exact⟨U.gX,U.aU,U.new,U.nodup,fun hr=>(U.eq hr).symm,fun θ S e=>U.gen θ S e.symm,U.same⟩
      · rename_i hb
        split at h
        · rename_i hh
          rw[uD] at hh
          have U:=a4O a.ts b.ts σ r σ' tr hg hh.2.2.2 h
          refine⟨U.gX,U.aU,U.new,U.nodup,fun hr=>?_,fun θ S e=>?_,U.same⟩
          · simp only[bR,bS,List.cons.injEq,dE]
            rw[Tm.rF _ ha,Tm.rF _ hb,hh.1,hh.2.1,hh.2.2.1,U.eq hr]
          · simp only[bR,bS,List.cons.injEq,dE] at e
            rw[Tm.rF _ ha,Tm.rF _ hb] at e
            exact U.gen θ S (by injection e)
        · rename_i hh
          simp only[Option.some.injEq,Prod.mk.injEq] at h
          obtain⟨rfl,rfl,rfl⟩:=h
          refine⟨hg,fun _ _=>rfl,fun _ h=>absurd h (cX),mJ,fun h=>(by cases h),fun θ S e=>?_,fun _=>rfl⟩
          exfalso
          simp only[bR,bS,List.cons.injEq,dE] at e
          rw[Tm.rF _ ha,Tm.rF _ hb] at e
          injection e with e1 e2 e3 e4
          exact hh (uD.2 ⟨e1,e2,e3,by simpa using iT List.length e4⟩)
theorem xS{g:Nat}{σ:Sub}{a b:Tm}{r:Bool}{σ':Sub}{tr:List Int}(hg:cO σ)(h:dK g σ a b=some (r,σ',tr)):pL σ [a] [b] r σ' tr:=(bAF g).1 σ a b r σ' tr hg h
theorem aQQ(g g':Nat)(ih:∀σ a b x,dK g σ a b=some x→dK g' σ a b=some x):∀xs ys σ x,eJ g σ xs ys=some x→eJ g' σ xs ys=some x:=by
 intro xs
 induction xs with
 | nil=>intro ys σ x h;cases ys<;>simpa only[eJ] using h
 | cons a xs ihx=>
  intro ys σ x h
  cases ys with
  | nil=>simpa only[eJ] using h
  | cons b ys=>
   rw[eJ] at h ⊢
   cases h1:dK g σ a b with
   | none=>rw[h1] at h;cases h
   | some p=>
    rw[h1] at h
    rw[ih _ _ _ _ h1]
    obtain⟨r1,σ1,tr1⟩:=p
    cases r1 with
    | false=>exact h
    | true=>
     simp only at h ⊢
     cases h2:eJ g σ1 xs ys with
     | none=>rw[h2] at h;cases h
     | some p2=>rw[h2] at h;rw[ihx ys σ1 p2 h2];exact h
theorem bAH:∀(g:Nat) σ a b x,dK g σ a b=some x→dK (g+1) σ a b=some x:=by
 intro g
 induction g with
 | zero=>intro σ a b x h;simp only[dK] at h;cases h
 | succ g ih=>
  intro σ a b x h
  rw[dK] at h ⊢
  split
  · rename_i hc;rw[aN hc] at h;exact h
  · rename_i hc
    rw[aK hc] at h
    split
    · rename_i hc;rw[aN hc] at h;exact h
    · rename_i hc
      rw[aK hc] at h
      split
      · rename_i hc;rw[aN hc] at h;exact h
      · rename_i hc
        rw[aK hc] at h
        split
        · rename_i hc;rw[aN hc] at h;exact aQQ g (g+1) ih _ _ _ _ h
        · rename_i hc;rw[aK hc] at h;exact h
theorem OD{g g':Nat}(hle:g≤g'){σ:Sub}{a b:Tm}{x:Bool×Sub×List Int}(h:dK g σ a b=some x):dK g' σ a b=some x:=by
 induction hle with
 | refl=>exact h
 | step _ ih=>exact bAH _ _ _ _ _ ih
theorem bAK{g g':Nat}(hle:g≤g'){σ:Sub}{xs ys:List Tm}{x:Bool×Sub×List Int}(h:eJ g σ xs ys=some x):eJ g' σ xs ys=some x:=
 aQQ g g' (fun _ _ _ _ h=>OD hle h) xs ys σ x h
def uT(σ:Sub)(V:List Int):Nat:=V.countP fun v=>(σ v).isNone
def iR(V:List Int)(t:Tm):Prop:=∀v∈t.vl,v∈V
def nA(V:List Int)(σ:Sub):Prop:=∀n u,σ n=some u→iR V u
theorem bAD{σ σ':Sub}{tr:List Int}{V:List Int}(aU:∀m,m∉tr→σ' m=σ m)(new:∀m∈tr,σ m=none∧σ' m≠none){m:Int}(hm:m∈tr)(hV:m∈V):uT σ' V<uT σ V:=by
 have mono:∀v,(σ' v).isNone=true→(σ v).isNone=true:=fun v h=>by
  by_cases hv:v∈tr
  · rw[(new v hv).1];try rfl
  · rw[←aU v hv];exact h
 have le:∀W:List Int,uT σ' W≤uT σ W:=fun W=>List.countP_mono_left fun v _ h=>mono v h
 unfold uT at *
 induction V with
 | nil=>cases hV
 | cons v V ih=>
  simp only[List.countP_cons]
  have hle:=le V
  rcases cG.1 hV with rfl | hV
  · have h1:(σ m).isNone=true:=by rw[(new m hm).1];try rfl
    have h2:(σ' m).isNone=false:=by
     cases h:σ' m with
     | none=>exact absurd h (new m hm).2
     | some _=>rfl
    simp only[h1,h2,dV,iE,cM]
    omega
  · have:=ih hV
    have h3:=mono v
    by_cases h4:(σ' v).isNone=true
    · rw[aN h4,aN (h3 h4)];omega
    · rw[aK h4];split<;>omega
theorem f9.LY{σ:Sub}{V:List Int}(hr:nA V σ){f:Nat}{t u:Tm}(h:f9 σ f t u)(ht:iR V t):iR V u:=h.all (p:=iR V) (fun n u hu=>hr n u hu) ht
theorem iR.vK{V:List Int}{t x:Tm}(h:iR V t)(hk:t.k≠1)(hx:x∈t.ts):iR V x:=fun v hv=>h v (by cases t;exact(Tm.kY hk).2 ⟨x,hx,hv⟩)
theorem aQO:∀(g:Nat),(∀σ a b r σ' tr V,cO σ→dK g σ a b=some (r,σ',tr)→nA V σ→iR V a→iR V b→nA V σ'∧∀m∈tr,m∈V) ∧
 ∀xs ys σ r σ' tr V,cO σ→xs.length=ys.length→eJ g σ xs ys=some (r,σ',tr)→nA V σ→(∀x∈xs,iR V x)→(∀y∈ys,iR V y)→nA V σ'∧∀m∈tr,m∈V:=by
 intro g
 have list:∀g,(∀σ a b r σ' tr V,cO σ→dK g σ a b=some (r,σ',tr)→nA V σ→iR V a→iR V b→nA V σ'∧∀m∈tr,m∈V) →
  ∀xs ys σ r σ' tr V,cO σ→xs.length=ys.length→eJ g σ xs ys=some (r,σ',tr)→nA V σ→(∀x∈xs,iR V x)→(∀y∈ys,iR V y)→nA V σ'∧∀m∈tr,m∈V:=by
  intro g ihU xs
  induction xs with
  | nil=>
   intro ys σ r σ' tr V hg hl h hr _ _
   cases ys with
   | cons _ _=>simp at hl
   | nil=>
    simp only[eJ,Option.some.injEq,Prod.mk.injEq] at h
    obtain⟨rfl,rfl,rfl⟩:=h
    exact⟨hr,fun _ h=>absurd h (cX)⟩
  | cons a xs ih=>
   intro ys σ r σ' tr V hg hl h hr hx hy
   cases ys with
   | nil=>simp at hl
   | cons b ys=>
    rw[eJ] at h
    cases h1:dK g σ a b with
    | none=>rw[h1] at h;cases h
    | some p=>
     obtain⟨r1,σ1,tr1⟩:=p
     have U1:=xS hg h1
     obtain⟨i1,i2⟩:=ihU σ a b r1 σ1 tr1 V hg h1 hr (hx a (by simp)) (hy b (by simp))
     rw[h1] at h
     cases r1 with
     | false=>
      simp only[Option.some.injEq,Prod.mk.injEq] at h
      obtain⟨rfl,rfl,rfl⟩:=h
      exact⟨i1,i2⟩
     | true=>
      simp only at h
      cases h2:eJ g σ1 xs ys with
      | none=>rw[h2] at h;cases h
      | some p2=>
       obtain⟨r2,σ2,tr2⟩:=p2
       rw[h2] at h
       simp only[Option.some.injEq,Prod.mk.injEq] at h
       obtain⟨rfl,rfl,rfl⟩:=h
       obtain⟨j1,j2⟩:=ih ys σ1 r2 σ2 tr2 V U1.gX (by simpa using hl) h2 i1 (fun x h=>hx x (by simp [h])) (fun y h=>hy y (by simp [h]))
       exact⟨j1,fun m hm=>(eL.1 hm).elim (i2 m) (j2 m)⟩
 induction g with
 | zero=>
  have h0:∀σ a b r σ' tr V,cO σ→dK 0 σ a b=some (r,σ',tr)→nA V σ→iR V a→iR V b→nA V σ'∧∀m∈tr,m∈V:=fun σ a b r σ' tr V hg h=>by simp only[dK] at h;cases h
  exact⟨h0,list 0 h0⟩
 | succ g ih=>
  suffices hU:∀σ a b r σ' tr V,cO σ→dK (g+1) σ a b=some (r,σ',tr)→nA V σ→iR V a→iR V b→nA V σ'∧∀m∈tr,m∈V from ⟨hU,list _ hU⟩
  intro σ a b r σ' tr V hg h hr ha hb
  obtain⟨_,ihL⟩:=ih
  obtain⟨rk,B,G⟩:=hg.rs
  obtain⟨fa,wa⟩:=G.wk a
  obtain⟨fb,wb⟩:=G.wk b
  have va:=wa.LY hr ha
  have vb:=wb.LY hr hb
  have bn:∀n (t:Tm) r σ' tr,n∈V→iR V t→j6 σ n t=(r,σ',tr)→nA V σ'∧∀m∈tr,m∈V:=by
   intro n t r σ' tr hn ht h
   unfold j6 at h
   split at h<;>cases h
   · exact⟨hr,fun _ h=>absurd h (cX)⟩
   · refine⟨fun m u hu=>?_,fun m hm=>by simp only[cG,cX,dG] at hm;rw[hm];exact hn⟩
     simp only[Sub.set] at hu
     split at hu
     · cases hu;exact ht
     · exact hr m u hu
  rw[dK] at h
  generalize wk σ a=a at *
  generalize wk σ b=b at *
  split at h
  · simp only[Option.some.injEq,Prod.mk.injEq] at h
    obtain⟨rfl,rfl,rfl⟩:=h
    exact⟨hr,fun _ h=>absurd h (cX)⟩
  · split at h
    · rename_i hk
      exact bn _ _ _ _ _ (va _ (by rw[Tm.FL hk];simp)) vb (nP h)
    · rename_i hka
      split at h
      · rename_i hk
        exact bn _ _ _ _ _ (vb _ (by rw[Tm.FL hk];simp)) va (nP h)
      · rename_i hkb
        split at h
        · rename_i hh
          exact ihL a.ts b.ts σ r σ' tr V hg (uD.1 hh).2.2.2 h hr (fun x hx=>va.vK hka hx) (fun y hy=>vb.vK hkb hy)
        · simp only[Option.some.injEq,Prod.mk.injEq] at h
          obtain⟨rfl,rfl,rfl⟩:=h
          exact⟨hr,fun _ h=>absurd h (cX)⟩
def cQ(p:Tm→Prop)(σ:Sub):Prop:=∀n u,σ n=some u→p u
theorem OE{p:Tm→Prop}(hp:∀t:Tm,t.k≠1→p t→∀x∈t.ts,p x):∀(g:Nat),(∀σ a b r σ' tr,cO σ→dK g σ a b=some (r,σ',tr)→cQ p σ→p a→p b→cQ p σ') ∧
 ∀xs ys σ r σ' tr,cO σ→xs.length=ys.length→eJ g σ xs ys=some (r,σ',tr)→cQ p σ→(∀x∈xs,p x)→(∀y∈ys,p y)→cQ p σ':=by
 intro g
 have list:∀g,(∀σ a b r σ' tr,cO σ→dK g σ a b=some (r,σ',tr)→cQ p σ→p a→p b→cQ p σ') →
  ∀xs ys σ r σ' tr,cO σ→xs.length=ys.length→eJ g σ xs ys=some (r,σ',tr)→cQ p σ→(∀x∈xs,p x)→(∀y∈ys,p y)→cQ p σ':=by
  intro g ihU xs
  induction xs with
  | nil=>
   intro ys σ r σ' tr hg hl h hr _ _
   cases ys with
   | cons _ _=>simp at hl
   | nil=>
    simp only[eJ,Option.some.injEq,Prod.mk.injEq] at h
    obtain⟨rfl,rfl,rfl⟩:=h
    exact hr
  | cons a xs ih=>
   intro ys σ r σ' tr hg hl h hr hx hy
   cases ys with
   | nil=>simp at hl
   | cons b ys=>
    rw[eJ] at h
    cases h1:dK g σ a b with
    | none=>rw[h1] at h;cases h
    | some p=>
     obtain⟨r1,σ1,tr1⟩:=p
     have U1:=xS hg h1
     have i1:=ihU σ a b r1 σ1 tr1 hg h1 hr (hx a (by simp)) (hy b (by simp))
     rw[h1] at h
     cases r1 with
     | false=>
      simp only[Option.some.injEq,Prod.mk.injEq] at h
      obtain⟨rfl,rfl,rfl⟩:=h
      exact i1
     | true=>
      simp only at h
      cases h2:eJ g σ1 xs ys with
      | none=>rw[h2] at h;cases h
      | some p2=>
       obtain⟨r2,σ2,tr2⟩:=p2
       rw[h2] at h
       simp only[Option.some.injEq,Prod.mk.injEq] at h
       obtain⟨rfl,rfl,rfl⟩:=h
       have j1:=ih ys σ1 r2 σ2 tr2 U1.gX (by simpa using hl) h2 i1 (fun x h=>hx x (by simp [h])) (fun y h=>hy y (by simp [h]))
       exact j1
 induction g with
 | zero=>
  have h0:∀σ a b r σ' tr,cO σ→dK 0 σ a b=some (r,σ',tr)→cQ p σ→p a→p b→cQ p σ':=fun σ a b r σ' tr hg h=>by simp only[dK] at h;cases h
  exact⟨h0,list 0 h0⟩
 | succ g ih=>
  suffices hU:∀σ a b r σ' tr,cO σ→dK (g+1) σ a b=some (r,σ',tr)→cQ p σ→p a→p b→cQ p σ' from ⟨hU,list _ hU⟩
  intro σ a b r σ' tr hg h hr ha hb
  obtain⟨_,ihL⟩:=ih
  obtain⟨rk,B,G⟩:=hg.rs
  obtain⟨fa,wa⟩:=G.wk a
  obtain⟨fb,wb⟩:=G.wk b
  have va:=wa.all hr ha
  have vb:=wb.all hr hb
  have bn:∀n (t:Tm) r σ' tr,p t→j6 σ n t=(r,σ',tr)→cQ p σ':=by
   intro n t r σ' tr ht h
   unfold j6 at h
   split at h<;>cases h
   · exact hr
   · intro m u hu
     simp only[Sub.set] at hu
     split at hu
     · cases hu;exact ht
     · exact hr m u hu
  rw[dK] at h
  generalize wk σ a=a at *
  generalize wk σ b=b at *
  split at h
  · simp only[Option.some.injEq,Prod.mk.injEq] at h
    obtain⟨rfl,rfl,rfl⟩:=h
    exact hr
  · split at h
    · rename_i hk
      exact bn _ _ _ _ _ vb (nP h)
    · rename_i hka
      split at h
      · rename_i hk
        exact bn _ _ _ _ _ va (nP h)
      · rename_i hkb
        split at h
        · rename_i hh
          exact ihL a.ts b.ts σ r σ' tr hg (uD.1 hh).2.2.2 h hr (fun x hx=>hp _ hka va x hx) (fun y hy=>hp _ hkb vb y hy)
        · simp only[Option.some.injEq,Prod.mk.injEq] at h
          obtain⟨rfl,rfl,rfl⟩:=h
          exact hr
theorem bAI(V:List Int):∀(N M:Nat) (σ:Sub) (a b:Tm),cO σ→nA V σ→iR V a→iR V b→uT σ V≤N→(a.aL (rs σ)).nodes≤M→∃g x,dK g σ a b=some x:=by
 intro N
 induction N using Nat.strongRecOn with
 | _ N ihN=>
 intro M
 induction M using Nat.strongRecOn with
 | _ M ihM=>
 intro σ a b hg hr ha hb hN hM
 have list:∀(xs ys:List Tm) (σ1:Sub),xs.length=ys.length→cO σ1→nA V σ1→(σ1=σ∨uT σ1 V<uT σ V)→(∀x∈xs,iR V x∧(x.aL (rs σ)).nodes<M)→(∀y∈ys,iR V y)→∃g x,eJ g σ1 xs ys=some x:=by
  intro xs
  induction xs with
  | nil=>
   intro ys σ1 hl _ _ _ _ _
   cases ys with
   | cons _ _=>simp at hl
   | nil=>exact⟨0,(true,σ1,[]),by simp only[eJ]⟩
  | cons x xs ih=>
   intro ys σ1 hl hg1 hr1 hc hx hy
   cases ys with
   | nil=>simp at hl
   | cons y ys=>
    have h1:∃g p,dK g σ1 x y=some p:=by
     rcases hc with rfl | hlt
     · exact ihM _ (hx x (by simp)).2 σ1 x y hg1 hr1 (hx x (by simp)).1 (hy y (by simp)) hN (cZ _)
     · exact ihN (uT σ1 V) (by omega) _ σ1 x y hg1 hr1 (hx x (by simp)).1 (hy y (by simp)) (cZ _) (cZ _)
    obtain⟨g1,⟨r1,σ2,tr1⟩,h1⟩:=h1
    have U1:=xS hg1 h1
    obtain⟨i1,i2⟩:=(aQO g1).1 σ1 x y r1 σ2 tr1 V hg1 h1 hr1 (hx x (by simp)).1 (hy y (by simp))
    cases r1 with
    | false=>exact⟨g1,(false,σ2,tr1),by rw[eJ,h1]⟩
    | true=>
     have hc2:σ2=σ∨uT σ2 V<uT σ V:=by
      cases htr:tr1 with
      | nil=>rw[U1.same htr];exact hc
      | cons m _=>
       have:=bAD (V:=V) U1.aU U1.new (m:=m) (by rw[htr];simp) (i2 m (by rw[htr];simp))
       rcases hc with rfl | hlt
       · exact .inr this
       · exact .inr (Nat.lt_trans this hlt)
     obtain⟨g2,p2,h2⟩:=ih ys σ2 (by simpa using hl) U1.gX i1 hc2 (fun z hz=>hx z (by simp [hz])) (fun z hz=>hy z (by simp [hz]))
     obtain⟨r2,σ3,tr2⟩:=p2
     refine⟨max g1 g2,(r2,σ3,tr1++tr2),?_⟩
     rw[eJ,OD (Nat.le_max_left g1 g2) h1]
     simp only
     rw[bAK (Nat.le_max_right g1 g2) h2]
 obtain⟨rk,B,G⟩:=hg.rs
 obtain⟨fa,wa⟩:=G.wk a
 obtain⟨fb,wb⟩:=G.wk b
 have va:=wa.LY hr ha
 have vb:=wb.LY hr hb
 have hma:=wa.aL G.xA
 rw[←hma] at hM
 by_cases h1:(wk σ a).k=1∧(wk σ b).k=1∧(wk σ a).n=(wk σ b).n
 · exact⟨1,_,by rw[dK,aN h1]⟩
 by_cases h2:(wk σ a).k=1
 · exact⟨1,_,by rw[dK,aK h1,aN h2]⟩
 by_cases h3:(wk σ b).k=1
 · exact⟨1,_,by rw[dK,aK h1,aK h2,aN h3]⟩
 by_cases h4:vG (wk σ a) (wk σ b)=true
 · have a3C:∀x∈(wk σ a).ts,iR V x∧(x.aL (rs σ)).nodes<M:=fun x hx=>by
    refine⟨va.vK h2 hx,?_⟩
    rw[Tm.rF _ h2,Tm.lJ] at hM
    have:=pC (f:=Tm.nodes) (cF.2 ⟨x,hx,rfl⟩:x.aL (rs σ)∈(wk σ a).ts.map (Tm.aL (rs σ)))
    omega
   obtain⟨g,x,h⟩:=list (wk σ a).ts (wk σ b).ts σ (uD.1 h4).2.2.2 hg hr (.inl rfl) a3C (fun y hy=>vb.vK h3 hy)
   exact⟨g+1,x,by rw[dK,aK h1,aK h2,aK h3,aN h4];exact h⟩
 · exact⟨1,_,by rw[dK,aK h1,aK h2,aK h3,aK h4]⟩
mutual
def Tm.flat:Tm→Nat→Bool
 | .mk _ _ _ _,0=>false
 | .mk _ _ _ ts,d+1=>NX ts d
def NX:List Tm→Nat→Bool
 | [],_=>true
 | t::ts,d=>t.flat d&&NX ts d
end
theorem aP5:∀(ts:List Tm) (d:Nat),NX ts d=ts.all fun t=>t.flat d
 | [],_=>rfl
 | t::ts,d=>by simp only[NX,jK,aP5 ts d]
theorem Tm.G6(t:Tm):t.flat 0=false:=by cases t;simp only[Tm.flat]
theorem Tm.sM(k n:Int)(s:ByteArray)(ts:List Tm)(d:Nat):(Tm.mk k n s ts).flat (d+1)=ts.all fun t=>t.flat d:=by simp only[Tm.flat,aP5]
mutual
def Tm.lW:Tm→Bool
 | .mk k n s ts=>fB k n s ts.length&&N1 ts
def N1:List Tm→Bool
 | []=>true
 | t::ts=>t.lW&&N1 ts
end
theorem aP9:∀(ts:List Tm),N1 ts=ts.all Tm.lW
 | []=>rfl
 | t::ts=>by simp only[N1,jK,aP9 ts]
theorem Tm.BI(k n:Int)(s:ByteArray)(ts:List Tm):(Tm.mk k n s ts).lW=(fB k n s ts.length&&ts.all Tm.lW):=by simp only[Tm.lW,aP9]
theorem W3{α:Type}(p q:α→Bool):∀l:List α,(l.all fun x=>p x&&q x)=(l.all p&&l.all q)
 | []=>rfl
 | x::l=>by simp only[jK,W3 p q l];cases p x<;>cases q x<;>cases l.all p<;>simp
theorem Tm.aNX:∀(t:Tm) (d:Nat),t.shape (d:Int)=(t.lW&&t.flat d):=by
 intro t
 induction t using Tm.ind with
 | h k n s ts ih=>
  intro d
  cases d with
  | zero=>rw[Tm.G6,xW,Tm.H9];try rfl
  | succ d=>
   rw[Tm.H9,Tm.BI,Tm.sM,show decide ((1:Int)≤((d+1:Nat):Int))=true by simp;omega,gM,Bool.and_assoc,←W3]
   congr 1
   rw[show(((d+1:Nat):Int) - 1)=(d:Int) by omega]
   have:∀l:List Tm,(∀x∈l,x∈ts)→(l.all fun t=>t.shape (d:Int))=l.all fun x=>x.lW&&x.flat d:=by
    intro l
    induction l with
    | nil=>intro _;rfl
    | cons x l ihl=>intro h;rw[jK,jK,ih x (h x (by simp)),ihl fun y hy=>h y (by simp [hy])]
   exact this ts fun _ h=>h
theorem Tm.bAQ{t:Tm}(h:t.valid=true):t.lW=true:=by
 simp only[Tm.valid,cY] at h
 have:=h.1
 rw[show(30:Int)=((30:Nat):Int) from rfl,Tm.aNX,cY] at this
 exact this.1
theorem Tm.aQS{t:Tm}(h:t.lW=true):t.valid=(t.flat 30&&decide (t.nodes≤120)):=by
 unfold Tm.valid
 rw[show(30:Int)=((30:Nat):Int) from rfl,Tm.aNX,h,gM]
theorem Tm.MB{k n:Int}{s:ByteArray}{ts:List Tm}(h:(Tm.mk k n s ts).lW=true):fB k n s ts.length=true∧∀x∈ts,x.lW=true:=by
 rw[Tm.BI,cY] at h
 exact⟨h.1,fU.1 h.2⟩
theorem aM2{n:Int}{s:ByteArray}{len:Int}(h:fB 1 n s len=true):0≤n∧n≤25∧s=⟨#[]⟩∧len=0:=by
 simp [fB] at h
 exact⟨h.1.1.1,h.1.1.2,h.1.2,h.2⟩
theorem a62{k n:Int}{s:ByteArray}{len:Int}(h:fB k n s len=true):(k=1∨k=2∨k=3)∧len≤4:=by
 unfold fB at h
 by_cases h1:k=1
 · simp [h1] at h;omega
 · by_cases h2:k=2
   · simp [h2] at h;omega
   · by_cases h3:k=3
     · simp [h3] at h;omega
     · simp [h1,h2,h3] at h
theorem Tm.a6T:∀(t:Tm),t.lW=true→t.cv=true:=by
 intro t
 induction t using Tm.ind with
 | h k n s ts ih=>
  intro h
  obtain⟨h1,h2⟩:=Tm.MB h
  refine Tm.oR.2 ⟨fun hk=>?_,fun x hx=>ih x hx (h2 x hx)⟩
  subst hk
  obtain⟨_,_,h3,h4⟩:=aM2 h1
  exact⟨h3,rT (by omega)⟩
def JM:List Int:=(List.range 26).map fun i:Nat=>(i:Int)
theorem HV{n:Int}:n∈JM↔0≤n∧n≤25:=by
 simp only[JM,cF,v6]
 constructor
 · rintro⟨i,h,rfl⟩;omega
 · intro h;exact⟨n.toNat,by omega,by omega⟩
theorem Tm.a6U:∀(t:Tm),t.lW=true→iR JM t:=by
 intro t
 induction t using Tm.ind with
 | h k n s ts ih=>
  intro h v hv
  obtain⟨h1,h2⟩:=Tm.MB h
  by_cases hk:k=1
  · rw[Tm.mZ hk] at hv
    simp only[cG,cX,dG] at hv
    subst hv hk
    obtain⟨h3,h4,_⟩:=aM2 h1
    exact HV.2 ⟨h3,h4⟩
  · obtain⟨x,hx,hvx⟩:=(Tm.kY hk).1 hv
    exact ih x hx (h2 x hx) v hvx
theorem a5V{f:Int→Tm}:∀(t:Tm),t.lW=true→(∀v∈t.vl,(f v).lW=true)→(t.aL f).lW=true:=by
 intro t
 induction t using Tm.ind with
 | h k n s ts ih=>
  intro h hf
  obtain⟨h1,h2⟩:=Tm.MB h
  by_cases hk:k=1
  · rw[Tm.mG f hk];exact hf n (by rw[Tm.mZ hk];simp)
  · rw[Tm.kA f hk,Tm.BI,aE,h1,gM,List.all_map,fU]
    exact fun x hx=>ih x hx (h2 x hx) fun v hv=>hf v ((Tm.kY hk).2 ⟨x,hx,hv⟩)
theorem aQW{n:Int}(h:n∈JM):(vr n).lW=true:=by
 rw[HV] at h
 rw[vr,Tm.BI]
 simp [fB,h]
theorem bAG{g g':Nat}{σ:Sub}{a b:Tm}{x y:Bool×Sub×List Int}(h:dK g σ a b=some x)(h':dK g' σ a b=some y):x=y:=by
 have h1:=OD (Nat.le_max_left g g') h
 rw[OD (Nat.le_max_right g g') h'] at h1
 exact(nP h1).symm
theorem aMJ:∀ {l V:List Int},l.Nodup→(∀x∈l,x∈V)→l.length≤V.length
 | [],_,_,_=>nO _
 | x::l,V,h,hV=>by
  rw[FS] at h
  have hx:=hV x (by simp)
  have:=aMJ (V:=V.erase x) h.2 fun y hy=>(List.mem_erase_of_ne (by rintro rfl;exact h.1 hy)).2 (hV y (by simp [hy]))
  rw[List.length_erase_of_mem hx] at this
  have:=List.length_pos_of_mem hx
  simp only[a8]
  omega
abbrev zt:AV:=.agg [.int .i64 0,.int .i64 0,.str ⟨#[]⟩,.fslice []]
def mapOf(σ:Sub):Int→Option AV:=fun n=>(σ n).map Tm.av
def found:Option Tm→AV
 | some u=>.tup [u.av,.bool true]
 | none=>.tup [zt,.bool false]
theorem a5I{P:Program}{st:aA}{m:Nat}{σ:Sub}{t kt et:TypeId}{n:Int}(hm:st m=some (.map (mapOf σ)))(hu:P.underlying t=some (.map kt et))(hk:P.underlying kt=some (.int .i64))(hz:zV P et=some zt) :
 pN P st t true (.map m) (.int .i64 n)=some (found (σ n)):=by
 unfold pN
 simp only[hm,hu,hk,mapOf]
 cases h:σ n with
 | none=>simp [hz,found,AV.bV]
 | some u=>simp [found,Tm.fP]
theorem bAN{P:Program}{st:aA}{m:Nat}{σ:Sub}{t kt et:TypeId}{n:Int}{u:Tm}{K:AV→aA→Prop}(hm:st m=some (.map (mapOf σ)))(hu:P.underlying t=some (.map kt et))(hk:P.underlying kt=some (.int .i64))
 (h:K .undef (st.aC m (.map (mapOf (σ.set n u))))):tK P t st (.map m) (.int .i64 n) u.av K:=by
 unfold tK
 simp only[hu,hm,hk]
 refine⟨Tm.fP u,?_⟩
 have:oB (mapOf σ) n (some u.av)=mapOf (σ.set n u):=by
  funext x
  unfold oB mapOf Sub.set
  split<;>rfl
 rw[this]
 exact h
structure iS (st:aA) (c m:Nat) (q:AV) (σ:Sub):Prop where
 cells:st c=some (.cells [.map m,q])
 map:st m=some (.map (mapOf σ))
theorem iS.aC{st:aA}{c m b:Nat}{q:AV}{σ:Sub}{o:AO}(h:iS st c m q σ)(hb:st b=none):iS (st.aC b o) c m q σ:=
 ⟨(by rw[aA.aF _ _ (by rintro rfl;rw[h.cells] at hb;cases hb)];exact h.cells),(by rw[aA.aF _ _ (by rintro rfl;rw[h.map] at hb;cases hb)];exact h.map)⟩
theorem iS.OF{st:aA}{c m b:Nat}{q:AV}{σ:Sub}{o:AO}(h:iS st c m q σ)(h1:b≠c)(h2:b≠m):iS (st.aC b o) c m q σ:=
 ⟨(by rw[aA.aF _ _ (dA h1)];exact h.cells),by rw[aA.aF _ _ (dA h2)];exact h.map⟩
theorem iS.ne{st:aA}{c m b:Nat}{q:AV}{σ:Sub}(h:iS st c m q σ)(hb:st b=none):b≠c∧b≠m:=⟨(by rintro rfl;rw[h.cells] at hb;cases hb),(by rintro rfl;rw[h.map] at hb;cases hb)⟩
theorem iS.cm{st:aA}{c m:Nat}{q:AV}{σ:Sub}(h:iS st c m q σ):c≠m:=by rintro rfl;have:=h.cells;rw[h.map] at this;cases this
def mH(M:List Int):Int→Option AV:=fun x=>if x∈M then some (.bool true) else none
theorem a5H{P:Program}{st:aA}{mm:Nat}{M:List Int}{t kt et:TypeId}{n:Int}(hm:st mm=some (.map (mH M)))(hu:P.underlying t=some (.map kt et))(hk:P.underlying kt=some (.int .i64))(hz:zV P et=some (.bool false)) :
 pN P st t false (.map mm) (.int .i64 n)=some (.bool (decide (n∈M))):=by
 unfold pN
 simp only[hm,hu,hk,mH]
 by_cases h:n∈M
 · simp [h,AV.bV]
 · simp [h,hz,AV.bV]
theorem bAL{P:Program}{st:aA}{mm:Nat}{M:List Int}{t kt et:TypeId}{n:Int}{K:AV→aA→Prop}(hm:st mm=some (.map (mH M)))(hu:P.underlying t=some (.map kt et))(hk:P.underlying kt=some (.int .i64))
 (h:K .undef (st.aC mm (.map (mH (n::M))))):tK P t st (.map mm) (.int .i64 n) (.bool true) K:=by
 unfold tK
 simp only[hu,hm,hk]
 refine⟨rfl,?_⟩
 have:oB (mH M) n (some (.bool true))=mH (n::M):=by
  funext x
  unfold oB mH
  by_cases e:x=n
  · simp [e]
  · simp [e]
 rw[this]
 exact h
theorem a5X:mH []=fun _=>none:=by funext x;simp [mH]
theorem VP(t:Tm):t.wf=true→∀l:List Int,(∀v,v∈t.vars l↔v∈l∨v∈t.vl)∧(l.Nodup→(t.vars l).Nodup)∧∃m,t.vars l=l++m:=by
 induction t using Tm.ind with
 | h k n s ts ih=>
  intro h l
  obtain⟨hk,hw⟩:=Tm.VQ h
  have list:∀xs:List Tm,(∀x∈xs,x∈ts)→∀l:List Int,(∀v,v∈cA xs l↔v∈l∨∃x∈xs,v∈x.vl)∧(l.Nodup→(cA xs l).Nodup)∧∃m,cA xs l=l++m:=by
   intro xs
   induction xs with
   | nil=>intro _ l;exact⟨by simp [cA],fun h=>h,[],by simp [cA]⟩
   | cons x xs ihx=>
    intro hs l
    obtain⟨a1,a2,m1,a3⟩:=ih x (hs x (by simp)) (hw x (hs x (by simp))) l
    obtain⟨b1,b2,m2,b3⟩:=ihx (fun y hy=>hs y (by simp [hy])) (x.vars l)
    simp only[cA]
    refine⟨fun v=>?_,fun hn=>b2 (a2 hn),m1++m2,by rw[b3,a3,kC]⟩
    rw[b1,a1]
    simp [or_assoc]
  rw[Tm.vars]
  by_cases hk1:k=1
  · obtain rfl:=hk hk1
    rw[Tm.mZ hk1]
    simp only[cA]
    split
    · rename_i hc
      refine⟨fun v=>by simp,fun hn=>?_,[n],rfl⟩
      rw[mA]
      refine⟨hn,by simp,fun x hx y hy e=>?_⟩
      simp only[cG,cX,dG] at hy
      subst hy e
      exact hc.2 hx
    · rename_i hc
      refine⟨fun v=>?_,fun hn=>hn,[],by simp⟩
      have hm:n∈l:=zS fun h=>hc ⟨hk1,h⟩
      simp only[cG,cX,dG]
      exact⟨.inl,fun h=>h.elim id fun e=>e▸hm⟩
  · rw[aK (by simp [hk1])]
    obtain⟨c1,c2,c3⟩:=list ts (fun _ h=>h) l
    exact⟨fun v=>by rw[c1,Tm.kY hk1],c2,c3⟩
theorem Tm.bAT{v:Int}:∀(t:Tm) (l:List Int),t.cv=true→(v∈t.vars l↔v∈l∨v∈t.vl):=by
 intro t
 induction t using Tm.ind with
 | h k n s ts ih=>
  intro l hcv
  obtain⟨h1,h2⟩:=Tm.oR.1 hcv
  have key:∀(ts:List Tm) (l:List Int),(∀t∈ts,∀l,v∈t.vars l↔v∈l∨v∈t.vl)→(v∈cA ts l↔v∈l∨∃t∈ts,v∈t.vl):=by
   intro ts
   induction ts with
   | nil=>intro l _;simp [cA]
   | cons t ts iht=>
    intro l h
    simp only[cA]
    rw[iht _ (fun x hx=>h x (by simp [hx])),h t (by simp)]
    simp [or_assoc]
  simp only[Tm.vars]
  rw[key ts _ (fun t ht l=>ih t ht l (h2 t ht))]
  by_cases hk:k=1
  · obtain⟨rfl,rfl⟩:=h1 hk
    rw[Tm.mZ hk]
    by_cases hn:n∈l
    · simp [hk,hn];exact fun e=>e▸hn
    · simp [hk,hn]
  · rw[Tm.kY hk];simp [hk]
theorem xR{v:Int}:∀(ts:List Tm) (l:List Int),(∀t∈ts,t.cv=true)→(v∈cA ts l↔v∈l∨∃t∈ts,v∈t.vl)
 | [],l,_=>by simp [cA]
 | t::ts,l,h=>by
  simp only[cA]
  rw[xR ts _ (fun x hx=>h x (by simp [hx])),Tm.bAT t l (h t (by simp))]
  simp [or_assoc]
theorem bAY{σ:Sub}{R:Int→Tm}{rk:Int→Nat}{B:Nat}(G:Good σ R rk B){n:Int}{W:List Int}(hW:∀w∈W,w≠n∧∀u,σ w=some u→∀v∈u.vl,v∈W):∀w∈W,n∉(R w).vl:=by
 refine fun w=>G.ind (p:=fun w=>w∈W→n∉(R w).vl) (fun w h hw hm=>?_) (fun w u h ih hw hm=>?_) w
 · rw[G.free h,zN] at hm
   simp only[cG,cX,dG] at hm
   exact(hW w hw).1 hm.symm
 · rw[G.bound h] at hm
   obtain⟨v,hv,hnv⟩:=(zL u).1 hm
   exact ih v hv ((hW w hw).2 u h v hv) hnv
theorem a1N{w:Nat}{l:List AV}{i:Nat}{e:AV}(hw:∀e∈l,e.width=w)(h:l[i]?=some e) :
 ∃A B,l.flatMap AV.cells=A++e.cells++B∧A.length=i*w∧∀e',(l.set i e').flatMap AV.cells=A++e'.cells++B:=by
 obtain⟨hi,he⟩:=fC.1 h
 refine⟨(l.take i).flatMap AV.cells,(l.drop (i+1)).flatMap AV.cells,?_,?_,fun e'=>?_⟩
 · have:l=l.take i++e::l.drop (i+1):=by rw[←he,←oM hi,oO]
   conv=>lhs;rw[this]
   simp
 · rw[mD (fun e he=>hw e (l9 he)),dZ,kQ (by omega)]
 · rw[OW,aN hi]
   simp
def cellOf:Option Tm→AV
 | some u=>u.av
 | none=>zt
theorem KF(o:Option Tm):(cellOf o).width=4:=by cases o<;>first | rfl | exact aT _
theorem aW1(o:Option Tm):(cellOf o).cells.length=4:=by rw[wK,KF]
end Go.AW
namespace Go.AW
open Go.Proofs.Tryz
abbrev dM (l:List Tm):AV:=.agg [.slice (l.map Tm.av)]
theorem aLT(v:Int):∀(l:List Int) (i:Int),v∈l→∃j:Nat,eN v l i=i+j∧j<l.length∧l[j]?=some v∧∀k:Nat,k<j→l[k]?≠some v
 | [],i,h=>by simp at h
 | x::xs,i,h=>by
  simp only[eN]
  by_cases e:v=x
  · exact⟨0,by rw[aN e];simp,by simp,by simp [e],fun k hk=>absurd hk (Nat.not_lt_zero k)⟩
  · obtain⟨j,h1,h2,h3,h4⟩:=aLT v xs (i+1) (by simpa [e] using h)
    refine⟨j+1,by rw[aK e,h1];omega,by simp;omega,by simpa using h3,fun k hk=>?_⟩
    cases k with
    | zero=>simp;exact fun h=>e h.symm
    | succ k=>simpa using h4 k (by omega)
theorem VD:∀(a b:List Tm) (l:List Int),cA (a++b) l=cA b (cA a l)
 | [],_,_=>rfl
 | t::a,b,l=>by simp only[gR,cA,VD a b]
abbrev TY:=zi aX (zi cI (zi cC iP))
theorem YR(q:List Tm)(st:aA)(hwf:∀t∈q,t.wf=true)(hsz:aH Tm.nodes q≤1099511627776):aD prog 115 [.slice (q.map Tm.av)] st (fun r st'=>r=.slice ((cA q []).map iv)∧st'=st):=by
 refine aD.done ?_
 refine wF [1000000] 1 func115 ntmps115 rfl rfl ?_
 simp only[cV,AV.fits,dE,aE]
 intro ⟨hl,_⟩
 simp only[aB,seval,TY]
 refine vY (σ:=Unit) [1000000] [0,2] q 1 3 (fun i _=>(cA (q.take i) []).map iv) (fun _ _=>True) (fun i _=>[(4,.int .i64 i)]) (fun _ _=>st) (fun i _ _ e he=>by simp only[cF] at he;obtain⟨t,_,rfl⟩:=he;exact⟨rfl,rfl⟩) (by decide +kernel) ⟨(),0,trivial,fun h=>absurd rfl h,aP.mk (by simp only[lT,kE,cA,bS,aB,↓aW,seval])⟩ (fun i x s b hx hlt a7 hdr hinv hb=>?_) (fun s b hge hinv=>?_)
 case refine_2=>
  simp only[hge,gW,iC,nE,lF,eD,aE,aB,seval,TY]
  exact⟨rfl,aO.refl _⟩
 have hw:=aZ (n:=(i:Int)+1)
 have hat:=bH (av:=Tm.av) bY hx (aT x)
 have hst:=rK Tm.nodes hx
 have hvl:=zH (q.take i) []
 simp only[bG,jW] at hvl
 have htk:x.vars (cA (q.take i) [])=cA (q.take (i+1)) []:=by
  rw[fN,hx,VD]
  try rfl
 simp only[a7,aE,hat,aB,seval,TY]
 refine(GR x (cA (q.take i) []) b st (hwf x (cH hx)) hb (by omega)).mono ?_
 rintro _ _ ⟨b',rfl,rfl,hb'⟩
 rw[htk] at hb' ⊢
 simp only[aB,seval]
 exact⟨(),b',hb',aP.mk (by simp only[hw,aB,seval])⟩
abbrev a9M:=zi aX (zi tB (zi d9 iQ))
theorem CZ(k:Int)(st:aA)(h1:k≤1099511627776):aD prog 78 [.int .i64 k] st (fun r st'=>r=.str (mt k)∧st'=st):=by
 refine wF [] 1 func78 ntmps78 rfl rfl ?_
 intro _
 simp only[aB,seval]
 refine aQ (fun h=>?_) (fun h=>?_)
 · simp only[aB,seval]
   simp only[bM] at h
   simp only[mt,h,dV]
 simp only[cL] at h
 obtain⟨n,rfl⟩:=JA (show 0≤k by omega)
 have hmt:mt (n:Int)=⟨(109::vO n []).toArray⟩:=by simp only[mt,h,cM,kB]
 rw[hmt]
 simp only[aB,seval]
 refine oI (σ:=Nat×List UInt8) [] [2] (fun p=>vO p.1 p.2=vO n []∧p.2.length+p.1≤1099511627776) (fun p=>[(0,.int .i64 p.1),(3,.str ⟨p.2.toArray⟩)]) (fun _=>st) (fun p=>p.1) (by decide +kernel)
  ⟨(n,[]),⟨rfl,by simp;omega⟩,aP.mk (by simp only[aB,seval])⟩ ?_
 rintro⟨k,acc⟩ ⟨hd,hb⟩
 simp only at hd hb
 simp only[aB,seval]
 refine aQ (fun h2=>?_) (fun h2=>?_)
 case refine_2=>
  simp only[cL] at h2
  obtain rfl:k=0:=by omega
  rw[a52] at hd
  have hsz:(⟨#[109]⟩:ByteArray).size+(⟨acc.toArray⟩:ByteArray).size≤maxLen:=by
   show 1+acc.toArray.size≤maxLen
   unfold maxLen
   simp;omega
  simp only[hsz,aB,↓aW,seval]
  rw[←hd]
  congr 1
 simp only[bM] at h2
 have hr:((k:Int)).tmod 10=((k % 10:Nat):Int):=by rw[Int.tmod_eq_emod_of_nonneg (by omega)];omega
 have hq:((k:Int)).tdiv 10=((k / 10:Nat):Int):=by rw[Int.tdiv_eq_ediv_of_nonneg (by omega)];omega
 have hw:=aZ (n:=48+((k % 10:Nat):Int))
 have hw8:IntKind.wrap .u8 (48+((k % 10:Nat):Int))=((48+k % 10:Nat):Int):=by rw[IntKind.wrap_u8];omega
 have hw2:=aZ (n:=((k / 10:Nat):Int))
 have hby:bytesOf [AV.int .u8 ((48+k % 10:Nat):Int)]=some [UInt8.ofNat (48+k % 10)]:=by
  simp only[bytesOf,kB,qM]
 have hsz:(⟨#[UInt8.ofNat (48+k % 10)]⟩:ByteArray).size+(⟨acc.toArray⟩:ByteArray).size≤maxLen:=by
  show 1+acc.toArray.size≤maxLen
  unfold maxLen
  simp;omega
 simp only[pM,hr,hq,hw,hw8,hw2,hby,hsz,aB,seval,a9M]
 refine⟨(k / 10,UInt8.ofNat (48+k % 10)::acc),by omega,⟨by rw[←a50 (by omega)];exact hd,by simp only[a8];omega⟩,aP.mk (by simp only[aS6,aB,seval])⟩
abbrev aPH:=zi aX (zi d9 (zi cI cC))
theorem KD:∀(l:List Tm) (j:Int) (o:AV) (bs:List Nat) (st:aA),aS st (.slice (l.map Tm.av)) o bs→bs.Nodup→0≤j→j+aH Tm.dB l≤1099511627776 →
 aD prog 47 [o,.int .i64 j] st (CE st (.slice ((dX Tm.mark Tm.dB l j).map Tm.av)) o bs (j+aH Tm.dB l))
 | l,j,o,bs,st,hO,hnd,hj0,hj1=>by
  have IH:=fun(k n:Int) (s:ByteArray) (ts:List Tm) (hm:Tm.mk k n s ts∈l)=>KD ts
  obtain⟨hlen,haL⟩:=hO.len
  rw[aE] at hlen
  have haL:=haL prog 46 _ a97
  rw[aE] at haL
  refine wF [] 2 func47 ntmps47 rfl rfl ?_
  simp only[cV]
  intro ⟨hf,_⟩
  have hl:=hlen hf
  clear hf hlen
  simp only[aB,seval]
  refine dI (σ:=List Tm×Int×aA) [] [0,4] l
   (fun i p=>p.1.length=i∧p.1++dX Tm.mark Tm.dB (l.drop i) p.2.1=dX Tm.mark Tm.dB l j∧0≤p.2.1∧p.2.1+aH Tm.dB (l.drop i)=j+aH Tm.dB l∧aS p.2.2 (.slice ((p.1++l.drop i).map Tm.av)) o bs∧∀q,q∉bs→p.2.2 q=st q)
   (fun i p=>[(1,.int .i64 p.2.1),(5,.int .i64 i)]) (fun _ p=>p.2.2) (by decide +kernel)
   ⟨([],j,st),⟨rfl,rfl,hj0,rfl,hO,fun _ _=>rfl⟩,aP.mk (by simp only[aB,↓aW,seval])⟩ (fun i x p hx hlt a7 hdr hinv=>?_) (fun p hge hinv=>?_)
  case refine_2=>
   obtain⟨done,k,s⟩:=p
   obtain⟨i1,i2,i3,i4,i5,i6⟩:=hinv
   simp only at i1 i2 i3 i4 i5 i6
   simp only[haL,hge,aB,seval]
   simp only[iA,dX,eU,aH] at i2 i4 i5
   exact⟨by rw[←i4];simp,by rw[←i2];exact i5,i6⟩
  obtain⟨done,k,s⟩:=p
  obtain⟨i1,i2,i3,i4,i5,i6⟩:=hinv
  simp only at i1 i2 i3 i4 i5 i6
  rw[hdr] at i2 i4 i5
  obtain⟨xk,xn,xs,xts⟩:=x
  simp only[aH,Tm.L5] at i4
  have mU:=HT (av:=Tm.av) (done:=done) (x:=.mk xk xn xs xts) (rest:=l.drop (i+1))
  obtain⟨b,bs',w,A,oe,bo,B,rfl,hbs,hsb,hA,hoe,hbo,hbn,n7,hw,hi,pY⟩:=i5.focus hnd mU
  rw[aT] at hw
  subst hw
  rw[i1] at hA
  obtain⟨q,rfl,hq⟩:=EJ.1 hoe
  have w6:((done++Tm.mk xk xn xs xts::l.drop (i+1)).map Tm.av).length=l.length:=by
   rw[aE,dS,a8,lP,i1];omega
  rw[w6] at haL pY ⊢
  have hat:=kT (b:=b) (len:=l.length) (w:=4) (i:=i) bY hlt
  have bCQ:∀(c:Nat),c<4→i*4+c+1≤A.length+(4+B.length):=fun c hc=>by rw[hA];omega
  have hw1:=aZ (n:=k+1)
  have hw2:=aZ (n:=k+1+1)
  have hw3:=aZ (n:=k+1+1+1)
  have hw4:=aZ (n:=(i:Int)+1)
  obtain⟨e1,e2,e3,e4,e5,e6⟩:=vN (B:=B) hA
  simp only[haL,a7,hat,hsb,hw1,hw2,e1,e2,e4,e5,lQ,qL,v7,dR,aB,seval,aPH]
  refine(CZ (k+1+1) _ (by omega)).to ?_
  simp only[hat,e1,e2,e3,qL,v7,dR,hw3,aB,seval,aPH]
  have hqs:∀(o:AO),aS (s.aC b o) (.slice (xts.map Tm.av)) q bo:=fun o=>aS.aU _ _ _ (fun x hx=>aA.aF _ _ (fun e=>hbn (e▸hx))) hq
  have hqa:q.isAgg=false:=(aS.shape hq).1
  simp only[hqa,aB,seval]
  refine(IH xk xn xs xts (cH hx) (k+1+1+1) q bo _ (hqs _) hbo (by omega) (by omega)).mono ?_
  rintro _ s2 ⟨rfl,hq2,hk2⟩
  simp only[hw4,aB,seval]
  refine⟨(done++ [(Tm.mk xk xn xs xts).mark k],k+1+1+1+aH Tm.dB xts,s2),⟨?_,?_,?_,?_,?_,?_⟩,aP.mk (by simp only[aB,seval])⟩
  · simp [i1]
  · simp only[dX,Tm.L5] at i2
    rw[←i2,show k+((3+aH Tm.dB xts:Nat):Int)=k+1+1+1+(aH Tm.dB xts:Int) by omega]
    simp
  · simp only;omega
  · simp only;omega
  · have:=pY s2 ((Tm.mk xk xn xs xts).mark k).av (.agg [.int .i64 k,.int .i64 (k+1),.str (mt (k+1+1)),q]) (aT _) (fun x hx hxb hxo=>by rw[hk2 x hxo,aA.aF _ _ hxb]) (by rw[hk2 b hbn,aA.aJ];try rfl) (by rw[Tm.aMD];exact EJ.2 ⟨q,rfl,hq2⟩)
    rw[HU] at this
    exact this
  · intro x hx
    have hxb:x≠b:=fun e=>hx (by rw[hbs];simp [e])
    have hxo:x∉bo:=fun e=>hx (n7 x e)
    show s2 x=st x
    rw[hk2 x hxo,aA.aF _ _ hxb,i6 x hx]
termination_by l=>SizeOf.sizeOf l
decreasing_by have:=List.sizeOf_lt_of_mem hm;simp only[Tm.mk.sizeOf_spec] at this;omega
abbrev M8:=zi aX (zi cI (zi dD (zi cC zG)))
theorem aMS(l:List Tm)(st:aA)(hb:l.length≤1048576)(hc:∀x∈l,∀(st:aA),aD prog 107 [Tm.av x] st (Made st (Tm.av x))) :
 aD prog 90 [.slice (l.map Tm.av)] st (Made st (.slice (l.map Tm.av))):=by
 refine wF [] 1 func90 ntmps90 rfl rfl ?_
 intro _
 simp only[aE,qQ,aB,↓aW,seval,M8]
 refine⟨by omega,by omega,by omega,?_⟩
 intro b hn
 rw[kB,BF _ (by simp)]
 refine dI (σ:=List AV×List Nat×aA) [] [0,2,3] l (fun i p=>oP (l.map Tm.av) [.int .i64 0,.int .i64 0,.str ⟨#[]⟩,.fslice []] b st i p) (fun i _=>[(4,.int .i64 i)]) (fun _ p=>p.2.2) (by decide +kernel)
  ⟨([],[],_),?_,aP.mk (by simp only[aB,↓aW,seval])⟩ (fun i x p hx hlt a7 hdr hinv=>?_) (fun p hge hinv=>?_)
 · exact oP.start hn (by rw[aE])
 case refine_3=>
  obtain⟨os,bs,s⟩:=p
  simp only[aE,hge,aB,seval,M8]
  exact hinv.done (aE _) (fun e he=>by simp only[cF] at he;obtain⟨t,_,rfl⟩:=he;exact aT t)
 obtain⟨os,bs,s⟩:=p
 simp only[aE,a7,bH (av:=Tm.av) QX hx (aT x),cD,aT,aB,seval,M8]
 refine(hc x (cH hx) _).mono ?_
 rintro r s2 AZ
 obtain⟨A,B,hs2,hA,hrw,hrs,A0⟩:=hinv.step AZ (show(l.map Tm.av)[i]?=some (Tm.av x) by rw[kD,hx];try rfl) (aT x) (fun e he=>by simp only[cF] at he;obtain⟨t,_,rfl⟩:=he;exact aT t) rfl (Tm.e9 x) (.inl (cD x))
 have hat:=kT (b:=b) (len:=l.length) (w:=4) (i:=i) bY hlt
 obtain⟨hp1,hp2⟩:=EK (B:=B) (C:=[.int .i64 0,.int .i64 0,.str ⟨#[]⟩,.fslice []]) (x:=r.cells) hA rfl hrw
 have hw:=aZ (n:=(i:Int)+1)
 simp only[hat,hs2,hrw,hrs,hp1,hw,aB,seval,M8]
 refine⟨hp2,?_⟩
 exact⟨_,A0,aP.mk (by simp only[aB,seval])⟩
abbrev aPG:=zi aX (zi d9 (zi cI (zi dD (zi cC zG))))
theorem ST:∀(a:Tm) (st:aA),a.sz≤1048576→aD prog 107 [a.av] st (Made st a.av)
 | .mk k n s ts,st,hb=>by
  rw[Tm.MT] at hb
  have hc:=fun st=>aMS ts st (by omega) fun x hx st=>ST x st (by have:=pC (f:=Tm.sz) hx;omega)
  refine aD.uH ?_
  refine wF [] 1 func107 ntmps107 rfl rfl ?_
  intro _
  simp only[bD]
  simp only[aB,seval,aPG]
  intro b hb1 b2 hb2
  have hne:b2≠b:=by rintro rfl;rw[aA.aJ] at hb2;cases hb2
  have hn2:st b2=none:=by rw[aA.aF st _ hne] at hb2;exact hb2
  simp only[aM,aB,seval]
  refine(hc _).mono ?_
  rintro q s2 ⟨bs,m1,m2,m3,m4⟩
  have hbb:b∉bs:=fun h=>by have:=m2 b h;simp [eC,hne.symm] at this
  have pX:b2∉bs:=fun h=>by have:=m2 b2 h;simp [eC] at this
  have e1:=m4 b hbb
  have e2:=m4 b2 pX
  simp only[eC,hne,hne.symm,dV,cM] at e1 e2
  have hqc:q.cells= [q]:=by have:=(aS.shape m3).1;cases q<;>first | rfl | simp [AV.isAgg] at this
  have hqs:q.storable=true:=by
   have:=m3
   simp only[aS] at this
   rcases this with ⟨_,rfl,_⟩ | ⟨_,_,_,_,rfl,_⟩<;>rfl
  simp only[eC,hne.symm,e1,e2,hqc,hqs,aM,aB,seval,aPG]
  refine⟨[b,b2],bs,m1,fun x hx=>?_,?_,?_,?_⟩
  · have:=m2 x hx
    have h1:x≠b:=fun e=>hbb (e▸hx)
    have h2:x≠b2:=fun e=>pX (e▸hx)
    simpa [eC,h1,h2] using this
  · simp [hb1,hn2,hbb,pX]
  · rw[←bD]
    refine EJ.2 ⟨q,rfl,aS.aU _ _ _ (fun x hx=>?_) m3⟩
    have h1:x≠b:=fun e=>hbb (e▸hx)
    have h2:x≠b2:=fun e=>pX (e▸hx)
    simp only[eC,h1,h2,cM]
  · intro x hx hd
    simp only[cG,cX,dG,jI] at hd
    simp only[eC,hd.1,hd.2,cM]
    rw[m4 x hx]
    simp only[eC,hd.1,hd.2,cM]
termination_by a=>SizeOf.sizeOf a
decreasing_by have:=List.sizeOf_lt_of_mem hx;simp only[Tm.mk.sizeOf_spec];omega
abbrev UV:=zi aX (zi cB (zi cI cC))
theorem PV(l l':List Tm)(st:aA)(hc:∀x∈l,∀(y:Tm) (st:aA),aD prog 113 [Tm.av x,Tm.av y] st (fun r st'=>r=.bool (Tm.same x y)∧st'=st)) :
 aD prog 100 [.slice (l.map Tm.av),.slice (l'.map Tm.av)] st (fun r st'=>r=.bool (jL Tm.same l l')∧st'=st):=by
 refine wF [] 2 func100 ntmps100 rfl rfl ?_
 simp only[cV,AV.fits,dE,aE]
 intro ⟨⟨hl,_⟩,⟨hl',_⟩⟩
 simp only[aE,aB,seval,UV]
 refine⟨fun h4=>?_,fun h4=>?_⟩
 · simp only[aB,seval]
   simp only[gZ,cL] at h4
   rw[DI _ (show l.length≠l'.length by omega)]
 simp only[aB,seval]
 simp only[kZ,bM] at h4
 have h4':l.length=l'.length:=by omega
 refine oJ (α:=Nat) [] (fun i=>i≤l.length∧∀(j:Nat) (x y:Tm),j<i→l[j]?=some x→l'[j]?=some y→Tm.same x y=true)
  (fun i=>[(0,.slice (l.map Tm.av)),(1,.slice (l'.map Tm.av)),(5,.int .i64 i)]) (fun _=>st) (fun i=>l.length - i) (by decide +kernel)
  ⟨0,⟨by omega,by intro j x y h;omega⟩,aP.mk (by simp only[aB,↓aW,seval])⟩ ?_
 intro i ⟨hi,dN⟩
 simp only[aE,aB,seval,UV]
 refine⟨fun h5=>?_,fun h5=>?_⟩
 case refine_2=>
  simp only[aB,seval]
  simp only[cL,g7] at h5
  rw[DG _ h4' (fun j x y h6 h7=>dN j x y (by have:=(fC.1 h6).1;omega) h6 h7)]
 simp only[bM,g7] at h5
 obtain⟨x,hx⟩:∃x,l[i]?=some x:=⟨_,eK h5⟩
 obtain⟨y,hy⟩:∃y,l'[i]?=some y:=⟨_,eK (h4'▸h5)⟩
 simp only[aB,seval]
 refine GO mixed (by decide +kernel) (by decide +kernel) ?_
 simp only[bH (av:=Tm.av) bY hx (aT x),bH (av:=Tm.av) bY hy (aT y),cD,aT,aB,seval,UV]
 refine(hc x (cH hx) y st).to ?_
 simp only[aB,seval]
 refine⟨fun h6=>?_,fun h6=>?_⟩
 · simp only[aB,seval]
   have h7:Tm.same x y=false:=by simpa using h6
   rw[DH _ i x y hx hy h7]
 have h7:Tm.same x y=true:=by simpa using h6
 simp only[aB,seval]
 refine⟨i+1,by omega,⟨by omega,fun j u v hj hu hv=>?_⟩,aP.mk ?_⟩
 · rcases mB j i with h8 | h8
   · exact dN j u v h8 hu hv
   · obtain rfl:j=i:=by omega
     rw[hx] at hu;rw[hy] at hv;cases hu;cases hv;exact h7
 · have:=aZ (n:=(i:Int)+1)
   simp only[this,aB,seval]
abbrev UW:=zi aX (zi dD zG)
theorem Y9(l:List Tm)(left:Int)(st:aA)(h0:0≤left)(h1:left≤1048576)(hc:∀x∈l,∀(left:Int) (st:aA),0≤left→left≤1048576→aD prog 101 [Tm.av x,.int .i64 left] st (fun r st'=>r=.int .i64 (eY left (Tm.sz x))∧st'=st)) :
 aD prog 82 [.slice (l.map Tm.av),.int .i64 left] st (fun r st'=>r=.int .i64 (eY left (l.length+aH Tm.sz l))∧st'=st):=by
 refine wF [] 2 func82 ntmps82 rfl rfl ?_
 simp only[cV,AV.fits,dE,aE]
 intro ⟨hl,_⟩
 have hw:=aZ (n:=left - (l.length:Int))
 simp only[aE,hw,aB,seval,UW]
 refine⟨fun h4=>?_,fun h4=>?_⟩
 · simp only[aB,seval]
   simp only[bM] at h4
   simp only[eY]
   rw[aN (by omega)]
 simp only[cL] at h4
 simp only[aB,seval]
 refine oJ (α:=Nat) [] (fun i=>i≤l.length∧((l.length+aH Tm.sz (l.take i):Nat):Int)≤left)
  (fun i=>[(0,.slice (l.map Tm.av)),(1,.int .i64 (left - ((l.length+aH Tm.sz (l.take i):Nat):Int))),(5,.int .i64 i)]) (fun _=>st) (fun i=>l.length - i) (by decide +kernel)
  ⟨0,⟨by omega,by simp only[kE,aH];omega⟩,aP.mk (by simp only[aH,lQ,aB,↓aW,seval])⟩ ?_
 intro i ⟨hi,hle⟩
 simp only[aE,aB,seval,UW]
 refine⟨fun h5=>?_,fun h5=>?_⟩
 case refine_2=>
  simp only[aB,seval]
  simp only[cL,g7] at h5
  rw[show i=l.length by omega,eD] at hle ⊢
  rw[jJ (by omega)]
 simp only[bM,g7] at h5
 obtain⟨x,hx⟩:∃x,l[i]?=some x:=⟨_,eK h5⟩
 simp only[bH (av:=Tm.av) QX hx (aT x),cD,aT,aB,seval,UW]
 refine(hc x (cH hx) _ st (by omega) (by omega)).to ?_
 have hs:=rK Tm.sz hx
 simp only[aB,seval]
 refine⟨fun h6=>?_,fun h6=>?_⟩
 · simp only[aB,seval]
   simp only[bM,gV] at h6
   simp only[eY]
   rw[aN (by omega)]
 simp only[cL,gV] at h6
 rw[jJ h6]
 simp only[aB,seval]
 refine⟨i+1,by omega,⟨by omega,by omega⟩,aP.mk ?_⟩
 · have:=aZ (n:=(i:Int)+1)
   have e:(left - ((l.length+aH Tm.sz (l.take (i+1)):Nat):Int))=left - ((l.length+aH Tm.sz (l.take i):Nat):Int) - ((Tm.sz x:Nat):Int):=by omega
   simp only[this,e,aB,seval]
abbrev NE:=zi aX (zi cB (zi d9 (zi cI cC)))
theorem J9:∀(a b:Tm) (st:aA),aD prog 113 [a.av,b.av] st (fun r st'=>r=.bool (a.same b)∧st'=st)
 | .mk k n s ts,.mk k' n' s' ts',st=>by
  have hc:=PV ts ts' st fun x hx y st=>J9 x y st
  refine wF [] 2 func113 ntmps113 rfl rfl ?_
  intro _
  simp only[bD,Tm.MM]
  simp only[aB,seval,NE]
  refine⟨fun h1=>?_,fun h1=>?_⟩
  · simp only[aB,seval]
    simp only[gZ] at h1
    simp [h1]
  simp only[kZ] at h1
  simp only[aB,seval,NE]
  refine⟨fun h2=>?_,fun h2=>?_⟩
  · simp only[aB,seval]
    simp only[gZ] at h2
    simp [h2]
  simp only[kZ] at h2
  simp only[aB,seval,NE]
  refine⟨fun h3=>?_,fun h3=>?_⟩
  · simp only[aB,seval]
    simp only[gZ] at h3
    simp [h3]
  simp only[kZ] at h3
  simp only[aB,seval,NE]
  refine hc.to ?_
  simp only[aB,seval]
  refine⟨fun h4=>?_,fun h4=>?_⟩<;>simp only[aB,seval]
  · simp only[gZ] at h4
    simp [h4]
  · simp only[kZ] at h4
    simp [h1,h2,h3,h4]
termination_by a=>SizeOf.sizeOf a
decreasing_by have:=List.sizeOf_lt_of_mem hx;simp only[Tm.mk.sizeOf_spec];omega
abbrev aPS:=zi aX (zi d9 (zi dD zG))
theorem P7:∀(a:Tm) (left:Int) (st:aA),0≤left→left≤1048576→aD prog 101 [a.av,.int .i64 left] st (fun r st'=>r=.int .i64 (eY left a.sz)∧st'=st)
 | .mk k n s ts,left,st,h0,h1=>by
  have hc:=fun(left:Int) h0 h1=>Y9 ts left st h0 h1 fun x hx left st h0 h1=>P7 x left st h0 h1
  refine wF [] 2 func101 ntmps101 rfl rfl ?_
  simp only[bD,Tm.MT,cV,AV.fits,dE]
  intro ⟨_,_,hs,_⟩
  have hw:=aZ (n:=left - (s.size:Int))
  simp only[hw,aB,seval,aPS]
  refine⟨fun h2=>?_,fun h2=>?_⟩
  · simp only[aB,seval]
    simp only[bM] at h2
    simp only[eY]
    rw[aN (by omega)]
  simp only[cL] at h2
  simp only[aB,seval,aPS]
  refine(hc _ (by omega) (by omega)).to ?_
  simp only[aB,seval]
  refine⟨fun h3=>?_,fun h3=>?_⟩
  · simp only[aB,seval]
    simp only[bM,gV] at h3
    simp only[eY]
    rw[aN (by omega)]
  simp only[cL,gV] at h3
  simp only[aB,seval]
  rw[jJ h3,jJ (by omega)]
  simp only[AV.int.injEq,true_and]
  omega
termination_by a=>SizeOf.sizeOf a
decreasing_by have:=List.sizeOf_lt_of_mem hx;simp only[Tm.mk.sizeOf_spec];omega
abbrev bDC:=zi aX (zi cI (zi dD (zi cC zG)))
abbrev UX:=zi aX (zi cB (zi cI cC))
theorem aTP(l l':List Tm)(g:FuncId)(st:aA)(hc:∀x∈l,∀(y:Tm) (st:aA),aD prog g [Tm.av x,Tm.av y] st (fun r st'=>r=.bool (Tm.same x y)∧st'=st)) :
 aD prog 220 [.slice (l.map Tm.av),.slice (l'.map Tm.av),.func g []] st (fun r st'=>r=.bool (jL Tm.same l l')∧st'=st):=by
 refine wF [1000000] 3 func220 ntmps220 rfl rfl ?_
 simp only[cV,AV.fits,dE,aE]
 intro ⟨⟨hl,_⟩,⟨hl',_⟩⟩
 simp only[aE,aB,seval,UX]
 refine⟨fun h4=>?_,fun h4=>?_⟩
 · simp only[aB,seval]
   simp only[gZ,cL] at h4
   rw[DI _ (show l.length≠l'.length by omega)]
 simp only[kZ,bM] at h4
 have h4':l.length=l'.length:=by omega
 simp only[aE,aB,seval,UX]
 refine dI (σ:=Unit) [1000000] [1,2,15,16] l (fun i _=>∀(j:Nat) (x y:Tm),j<i→l[j]?=some x→l'[j]?=some y→Tm.same x y=true) (fun i _=>[(17,.int .i64 i)]) (fun _ _=>st) (by decide +kernel) ⟨(),by intro j x y h;omega,aP.mk (by simp only[aB,↓aW,seval])⟩ (fun i x _ hx hlt a7 hdr dN=>?_) (fun _ hge dN=>?_)
 case refine_2=>
  simp only[hge,aB,seval]
  rw[DG _ h4' (fun j x y h6 h7=>dN j x y (by have:=(fC.1 h6).1;omega) h6 h7)]
 obtain⟨y,hy⟩:∃y,l'[i]?=some y:=⟨_,eK (h4'▸hlt)⟩
 have hw:=aZ (n:=(i:Int)+1)
 simp only[a7,cD,aT,Tm.e9,Tm.fP,bH (av:=Tm.av) bY hx (aT x),bH (av:=Tm.av) bY hy (aT y),aB,↓aW,seval,UX]
 refine(hc x (cH hx) y _).to ?_
 simp only[aB,seval]
 refine⟨fun h6=>?_,fun h6=>?_⟩
 · simp only[aB,seval]
   have h7:Tm.same x y=false:=by simpa using h6
   rw[DH _ i x y hx hy h7]
 have h7:Tm.same x y=true:=by simpa using h6
 simp only[aB,seval]
 refine⟨(),fun j u v hj hu hv=>?_,aP.mk (by simp only[hw,aB,seval])⟩
 rcases mB j i with h8 | h8
 · exact dN j u v h8 hu hv
 · obtain rfl:j=i:=by omega
   rw[hx] at hu;rw[hy] at hv;cases hu;cases hv;exact h7
abbrev bDB:=zi aX (zi d9 (zi cI (zi dD (zi cC zG))))
abbrev NF:=zi aX (zi cB (zi d9 (zi cI cC)))
theorem X8:∀(a b:Tm) (st:aA),aD prog 206 [a.av,b.av] st (fun r st'=>r=.bool (a.same b)∧st'=st)
 | .mk k n s ts,.mk k' n' s' ts',st=>by
  have hc:=aTP ts ts' 206 st fun x hx y st=>X8 x y st
  refine wF [] 2 func206 ntmps206 rfl rfl ?_
  intro _
  simp only[bD,Tm.MM]
  simp only[aB,seval,NF]
  refine cP (fun h1=>?_) (fun h1=>?_)
  case refine_2=>
   simp only[h1,aB,seval]
   simp at h1
   simp []
  simp only[h1,aB,seval,NF]
  refine cP (fun h2=>?_) (fun h2=>?_)
  case refine_2=>
   simp only[h2,aB,seval]
   simp at h2
   simp []
  simp only[h2,aB,seval,NF]
  refine cP (fun h3=>?_) (fun h3=>?_)
  case refine_2=>
   simp only[h3,aB,seval]
   simp at h3
   simp []
  simp only[h3,aB,seval,NF]
  refine hc.to ?_
  simp only[aB,seval]
termination_by a=>SizeOf.sizeOf a
decreasing_by have:=List.sizeOf_lt_of_mem hx;simp only[Tm.mk.sizeOf_spec];omega
abbrev FA:=zi aX (zi cB (zi d9 (zi cI cC)))
theorem Y6:∀(a b:Tm) (st:aA),aD prog 161 [a.av,b.av] st (fun r st'=>r=.bool (a.same b)∧st'=st)
 | .mk k n s ts,.mk k' n' s' ts',st=>by
  have hc:=fun(x:Tm) (hx:x∈ts) y st=>Y6 x y st
  refine wF [] 2 func161 ntmps161 rfl rfl ?_
  simp only[bD,cV,AV.fits,dE,aE,Tm.MM]
  intro ⟨⟨_,_,_,hl,_⟩,⟨_,_,_,hl',_⟩⟩
  simp only[aB,seval,FA]
  refine cP (fun h1=>?_) (fun h1=>?_)
  case refine_2=>
   simp only[h1,aB,seval]
   simp at h1
   simp [h1]
  simp only[h1,aB,seval,FA]
  refine cP (fun h2=>?_) (fun h2=>?_)
  case refine_2=>
   simp only[h2,aB,seval]
   simp at h2
   simp [h2]
  simp only[h2,aB,seval,FA]
  refine cP (fun h3=>?_) (fun h3=>?_)
  case refine_2=>
   simp only[h3,aB,seval]
   simp at h3
   simp [h3]
  simp only[h3,aE,aB,seval,FA]
  refine⟨fun h4=>?_,fun h4=>?_⟩
  · simp only[aB,seval]
    simp only[gZ,cL] at h4
    rw[DI _ (show ts.length≠ts'.length by omega)]
    simp
  simp only[aB,seval]
  simp only[kZ,bM] at h1 h2 h3 h4
  have h4':ts.length=ts'.length:=by omega
  subst h1 h2 h3
  simp only[dU,gM]
  refine oJ (α:=Nat) [] (fun i=>i≤ts.length∧∀(j:Nat) (x y:Tm),j<i→ts[j]?=some x→ts'[j]?=some y→Tm.same x y=true)
   (fun i=>[(2,.pptr (.agg [.int .i64 k,.int .i64 n,.str s,.slice (ts.map Tm.av)])),(3,.pptr (.agg [.int .i64 k,.int .i64 n,.str s,.slice (ts'.map Tm.av)])),(5,.int .i64 i)]) (fun _=>st) (fun i=>ts.length - i) (by decide +kernel)
   ⟨0,⟨by omega,by intro j x y h;omega⟩,aP.mk (by simp only[aB,↓aW,seval])⟩ ?_
  intro i ⟨hi,dN⟩
  simp only[aE,aB,seval,FA]
  refine⟨fun h5=>?_,fun h5=>?_⟩
  case refine_2=>
   simp only[aB,seval]
   simp only[cL,g7] at h5
   rw[DG _ h4' (fun j x y h6 h7=>dN j x y (by have:=(fC.1 h6).1;omega) h6 h7)]
  simp only[bM,g7] at h5
  obtain⟨x,hx⟩:∃x,ts[i]?=some x:=⟨_,eK h5⟩
  obtain⟨y,hy⟩:∃y,ts'[i]?=some y:=⟨_,eK (h4'▸h5)⟩
  simp only[aB,seval]
  refine GO mixed (by decide +kernel) (by decide +kernel) ?_
  simp only[bH (av:=Tm.av) bY hx (aT x),bH (av:=Tm.av) bY hy (aT y),cD,aT,aB,seval,FA]
  refine(hc x (cH hx) y st).to ?_
  simp only[aB,seval]
  refine⟨fun h6=>?_,fun h6=>?_⟩
  · simp only[aB,seval]
    have h7:Tm.same x y=false:=by simpa using h6
    rw[DH _ i x y hx hy h7]
  have h7:Tm.same x y=true:=by simpa using h6
  simp only[aB,seval]
  refine⟨i+1,by omega,⟨by omega,fun j u v hj hu hv=>?_⟩,aP.mk ?_⟩
  · rcases mB j i with h8 | h8
    · exact dN j u v h8 hu hv
    · obtain rfl:j=i:=by omega
      rw[hx] at hu;rw[hy] at hv;cases hu;cases hv;exact h7
  · have:=aZ (n:=(i:Int)+1)
    simp only[this,aB,seval]
termination_by a=>SizeOf.sizeOf a
decreasing_by have:=List.sizeOf_lt_of_mem hx;simp only[Tm.mk.sizeOf_spec];omega
theorem HS{α:Type}(mk:α→Int→α)(n:α→Nat):∀(l:List α) (j:Int) (i:Nat),(dX mk n l j).drop i=dX mk n (l.drop i) (j+aH n (l.take i))
 | [],_,i=>by simp [dX]
 | x::l,j,0=>by simp [aH]
 | x::l,j,i+1=>by
  simp only[dX,List.drop_succ_cons,x8,aH,HS mk n l _ i]
  congr 1
  omega
abbrev M7:=zi aX (zi d9 (zi cI (zi dD cC)))
theorem KA:∀(l:List Tm) (j:Int) (st:aA),0≤j→j+aH Tm.dB l≤1099511627776 →
 aD prog 51 [.slice ((dX Tm.mark Tm.dB l j).map Tm.av),.int .i64 j] st (fun r st'=>r=.int .i64 (j+aH Tm.dB l)∧st'=st)
 | l,j,st,h0,h1=>by
  have IH:=fun(k n:Int) (s:ByteArray) (ts:List Tm) (hm:Tm.mk k n s ts∈l)=>KA ts
  refine wF [1000000] 2 func51 ntmps51 rfl rfl ?_
  simp only[cV,AV.fits,dE,aE,xC]
  intro ⟨hl,_⟩
  have hML:(dX Tm.mark Tm.dB l j).length=l.length:=xC _ _ _ _
  simp only[aB,seval]
  refine dI (σ:=Unit) [1000000] [0] (dX Tm.mark Tm.dB l j) (fun i _=>True) (fun i _=>[(1,.int .i64 (j+aH Tm.dB (l.take i))),(5,.int .i64 i)]) (fun _ _=>st) (by decide +kernel) ⟨(),trivial,aP.mk (by simp only[aH,kE,Int.add_zero,aB,↓aW,seval])⟩ (fun i x _ hx hlt a7 hdr _=>?_) (fun _ hge _=>?_)
  case refine_2=>
   rw[hML] at hge
   simp only[hge,eD,aE,hML,aB,seval,M7]
  rw[hML] at hlt a7
  obtain⟨y,hy⟩:∃y,l[i]?=some y:=⟨_,eK hlt⟩
  obtain⟨k,n,s,ts⟩:=y
  have hxy:x=(Tm.mk k n s ts).mark (j+aH Tm.dB (l.take i)):=by
   have:=HS Tm.mark Tm.dB l j i
   rw[hdr,oM hlt,dX,(fC.1 hy).2] at this
   exact(pK this).1
  have hs:=rK Tm.dB hy
  rw[Tm.L5] at hs
  rw[Tm.aMD] at hxy
  have hat:=bH (av:=Tm.av) bY hx (aT x)
  rw[hxy,bD] at hat
  obtain⟨hs1,hs2⟩:=hs
  generalize hk:j+(aH Tm.dB (l.take i):Int)=m at *
  have hw1:=aZ (n:=m+1)
  have hw2:=aZ (n:=m+1+1)
  have hw3:=aZ (n:=m+1+1+1)
  have hw:=aZ (n:=(i:Int)+1)
  simp only[a7,dU,fG,aE,hML,hat,hw1,hw2,aB,seval,M7]
  refine wP [(0,1),(1,1),(2,1),(3,1),(5,1),(4,2),(6,2),(7,1)] [0,1,2,3,5,4,6,7] mixed ?_
  simp only[hat,aB,seval,M7]
  refine iD (CZ (m+1+1) _ (by omega)) ?_
  simp only[dU,fG,hat,hw3,aB,seval,M7]
  refine(IH k n s ts (cH hy) (m+1+1+1) _ (by omega) (by omega)).to ?_
  have n6:¬(m+1+1+1+(aH Tm.dB ts:Int)<0):=by omega
  simp only[n6,dW,aB,seval]
  refine⟨(),aP.mk ?_⟩
  have e:j+(aH Tm.dB (l.take (i+1)):Int)=m+1+1+1+(aH Tm.dB ts:Int):=by omega
  simp only[hw,e,aB,seval]
termination_by l=>SizeOf.sizeOf l
decreasing_by have:=List.sizeOf_lt_of_mem hm;simp only[Tm.mk.sizeOf_spec] at this;omega
abbrev rL (l:List Tm):Nat:=l.length+aH Tm.sz l
theorem ZA(l:List Tm)(left:Int)(st:aA)(h0:0≤left)(h1:left≤1048576):aD prog 82 [.slice (l.map Tm.av),.int .i64 left] st (fun r st'=>r=.int .i64 (eY left (rL l))∧st'=st):=
 Y9 l left st h0 h1 fun x _ left st h0 h1=>P7 x left st h0 h1
theorem aUG(l:List Tm)(st:aA):aD prog 100 [.slice (l.map Tm.av),.slice (l.map Tm.av)] st (fun r st'=>r=.bool true∧st'=st):=by
 refine(PV l l st fun x _ y st=>J9 x y st).mono ?_
 rintro _ _ ⟨rfl,rfl⟩
 refine⟨?_,rfl⟩
 rw[(KS (fun x _ y=>Tm.ET x y)).2 rfl]
theorem a8R{l:List Tm}{x:Tm}(hx:x∈l):x.sz≤rL l:=by have:=pC (f:=Tm.sz) hx;unfold rL;omega
theorem aMT(l:List Tm)(st:aA)(hb:rL l≤1048576):aD prog 90 [.slice (l.map Tm.av)] st (Made st (.slice (l.map Tm.av))):=
 aMS l st (by unfold rL at hb;omega) fun x hx st=>ST x st (by have:=a8R hx;omega)
mutual
theorem Tm.aMF:∀(t:Tm),t.dB≤3+3*t.sz
 | .mk k n s ts=>by
  have:=VB ts
  rw[Tm.dB,Tm.MT]
  omega
theorem VB:∀(ts:List Tm),BZ ts≤3*(ts.length+aH Tm.sz ts)
 | []=>by simp [BZ]
 | t::ts=>by
  have h1:=Tm.aMF t
  have h2:=VB ts
  simp only[BZ,a8,aH]
  omega
end
theorem aMG(l:List Tm):aH Tm.dB l≤3*rL l:=by rw[←VA];exact VB l
end Go.AW
