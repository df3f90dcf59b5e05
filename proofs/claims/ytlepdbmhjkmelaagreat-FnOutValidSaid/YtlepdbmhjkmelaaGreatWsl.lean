import Derived.Test.YtlepdbmhjkmelaaGreatWsk
import Derived.Test.YtlepdbmhjkmelaaGreatWsi
import Derived.Test.YtlepdbmhjkmelaaGreatWsj
import Derived.Test.YtlepdbmhjkmelaaGreatWsf
set_option linter.unusedSimpArgs false
set_option linter.unusedVariables false
set_option maxRecDepth 100000
namespace Go.AW
open Go.Proofs.Tryz
abbrev B4:=zi aX (zi cI cK)
theorem aL8{N:Nat}{σ:Sub}(hok:dC (c8 N) σ){f:Nat}{t u:Tm}(hw:fH σ f t u)(ht:c8 N t)(st:aA):aD prog 194 [t.av,.slice (cE N σ)] st (fun r st'=>r=u.av∧st'=st):=by
 refine aD.done ?_
 refine wF [1000000,2] 2 func194 ntmps194 rfl rfl ?_
 intro _
 have hlen:(cE N σ).length=N:=by simp [cE]
 simp only[aB,seval,B4]
 intro b2 h2 b4 h4
 have hne:b4≠b2:=by rintro rfl;rw[aA.aK] at h4;cases h4
 have hn4:st b4=none:=by rw[aA.aO st _ hne] at h4;exact h4
 refine gW (σ:=Nat×Tm) [1000000,2] [1,2,4] (fun p=>fH σ p.1 p.2 u∧c8 N p.2) (fun p=>[]) (fun p=>(st.aC b2 (.cells p.2.av.cells)).aC b4 (.cells [.int .i64 0,.int .i64 0,.str ⟨#[]⟩,.fslice []])) (fun p=>p.1) (by decide +kernel) ⟨(f,t),⟨hw,ht⟩,aP.mk (by simp only[aB,seval])⟩ ?_
 rintro⟨g,t⟩ ⟨hw,ht⟩
 obtain⟨k,n,s,ts⟩:=t
 simp only at hw ht
 simp only[bY]
 have fO:k≠1∨σ n=none→u=.mk k n s ts:=fun h=>by
  cases hw with
  | stop _=>rfl
  | go h1 h2 _=>
   simp only[Tm.k] at h1
   rcases h with h | h
   · exact absurd h1 h
   · rw[show σ n=some _ from h2] at h;cases h
 simp only[hne.symm,aB,seval,B4]
 refine c5 (fun h=>?_) (fun h=>?_)
 case refine_2=>
  simp only[h,aG,hne.symm,aB,seval,B4]
  simp only[fA,d5] at h
  rw[fO (.inl h),←bY]
  exact⟨Tm.soft _,((aJ.refl _).aC h2).aC hn4⟩
 simp only[bK] at h
 subst h
 obtain⟨hn0,hn1,_⟩:=ht.var
 obtain⟨i,rfl⟩:∃i:Nat,n=i:=⟨n.toNat,by omega⟩
 have hi:i<N:=by omega
 have hi':decide ((i:Int)<(N:Int))=true:=by simp;omega
 simp only[aV,hi',eO,hne.symm,hlen,aB,seval,B4]
 have hat:dP prog 25 (.slice (cE N σ)) (.int .i64 (i:Int))=some (.pptr (cellOf (σ (i:Int)))):=bR (av:=fun i:Nat=>cellOf (σ (i:Int))) cF (List.getElem?_range hi) (G6 _)
 cases hw with
 | stop hs=>
  rw[show σ (i:Int)=none from hs rfl] at hat
  simp only[cellOf] at hat
  simp only[hat,aV,aG,hne.symm,aB,seval,B4]
  exact⟨by rw[←bY,Tm.soft],((aJ.refl _).aC h2).aC hn4⟩
 | go h1 h2' h3=>
  simp only[Tm.n] at h2'
  have ho:=hok _ _ h2'
  rename_i g' u'
  obtain⟨k',n',s',ts'⟩:=u'
  have hk':¬k'=0:=by have:=ho.kind.1;omega
  rw[h2'] at hat
  simp only[cellOf,bY] at hat
  simp only[hat,hk',a8,aG,hne.symm,aB,seval,B4]
  rw[aA.JX hne,aA.rG _ _ _ hne]
  refine⟨(g',.mk k' n' s' ts'),Nat.lt_succ_self _,⟨h3,ho⟩,?_⟩
  simp only[bY]
  exact aP.mk (by simp only[aB,seval])
abbrev rB:=zi aX (zi cG (zi cI cK))
theorem Q5{N:Nat}{σ:Sub}{R:Int→Tm}{rk:Int→Nat}{B:Nat}(G:Good σ R rk B)(hok:dC (bS N) σ) :
 ∀(room:Nat) (t:Tm) (st:aA),room≤120→bS N t→aD prog 154 [t.av,.slice (cE N σ),.int .i64 (room:Int)] st (Full (t.aS R) room st)
 | room,t,st,hr,ht=>by
  have IH:=fun(IT:Nat) (hlt:IT<room) (x:Tm) st=>Q5 G hok IT x st
  obtain⟨f,hw⟩:=G.wk t
  generalize wk σ t=u at *
  have H3:dC (c8 N) σ:=fun n u hu=>(hok n u hu).1
  have hsu:=hw.all (p:=bS N) hok ht
  have hcw:=fun st=>aL8 H3 hw ht.1 st
  obtain⟨k,n,s,ts⟩:=u
  have hv:=aSP G hw (hsu.1.2.1)
  rw[hv]
  obtain⟨hlen,vP⟩:=Tm.yF (hsu.1.small)
  have a0F:=hsu.1.kind.2
  have hkn:=hsu.1.all.2
  have hkk:∀x∈ts,bS N x:=fun x hx=>by
   refine⟨hkn x hx,?_⟩
   have:=hsu.2
   rw[Tm.gT] at this
   have:=E9 (f:=Tm.nodes) hx
   omega
  refine aD.pN (aD.fin ?_)
  refine wF [1000000,3,8] 3 func154 ntmps154 rfl rfl ?_
  intro _
  simp only[aB,seval,rB]
  intro b3 h3 b6 h6
  have h63:b6≠b3:=by rintro rfl;rw[aA.aK] at h6;cases h6
  have hn6:st b6=none:=by rw[aA.aO st _ h63] at h6;exact h6
  have hwr:∀z:Int,-1≤z→z≤200→IntKind.i64.wrap z=z:=fun z h1 h2=>wrap64 (by omega) (by omega)
  have hw1:=hwr ((room:Int) - 1) (by omega) (by omega)
  refine bE (fun h=>?_) (fun h=>?_)
  · simp only[bK] at h
    obtain rfl:room=0:=by omega
    simp only[aG,aB,↓a9,seval,rB]
    refine⟨0,[],_,rfl,by simp,by simp,⟨4,by simp⟩,st,(fun x=>by by_cases e3:x=b3<;>by_cases e6:x=b6<;>simp_all [aA.aC]),rfl,Tm.zero,-1,?_,Int.le_refl _,?_⟩
    · simp only[Tm.zero,bY,fE,eW,fX,qQ,lD,bF,bD]
    · rw[aH (by rw[Tm.gT];omega)];decide
  simp only[d5] at h
  simp only[h63.symm,aB,seval,rB]
  refine(hcw _).to ?_
  simp only[bY]
  simp only[aG,h63.symm,hw1,aB,↓a9,seval,rB]
  intro b8 h8
  have h83:b8≠b3:=by rintro rfl;simp [aA.aC] at h8
  have h86:b8≠b6:=by rintro rfl;simp [aA.aC,h63] at h8
  have hn8:st b8=none:=by rw[aA.aO _ _ h83,aA.aO _ _ h86,aA.aO _ _ h83] at h8;exact h8
  rw[aA.JX h63]
  have hW6:((st.aC b6 (.cells [.int .i64 0,.int .i64 0,.str ⟨#[]⟩,.fslice []])).aC b3 (.cells [.int .i64 k,.int .i64 n,.str s,.slice (ts.map Tm.av)])) b6=some (.cells [.int .i64 0,.int .i64 0,.str ⟨#[]⟩,.fslice []]):=by rw[aA.aO _ _ h63,aA.aK]
  have hW3:((st.aC b6 (.cells [.int .i64 0,.int .i64 0,.str ⟨#[]⟩,.fslice []])).aC b3 (.cells [.int .i64 k,.int .i64 n,.str s,.slice (ts.map Tm.av)])) b3=some (.cells [.int .i64 k,.int .i64 n,.str s,.slice (ts.map Tm.av)]):=aA.aK _ _ _
  have hWd:∀Y Z,aJ ((((st.aC b6 (.cells [.int .i64 0,.int .i64 0,.str ⟨#[]⟩,.fslice []])).aC b3 (.cells [.int .i64 k,.int .i64 n,.str s,.slice (ts.map Tm.av)])).aC b8 Z).aC b6 Y) st:=fun Y Z x=>by
   by_cases e3:x=b3<;>by_cases e6:x=b6<;>by_cases e8:x=b8<;>simp_all [aA.aC]
  generalize ((st.aC b6 (.cells [.int .i64 0,.int .i64 0,.str ⟨#[]⟩,.fslice []])).aC b3 (.cells [.int .i64 k,.int .i64 n,.str s,.slice (ts.map Tm.av)]))=W at *
  have aE8:(Tm.mk k n s (ts.map (Tm.aS R))).nodes=1+bU Tm.nodes (ts.map (Tm.aS R)):=Tm.gT _ _ _ _
  refine d7 (σ:=Nat×List Tm×Int) [1000000,3,8] [1,3,6,7,8] ts
   (fun i p=>(p.2.1.map Tm.av≠[]→(W.aC b8 (.cells ([.int .i64 k,.int .i64 n,.str s]++ [bQ 4 p.1 (p.2.1.map Tm.av)]))) p.1=none)∧p.2.1.length=i∧-1≤p.2.2 ∧
    (0≤p.2.2→p.2.1=(ts.take i).map (Tm.aS R)∧p.2.2=(room:Int) - 1 - bU Tm.nodes p.2.1)∧(p.2.2<0→room<1+bU Tm.nodes (ts.map (Tm.aS R))))
   (fun i p=>[(9,.int .i64 p.2.2),(10,.int .i64 i)])
   (fun i p=>nR W b8 p.1 [.int .i64 k,.int .i64 n,.str s] (p.2.1.map Tm.av)) (by decide +kernel)
   ⟨(0,[],(room:Int) - 1),⟨fun h=>absurd rfl h,rfl,by simp only;omega,fun _=>⟨by simp,by simp [bU]⟩,fun h=>by simp only at h;omega⟩,aP.mk (by simp only[aB,↓a9,seval])⟩ (fun i x p hx hlt bN aEO hinv=>?_) (fun p hge hinv=>?_)
  · obtain⟨b,acc,left⟩:=p
    obtain⟨i1,i2,i3,i4,i5⟩:=hinv
    simp only at i1 i2 i3 i4 i5
    have h3o:=sE i1 (x:=b3) (by rw[hW3];simp) h83.symm
    rw[hW3] at h3o
    simp only[bN,aV,eO,aE,h3o,aB,seval,rB]
    refine bE (fun h9=>?_) (fun h9=>?_)
    case refine_2=>
     simp only[d5] at h9
     have hbo:=mS i1
     have h6o:=sE i1 (x:=b6) (by rw[hW6];simp) h86.symm
     rw[hW6] at h6o
     simp only[aG,hbo,h6o,iM,aB,seval,rB]
     obtain⟨g5,g6⟩:=vS (o:=.cells [.int .i64 k,.int .i64 n,.str s,bQ 4 b (acc.map Tm.av)]) i1 (show W b6≠none by rw[hW6];simp) h86.symm
     refine⟨b,_,_,g5,g6,n8 _,⟨4,gF _⟩,st,hWd _ _,rfl,.mk k n s acc,left,?_,i3,?_⟩
     · simp only[eW,fE,bF,bD,fX,qQ,kY,bY]
     · rw[aE8]
       skip
       rw[aH (by have:=i5 (by omega);omega)]
       omega
    simp only[bK] at h9
    obtain⟨e1,e2⟩:=i4 h9
    have fP:=cQ hx
    have hsl:=aXJ Tm.nodes (ts.map (Tm.aS R)) (i+1)
    rw[←List.map_take,eD,hx] at hsl
    simp only[KF,pA,bF,bD,I0,bU,←e1] at hsl
    obtain⟨IT,rfl⟩:∃r:Nat,left=r:=⟨left.toNat,by omega⟩
    have cS:(acc.map Tm.av).length=i:=by rw[aE,i2]
    have hw:=bH (n:=(i:Int)+1)
    have hbo:=mS i1
    simp only[h3o,bR (av:=Tm.av) cF hx (aQ x),bM,aQ,aB,seval,rB]
    refine(IH IT (by omega) x _ (by omega) (hkk x fP)).mono ?_
    rintro _ _ ⟨rfl,y,aUD,rfl,hl1,hl2⟩
    simp only[bM,aQ,cO,cR,hbo,tG,aB,↓a9,seval,rB]
    refine eE cF kL kM rfl rfl (gZ (aQ _) (cO _)) (gF _) i1 (by simp only[cS,aY,aW];omega) (by simp only[cS,aY,aW];omega) (fun b' hb'=>?_)
    rw[show acc.map Tm.av++ [y.av]=(acc++ [y]).map Tm.av by simp] at hb' ⊢
    obtain⟨g1,g2,g3⟩:=xS hb'
    simp only[gO,dI] at g1 g3
    simp only[g3,nG,iM,g1,hw,aG,aB,seval,rB]
    refine⟨(b',acc++ [y],aUD),⟨g2,by simp [i2],hl1,fun h=>?_,fun h=>?_⟩,aP.mk (by simp only[aB,seval])⟩
    · simp only at h
      split at hl2
      · obtain⟨rfl,hl3⟩:=hl2
        refine⟨by rw[eD,hx];simp [e1],?_⟩
        simp only[I0,bU]
        omega
      · omega
    · simp only at h
      split at hl2
      · omega
      · omega
  · obtain⟨b,acc,left⟩:=p
    obtain⟨i1,i2,i3,i4,i5⟩:=hinv
    simp only at i1 i2 i3 i4 i5
    rw[dR] at i4
    have h3o:=sE i1 (x:=b3) (by rw[hW3];simp) h83.symm
    rw[hW3] at h3o
    simp only[hge,aE,h3o,aB,seval,rB]
    have hbo:=mS i1
    have h6o:=sE i1 (x:=b6) (by rw[hW6];simp) h86.symm
    rw[hW6] at h6o
    simp only[aG,hbo,h6o,iM,aB,seval,rB]
    obtain⟨g5,g6⟩:=vS (o:=.cells [.int .i64 k,.int .i64 n,.str s,bQ 4 b (acc.map Tm.av)]) i1 (show W b6≠none by rw[hW6];simp) h86.symm
    refine⟨b,_,_,g5,g6,n8 _,⟨4,gF _⟩,st,hWd _ _,rfl,.mk k n s acc,left,?_,i3,?_⟩
    · simp only[eW,fE,bF,bD,fX,qQ,kY,bY]
    · rw[aE8]
      skip
      rcases Int.lt_or_le left 0 with h9 | h9
      · rw[aH (by have:=i5 h9;omega)];exact h9
      · obtain⟨e1,e2⟩:=i4 h9
        rw[←e1] at i5 ⊢
        rw[aN (by omega)]
        exact⟨rfl,by omega⟩
termination_by room=>room
decreasing_by exact hlt
end Go.AW
namespace Go.AW
abbrev Cl:=Tm×List Tm
def aF:Cl→AV
 | (.mk k n s ts,b)=>.agg [.int .i64 k,.int .i64 n,.str s,.slice (ts.map Tm.av),.slice (b.map Tm.av)]
theorem iO(k n:Int)(s:ByteArray)(ts b:List Tm):aF (.mk k n s ts,b)=.agg [.int .i64 k,.int .i64 n,.str s,.slice (ts.map Tm.av),.slice (b.map Tm.av)]:=rfl
theorem rY(c:Cl):(aF c).isAgg=true:=by obtain⟨⟨k,n,s,ts⟩,b⟩:=c;rfl
theorem jC(c:Cl):(aF c).width=5:=by obtain⟨⟨k,n,s,ts⟩,b⟩:=c;rfl
theorem aO3(c:Cl):(aF c).cells.length=5:=by obtain⟨⟨k,n,s,ts⟩,b⟩:=c;rfl
theorem G8(c:Cl):(aF c).cells.all AV.storable=true:=by obtain⟨⟨k,n,s,ts⟩,b⟩:=c;rfl
theorem D0(c:Cl):(aF c).bO=false:=by obtain⟨⟨k,n,s,ts⟩,b⟩:=c;rfl
def aGJ:Tm→Bool | .mk k _ s ts=>uM k s (ts.length:Int)
def lA(c:Cl):Bool:=c.1.valid&&aGJ c.1&&(decide (c.2.length≤6)&&c.2.all Tm.goal)
def gK(p:List Cl):Bool:=decide (p.length≤20)&&p.all lA
def EB(c:Cl):Int:=(cB (c.1::c.2) []).foldl (fun n v=>if n≤v then v+1 else n) 0
def oP(c:Cl):Nat:=(EB c).toNat
def fS(N:Nat)(t:Tm):Tm:=hY (fun v=>v+(N:Int)) t
def jS(t:Tm):Bool:=t.flat 30&&decide (t.nodes≤120)
def HE(t:Tm):Bool:=decide (t.k=3)&&decide (t.s=⟨#[33]⟩)&&decide ((t.ts.length:Int)=0)
def aEN(c:Cl)(t:Tm):Bool:=decide (c.1.s=t.s)&&decide ((c.1.ts.length:Int)=(t.ts.length:Int))
def pQ(p:List Cl)(t:Tm):List Nat:=(List.range p.length).filter fun i=>match p[i]? with
 | some c=>aEN c t
 | none=>false
def tU(c:Int):Int:=if c=2 then 4 else if c=3 then 5 else if c=4 then 6 else 7
noncomputable def oJ(σ:Sub)(vars:List Int):Option (List Tm):=
 if((vars.map (rs σ)).all jS=true)∧(cB (vars.map (rs σ)) []).length≤26 then some (yD (vars.map (rs σ))) else none
structure RG where
 t:Tm
 bJ:Nat
structure RC where
 goal:Tm
 rest:List RG
 left:List Nat
 σ:Sub
 N:Nat
structure RS where
 goals:List RG
 σ:Sub
 N:Nat
 chs:List RC
inductive RO where
 | go (s:RS)
 | fail
 | stop (e:Int)
noncomputable def jV(p:List Cl)(chs:List RC)(goal:Tm)(rest:List RG)(σ:Sub)(N:Nat):List Nat→Option RS
 | []=>none
 | i::l=>match p[i]? with
  | none=>none
  | some x=>if(nA σ goal (fS N x.1)).1=true then
   some ⟨x.2.map (fun t=>⟨fS N t,chs.length⟩)++rest,(nA σ goal (fS N x.1)).2.1,N+oP x,if l= [] then chs else chs++ [⟨goal,rest,l,σ,N⟩]⟩
   else jV p chs goal rest σ N l
noncomputable def fG(p:List Cl):Nat→List RC→Option RS
 | 0,_=>none
 | n+1,chs=>match chs.getLast? with
  | none=>none
  | some c=>match jV p chs.dropLast c.goal c.rest c.σ c.N c.left with
   | some s=>some s
   | none=>fG p n chs.dropLast
noncomputable def iU(p:List Cl)(cnd:Tm→List Nat→List Nat)(s:RS)(g:RG)(rest:List RG):RO:=
 if jS (g.t.aS (rs s.σ))=false then .stop 3
 else if HE (g.t.aS (rs s.σ))=true then .go ⟨rest,s.σ,s.N,s.chs.take g.bJ⟩
 else if isBuiltin (g.t.aS (rs s.σ)).s ((g.t.aS (rs s.σ)).ts.length:Int)=true then
  if(gM s.σ (g.t.aS (rs s.σ)).s (g.t.aS (rs s.σ)).ts).1=0 then .go ⟨rest,(gM s.σ (g.t.aS (rs s.σ)).s (g.t.aS (rs s.σ)).ts).2.1,s.N,s.chs⟩
  else if(gM s.σ (g.t.aS (rs s.σ)).s (g.t.aS (rs s.σ)).ts).1=1 then .fail
  else .stop (tU (gM s.σ (g.t.aS (rs s.σ)).s (g.t.aS (rs s.σ)).ts).1)
 else if pQ p (g.t.aS (rs s.σ))= [] then .stop 8
 else match jV p s.chs (g.t.aS (rs s.σ)) rest s.σ s.N (cnd (g.t.aS (rs s.σ)) (pQ p (g.t.aS (rs s.σ)))) with
  | some s'=>.go s'
  | none=>.fail
noncomputable def iI(p:List Cl)(cnd:Tm→List Nat→List Nat)(vars:List Int)(most fuel:Nat)(s:RS):List (List Tm)×Int:=
 match s.goals with
 | []=>if h:most=0 then([],1) else match oJ s.σ vars with
  | none=>([],3)
  | some a=>match fG p s.chs.length s.chs with
   | none=>([a],0)
   | some s'=>(a::(iI p cnd vars (most - 1) fuel s').1,(iI p cnd vars (most - 1) fuel s').2)
 | g::rest=>if h:fuel=0 then([],2) else match iU p cnd s g rest with
  | .stop e=>([],e)
  | .go s'=>iI p cnd vars most (fuel - 1) s'
  | .fail=>match fG p s.chs.length s.chs with
   | none=>([],0)
   | some s'=>iI p cnd vars most (fuel - 1) s'
termination_by most+fuel
decreasing_by all_goals omega
def oX(q:List Tm):RS:=⟨q.map fun t=>⟨t,0⟩,Sub.none,26,[]⟩
noncomputable def v9(p:List Cl)(cnd:Tm→List Nat→List Nat)(q:List Tm)(most fuel:Nat):List (List Tm)×Int:=iI p cnd (cB q []) most fuel (oX q)
structure IG where
 t:Tm
 cut:Nat
 up:Int
structure IC where
 goal:Tm
 node:Nat
 rest:List IG
 list:List Nat
 a0X:Nat
 taken:Nat
structure IS where
 goals:List IG
 σ:Sub
 tr:List Int
 chs:List IC
 fresh:Nat
 nn:Nat
structure aJX (ρ:Int→Int) (N F:Nat) (σ τ:Sub):Prop where
 sim:Sim ρ N σ τ
 rng:∀v,0≤v→v<(N:Int)→0≤ρ v∧ρ v<(F:Int)
 g1:dL σ
 o1:dC (bS N) σ
 g2:dL τ
 o2:dC (bS F) τ
 d1:∀n,¬(0≤n∧n<(N:Int))→σ n=none
 d2:∀n,¬(0≤n∧n<(F:Int))→τ n=none
 h26:26≤N
 idn:∀v,0≤v→v<26→ρ v=v
theorem aD3(l:List Int):∀n:Int,n≤l.foldl (fun n v=>if n≤v then v+1 else n) n∧(∀v∈l,v<l.foldl (fun n v=>if n≤v then v+1 else n) n)∧∀m:Int,n≤m→(∀v∈l,v<m)→l.foldl (fun n v=>if n≤v then v+1 else n) n≤m:=by
 induction l with
 | nil=>intro n;exact⟨Int.le_refl _,by simp,fun m h _=>h⟩
 | cons x l ih=>
  intro n
  simp only[sU]
  obtain⟨h1,h2,h3⟩:=ih (if n≤x then x+1 else n)
  refine⟨?_,fun v hv=>?_,fun m hm hl=>h3 m ?_ fun v hv=>hl v (by simp [hv])⟩
  · split at h1<;>rename_i h<;>split<;>omega
  · rcases cT.1 hv with rfl | hv
    · split at h1<;>rename_i h<;>split<;>omega
    · exact h2 v hv
  · have:=hl x (by simp)
    split<;>omega
structure gX (c:Cl):Prop where
 head:bS 26 c.1
 body:∀t∈c.2,bS 26 t∧t.k=3
theorem gX.vars{c:Cl}(h:gX c){v:Int}:v∈cB (c.1::c.2) []↔∃t∈c.1::c.2,v∈t.vl:=by
 rw[CC]
 · simp
 · intro t ht
   rcases cT.1 ht with rfl | ht
   · exact h.head.1.2.1
   · exact(h.body t ht).1.1.2.1
theorem gX.ET{c:Cl}(h:gX c):∀t∈c.1::c.2,bS 26 t:=fun t ht=>by
 rcases cT.1 ht with rfl | ht
 · exact h.head
 · exact(h.body t ht).1
theorem gX.fr{c:Cl}(h:gX c):oP c≤26∧∀t∈c.1::c.2,∀v∈t.vl,v<(oP c:Int):=by
 obtain⟨h1,h2,h3⟩:=aD3 (cB (c.1::c.2) []) 0
 have hle:=h3 26 (by omega) fun v hv=>by
  obtain⟨t,ht,hv⟩:=h.vars.1 hv
  exact((h.ET t ht).1.2.2 v hv).2
 unfold oP EB
 refine⟨by omega,fun t ht v hv=>?_⟩
 have:=h2 v (h.vars.2 ⟨t,ht,hv⟩)
 omega
theorem gX.fS{c:Cl}(h:gX c)(N:Nat):∀t∈c.1::c.2,bS ((N+oP c:Nat):Int) (fS N t):=fun t ht=>by
 refine(h.ET t ht).hY fun v hv=>?_
 have h1:=((h.ET t ht).1.2.2 v hv).1
 have h2:=h.fr.2 t ht v hv
 omega
theorem aWT{N:Nat}(t:Tm):(fS N t).k=t.k:=aWG _ t
def GL(ρ:Int→Int)(N:Nat)(gs:List RG)(hs:List IG):Prop:=hs.map (fun h=>(h.t,h.cut))=gs.map (fun g=>(hY ρ g.t,g.bJ))∧∀g∈gs,bS N g.t∧g.t.k=3
def C1(F:Nat)(c:RC)(d:IC)(τ:Sub):Prop:=∃ρ,aJX ρ c.N F c.σ τ∧d.goal=hY ρ c.goal∧bS c.N c.goal∧GL ρ c.N c.rest d.rest∧d.list=c.left
section
variable {p:List Cl} (hp:∀c∈p,gX c)
include hp
variable {cnd:Tm→List Nat→List Nat} (hc:∀(ρ:Int→Int) (t:Tm) (l:List Nat),cnd (hY ρ t) l=cnd t l)
omit hp in
end
section
variable {p:List Cl} (hp:∀c∈p,gX c) {cnd:Tm→List Nat→List Nat} (hc:∀(ρ:Int→Int) (t:Tm) (l:List Nat),cnd (hY ρ t) l=cnd t l)
include hp hc
end
theorem aO4{c:Cl}(h:lA c=true):gX c:=by
 simp only[lA,bG,bK,dD] at h
 refine⟨⟨Tm.FW h.1.1,Tm.qA h.1.1⟩,fun t ht=>?_⟩
 have hg:=h.2.2 t ht
 have hk:t.valid=true∧t.k=3:=by
  obtain⟨k,n,s,ts⟩:=t
  simp only[Tm.goal,bG] at hg
  refine⟨hg.1,?_⟩
  have:=hg.2
  simp only[AM,uM,kV,bG,bK] at this
  simp only[Tm.k]
  rcases this with (h | h) | h<;>first | exact h.1 | exact h.1.1 | exact h.1.1.1
 exact⟨⟨Tm.FW hk.1,Tm.qA hk.1⟩,hk.2⟩
end Go.AW
namespace Go.AW
open Go.Proofs.Tryz
theorem O7:∀(a b:List Tm) (l:List Int),cB (a++b) l=cB b (cB a l)
 | [],_,_=>rfl
 | t::a,b,l=>by simp only[gO,cB,O7 a b]
abbrev OC:=zi aX (zi cI (zi kT cK))
theorem LK(q:List Tm)(st:aA)(hwf:∀t∈q,t.wf=true)(hsz:bU Tm.nodes q≤1099511627776):aD prog 257 [.slice (q.map Tm.av)] st (fun r st'=>r=.slice ((cB q []).map iv)∧st'=st):=by
 refine aD.done ?_
 refine wF [1000000] 1 func257 ntmps257 rfl rfl ?_
 simp only[eF,AV.fits,eN,aE]
 intro ⟨hl,_⟩
 simp only[aB,seval,OC]
 refine CM (σ:=Unit) [1000000] [0,2] q 1 3 (fun i _=>(cB (q.take i) []).map iv) (fun _ _=>True) (fun i _=>[(4,.int .i64 i)]) (fun _ _=>st) (fun i _ _ e he=>by simp only[cL] at he;obtain⟨t,_,rfl⟩:=he;exact⟨rfl,rfl⟩) (by decide +kernel) ⟨(),0,trivial,fun h=>absurd rfl h,aP.mk (by simp only[jM,mK,cB,bD,aB,↓a9,seval])⟩ (fun i x s b hx hlt bN hdr hinv hb=>?_) (fun s b hge hinv=>?_)
 case refine_2=>
  simp only[hge,fX,gY,lD,jD,dR,aE,aB,seval,OC]
  exact⟨rfl,aJ.refl _⟩
 have hw:=bH (n:=(i:Int)+1)
 have hat:=bR (av:=Tm.av) cF hx (aQ x)
 have hst:=I1 Tm.nodes hx
 have hvl:=yO (q.take i) []
 simp only[aW,jK] at hvl
 have htk:x.vars (cB (q.take i) [])=cB (q.take (i+1)) []:=by
  rw[eD,hx,O7]
  try rfl
 simp only[bN,aE,hat,aB,seval,OC]
 refine(DU x (cB (q.take i) []) b st (hwf x (cQ hx)) hb (by omega)).mono ?_
 rintro _ _ ⟨b',rfl,rfl,hb'⟩
 rw[htk] at hb' ⊢
 simp only[aB,seval]
 exact⟨(),b',hb',aP.mk (by simp only[hw,aB,seval])⟩
abbrev aXM:=zi cD (zi cI kT)
theorem aMM(q:List Tm)(st:aA):aD prog 255 [.slice (q.map Tm.av)] st (fun r st'=>r=.slice ((if eR q=true then cB q [] else[]).map iv)∧st'=st):=by
 refine aD.done ?_
 refine wF [1000000] 1 func255 ntmps255 rfl rfl ?_
 intro _
 simp only[aB,seval]
 refine(DW q _).to ?_
 simp only[aB,seval]
 refine bE (fun h=>?_) (fun h=>?_)
 · simp only[jI] at h
   simp only[aB,seval,aXM]
   rw[aH (by simp [h])]
   exact⟨rfl,aJ.refl _⟩
 simp only[rK] at h
 obtain⟨hqv,hq6⟩:=aGK h
 simp only[aB,seval]
 refine(LK q _ (fun t ht=>Tm.r0 t (Tm.aYQ (hqv t ht))) (aVW h)).to ?_
 simp only[aB,seval]
 rw[aN h]
 exact⟨rfl,aJ.refl _⟩
end Go.AW
namespace Go.AW
theorem bL.of{h:aZ}{st st':aA}(hk:∀x,st x=none→st' x=none):bL h st h st':=⟨c6 _,fun x _ e=>⟨rfl,hk x e⟩,fun _ c _ _ e=>⟨c,e,rfl⟩⟩
theorem eP.aSK{φ:AF}{st:aA}{b c:Nat}{es cs:List AV}(hbc:b≠c)(h1:st b=some (.cells (es.flatMap AV.cells)))(h2:∀e∈es,e.bO=false)(h3:gN es)(hc:st c=some (.cells cs)) :
 eP φ st φ ((st.erase b).aC c (.cells (iR b es cs))):=fun h tmps S F=>by
 have T2:bL h (st.erase b) h ((st.erase b).aC c (.cells (iR b es cs))):=bL.of fun x hx=>by
  have:x≠c:=by rintro rfl;simp [aA.erase,dM hbc,hc] at hx
  rw[aA.aO _ _ this];exact hx
 have T:bL h st h ((st.erase b).aC c (.cells (iR b es cs))):=((aJ.iP st b).step h).trans T2
 refine⟨fun x o hx=>?_,T,fun d=>(F d).mono T⟩
 by_cases e:x=c
 · subst e
   rw[aA.aK] at hx
   cases hx
   obtain⟨hl,c0,t,e1,e2,vs,e3,e4⟩:=S x _ hc
   refine⟨hl,c0,t,e1,?_,vs,e3,aR.mono T2 _ _ (aR.fz S h1 h2 h3 cs vs e4)⟩
   rw[xH,aE];exact e2
 · rw[aA.aO _ _ e] at hx
   have hx':st x=some o:=by
    simp only[aA.erase] at hx
    split at hx
    · cases hx
    · exact hx
   obtain⟨hl,y⟩:=S x o hx'
   exact⟨hl,kI.mono T rfl y⟩
end Go.AW
namespace Go.AW
open Go.Proofs.Tryz
abbrev a0U:=zi aX (zi kT (zi cK rD))
mutual
def Tm.sh(m:Int):Tm→Tm
 | .mk k n s ts=>.mk k (if k=1 then IntKind.i64.wrap (n+m) else n) s (JR m ts)
def JR(m:Int):List Tm→List Tm
 | []=>[]
 | t::ts=>t.sh m::JR m ts
end
theorem aIV(m:Int):∀ts:List Tm,JR m ts=ts.map (Tm.sh m)
 | []=>rfl
 | t::ts=>by simp only[JR,bF,aIV m ts]
theorem Tm.N4(m k n:Int)(s:ByteArray)(ts:List Tm):(Tm.mk k n s ts).sh m=.mk k (if k=1 then IntKind.i64.wrap (n+m) else n) s (ts.map (Tm.sh m)):=by simp only[Tm.sh,aIV]
abbrev n7:=zi aX (zi cG (zi cI cK))
theorem LI(m:Int):∀(t:Tm) (st:aA),t.small=true→aD prog 266 [t.av,.int .i64 m] st (fun r st'=>r=(t.sh m).av∧st'=st)
 | .mk k n s ts,st,hsm=>by
  obtain⟨hlen,vP⟩:=Tm.yF hsm
  have IH:=fun(x:Tm) (hx:x∈ts) st=>LI m x st (vP x hx)
  refine aD.kK (aD.fin ?_)
  simp only[bY]
  refine wF [1000000,5] 2 func266 ntmps266 rfl rfl ?_
  simp only[eF,AV.fits,eN,aE]
  intro ⟨_,_,_,hl,_⟩
  simp only[aG,aB,↓a9,seval,n7]
  intro b2 hb2 c hc
  have hne:c≠b2:=by rintro rfl;rw[aA.aK] at hc;cases hc
  have hn2:st c=none:=by rw[aA.aO st _ hne] at hc;exact hc
  have oS:b2≠c:=dM hne
  have hS:(st.aC b2 (.cells [AV.int .i64 0,AV.int .i64 0,AV.str ⟨#[]⟩,AV.fslice []])) b2≠none:=by rw[aA.aK];simp
  refine bE (fun h=>?_) (fun h=>?_)
  · simp only[bK] at h
    simp only[aG,d3,aB,seval,n7]
    refine d7 (σ:=Nat) [1000000] [1,2,4,5] ts (fun i b=>(((ts.take i).map (Tm.sh m)).map Tm.av≠[]→(aA.aC (st.aC b2 (.cells [AV.int .i64 0,AV.int .i64 0,AV.str ⟨#[]⟩,AV.fslice []])) c (.cells ([AV.int .i64 k,AV.int .i64 (IntKind.i64.wrap (n+m)),AV.str s]++ [bQ 4 b (((ts.take i).map (Tm.sh m)).map Tm.av)]))) b=none)) (fun i b=>[(6,.int .i64 i)]) (fun i b=>nR (st.aC b2 (.cells [AV.int .i64 0,AV.int .i64 0,AV.str ⟨#[]⟩,AV.fslice []])) c b [AV.int .i64 k,AV.int .i64 (IntKind.i64.wrap (n+m)),AV.str s] (((ts.take i).map (Tm.sh m)).map Tm.av)) (by decide +kernel)
     ⟨0,fun h=>absurd rfl h,aP.mk (by simp only[aB,↓a9,seval])⟩ (fun i x b hx hlt bN hdr hinv=>?_) (fun b hge hinv=>?_)
    case refine_1=>
     have hw:=bH (n:=(i:Int)+1)
     have cS:(((ts.take i).map (Tm.sh m)).map Tm.av).length=i:=by simp only[aE,dE];omega
     have htk:(ts.take (i+1)).map (Tm.sh m)=(ts.take i).map (Tm.sh m)++ [(Tm.sh m) x]:=by rw[eD,hx];simp
     have hbo:=mS hinv
     simp only[aE,bN,aB,seval,n7]
     refine wP [(0,1),(2,1),(4,1),(7,1),(1,2),(3,2),(5,1),(6,2),(8,2),(9,1),(10,0),(11,1),(12,0)] [0,2,4,7,1,3,5,6,8,9,11] mixed ?_
     simp only[bR (av:=Tm.av) cF hx (aQ x),bM,aQ,hbo,tG,jK,aB,seval,n7]
     refine iK (IH x (cQ hx) _) ?_
     simp only[bM,aQ,cR,jK,aB,seval,n7]
     refine eE cF kL kM rfl rfl (gZ (aQ _) (cO _)) (gF _) hinv (by simp only[cS,aY,aW];omega) (by simp only[cS,aY,aW];omega) (fun b' hb'=>?_)
     rw[show(((ts.take i).map (Tm.sh m)).map Tm.av)++ [((Tm.sh m) x).av]=((ts.take (i+1)).map (Tm.sh m)).map Tm.av by rw[htk];simp] at hb' ⊢
     obtain⟨g1,g2,g3⟩:=xS hb'
     simp only[gO,dI] at g1 g3
     simp only[g3,nG,iM,aG,g1,hw,aG,aB,seval,n7]
     exact⟨b',g2,aP.mk (by simp only[aB,seval])⟩
    have hbo:=mS hinv
    rw[dR] at hinv hbo ⊢
    simp only[aE,hge,aB,seval,n7]
    simp only[hbo,aG,aB,seval,n7]
    have h1:=sE hinv hS oS
    rw[aA.aK] at h1
    simp only[h1,iM,aB,seval]
    obtain⟨h2,h3⟩:=vS (o:=.cells [AV.int .i64 k,AV.int .i64 (IntKind.i64.wrap (n+m)),AV.str s,bQ 4 b ((ts.map (Tm.sh m)).map Tm.av)]) hinv hS oS
    refine⟨b,_,_,h2,h3,n8 _,⟨4,gF _⟩,?_,(((aJ.refl _).aC hb2).aC hn2).aC hb2⟩
    simp only[fE,bF,bD,fX,qQ,kY,←bY]
    rw[Tm.N4,aN h]
  · simp only[d5] at h
    simp only[aB,seval]
    refine d7 (σ:=Nat) [1000000] [1,2,4,5] ts (fun i b=>(((ts.take i).map (Tm.sh m)).map Tm.av≠[]→(aA.aC (st.aC b2 (.cells [AV.int .i64 0,AV.int .i64 0,AV.str ⟨#[]⟩,AV.fslice []])) c (.cells ([AV.int .i64 k,AV.int .i64 (n),AV.str s]++ [bQ 4 b (((ts.take i).map (Tm.sh m)).map Tm.av)]))) b=none)) (fun i b=>[(6,.int .i64 i)]) (fun i b=>nR (st.aC b2 (.cells [AV.int .i64 0,AV.int .i64 0,AV.str ⟨#[]⟩,AV.fslice []])) c b [AV.int .i64 k,AV.int .i64 (n),AV.str s] (((ts.take i).map (Tm.sh m)).map Tm.av)) (by decide +kernel)
     ⟨0,fun h=>absurd rfl h,aP.mk (by simp only[aB,↓a9,seval])⟩ (fun i x b hx hlt bN hdr hinv=>?_) (fun b hge hinv=>?_)
    case refine_1=>
     have hw:=bH (n:=(i:Int)+1)
     have cS:(((ts.take i).map (Tm.sh m)).map Tm.av).length=i:=by simp only[aE,dE];omega
     have htk:(ts.take (i+1)).map (Tm.sh m)=(ts.take i).map (Tm.sh m)++ [(Tm.sh m) x]:=by rw[eD,hx];simp
     have hbo:=mS hinv
     simp only[aE,bN,aB,seval,n7]
     refine wP [(0,1),(2,1),(4,1),(7,1),(1,2),(3,2),(5,1),(6,2),(8,2),(9,1),(10,0),(11,1),(12,0)] [0,2,4,7,1,3,5,6,8,9,11] mixed ?_
     simp only[bR (av:=Tm.av) cF hx (aQ x),bM,aQ,hbo,tG,jK,aB,seval,n7]
     refine iK (IH x (cQ hx) _) ?_
     simp only[bM,aQ,cR,jK,aB,seval,n7]
     refine eE cF kL kM rfl rfl (gZ (aQ _) (cO _)) (gF _) hinv (by simp only[cS,aY,aW];omega) (by simp only[cS,aY,aW];omega) (fun b' hb'=>?_)
     rw[show(((ts.take i).map (Tm.sh m)).map Tm.av)++ [((Tm.sh m) x).av]=((ts.take (i+1)).map (Tm.sh m)).map Tm.av by rw[htk];simp] at hb' ⊢
     obtain⟨g1,g2,g3⟩:=xS hb'
     simp only[gO,dI] at g1 g3
     simp only[g3,nG,iM,aG,g1,hw,aG,aB,seval,n7]
     exact⟨b',g2,aP.mk (by simp only[aB,seval])⟩
    have hbo:=mS hinv
    rw[dR] at hinv hbo ⊢
    simp only[aE,hge,aB,seval,n7]
    simp only[hbo,aG,aB,seval,n7]
    have h1:=sE hinv hS oS
    rw[aA.aK] at h1
    simp only[h1,iM,aB,seval]
    obtain⟨h2,h3⟩:=vS (o:=.cells [AV.int .i64 k,AV.int .i64 (n),AV.str s,bQ 4 b ((ts.map (Tm.sh m)).map Tm.av)]) hinv hS oS
    refine⟨b,_,_,h2,h3,n8 _,⟨4,gF _⟩,?_,(((aJ.refl _).aC hb2).aC hn2).aC hb2⟩
    simp only[fE,bF,bD,fX,qQ,kY,←bY]
    rw[Tm.N4,aH h]
termination_by t=>SizeOf.sizeOf t
decreasing_by have:=List.sizeOf_lt_of_mem hx;simp only[Tm.mk.sizeOf_spec];omega
abbrev aHR:=zi aX (zi lK m9)
theorem aZF(l:List Cl)(g:FuncId)(fD:List AV)(p:Cl→Bool)(st:aA)(hc:∀x∈l,aD prog g ([aF x]++fD) st (fun r st'=>r=.bool (p x)∧st'=st)) :
 aD prog 136 [.slice (l.map aF),.func g fD] st (fun r st'=>∃j:Int,r=.int .i64 j∧decide (0≤j)=l.any p∧st'=st):=by
 refine wF [] 2 func136 ntmps136 rfl rfl ?_
 simp only[eF,AV.fits,eN,aE]
 intro ⟨hl,_⟩
 simp only[aE,aB,seval,aHR]
 refine d7 (σ:=Unit) [] [0,1,7] l (fun i _=>(l.drop i).any p=l.any p) (fun i _=>[(8,.int .i64 i)]) (fun _ _=>st) (by decide +kernel) ⟨(),rfl,aP.mk (by simp only[aB,↓a9,seval])⟩ (fun i x _ hx hlt bN hdr hinv=>?_) (fun _ hge hinv=>?_)
 case refine_2=>
  simp only[hge,aB,seval]
  rw[o9] at hinv
  exact⟨-1,rfl,by rw[←hinv];try rfl⟩
 rw[hdr,List.any_cons] at hinv
 have hw:=bH (n:=(i:Int)+1)
 simp only[bN,bR (av:=aF) oN hx (jC x),rY,jC,aB,seval,aHR]
 refine(hc x (cQ hx)).to ?_
 simp only[aB,seval]
 refine bE (fun h=>?_) (fun h=>?_)
 · simp only[aB,seval]
   exact⟨i,rfl,by rw[←hinv,h];simp⟩
 · rw[h,rJ] at hinv
   simp only[aB,seval]
   exact⟨(),hinv,aP.mk (by simp only[hw,aB,seval])⟩
abbrev a0T:=zi cD (zi cI (zi cK m9))
abbrev BZ:=zi aX (zi cD (zi cI (zi cK m9)))
theorem SH(c:Cl)(st:aA):aD prog 91 [aF c] st (fun r st'=>r=.bool (lA c)∧st'=st):=by
 obtain⟨⟨k,n,s,ts⟩,l⟩:=c
 have hv:=fun st=>LO (.mk k n s ts) st
 have hp:=fun st=>R5 k n s ts st
 simp only[bY] at hv hp
 simp only[iO,lA,aGJ]
 generalize (Tm.mk k n s ts).valid=v at *
 refine wF [1000000] 1 func91 ntmps91 rfl rfl ?_
 simp only[eF,AV.fits,eN,aE]
 intro ⟨_,_,_,_,hl,_⟩
 have fO:l.all Tm.goal=true∨l.length>6→(decide ((l.length:Int)≤6)&&v&&uM k s (ts.length:Int))=(v&&uM k s (ts.length:Int)&&(decide (l.length≤6)&&l.all Tm.goal)):=fun h=>by
  by_cases h6:l.length≤6
  · have hg:l.all Tm.goal=true:=h.resolve_right (by omega)
    rw[hg,show decide ((l.length:Int)≤6)=true from d6 (by omega),show decide (l.length≤6)=true from d6 h6]
    simp
  · rw[show decide ((l.length:Int)≤6)=false from eH (by omega),show decide (l.length≤6)=false from eH h6]
    simp
 simp only[aB,seval,BZ]
 refine d7 (σ:=Unit) [1000000] [1] l (fun i _=>i≤7∧(l.take i).all Tm.goal=true) (fun i _=>[(2,.bool false),(3,.int .i64 i)]) (fun _ _=>st) (by decide +kernel) ⟨(),⟨by omega,by simp⟩,aP.mk (by simp only[aB,↓a9,seval])⟩ (fun i x _ hx hlt bN hdr hinv=>?_) (fun _ hge hinv=>?_)
 · obtain⟨i1,i2⟩:=hinv
   have hw:=bH (n:=(i:Int)+1)
   by_cases h7:i≤6
   · have h7':decide ((i:Int)≤6)=true:=d6 (by omega)
     have hat:=bR (av:=Tm.av) cF hx (aQ x)
     simp only[bN,aV,eO,aE,h7',hat,bM,aQ,aB,seval,BZ]
     refine(SK x st).to ?_
     simp only[aB,seval]
     refine bE (fun h2=>?_) (fun h2=>?_)
     · simp only[jI] at h2
       simp only[aB,seval]
       have:l.all Tm.goal=false:=vD hx h2
       rw[this];simp
     · simp only[rK] at h2
       simp only[aB,seval]
       refine⟨(),⟨by omega,?_⟩,aP.mk (by simp only[hw,aB,seval])⟩
       rw[eD,hx,yY,i2]
       simp [h2]
   · have h7':decide ((i:Int)≤6)=false:=eH (by omega)
     have h8:decide ((l.length:Int)≤6)=false:=eH (by omega)
     rw[←fO (.inr (by omega)),h8]
     simp only[bN,aV,eO,h8,eT,aE,h7',aB,seval,BZ]
 · obtain⟨i1,i2⟩:=hinv
   rw[dR] at i2
   rw[←fO (.inl i2)]
   cases h8:decide ((l.length:Int)≤6) with
   | false=>
    simp only[hge,aE,h8,eT,aB,seval,BZ]
   | true=>
    simp only[hge,eO,aE,h8,dH,aB,seval,BZ]
    refine(hv _).to ?_
    cases v with
    | false=>simp only[eT,aB,seval]
    | true=>
     simp only[eO,dH,aB,seval,BZ]
     refine(hp _).to ?_
     simp only[aB,seval]
abbrev OE:=zi aX (zi cD (zi lK m9))
theorem G4(l:List Cl)(st:aA):aD prog 39 [.slice (l.map aF)] st (fun r st'=>r=.bool (gK l)∧st'=st):=by
 refine wF [1000000] 1 func39 ntmps39 rfl rfl ?_
 simp only[eF,AV.fits,eN,aE]
 intro ⟨hl,_⟩
 simp only[aB,seval]
 refine d7 (σ:=Unit) [1000000] [0] l (fun i _=>i≤21∧(l.take i).all lA=true) (fun i _=>[(2,.bool false),(3,.int .i64 i)]) (fun _ _=>st) (by decide +kernel) ⟨(),⟨by omega,by simp⟩,aP.mk (by simp only[aB,↓a9,seval])⟩ (fun i x _ hx hlt bN hdr hinv=>?_) (fun _ hge hinv=>?_)
 · obtain⟨i1,i2⟩:=hinv
   have hw:=bH (n:=(i:Int)+1)
   by_cases h7:i≤20
   · have h7':decide ((i:Int)≤20)=true:=d6 (by omega)
     have hat:=bR (av:=aF) oN hx (jC x)
     simp only[bN,aV,eO,aE,h7',hat,rY,jC,aB,seval,OE]
     refine(SH x st).to ?_
     simp only[aB,seval]
     refine bE (fun h2=>?_) (fun h2=>?_)
     · simp only[jI] at h2
       simp only[aB,seval]
       have:l.all lA=false:=vD hx h2
       simp only[gK,this,sS]
     · simp only[rK] at h2
       simp only[aB,seval]
       refine⟨(),⟨by omega,?_⟩,aP.mk (by simp only[hw,aB,seval])⟩
       rw[eD,hx,yY,i2]
       simp [h2]
   · have h7':decide ((i:Int)≤20)=false:=eH (by omega)
     have h8:decide ((l.length:Int)≤20)=false:=eH (by omega)
     have h9:decide (l.length≤20)=false:=eH (by omega)
     simp only[bN,aV,eO,aE,h7',h8,gK,h9,eT,aB,seval,OE]
 · obtain⟨i1,i2⟩:=hinv
   rw[dR] at i2
   simp only[hge,aE,aB,seval,OE]
   simp only[gK,i2,yX,AV.bool.injEq,r5]
   omega
end Go.AW
namespace Go.AW
theorem cJ.fz{h:aZ}{st:aA}{b:Nat}{es:List AV}(S:bZ h st)(hb:st b=some (.cells (es.flatMap AV.cells)))(hj:∀e∈es,e.bO=false)(hE:gN es):∀ {us:List AV} {vs:List Value},cJ h st us vs→cJ h (st.erase b) (iR b es us) vs
 | [],vs,x=>by simp only[cJ] at x;simp [iR,cJ,x]
 | a::us,vs,x=>by
  simp only[cJ] at x
  obtain⟨v,r,rfl,x1,x2⟩:=x
  simp only[iR,cJ]
  exact⟨v,r,rfl,x1.fz S hb hj hE,cJ.fz S hb hj hE x2⟩
theorem bL.unerase{h h':aZ}{st st':aA}{b:Nat}(x:bL h (st.erase b) h' st'):bL h st h' st':=
 ⟨x.size,fun c hc e=>x.bJ c hc (aA.aPP st e),x.shape⟩
theorem aD.aSL{P:Program}{g:FuncId}{args:List AV}{st:aA}{Q:AV→aA→Prop}(b:Nat)(es:List AV)(hb:st b=some (.cells (es.flatMap AV.cells)))(hj:∀e∈es,e.bO=false)(hE:gN es)(x:aD P g (iR b es args) (st.erase b) Q):aD P g args st Q:=
 ⟨x.1,fun w vs S V=>(x.2 w vs ((aJ.iP st b).BX S) (V.fz S hb hj hE)).mono fun _ _ ⟨v,r,st',e,a,b',c,d,q⟩=>⟨v,r,st',e,a,b',c.unerase,d,q⟩⟩
def Lit(st:aA)(w:Nat)(l:List AV)(q:AV)(s:aA):Prop:=(q=.fslice l∧s=st)∨∃b,st b=none∧q=.mslice b 0 l.length w∧s=st.aC b (.cells (l.flatMap AV.cells))
theorem QP{P:Program}{t:TypeId}{ag:Bool}{w bytes:Nat}{zs:List AV}{st:aA}{es xs:List AV}{x:AV}{K:AV→aA→Prop}(hI:eI P t=some (ag,w))(hB:eB P t=some bytes)(hZ:eZ P t=some zs)(hz:zs.length=w)(hx:x=.slice xs∨x=.fslice xs)(hes:∀e∈es,e.width=w)(fF:tJ w xs)(hl:(es.length+xs.length)*bytes≤140737488355328)(hl2:es.length+xs.length≤9223372036854775807)
 (hK:∀q s,Lit st w (es++xs) q s→K q s):i8 P t st (.fslice es) x K:=by
 unfold i8
 have he:DE x=some xs:=by rcases hx with rfl | rfl<;>rfl
 simp only[hI,hB,hZ,he]
 refine⟨hz,fF,hl,hl2,hes,fun h=>?_,fun _ b hb=>?_⟩
 · subst h
   exact hK _ _ (.inl ⟨by rw[gI],rfl⟩)
 · exact hK _ _ (.inr ⟨b,hb,by rw[cX],rfl⟩)
theorem Lit.call{P:Program}{g:FuncId}{st s:aA}{w:Nat}{l:List AV}{q:AV}{post:List AV}{Q:AV→aA→Prop}(h:Lit st w l q s)(hj:∀e∈l,e.bO=false)(hw:∀e∈l,e.width=w)(hp:∀b,iR b l post=post)(x:aD P g (.slice l::post) st Q):aD P g (q::post) s Q:=by
 rcases h with ⟨rfl,rfl⟩ | ⟨b,hb,rfl,rfl⟩
 · refine aD.args x fun hp vs S V=>?_
   simp only[cJ] at V ⊢
   obtain⟨v,r,rfl,V1,V2⟩:=V
   exact⟨v,r,rfl,V1.AK,V2⟩
 · refine aD.aSL b l (aA.aK _ _ _) hj ⟨w,hw⟩ ?_
   rw[aA.xC st b _ hb]
   have:iR b l (.mslice b 0 l.length w::post)=.slice l::post:=by
    show(AV.mslice b 0 l.length w).fz b l::iR b l post=_
    rw[hp]
    simp [AV.fz]
   rw[this]
   exact x
end Go.AW
namespace Go.AW
open Go.Proofs.Tryz
def nv(i:Nat):AV:=.int .i64 (i:Int)
def dQ:RG→AV
 | ⟨.mk k n s ts,bJ⟩=>.agg [.int .i64 k,.int .i64 n,.str s,.slice (ts.map Tm.av),.int .i64 (bJ:Int)]
theorem yE(k n:Int)(s:ByteArray)(ts:List Tm)(bJ:Nat):dQ ⟨.mk k n s ts,bJ⟩=.agg [.int .i64 k,.int .i64 n,.str s,.slice (ts.map Tm.av),.int .i64 (bJ:Int)]:=rfl
theorem aWL(g:RG):dQ g=.agg (g.t.av.cells++ [.int .i64 (g.bJ:Int)]):=by obtain⟨⟨k,n,s,ts⟩,bJ⟩:=g;rw[bY];try rfl
theorem BT(g:RG):(dQ g).width=5:=by obtain⟨⟨k,n,s,ts⟩,bJ⟩:=g;rfl
theorem aWM(g:RG):(dQ g).cells.all AV.storable=true:=by obtain⟨⟨k,n,s,ts⟩,bJ⟩:=g;rfl
theorem aWK(g:RG):(dQ g).bO=false:=by obtain⟨⟨k,n,s,ts⟩,bJ⟩:=g;rfl
def eC:RC→AV
 | ⟨.mk k n s ts,rest,left,σ,N⟩=>.agg [.int .i64 k,.int .i64 n,.str s,.slice (ts.map Tm.av),.slice (rest.map dQ),.slice (left.map nv),.slice (cE N σ)]
theorem IQ(g:RC):(eC g).width=7:=by obtain⟨⟨k,n,s,ts⟩,_,_,_,_⟩:=g;rfl
theorem aV7(g:RC):(eC g).cells.all AV.storable=true:=by obtain⟨⟨k,n,s,ts⟩,_,_,_,_⟩:=g;rfl
theorem aV6(g:RC):(eC g).bO=false:=by obtain⟨⟨k,n,s,ts⟩,_,_,_,_⟩:=g;rfl
def mX(s:RS):AV:=.agg [.slice (s.goals.map dQ),.slice (cE s.N s.σ),.slice (s.chs.map eC)]
abbrev OP:=zi aX (zi cD (zi cI cK))
theorem R9:∀(t:Tm) (d:Nat) (st:aA),d≤1000→t.small=true→aD prog 155 [t.av,.int .i64 (d:Int)] st (fun r st'=>r=.bool (t.flat d)∧st'=st)
 | .mk k n s ts,d,st,hd,hsm=>by
  obtain⟨hlen,vP⟩:=Tm.yF hsm
  have IH:=fun(x:Tm) (hx:x∈ts) d st h=>R9 x d st h (vP x hx)
  simp only[bY]
  refine wF [1000000] 2 func155 ntmps155 rfl rfl ?_
  intro _
  simp only[aB,seval,OP]
  refine bE (fun h=>?_) (fun h=>?_)
  · simp only[bK] at h
    obtain rfl:d=0:=by omega
    simp only[aB,↓a9,seval]
    rw[Tm.HO]
  simp only[d5] at h
  obtain⟨e,rfl⟩:∃e,d=e+1:=⟨d - 1,by omega⟩
  rw[Tm.r7]
  have hw1:IntKind.i64.wrap ((e:Int)+1 - 1)=(e:Int):=by rw[wrap64 (by omega) (by omega)];omega
  simp only[aB,seval]
  refine d7 (σ:=Unit) [1000000] [1,2] ts (fun i _=>((ts.drop i).all fun t=>t.flat e)=(ts.all fun t=>t.flat e)) (fun i _=>[(5,.int .i64 i)]) (fun _ _=>st) (by decide +kernel) ⟨(),rfl,aP.mk (by simp only[aB,↓a9,seval])⟩ (fun i x _ hx hlt bN hdr hinv=>?_) (fun _ hge hinv=>?_)
  case refine_2=>
   simp only[hge,aE,aB,seval,OP]
   rw[←hinv,o9]
   try rfl
  have hw:=bH (n:=(i:Int)+1)
  rw[hdr,kH] at hinv
  simp only[bN,aE,bR (av:=Tm.av) cF hx (aQ x),bM,aQ,hw1,aB,seval,OP]
  refine(IH x (cQ hx) e _ (by omega)).to ?_
  simp only[aB,seval]
  refine bE (fun h2=>?_) (fun h2=>?_)
  · simp only[aB,seval]
    simp only[jI] at h2
    rw[←hinv,h2]
    try rfl
  · simp only[rK] at h2
    rw[h2,dH] at hinv
    simp only[aB,seval]
    exact⟨(),hinv,aP.mk (by simp only[hw,aB,seval])⟩
termination_by t=>SizeOf.sizeOf t
decreasing_by have:=List.sizeOf_lt_of_mem hx;simp only[Tm.mk.sizeOf_spec];omega
abbrev FF:=zi aX (zi cD (zi cI (zi JH cK)))
theorem SB{N:Nat}{σ:Sub}(hg:dL σ)(ho:dC (bS N) σ)(t:Tm)(ht:bS N t)(st:aA) :
 aD prog 113 [t.av,.slice (cE N σ)] st (fun r st'=>st'=st∧∃x:Tm,r=.tup [x.av,.bool (jS (t.aS (rs σ)))]∧(jS (t.aS (rs σ))=true→x=t.aS (rs σ))):=by
 obtain⟨rk,B,G⟩:=hg.rs
 have M1:=fun st=>Q5 G ho 120 t st (c6 _) ht
 have hV:=G.aVC ho.x8 ht.1
 refine aD.pN (aD.soft ?_)
 refine wF [1000000] 2 func113 ntmps113 rfl rfl ?_
 intro _
 simp only[bM,aQ,cR,aB,seval,FF]
 intro b4 h4
 refine(M1 _).mono ?_
 rintro _ _ ⟨rfl,x,left,rfl,h1,h2⟩
 simp only[aQ,cO,cR,aB,↓a9,seval,FF]
 refine wP [(1,1),(2,1),(3,1),(4,2),(0,1),(5,0),(6,1),(7,0),(8,1)] [1,2,3,4,0,6,8] mixed ?_
 simp only[aB,seval]
 refine c5 (fun h=>?_) (fun h=>?_)
 · have h3:0≤left:=by simpa using h
   have h4:(t.aS (rs σ)).nodes≤120:=F7 fun h5=>by rw[aH h5] at h2;omega
   rw[aN h4] at h2
   obtain⟨rfl,_⟩:=h2
   have h5:jS (t.aS (rs σ))=(t.aS (rs σ)).flat 30:=by unfold jS;simp [h4]
   simp only[h,bM,aQ,aB,seval,FF]
   refine(R9 _ 30 _ (by omega) hV.small).to ?_
   simp only[aG,cO,cR,cH,aB,seval,FF]
   refine⟨st,(aJ.refl _).aC ‹_›,rfl,_,by simp only[jW,q0,Tm.soft,bF,bD];rw[h5],fun _=>rfl⟩
 · have hx0:=trivial
   have h3:left<0:=by simpa using h
   have h4:¬(t.aS (rs σ)).nodes≤120:=fun h5=>by rw[aN h5] at h2;omega
   have h5:jS (t.aS (rs σ))=false:=by unfold jS;simp [h4]
   simp only[h,aG,bM,aQ,cO,cR,cH,fU (cH x),fN (bM x),aB,seval,FF]
   refine⟨st,(aJ.refl _).aC ‹_›,rfl,x,by simp only[jW,q0,Tm.soft,bF,bD];rw[h5],fun h6=>?_⟩
   rw[h5] at h6;cases h6
theorem aSH(c:Cl):EB c=(cB (c.1::c.2) []).foldl (fun n v=>if n≤v then v+1 else n) 0:=rfl
abbrev JB:=zi aX (zi cI (zi kT (zi cK m9)))
theorem aN8(c:Cl)(hc:gX c)(h6:c.2.length≤6)(st:aA):aD prog 274 [aF c] st (fun r st'=>r=.int .i64 (oP c:Int)∧st'=st):=by
 have hvr:=fun v=>hc.vars (v:=v)
 have hok:=hc.ET
 have hfr:(oP c:Int)=EB c:=by
  have:=(aD3 (cB (c.1::c.2) []) 0).1
  unfold oP EB
  omega
 rw[hfr,aSH]
 have hnd:bU Tm.nodes (c.1::c.2)≤1099511627776:=by
  have:∀l:List Tm,(∀t∈l,bS 26 t)→bU Tm.nodes l≤l.length*120:=by
   intro l
   induction l with
   | nil=>intro _;simp [bU]
   | cons x l ih=>intro h;simp only[bU,aY];have:=ih fun y hy=>h y (by simp [hy]);have:=(h x (by simp)).2;omega
  have:=this _ hok
  simp only[aY] at this
  omega
 have hvl:=yO (c.1::c.2) []
 obtain⟨⟨k,n,s,ts⟩,bd⟩:=c
 simp only at h6 hnd hvl hvr hok
 rw[iO]
 refine aD.done ?_
 refine wF [1000000] 1 func274 ntmps274 rfl rfl ?_
 intro _
 simp only[aB,seval,JB]
 refine QP cF kL kM rfl (.inl rfl) (by intro e he;simp only[cT,dF,dS] at he;subst he;rfl) (fun e he=>by simp only[cL] at he;obtain⟨t,_,rfl⟩:=he;exact⟨aQ _,cO _⟩) (by simp only[aY,aW,aE];omega) (by simp only[aY,aW,aE];omega) (fun q s2 hq=>?_)
 rw[←bY] at hq
 rw[show[(Tm.mk k n s ts).av]++bd.map Tm.av=((Tm.mk k n s ts)::bd).map Tm.av from rfl] at hq
 simp only[aB,seval]
 refine Lit.call hq (n8 _) (gF _) (fun _=>rfl) ?_
 refine(LK _ _ (fun t ht=>Tm.r0 t (hok t ht).1.2.1) hnd).to ?_
 generalize cB ((Tm.mk k n s ts)::bd) []=vs at *
 simp only[aW] at hvl
 simp only[aB,seval]
 refine d7 (σ:=Int) [1000000] [2,3] vs (fun i n=>(vs.drop i).foldl (fun n v=>if n≤v then v+1 else n) n=vs.foldl (fun n v=>if n≤v then v+1 else n) 0) (fun i n=>[(4,.int .i64 n),(5,.int .i64 i)]) (fun _ _=>st) (by decide +kernel) ⟨0,rfl,aP.mk (by simp only[aB,↓a9,seval])⟩ (fun i x n hx hlt bN hdr hinv=>?_) (fun n hge hinv=>?_)
 case refine_2=>
  rw[o9] at hinv
  simp only[aE,hge,aB,seval,JB]
  refine⟨?_,aJ.refl _⟩
  rw[←hinv]
  try rfl
 rw[hdr,sU] at hinv
 have hw:=bH (n:=(i:Int)+1)
 obtain⟨t,ht,hv⟩:=(hvr x).1 (cQ hx)
 have a0M:=(hok t ht).1.2.2 x hv
 have hw2:=bH (n:=x+1)
 have hat:dP prog 28 (.slice (vs.map iv)) (.int .i64 (i:Int))=some (.pptr (.int .i64 x)):=bR (av:=iv) pO hx rfl
 simp only[aE,bN,hat,aB,seval,JB]
 refine bE (fun h=>?_) (fun h=>?_)
 · rw[aN (by simpa using h)] at hinv
   simp only[hat,hw2,hw,aB,seval,JB]
   exact⟨x+1,hinv,aP.mk (by simp only[aB,seval])⟩
 · rw[aH (by simpa using h)] at hinv
   simp only[hw,aB,seval]
   exact⟨n,hinv,aP.mk (by simp only[aB,seval])⟩
theorem aG2{M:Int}(m:Nat)(hm:M+m≤1073741824):∀t:Tm,c8 M t→t.sh (m:Int)=fS m t:=by
 intro t
 induction t using Tm.ind with
 | h k n s ts ih=>
  intro h
  rw[Tm.N4]
  by_cases hk:k=1
  · subst hk
    obtain⟨h0,h1,rfl,rfl⟩:=h.var
    unfold fS
    rw[aN rfl,IR _ (t:=.mk 1 n ⟨#[]⟩ []) rfl,wrap64 (by omega) (by omega)]
    try rfl
  · obtain⟨_,h2⟩:=h.own hk
    unfold fS at ih ⊢
    rw[aH hk,N2 _ hk]
    congr 1
    exact y5 fun x hx=>ih x hx (h2 x hx)
abbrev JC:=zi aX (zi cI (zi cK (zi FN aIJ)))
theorem SA(bd:List Tm)(N bJ:Nat)(rest:List RG)(hb:∀t∈bd,bS 26 t)(h6:bd.length≤6)(hN:N≤1048576)(hr:rest.length≤1048576)(st:aA) :
 aD prog 262 [.slice (bd.map Tm.av),.int .i64 (N:Int),.int .i64 (bJ:Int),.slice (rest.map dQ)] st (fun r st'=>r=.slice ((bd.map (fun t=>(⟨fS N t,bJ⟩:RG))++rest).map dQ)∧st'=st):=by
 refine aD.kK (aD.fin ?_)
 refine wF [1000000] 4 func262 ntmps262 rfl rfl ?_
 intro _
 simp only[aB,seval,JC]
 refine d7 (σ:=Nat) [1000000] [0,1,2,3,8] bd (fun i b=>((bd.take i).map (fun t=>(⟨fS N t,bJ⟩:RG))).map dQ≠[]→st b=none) (fun i b=>[(9,bQ 5 b (((bd.take i).map (fun t=>(⟨fS N t,bJ⟩:RG))).map dQ)),(10,.int .i64 i)]) (fun i b=>aU st b (((bd.take i).map (fun t=>(⟨fS N t,bJ⟩:RG))).map dQ)) (by decide +kernel) ⟨0,fun h=>absurd rfl h,aP.mk (by simp only[mK,bD,jM,aB,↓a9,seval])⟩ (fun i x b hx hlt bN hdr hinv=>?_) (fun b hge hinv=>?_)
 case refine_1=>
  have hw:=bH (n:=(i:Int)+1)
  have cS:(((bd.take i).map (fun t=>(⟨fS N t,bJ⟩:RG))).map dQ).length=i:=by simp only[aE,dE];omega
  have htk:(((bd.take i).map (fun t=>(⟨fS N t,bJ⟩:RG))).map dQ)++ [dQ ⟨fS N x,bJ⟩]=(((bd.take (i+1)).map (fun t=>(⟨fS N t,bJ⟩:RG))).map dQ):=by rw[eD,hx];simp
  have hxo:=hb x (cQ hx)
  have hsh:=aG2 N (by omega) x hxo.1
  have hcs:=LI (N:Int) x
  rw[hsh] at hcs
  have hgo:dQ ⟨fS N x,bJ⟩=.agg ((fS N x).av.cells++ [.int .i64 (bJ:Int)]):=aWL _
  simp only[bN,aE,bR (av:=Tm.av) cF hx (aQ x),bM,aQ,aB,seval,JC]
  refine(hcs _ hxo.1.small).to ?_
  generalize fS N x=y at *
  obtain⟨yk,yn,ys,yt⟩:=y
  simp only[bY,yE] at htk hgo ⊢
  simp only[aB,seval,JC]
  refine eE D3 L4 L8 rfl rfl (gZ rfl rfl) (by intro e he;simp only[cL] at he;obtain⟨t,_,rfl⟩:=he;exact BT t) hinv (by simp only[cS,aY,aW];omega) (by simp only[cS,aY,aW];omega) (fun b' hb'=>?_)
  rw[htk] at hb' ⊢
  simp only[hw,aB,seval]
  exact⟨b',hb',aP.mk (by simp only[aB,seval])⟩
 rw[dR] at hinv ⊢
 simp only[aE,hge,aB,seval,JC]
 refine eE (xs:=rest.map dQ) D3 L4 L8 rfl rfl (by intro e he;simp only[cL] at he;obtain⟨t,_,rfl⟩:=he;exact⟨BT t,aWM t⟩) (by intro e he;simp only[cL] at he;obtain⟨t,_,rfl⟩:=he;exact BT t) hinv (by simp only[aE];omega) (by simp only[aE];omega) (fun b' hb'=>?_)
 rw[←pA] at hb' ⊢
 simp only[aB,seval]
 exact⟨b',_,st,rfl,hb',by intro e he;simp only[cL] at he;obtain⟨t,_,rfl⟩:=he;exact aWK t,⟨5,by intro e he;simp only[cL] at he;obtain⟨t,_,rfl⟩:=he;exact BT t⟩,by rw[kY],aJ.refl _⟩
def r8(p:List Cl)(t:Tm)(i:Nat):Bool:=match p[i]? with
 | some c=>aEN c t
 | none=>false
theorem ML(p:List Cl)(t:Tm):pQ p t=(List.range p.length).filter (r8 p t):=rfl
theorem aSE(p:List Cl)(t:Tm)(i:Nat):(List.range (i+1)).filter (r8 p t)=(List.range i).filter (r8 p t)++(if r8 p t i=true then[i] else[]):=by
 rw[List.range_succ,List.filter_append]
 congr 1
 by_cases h:r8 p t i=true<;>simp [h]
theorem MM(p:List Cl)(t:Tm)(i:Nat):((List.range i).filter (r8 p t)).length≤i:=by
 have:=List.length_filter_le (r8 p t) (List.range i)
 rw[List.length_range] at this
 exact this
theorem aU3(l:List Nat):∀e∈l.map nv,e.width=1:=by intro e h;simp only[cL] at h;obtain⟨t,_,rfl⟩:=h;rfl
abbrev B5:=zi aX (zi cG (zi lK (zi cI (zi kT (zi cK m9)))))
theorem aNW(p:List Cl)(t:Tm)(hp:p.length≤1048576)(st:aA):aD prog 41 [.slice (p.map aF),t.av] st (fun r st'=>r=.slice ((pQ p t).map nv)∧st'=st):=by
 rw[ML]
 refine aD.done ?_
 obtain⟨tk,tn,ts',tts⟩:=t
 simp only[bY]
 refine wF [1000000] 2 func41 ntmps41 rfl rfl ?_
 intro _
 simp only[aB,seval,B5]
 refine CM (σ:=Unit) [1000000] [0,3,4] p 1 5 (fun i _=>((List.range i).filter (r8 p (.mk tk tn ts' tts))).map nv) (fun _ _=>True) (fun i _=>[(6,.int .i64 i)]) (fun _ _=>st) (fun i _ _ e he=>by simp only[cL] at he;obtain⟨t,_,rfl⟩:=he;exact⟨rfl,rfl⟩) (by decide +kernel) ⟨(),0,trivial,fun h=>absurd rfl h,aP.mk (by simp only[jM,List.range_zero,List.filter_nil,bD,aB,↓a9,seval])⟩ (fun i x s b hx hlt bN hdr hinv hb=>?_) (fun s b hge hinv=>?_)
 case refine_2=>
  simp only[hge,fX,gY,lD,aSA,jD,aE,aB,seval,B5]
  exact⟨rfl,aJ.refl _⟩
 have hw:=bH (n:=(i:Int)+1)
 have hst:=aSE p (.mk tk tn ts' tts) i
 have hln:=MM p (.mk tk tn ts' tts) i
 have hat:=bR (av:=aF) (P:=prog) oN hx (jC x)
 obtain⟨⟨k,n,s',ts⟩,bd⟩:=x
 rw[iO] at hat
 have hP:r8 p (.mk tk tn ts' tts) i=(decide (s'=ts')&&decide ((ts.length:Int)=(tts.length:Int))):=by unfold r8;rw[hx];try rfl
 rw[hP] at hst
 simp only[bN,aE,aB,seval,B5]
 refine wP [(0,1),(1,1),(2,1),(3,1),(4,1),(6,1),(5,2),(7,2),(8,1),(9,1),(10,1),(11,1),(12,1),(13,1),(14,1),(17,1),(15,2),(16,1),(18,2),(19,1),(20,1),(21,1)] [0,1,2,3,4,6,5,7,8,9,10,11,12,13,14,17,15,16,18,19,20,21] mixed ?_
 simp only[hat,aB,seval,B5]
 refine c5 (fun h=>?_) (fun h=>?_)
 case refine_2=>
  have h':(decide (s'=ts')&&decide ((ts.length:Int)=(tts.length:Int)))=false:=by simp at h;simp [h]
  rw[h',aH (by simp),gI] at hst
  rw[←hst] at hb ⊢
  simp only[h,hw,aB,seval]
  exact⟨(),b,hb,aP.mk (by simp only[aB,seval])⟩
 have h1:decide (s'=ts')=true:=by simpa using h
 rw[h1,dH] at hst
 simp only[h,aE,hat,aB,seval,B5]
 refine bE (fun h2=>?_) (fun h2=>?_)
 · rw[aN h2] at hst
   simp only[aB,seval,B5]
   refine eE pO L6 MA rfl rfl (gZ rfl rfl) (aU3 _) hb (by simp only[aE,aY,aW];omega) (by simp only[aE,aY,aW];omega) (fun b' hb'=>?_)
   rw[show ∀l:List Nat,l.map nv++ [AV.int .i64 (i:Int)]=(l++ [i]).map nv from fun l=>by simp [nv],←hst] at hb' ⊢
   simp only[hw,aB,seval]
   exact⟨(),b',hb',aP.mk (by simp only[aB,seval])⟩
 · rw[aH (by simp [h2]),gI] at hst
   rw[←hst] at hb ⊢
   simp only[hw,aB,seval]
   exact⟨(),b,hb,aP.mk (by simp only[aB,seval])⟩
theorem NC{n:Int}:∀ {l:List Int},l.Nodup→∀ {i:Nat},l[i]?=some n→∀j:Int,gR n l j=j+i
 | [],_,i,h,j=>by simp at h
 | x::l,hd,0,h,j=>by
  simp only[KA,Option.some.injEq] at h
  subst h
  simp [gR]
 | x::l,hd,i+1,h,j=>by
  rw[List.nodup_cons] at hd
  rw[J9] at h
  have hm:=cQ h
  simp only[gR]
  rw[aH (fun e:n=x=>hd.1 (e▸hm)),NC hd.2 h (j+1)]
  omega
abbrev lX:=zi aX (zi cG (zi cI (zi kT cK)))
theorem RN(vars:List Int)(hnd:vars.Nodup)(hvl:vars.length≤1048576):∀(t:Tm) (st:aA),t.small=true→t.cv=true→(∀v∈t.vl,v∈vars)→aD prog 157 [t.av,.slice (vars.map iv)] st (fun r st'=>r=(t.aS fun v=>vr (gR v vars 0)).av∧st'=st)
 | .mk k n s ts,st,hsm,hcv,hin=>by
  obtain⟨hlen,vP⟩:=Tm.yF hsm
  obtain⟨hc1,hcs⟩:=Tm.mO.1 hcv
  have IH:=fun(x:Tm) (hx:x∈ts) st=>RN vars hnd hvl x st (vP x hx) (hcs x hx) (fun v hv=>by
   by_cases hk:k=1
   · rw[(hc1 hk).2] at hx;cases hx
   · exact hin v ((Tm.nB hk).2 ⟨x,hx,hv⟩))
  generalize hg:(Tm.aS fun v=>vr (gR v vars 0))=g at IH
  refine aD.kK (aD.fin ?_)
  simp only[bY]
  refine wF [1000000,5] 2 func157 ntmps157 rfl rfl ?_
  intro _
  simp only[aG,aB,↓a9,seval,lX]
  intro b4 h4 c hc
  have hne:c≠b4:=by rintro rfl;rw[aA.aK] at hc;cases hc
  have hnc:st c=none:=by rw[aA.aO st _ hne] at hc;exact hc
  have aS9:∀i:Nat,vars[i]?=some n→gR n vars 0=(i:Int):=fun i hi=>by
   have:=NC hnd hi 0
   omega
  generalize hW:st.aC b4 (.cells [AV.int .i64 0,AV.int .i64 0,AV.str ⟨#[]⟩,AV.fslice []])=W
  have hWc:W c=none:=by rw[←hW];exact hc
  have hW4:W b4=some (.cells [AV.int .i64 0,AV.int .i64 0,AV.str ⟨#[]⟩,AV.fslice []]):=by rw[←hW];exact aA.aK _ _ _
  have hS:W b4≠none:=by rw[hW4];simp
  have HV:b4≠c:=dM hne
  refine gW (σ:=Nat×Int) [1000000,5] [1,2,4,5] (fun p=>p.1≤vars.length∧(k≠1→p.2=n)∧(k=1→(n∈vars.take p.1→p.2=gR n vars 0))) (fun p=>[(6,.int .i64 p.1)]) (fun p=>W.aC c (.cells [.int .i64 k,.int .i64 p.2,.str s,.fslice []])) (fun p=>vars.length - p.1) (by decide +kernel) ⟨(0,n),⟨f9 _,fun _=>rfl,fun _ h=>by simp at h⟩,aP.mk (by simp only[aB,↓a9,seval])⟩ ?_
  rintro⟨i,n'⟩ ⟨h1,h2,h3⟩
  simp only at h1 h2 h3
  have rest:(k=1→n'=gR n vars 0)→True:=fun _=>trivial
  simp only[aE,aB,seval,lX]
  have fin:(k=1→n'=gR n vars 0)→g (.mk k n s ts)=.mk k n' s (ts.map g):=fun h4=>by
   rw[←hg]
   by_cases hk:k=1
   · obtain⟨rfl,rfl⟩:=hc1 hk
     rw[Tm.oV _ hk,h4 hk,hk];try rfl
   · rw[Tm.mE _ hk,h2 hk]
  refine c5 (fun h=>?_) (fun h=>?_)
  case refine_2=>
   have h4:(k=1→n'=gR n vars 0):=fun hk=>h3 hk (by
    have:i=vars.length:=by simp at h;omega
    rw[this,dR]
    exact hin n (by rw[Tm.oB hk];simp))
   simp only[h,aB,seval]
   refine d7 (σ:=Nat) [1000000,5] [1,2,4,5] ts (fun i b=>(((ts.take i).map g).map Tm.av≠[]→(aA.aC W c (.cells ([AV.int .i64 k,AV.int .i64 (n'),AV.str s]++ [bQ 4 b (((ts.take i).map g).map Tm.av)]))) b=none)) (fun i b=>[(7,.int .i64 i)]) (fun i b=>nR W c b [AV.int .i64 k,AV.int .i64 (n'),AV.str s] (((ts.take i).map g).map Tm.av)) (by decide +kernel)
    ⟨0,fun h=>absurd rfl h,aP.mk (by simp only[aB,↓a9,seval])⟩ (fun i x b hx hlt bN hdr hinv=>?_) (fun b hge hinv=>?_)
   case refine_1=>
    have hw:=bH (n:=(i:Int)+1)
    have cS:(((ts.take i).map g).map Tm.av).length=i:=by simp only[aE,dE];omega
    have htk:(ts.take (i+1)).map g=(ts.take i).map g++ [g x]:=by rw[eD,hx];simp
    have hbo:=mS hinv
    simp only[aE,bN,aE,aB,seval,lX]
    refine wP [(0,1),(2,1),(4,1),(7,1),(1,2),(3,2),(5,1),(6,2),(8,2),(9,1),(10,0),(11,1),(12,0)] [0,2,4,7,1,3,5,6,8,9,11] mixed ?_
    simp only[bR (av:=Tm.av) cF hx (aQ x),bM,aQ,hbo,tG,aB,seval,lX]
    refine iK (IH x (cQ hx) _) ?_
    simp only[bM,aQ,cR,aB,seval,lX]
    refine eE cF kL kM rfl rfl (gZ (aQ _) (cO _)) (gF _) hinv (by simp only[cS,aY,aW];omega) (by simp only[cS,aY,aW];omega) (fun b' hb'=>?_)
    rw[show(((ts.take i).map g).map Tm.av)++ [(g x).av]=((ts.take (i+1)).map g).map Tm.av by rw[htk];simp] at hb' ⊢
    obtain⟨g1,g2,g3⟩:=xS hb'
    simp only[gO,dI] at g1 g3
    simp only[g3,nG,iM,aG,g1,hw,aG,aB,seval,lX]
    exact⟨b',g2,aP.mk (by simp only[aB,seval])⟩
   have hbo:=mS hinv
   rw[dR] at hinv hbo ⊢
   simp only[aE,hge,aE,aB,seval,lX]
   simp only[hbo,aG,aB,seval,lX]
   have g1:=sE hinv hS HV
   rw[hW4] at g1
   simp only[g1,iM,aB,seval]
   obtain⟨g2,g3⟩:=vS (o:=.cells [AV.int .i64 k,AV.int .i64 (n'),AV.str s,bQ 4 b ((ts.map g).map Tm.av)]) hinv hS HV
   refine⟨b,_,_,g2,g3,n8 _,⟨4,gF _⟩,?_,fun x=>?_⟩
   · simp only[fE,bF,bD,fX,qQ,kY,←bY]
     rw[fin h4]
   · subst hW
     by_cases e3:x=b4<;>by_cases e4:x=c<;>simp_all [aA.aC]
  have hlt:i<vars.length:=by simpa using h
  simp only[h,aB,seval,lX]
  refine bE (fun h5=>?_) (fun h5=>?_)
  case refine_2=>
   have h5':k≠1:=by simpa using h5
   have h4:(k=1→n'=gR n vars 0):=fun hk=>absurd hk h5'
   simp only[aB,seval]
   refine d7 (σ:=Nat) [1000000,5] [1,2,4,5] ts (fun i b=>(((ts.take i).map g).map Tm.av≠[]→(aA.aC W c (.cells ([AV.int .i64 k,AV.int .i64 (n'),AV.str s]++ [bQ 4 b (((ts.take i).map g).map Tm.av)]))) b=none)) (fun i b=>[(7,.int .i64 i)]) (fun i b=>nR W c b [AV.int .i64 k,AV.int .i64 (n'),AV.str s] (((ts.take i).map g).map Tm.av)) (by decide +kernel)
    ⟨0,fun h=>absurd rfl h,aP.mk (by simp only[aB,↓a9,seval])⟩ (fun i x b hx hlt bN hdr hinv=>?_) (fun b hge hinv=>?_)
   case refine_1=>
    have hw:=bH (n:=(i:Int)+1)
    have cS:(((ts.take i).map g).map Tm.av).length=i:=by simp only[aE,dE];omega
    have htk:(ts.take (i+1)).map g=(ts.take i).map g++ [g x]:=by rw[eD,hx];simp
    have hbo:=mS hinv
    simp only[aE,bN,aE,aB,seval,lX]
    refine wP [(0,1),(2,1),(4,1),(7,1),(1,2),(3,2),(5,1),(6,2),(8,2),(9,1),(10,0),(11,1),(12,0)] [0,2,4,7,1,3,5,6,8,9,11] mixed ?_
    simp only[bR (av:=Tm.av) cF hx (aQ x),bM,aQ,hbo,tG,aB,seval,lX]
    refine iK (IH x (cQ hx) _) ?_
    simp only[bM,aQ,cR,aB,seval,lX]
    refine eE cF kL kM rfl rfl (gZ (aQ _) (cO _)) (gF _) hinv (by simp only[cS,aY,aW];omega) (by simp only[cS,aY,aW];omega) (fun b' hb'=>?_)
    rw[show(((ts.take i).map g).map Tm.av)++ [(g x).av]=((ts.take (i+1)).map g).map Tm.av by rw[htk];simp] at hb' ⊢
    obtain⟨g1,g2,g3⟩:=xS hb'
    simp only[gO,dI] at g1 g3
    simp only[g3,nG,iM,aG,g1,hw,aG,aB,seval,lX]
    exact⟨b',g2,aP.mk (by simp only[aB,seval])⟩
   have hbo:=mS hinv
   rw[dR] at hinv hbo ⊢
   simp only[aE,hge,aE,aB,seval,lX]
   simp only[hbo,aG,aB,seval,lX]
   have g1:=sE hinv hS HV
   rw[hW4] at g1
   simp only[g1,iM,aB,seval]
   obtain⟨g2,g3⟩:=vS (o:=.cells [AV.int .i64 k,AV.int .i64 (n'),AV.str s,bQ 4 b ((ts.map g).map Tm.av)]) hinv hS HV
   refine⟨b,_,_,g2,g3,n8 _,⟨4,gF _⟩,?_,fun x=>?_⟩
   · simp only[fE,bF,bD,fX,qQ,kY,←bY]
     rw[fin h4]
   · subst hW
     by_cases e3:x=b4<;>by_cases e4:x=c<;>simp_all [aA.aC]
  have hk:k=1:=by simpa using h5
  obtain⟨x,hx⟩:∃x,vars[i]?=some x:=⟨_,d4 hlt⟩
  have hat:dP prog 28 (.slice (vars.map iv)) (.int .i64 (i:Int))=some (.pptr (.int .i64 x)):=bR (av:=iv) pO hx rfl
  have hw:=bH (n:=(i:Int)+1)
  have htk:vars.take (i+1)=vars.take i++ [x]:=by rw[eD,hx];try rfl
  simp only[aB,seval]
  refine wP [(0,1),(1,1),(2,1),(4,1),(3,2),(5,2),(6,1)] [0,1,2,4,3,5,6] mixed ?_
  simp only[hat,aB,seval,lX]
  refine bE (fun h6=>?_) (fun h6=>?_)
  · have h6':x=n:=by simpa using h6
    subst h6'
    simp only[aG,hw,aB,seval,lX]
    refine⟨(i+1,(i:Int)),by simp only;omega,⟨hlt,fun h=>absurd hk h,fun _ _=>(aS9 i hx).symm⟩,aP.mk (by simp only[aB,seval])⟩
  · have h6':x≠n:=by simpa using h6
    simp only[hw,aB,seval]
    refine⟨(i+1,n'),by simp only;omega,⟨hlt,h2,fun hk hm=>h3 hk ?_⟩,aP.mk (by simp only[aB,seval])⟩
    rw[htk,kW] at hm
    rcases hm with hm | hm
    · exact hm
    · simp only[cT,dF,dS] at hm
      exact absurd hm.symm h6'
termination_by t=>SizeOf.sizeOf t
decreasing_by have:=List.sizeOf_lt_of_mem hx;simp only[Tm.mk.sizeOf_spec];omega
theorem JT:∀(ts:List Tm) (l:List Int),(∀t∈ts,t.wf=true)→l.Nodup→(cB ts l).Nodup
 | [],l,_,h=>h
 | t::ts,l,hw,h=>JT ts _ (fun x hx=>hw x (by simp [hx])) ((PK t (hw t (by simp)) l).2.1 h)
theorem ID:∀l:List Tm,(∀t∈l,t.nodes≤120)→bU Tm.nodes l≤l.length*120
 | [],_=>by simp [bU]
 | x::l,h=>by
  simp only[bU,aY]
  have:=ID l fun y hy=>h y (by simp [hy])
  have:=h x (by simp)
  omega
abbrev B6:=zi aX (zi cI (zi kT cK))
theorem aNH{N:Int}(l:List Tm)(hok:∀t∈l,bS N t)(hl:l.length≤1000)(st:aA):aD prog 114 [.slice (l.map Tm.av)] st (fun r st'=>r=.slice ((yD l).map Tm.av)∧st'=st):=by
 have hnd:=ID l fun t ht=>(hok t ht).2
 have MZ:=JT l [] (fun t ht=>Tm.r0 t (hok t ht).1.2.1) qF
 have fP:=fun v=>CC (v:=v) l [] fun t ht=>(hok t ht).1.2.1
 have hvl:=yO l []
 simp only[aW] at hvl
 refine aD.done ?_
 refine wF [1000000] 1 func114 ntmps114 rfl rfl ?_
 intro _
 simp only[aB,seval,B6]
 refine CM (σ:=Unit) [1000000] [0,2] l 1 3 (fun i _=>(cB (l.take i) []).map iv) (fun _ _=>True) (fun i _=>[(4,.int .i64 i)]) (fun _ _=>st) (fun i _ _ e he=>by simp only[cL] at he;obtain⟨t,_,rfl⟩:=he;exact⟨rfl,rfl⟩) (by decide +kernel) ⟨(),0,trivial,fun h=>absurd rfl h,aP.mk (by simp only[jM,mK,cB,bD,aB,↓a9,seval])⟩ (fun i x s b hx hlt bN hdr hinv hb=>?_) (fun s b hge hinv=>?_)
 case refine_1=>
  have hw:=bH (n:=(i:Int)+1)
  have hat:=bR (av:=Tm.av) cF hx (aQ x)
  have hst:=I1 Tm.nodes hx
  have hvl:=yO (l.take i) []
  simp only[aW,jK] at hvl
  have htk:x.vars (cB (l.take i) [])=cB (l.take (i+1)) []:=by
   rw[eD,hx,O7]
   try rfl
  simp only[bN,aE,hat,bM,aQ,aB,seval,B6]
  refine(DU x (cB (l.take i) []) b st (Tm.r0 x (hok x (cQ hx)).1.2.1) hb (by omega)).mono ?_
  rintro _ _ ⟨b',rfl,rfl,hb'⟩
  rw[htk] at hb' ⊢
  simp only[aB,seval]
  exact⟨(),b',hb',aP.mk (by simp only[hw,aB,seval])⟩
 simp only[hge,fX,gY,lD,jD,dR,aE,aB,seval,B6]
 have hR:yD l=l.map fun t=>t.aS fun v=>vr (gR v (cB l []) 0):=rfl
 rw[hR]
 generalize cB l []=vars at *
 refine CM (σ:=Unit) [1000000] [0,2,3] l 4 5 (fun i _=>((l.take i).map fun t=>t.aS fun v=>vr (gR v vars 0)).map Tm.av) (fun _ _=>True) (fun i _=>[(6,.int .i64 i)]) (fun _ _=>st) (fun i _ _ e he=>by simp only[cL] at he;obtain⟨t,_,rfl⟩:=he;exact⟨cR _,aQ _⟩) (by decide +kernel) ⟨(),0,trivial,fun h=>absurd rfl h,aP.mk (by simp only[jM,mK,bD,aB,↓a9,seval])⟩ (fun i x s b hx hlt bN hdr hinv hb=>?_) (fun s b hge hinv=>?_)
 case refine_2=>
  simp only[hge,fX,gY,jD,dR,aE,aB,seval,B6]
  exact⟨rfl,aJ.refl _⟩
 have hw:=bH (n:=(i:Int)+1)
 have hat:=bR (av:=Tm.av) cF hx (aQ x)
 have hxm:=cQ hx
 have cS:(((l.take i).map fun t=>t.aS fun v=>vr (gR v vars 0)).map Tm.av).length=i:=by simp only[aE,dE];omega
 simp only[bN,aE,hat,bM,aQ,aB,seval,B6]
 refine(RN vars MZ (by omega) x _ (hok x hxm).1.small (hok x hxm).1.2.1 (fun v hv=>(fP v).2 (.inr ⟨x,hxm,hv⟩))).to ?_
 simp only[bM,aQ,cR,aB,seval,B6]
 refine eE cF kL kM rfl rfl (gZ (aQ _) (cO _)) (gF _) hb (by simp only[cS,aY,aW];omega) (by simp only[cS,aY,aW];omega) (fun b' hb'=>?_)
 rw[show(((l.take i).map fun t=>t.aS fun v=>vr (gR v vars 0)).map Tm.av)++ [(x.aS fun v=>vr (gR v vars 0)).av]=((l.take (i+1)).map fun t=>t.aS fun v=>vr (gR v vars 0)).map Tm.av by rw[eD,hx];simp] at hb' ⊢
 simp only[aB,seval]
 exact⟨(),b',hb',aP.mk (by simp only[hw,aB,seval])⟩
abbrev aH5:=zi aX (zi cD (zi cI cK))
theorem RJ(l:List Tm)(st:aA):aD prog 115 [.slice (l.map Tm.av)] st (fun r st'=>r=.bool (l.all Tm.valid)∧st'=st):=by
 refine wF [1000000] 1 func115 ntmps115 rfl rfl ?_
 simp only[eF,AV.fits,eN,aE]
 intro ⟨hl,_⟩
 simp only[aB,seval]
 refine d7 (σ:=Unit) [1000000] [0] l (fun i _=>((l.drop i).all Tm.valid)=(l.all Tm.valid)) (fun i _=>[(3,.int .i64 i)]) (fun _ _=>st) (by decide +kernel) ⟨(),rfl,aP.mk (by simp only[aB,↓a9,seval])⟩ (fun i x _ hx hlt bN hdr hinv=>?_) (fun _ hge hinv=>?_)
 case refine_2=>
  simp only[hge,aE,aB,seval,aH5]
  rw[←hinv,o9]
  try rfl
 have hw:=bH (n:=(i:Int)+1)
 rw[hdr,kH] at hinv
 simp only[bN,aE,bR (av:=Tm.av) cF hx (aQ x),bM,aQ,aB,seval,aH5]
 refine(LO x _).to ?_
 simp only[aB,seval]
 refine bE (fun h2=>?_) (fun h2=>?_)
 · simp only[aB,seval]
   simp only[jI] at h2
   rw[←hinv,h2]
   try rfl
 · simp only[rK] at h2
   rw[h2,dH] at hinv
   simp only[aB,seval]
   exact⟨(),hinv,aP.mk (by simp only[hw,aB,seval])⟩
theorem aFC(v:Int):∀(l:List Int) (i:Int),v∈l→i≤gR v l i∧gR v l i<i+l.length
 | [],i,h=>by cases h
 | x::l,i,h=>by
  simp only[gR,aY]
  split
  · omega
  · rename_i e
    have h':v∈l:=by
     rcases cT.1 h with h | h
     · exact absurd h e
     · exact h
    have:=aFC v l (i+1) h'
    omega
theorem aWI{N:Int}{l:List Tm}(hok:∀t∈l,bS N t)(hf:l.all jS=true):(yD l).all Tm.valid=decide ((cB l []).length≤26):=by
 have fP:=fun v=>CC (v:=v) l [] fun t ht=>(hok t ht).1.2.1
 have MZ:=JT l [] (fun t ht=>Tm.r0 t (hok t ht).1.2.1) qF
 have hro:∀t∈l,c8 (cB l []).length (t.aS fun v=>vr (gR v (cB l []) 0)):=fun t ht=>
  (hok t ht).1.aS fun v hv=>by
   have:=aFC v (cB l []) 0 ((fP v).2 (.inr ⟨t,ht,hv⟩))
   exact IJ (by omega) (by omega)
 have fF:∀t∈l,jS (t.aS fun v=>vr (gR v (cB l []) 0))=true:=fun t ht=>by
  have:=dD.1 hf t ht
  unfold jS at this ⊢
  rw[show(t.aS fun v=>vr (gR v (cB l []) 0))=hY (fun v=>gR v (cB l []) 0) t from rfl,aWF _ (hok t ht).1.2.1,aGQ _ (hok t ht).1.2.1]
  exact this
 rw[F0,dD,bK]
 constructor
 · intro h
   refine F7 fun hn=>?_
   obtain⟨w,hw⟩:∃w,(cB l [])[26]?=some w:=⟨_,d4 (by omega)⟩
   rcases (fP w).1 (cQ hw) with h1 | ⟨t,ht,hv⟩
   · cases h1
   · have vQ:=h _ (cL.2 ⟨t,ht,rfl⟩)
     have hin:=(Tm.FW vQ).2.2 26 ((yQ t).2 ⟨w,hv,by rw[NC MZ hw 0,CK];simp⟩)
     omega
 · intro h x hx
   obtain⟨t,ht,rfl⟩:=cL.1 hx
   have h1:=aF8.2 ((hro t ht).mono (show((cB l []).length:Int)≤26 by omega))
   rw[Tm.aJD h1]
   exact fF t ht
abbrev uS:=zi aX (zi cD (zi cI (zi kT (zi cK CB))))
theorem aN6{N:Nat}{σ:Sub}(hg:dL σ)(ho:dC (bS N) σ)(vars:List Int)(hv:∀v∈vars,0≤v∧v<(N:Int))(hl:vars.length≤1000)(st:aA) :
 aD prog 259 [.slice (vars.map iv),.slice (cE N σ)] st (fun r st'=>st'=st∧∃a,r=.tup [eQ a,.bool (oJ σ vars).isSome]∧∀x,oJ σ vars=some x→a=x):=by
 obtain⟨rk,B,G⟩:=hg.rs
 refine aD.pN (aD.soft ?_)
 refine wF [1000000] 2 func259 ntmps259 rfl rfl ?_
 intro _
 simp only[aB,seval,uS]
 intro b4 h4
 refine CM (σ:=Unit) [1000000] [0,1,4] vars 4 6 (fun i _=>((vars.take i).map (rs σ)).map Tm.av) (fun i _=>((vars.take i).map (rs σ)).all jS=true) (fun i _=>[(5,.bool false),(7,.int .i64 i)]) (fun _ _=>st.aC b4 (.cells [.fslice []])) (fun i _ _ e he=>by simp only[cL] at he;obtain⟨t,_,rfl⟩:=he;exact⟨cR _,aQ _⟩) (by decide +kernel) ⟨(),0,rfl,fun h=>absurd rfl h,aP.mk (by simp only[jM,mK,bD,aB,↓a9,seval])⟩ (fun i x s b hx hlt bN hdr hinv hb=>?_) (fun s b hge hinv=>?_)
 · have hw:=bH (n:=(i:Int)+1)
   have hxm:=cQ hx
   obtain⟨hx0,hx1⟩:=hv x hxm
   have hvr:bS N (vr x):=⟨IJ hx0 hx1,by rw[vr,Tm.gT];simp [bU]⟩
   have hat:dP prog 28 (.slice (vars.map iv)) (.int .i64 (i:Int))=some (.pptr (.int .i64 x)):=bR (av:=iv) pO hx rfl
   have cS:(((vars.take i).map (rs σ)).map Tm.av).length=i:=by simp only[aE,dE];omega
   have cZ:((vars.take (i+1)).map (rs σ)).all jS=jS (rs σ x):=by
    rw[eD,hx]
    simp only[KF,pA,bF,bD,yY,hinv,kH,CR,yX,dH]
   simp only[bN,aE,hat,aB,seval,uS]
   refine(RR x _).to ?_
   simp only[aB,seval]
   refine(SB hg ho (vr x) hvr _).mono ?_
   rintro _ _ ⟨rfl,y,rfl,hy⟩
   rw[BF] at hy ⊢
   simp only[aQ,cO,cR,aB,↓a9,seval,uS]
   refine bE (fun h=>?_) (fun h=>?_)
   · have h':jS (rs σ x)=false:=by simpa using h
     have vL:oJ σ vars=none:=by
      unfold oJ
      rw[aH]
      rintro⟨h1,_⟩
      have:=dD.1 h1 _ (cL.2 ⟨x,hxm,rfl⟩)
      rw[h'] at this;cases this
     have hbo:∀l,(l≠[]→st b=none)→(l≠[]→b≠b4)→(aU (st.aC b4 (.cells [.fslice []])) b l) b4=some (.cells [.fslice []]):=fun l _ h2=>by
      cases l with
      | nil=>exact aA.aK _ _ _
      | cons e l=>simp only[aU];rw[aA.aO _ _ (dM (h2 (by simp)))];exact aA.aK _ _ _
     have hnb:((vars.take i).map (rs σ)).map Tm.av≠[]→b≠b4:=fun h=>by rintro rfl;have:=hb h;rw[aA.aK] at this;cases this
     have aTF:((vars.take i).map (rs σ)).map Tm.av≠[]→st b=none:=fun h=>by have:=hb h;rw[aA.aO _ _ (hnb h)] at this;exact this
     have e1:=hbo _ aTF hnb
     simp only[aG,e1,aB,seval,uS]
     rw[vL]
     refine⟨st,?_,rfl,[],rfl,fun x h=>by cases h⟩
     intro z
     by_cases hz:z=b4
     · subst hz;simp [aA.aC,h4]
     · rw[aA.aO _ _ hz]
       exact((aJ.aU (aJ.refl _) hb).trans ((aJ.refl st).aC h4)) z
   · have h':jS (rs σ x)=true:=by simpa using h
     obtain rfl:=hy h'
     simp only[bM,aQ,cR,aB,seval,uS]
     refine eE cF kL kM rfl rfl (gZ (aQ _) (cO _)) (gF _) hb (by simp only[cS,aY,aW];omega) (by simp only[cS,aY,aW];omega) (fun b' hb'=>?_)
     rw[show(((vars.take i).map (rs σ)).map Tm.av)++ [(rs σ x).av]=((vars.take (i+1)).map (rs σ)).map Tm.av by rw[eD,hx];simp] at hb' ⊢
     simp only[hw,aB,seval]
     exact⟨(),b',by rw[cZ];exact h',hb',aP.mk (by simp only[aB,seval])⟩
 · rw[dR] at hinv
   have hok:∀t∈vars.map (rs σ),bS N t:=fun t ht=>by
    obtain⟨v,h,rfl⟩:=cL.1 ht
    obtain⟨h0,h1⟩:=hv v h
    have hf:=dD.1 hinv _ ht
    unfold jS at hf
    simp only[bG,bK] at hf
    exact⟨G.x8 ho.x8 v h0 h1,hf.2⟩
   have vQ:=aWI hok hinv
   have vL:oJ σ vars=if(cB (vars.map (rs σ)) []).length≤26 then some (yD (vars.map (rs σ))) else none:=by
    unfold oJ
    simp only[hinv,rE]
   have aTL:=fun st=>aNH _ hok (by rw[aE];exact hl) st
   have cZ:=fun st=>RJ (yD (vars.map (rs σ))) st
   rw[vQ] at cZ
   generalize yD (vars.map (rs σ))=R at *
   generalize (cB (vars.map (rs σ)) []).length=m at *
   simp only[hge,fX,kN,gY,aDZ,jD,dR,tW,aE,aB,seval,uS]
   refine(aTL _).to ?_
   simp only[aB,↓a9,seval,uS]
   refine wP [(1,1),(0,2),(2,2),(3,2),(4,0),(5,1)] [1,0,2,3,5] mixed ?_
   simp only[aB,seval,uS]
   refine iK (cZ _) ?_
   simp only[aG,aB,seval,uS]
   refine⟨st,(aJ.refl _).aC h4,rfl,R,?_,fun x h=>?_⟩
   · rw[vL]
     simp only[jF,jW,q0,oZ,bF,bD]
     by_cases h:m≤26
     · simp [h]
     · simp [h]
   · rw[vL] at h
     split at h
     · cases h;rfl
     · cases h
theorem N1(k n:Int)(s:ByteArray)(ts:List Tm)(rest:List RG)(left:List Nat)(σ:Sub)(N:Nat):eC ⟨.mk k n s ts,rest,left,σ,N⟩=.agg [.int .i64 k,.int .i64 n,.str s,.slice (ts.map Tm.av),.slice (rest.map dQ),.slice (left.map nv),.slice (cE N σ)]:=rfl
structure vA (p:List Cl) (c:RC):Prop where
 g8:dL c.σ
 ok:dC (bS c.N) c.σ
 dom:∀n,¬(0≤n∧n<(c.N:Int))→c.σ n=none
 goal:bS c.N c.goal
 rest:∀g∈c.rest,bS c.N g.t∧g.t.k=3
 left:∀i∈c.left,i<p.length
 len:c.rest.length≤524288
 aUJ:c.left.length≤1048576
structure oF (p:List Cl) (B:Nat) (s:RS):Prop where
 g8:dL s.σ
 ok:dC (bS s.N) s.σ
 dom:∀n,¬(0≤n∧n<(s.N:Int))→s.σ n=none
 goals:∀g∈s.goals,bS s.N g.t∧g.t.k=3
 pos:0<s.N
 hN:s.N≤B
 gl:s.goals.length≤B
 chl:s.chs.length≤B
 chs:∀c∈s.chs,vA p c∧c.N+26≤B∧c.rest.length+26≤B∧0<c.N
theorem dC.upN{N M:Nat}{σ:Sub}(h:dC (bS N) σ)(hm:N≤M):dC (bS M) σ:=h.imp fun t ht=>ht.mono (by omega)
theorem aK5{N k:Nat}{σ:Sub}(hd:∀n,¬(0≤n∧n<(N:Int))→σ n=none):cE N σ++List.replicate k zt=cE (N+k) σ:=by
 apply F9
 intro i
 have hl:=rX N σ
 by_cases hi:i<N
 · rw[PP (by omega),w6 N σ hi,w6 (N+k) σ (by omega)]
 · rw[J8 (by omega),hl]
   by_cases h2:i<N+k
   · rw[w6 (N+k) σ h2,hd (i:Int) (fun h=>hi (by omega)),List.getElem?_replicate,aN (by omega)]
     try rfl
   · rw[rN (by simp;omega),rN (by rw[rX];omega)]
theorem aKW{N k b:Nat}{σ:Sub}(hd:∀n,¬(0≤n∧n<(N:Int))→σ n=none)(hN:N+k≤1048576){st:aA}{K:AV→aA→Prop}(hb:st b=none)
 (hK:∀b',st b'=none→K (.mslice b' 0 (N+k) 4) (st.aC b' (.cells ((cE (N+k) σ).flatMap AV.cells)))) :
 qI prog 25 3 (st.aC b (.cells ((cE N σ).flatMap AV.cells))) (.mslice b 0 N 4) (.int .i64 (k:Int)) K:=by
 have hu:prog.underlying 3=some (.int .i64):=by kernel_rfl
 have hl:((cE N σ).flatMap AV.cells).length=N*4:=by rw[lQ (fun e he=>(QR N σ e he).1),rX]
 have vM:((cE N σ).flatMap AV.cells).take (N*4)++iG [AV.int .i64 0,.int .i64 0,.str ⟨#[]⟩,.fslice []] k=(cE (N+k) σ).flatMap AV.cells:=by
  rw[←hl,dR,NE _ (by simp),←aK5 hd,wM,List.flatMap_replicate]
  try rfl
 refine Or.inr ?_
 unfold zH
 simp only[cF,kL,kM,hu,aA.aK,fV]
 refine⟨rfl,by omega,rfl,by omega,trivial,by omega,by omega,by omega,?_,fun b' hb'=>?_⟩
 · rw[vM,d3]
   exact hK b hb
 · rw[vM,aA.xC st b _ hb]
   refine hK b' ?_
   by_cases h:b'=b
   · subst h;exact hb
   · rwa [aA.aO _ _ h] at hb'
theorem aI0{st s2 V:aA}{o' o6:AO}{b6 b11 b13 b14 b:Nat}{L A:List AV}(hD:aJ s2 st)(hA:s2 b11=some (.cells (A.flatMap AV.cells)))(h11:st b11=none)(h6:st b6=none)(h62:s2 b6≠none)(aD7:b6≠b11)(h13:s2 b13=none)(h14:s2 b14=none)
 (hV:∀q,q≠b13→q≠b14→V q=s2 q) (HT:V b13≠none) (AS:V b14≠none) (hb:L≠[]→V b=none) (hne:A≠[]) :
 aJ (((aU V b L).aC b13 o').aC b6 o6) (aU (aU st b11 A) b L)∧(L≠[]→(aU st b11 A) b=none):=by
 have aEH:b13≠b11:=by rintro rfl;rw[h13] at hA;cases hA
 have aSY:b14≠b11:=by rintro rfl;rw[h14] at hA;cases hA
 have HR:b13≠b6:=by rintro rfl;exact h62 h13
 have n13:st b13=none:=(hD b13).1 h13
 have n14:st b14=none:=(hD b14).1 h14
 rw[lO hne]
 have hbb:L≠[]→b≠b13∧b≠b11∧b≠b6∧b≠b14∧s2 b=none:=fun h=>by
  have h0:=hb h
  have e13:b≠b13:=by rintro rfl;exact HT h0
  have e14:b≠b14:=by rintro rfl;exact AS h0
  rw[hV b e13 e14] at h0
  exact⟨e13,(by rintro rfl;rw[h0] at hA;cases hA),(by rintro rfl;exact h62 h0),e14,h0⟩
 refine⟨fun q=>?_,fun h=>?_⟩
 · by_cases q6:q=b6
   · subst q6
     have:aU (st.aC b11 (.cells (A.flatMap AV.cells))) b L q=none:=by
      by_cases hL:L= []
      · subst hL;simp only[aU];rw[aA.aO _ _ aD7,h6]
      · obtain⟨_,_,e6,_⟩:=hbb hL
        rw[lO hL,aA.aO _ _ (dM e6),aA.aO _ _ aD7,h6]
     rw[this];simp
   rw[aA.aO _ _ q6]
   by_cases q13:q=b13
   · subst q13
     have:aU (st.aC b11 (.cells (A.flatMap AV.cells))) b L q=none:=by
      by_cases hL:L= []
      · subst hL;simp only[aU];rw[aA.aO _ _ aEH,n13]
      · obtain⟨e13,_⟩:=hbb hL
        rw[lO hL,aA.aO _ _ (dM e13),aA.aO _ _ aEH,n13]
     rw[this];simp
   rw[aA.aO _ _ q13]
   have rest:q≠b∨L= []→(V q=none→st.aC b11 (.cells (A.flatMap AV.cells)) q=none)∧∀o,st.aC b11 (.cells (A.flatMap AV.cells)) q=some o→V q=some o:=fun _=>by
    by_cases q14:q=b14
    · subst q14
      rw[aA.aO _ _ aSY,n14]
      simp
    rw[hV q q13 q14]
    by_cases q11:q=b11
    · subst q11;rw[aA.aK,hA];simp
    rw[aA.aO _ _ q11]
    exact hD q
   by_cases hL:L= []
   · subst hL
     exact rest (.inr rfl)
   · rw[lO hL,lO hL]
     by_cases qb:q=b
     · subst qb;rw[aA.aK,aA.aK];simp
     rw[aA.aO _ _ qb,aA.aO _ _ qb]
     exact rest (.inl qb)
 · obtain⟨e13,e11,e6,e14,h0⟩:=hbb h
   rw[aA.aO _ _ e11]
   exact(hD b).1 h0
theorem zR{st:aA}{b q:Nat}{l:List AV}{o:AO}(hb:l≠[]→st b=none)(h:st q=some o):aU st b l q=some o:=by
 cases l with
 | nil=>exact h
 | cons x l=>
  rw[lO (by simp),aA.aO _ _ (by rintro rfl;rw[hb (by simp)] at h;cases h)]
  exact h
theorem aDY{b b' o n w:Nat}{l:List AV}(h:l≠[]→b'≠b):(AV.mslice b' o n w).fin b l=.mslice b' o n w:=by
 unfold AV.fin
 cases l with
 | nil=>rfl
 | cons x l=>
  simp only[List.isEmpty_cons,iA,eA]
  cases o with
  | zero=>simp only[AV.fz];rw[aH (fun e=>h (by simp) e.1)];try rfl
  | succ o=>rfl
theorem HN{b N:Nat}{σ:Sub}(h0:0<N):(AV.mslice b 0 N 4).fin b (cE N σ)=.slice (cE N σ):=by
 have hl:=rX N σ
 have h:cE N σ≠[]:=by intro e;rw[e] at hl;simp at hl;omega
 have:bQ 4 b (cE N σ)=.mslice b 0 N 4:=by rw[tH h,hl]
 rw[←this,kY]
theorem aV8(l:List RC):∀e∈l.map eC,e.bO=false:=by intro e he;simp only[cL] at he;obtain⟨t,_,rfl⟩:=he;exact aV6 t
theorem aV9(l:List RC):∀e∈l.map eC,e.width=7:=by intro e he;simp only[cL] at he;obtain⟨t,_,rfl⟩:=he;exact IQ t
theorem aW4{φ:AF}{d i:Nat}{l:List Nat}(hi:i+1<l.length)(h:φ d=.int .i64 ((i:Int)+1)):fJ prog φ 28 (.slice (l.map nv)) (some (.tmp d)) none none=some (.slice ((l.drop (i+1)).map nv)):=by
 have he:φ.eval (.tmp d)=.int .i64 ((i:Int)+1):=h
 have hb:cU φ (some (.tmp d)) 0 l.length=some (i+1):=by
  simp only[cU,he]
  rw[aN (by omega)]
  congr 1
 have hwo:oC (l.map nv) (i+1) 1=true:=by
  unfold oC
  rw[mI,d4 hi]
  try rfl
 unfold fJ
 rw[aH (by simp [nO])]
 simp only[l5,pO]
 rw[aH (by simp)]
 simp only[cU] at hb ⊢
 have ht:List.take l.length (l.map nv)=l.map nv:=qG (by simp)
 simp only[aE,hb,hwo,or_true,fQ,ht]
 simp [List.map_drop]
abbrev pY:=zi aX (zi cD (zi lK (zi cI (zi kT (zi cK (zi m9 (zi FN (zi O3 (zi FO O4)))))))))
theorem SC(p:List Cl)(hp:∀c∈p,gX c∧c.2.length≤6)(gs0:List RG)(σ0:List AV)(cs:List RC)(c:RC)(hc:vA p c)(h0:0<c.N)(hN:c.N≤524288)(hcl:cs.length≤524288)(st:aA) :
 aD prog 265 [.slice (p.map aF),.agg [.slice (gs0.map dQ),.slice σ0,.slice (cs.map eC)],eC c] st (fun r st'=>st'=st∧r=match jV p cs c.goal c.rest c.σ c.N c.left with
  | some s=>.tup [mX s,.bool true]
  | none=>.tup [.agg [.slice (gs0.map dQ),.slice σ0,.slice (cs.map eC)],.bool false]):=by
 obtain⟨goal,rest,left,σ,N⟩:=c
 obtain⟨hg,ho,hd,hgo,hr,hle,hrl,hll⟩:=hc
 simp only at hg ho hd hgo hr hle hrl hll h0 hN
 obtain⟨gk,gn,gs',gts⟩:=goal
 rw[N1]
 refine aD.fin (aD.fin (aD.pN ?_))
 refine wF [1000000,13] 3 func265 ntmps265 rfl rfl ?_
 intro _
 simp only[aB,seval,pY]
 intro b6 h6
 generalize hW:st.aC b6 (.cells [.fslice [],.fslice [],.fslice []])=W
 have hW6:W b6=some (.cells [.fslice [],.fslice [],.fslice []]):=by rw[←hW];exact aA.aK _ _ _
 have hDW:aJ W st:=by rw[←hW];exact(aJ.refl _).aC h6
 refine d7 (σ:=Unit) [1000000] [0,4,5,6] left (fun i _=>jV p cs (.mk gk gn gs' gts) rest σ N (left.drop i)=jV p cs (.mk gk gn gs' gts) rest σ N left) (fun i _=>[(7,.bool false),(8,.int .i64 i)]) (fun _ _=>W) (by decide +kernel) ⟨(),rfl,aP.mk (by simp only[aB,↓a9,seval])⟩ (fun i x _ hx hlt bN hdr hinv=>?_) (fun _ hge hinv=>?_)
 case refine_2=>
  simp only[hge,aG,hW6,aE,aB,seval,pY]
  refine⟨st,?_,0,[],st,rfl,by simp,by simp,⟨0,by simp⟩,0,[],st,rfl,by simp,by simp,⟨0,by simp⟩,rfl,?_⟩
  · intro z
    have:=hDW z
    by_cases hz:z=b6
    · subst hz;simp [aA.aC,h6]
    · rw[aA.aO _ _ hz];exact this
  · rw[←hinv,o9]
    simp only[fE,eW,kN,gY,bF,bD,jV]
 have hw:=bH (n:=(i:Int)+1)
 have hxl:=hle x (cQ hx)
 obtain⟨cl,hcx⟩:∃cl,p[x]?=some cl:=⟨_,d4 hxl⟩
 obtain⟨EG,aEK⟩:=hp cl (cQ hcx)
 rw[hdr,jV.eq_def] at hinv
 simp only[hcx] at hinv
 have hat:dP prog 28 (.slice (left.map nv)) (.int .i64 (i:Int))=some (.pptr (.int .i64 (x:Int))):=bR (av:=nv) pO hx rfl
 have aEF:=bR (av:=aF) (P:=prog) oN hcx (jC cl)
 have hcf:=aN8 cl EG aEK
 obtain⟨⟨k,n,s',ts⟩,bd⟩:=cl
 rw[iO] at aEF hcf
 simp only at hinv
 simp only[bN,aE,rX,hat,aEF,aB,↓a9,seval,pY]
 refine wX [(0,1),(1,1),(2,1),(4,1),(3,0),(5,0),(6,0),(7,1)] [0,1,2,4,7] dW mixed rfl cY ?_
 simp only[aB,seval,pY]
 have hfr:=EG.fr.1
 have hHd:=EG.fS N (.mk k n s' ts) (by simp)
 have hBd:=fun t ht=>(EG.ET t (y6 _ ht))
 refine KV h0 (by omega) σ fun b hb hA0=>?_
 simp only[aB,seval]
 refine⟨cY,?_⟩
 refine(hcf _).to ?_
 simp only[aB,seval]
 refine⟨cY,?_⟩
 refine aKW hd (by omega) hb fun b11 h11=>?_
 simp only[aB,seval]
 refine⟨cY,?_⟩
 have hA:=(show d9 (N+oP (.mk k n s' ts,bd)) (W.aC b11 (.cells ((cE (N+oP (.mk k n s' ts,bd)) σ).flatMap AV.cells))) b11 σ from aA.aK _ _ _)
 have hDT:aJ (W.aC b11 (.cells ((cE (N+oP (.mk k n s' ts,bd)) σ).flatMap AV.cells))) W:=(aJ.refl _).aC h11
 have hh:=EG.head
 generalize oP (.mk k n s' ts,bd)=fr at *
 generalize W.aC b11 (.cells ((cE (N+fr) σ).flatMap AV.cells))=T at *
 have hsh:Tm.sh (N:Int) (.mk k n s' ts)=fS N (.mk k n s' ts):=aG2 N (by omega) _ hh.1
 have hcs:=LI (N:Int) (.mk k n s' ts)
 rw[hsh] at hcs
 have hun:=DR (N:=N+fr) (by omega) hg (ho.upN (by omega)) (.mk gk gn gs' gts) (fS N (.mk k n s' ts)) (hgo.mono (by omega)) hHd b11
 generalize fS N (.mk k n s' ts)=y at *
 obtain⟨yk,yn,ys,yt⟩:=y
 refine wX [(0,1),(1,1),(2,1),(3,1),(4,1),(6,1),(5,0),(7,0),(8,1)] [0,1,2,3,4,6,8] dW mixed rfl cY ?_
 simp only[aB,seval,pY]
 have hsm:=hh.1.small
 simp only[bY] at hun hcs ⊢
 refine(hcs _ hsm).to ?_
 simp only[aB,seval]
 refine⟨cY,?_⟩
 refine(hun _ hA).mono ?_
 rintro _ s2 ⟨rfl,hA2,hk2⟩
 simp only[aB,seval]
 refine⟨cY,?_⟩
 generalize nA σ (.mk gk gn gs' gts) (.mk yk yn ys yt)=u at *
 obtain⟨r,σ',tr⟩:=u
 simp only at hinv hA2 ⊢
 have HU:W b11=none:=h11
 have hDs:aJ s2 W:=by
  intro q
  have key:∀o,W q=some o→s2 q=some o:=fun o h=>hk2 q o ((hDT q).2 o h) (by rintro rfl;rw[HU] at h;cases h)
  refine⟨fun h=>?_,key⟩
  cases hq:W q with
  | none=>rfl
  | some o=>rw[key o hq] at h;cases h
 refine bE (fun h=>?_) (fun h=>?_)
 · have hr:r=false:=by simpa using h
   rw[aH (by rw[hr];simp)] at hinv
   simp only[hw,aB,seval]
   exact⟨(),hinv,aP.drop hDs (by simp only[aB,seval])⟩
 have hr':r=true:=by simpa using h
 rw[aN hr'] at hinv
 have hg9:=SA bd N cs.length rest hBd aEK (by omega) (by omega)
 generalize hgs:bd.map (fun t=>(⟨fS N t,cs.length⟩:RG))++rest=gs2 at *
 simp only[aE,aB,seval,pY]
 refine wP [(0,1),(1,1),(3,1),(5,1),(6,1),(7,1),(2,2),(4,2),(8,2),(9,1),(10,1),(11,0),(12,0)] [0,1,3,5,6,7,2,4,8,9,10] mixed ?_
 simp only[aB,seval,pY]
 refine LP hg9 ?_
 simp only[aG,aE,hw,aB,seval,pY]
 intro b13 h13
 have aSR:b13≠b11:=by rintro rfl;rw[d9,h13] at hA2;cases hA2
 have h62:s2 b6≠none:=by rw[(hDs b6).2 _ hW6];simp
 have HR:b6≠b13:=by rintro rfl;exact h62 h13
 have aD6:b6≠b11:=by rintro rfl;rw[hW6] at HU;cases HU
 have H5:st b11=none:=(hDW b11).1 HU
 have aEA:=(hDs b6).2 _ hW6
 have hNf:0<N+fr:=by omega
 have mQ:cE (N+fr) σ'≠[]:=by intro e;have:=rX (N+fr) σ';rw[e] at this;simp at this;omega
 refine bE (fun h=>?_) (fun h=>?_)
 · have h':i+1<left.length:=by simp at h;omega
   have hsl:=fun(φ:AF) (d:Nat) (h:φ d=.int .i64 ((i:Int)+1))=>aW4 h' h
   simp only[aB,seval]
   refine wP [(0,1),(2,1),(4,1),(6,1),(7,1),(9,1),(1,2),(3,2),(5,2),(8,1),(10,2),(11,1),(12,0),(13,0)] [0,2,4,6,7,9,1,3,5,8,10,11] mixed ?_
   simp only[aG,hsl,hw,aB,seval,pY]
   intro b14 h14
   have aEY:b14≠b13:=by rintro rfl;rw[aA.aK] at h14;cases h14
   have MR:s2 b14=none:=by rw[aA.aO _ _ aEY] at h14;exact h14
   have aSS:b6≠b14:=by rintro rfl;exact h62 MR
   generalize hV:(s2.aC b13 (AO.cells [AV.slice (gs2.map dQ),AV.mslice b11 0 (N+fr) 4,AV.slice (cs.map eC)])).aC b14 (.cells [.int .i64 gk,.int .i64 gn,.str gs',.slice (gts.map Tm.av),.slice (rest.map dQ),.slice ((left.drop (i+1)).map nv),.slice (cE N σ)])=V
   have AS:V b14=some (.cells [.int .i64 gk,.int .i64 gn,.str gs',.slice (gts.map Tm.av),.slice (rest.map dQ),.slice ((left.drop (i+1)).map nv),.slice (cE N σ)]):=by rw[←hV];exact aA.aK _ _ _
   have HT:V b13=some (AO.cells [AV.slice (gs2.map dQ),AV.mslice b11 0 (N+fr) 4,AV.slice (cs.map eC)]):=by rw[←hV,aA.aO _ _ (dM aEY)];exact aA.aK _ _ _
   have hV6:V b6=some (.cells [.fslice [],.fslice [],.fslice []]):=by rw[←hV,aA.aO _ _ aSS,aA.aO _ _ HR];exact aEA
   have hVq:∀q,q≠b13→q≠b14→V q=s2 q:=fun q e1 e2=>by rw[←hV,aA.aO _ _ e2,aA.aO _ _ e1]
   refine wX [(0,1),(1,1),(2,1),(4,1),(5,1),(3,0),(6,0),(7,1),(8,2)] [0,1,2,4,5,7] (one b14 (.cells [.int .i64 gk,.int .i64 gn,.str gs',.slice (gts.map Tm.av),.slice (rest.map dQ),.slice ((left.drop (i+1)).map nv),.slice (cE N σ)])) mixed rfl (lP AS) ?_
   simp only[NK,aB,seval,pY]
   have hlc:(cs.map eC).length=cs.length:=aE _
   refine eE (P:=prog) (b:=0) (l:=[]) (xs:=cs.map eC) AD L5 L9 rfl rfl (by intro e he;simp only[cL] at he;obtain⟨t,_,rfl⟩:=he;exact⟨IQ t,aV7 t⟩) (by simp) (by simp) (by simp only[aW,hlc];omega) (by simp only[aW,hlc];omega) (fun b15 h15=>?_)
   rw[dI] at h15 ⊢
   simp only[aB,seval]
   refine⟨lP (zR h15 AS),?_⟩
   refine eE (P:=prog) (b:=b15) (l:=cs.map eC) (xs:=[eC ⟨.mk gk gn gs' gts,rest,left.drop (i+1),σ,N⟩]) AD L5 L9 rfl rfl (gZ rfl rfl) (by intro e he;simp only[cL] at he;obtain⟨t,_,rfl⟩:=he;exact IQ t) h15 (by simp only[aY,aW,hlc];omega) (by simp only[aY,aW,hlc];omega) (fun b16 h16=>?_)
   rw[show(cs.map eC)++ [eC ⟨.mk gk gn gs' gts,rest,left.drop (i+1),σ,N⟩]=(cs++ [(⟨.mk gk gn gs' gts,rest,left.drop (i+1),σ,N⟩:RC)]).map eC by simp] at h16 ⊢
   have g13:=zR h16 HT
   have g14:=zR h16 AS
   have g6:=zR h16 hV6
   have hdn:left.drop (i+1)≠[]:=by intro e;have:=qP List.length e;simp at this;omega
   rw[aH hdn] at hinv
   generalize hLL:cs++ [(⟨.mk gk gn gs' gts,rest,left.drop (i+1),σ,N⟩:RC)]=LL at *
   have E:=aI0 (o':=.cells [AV.slice (gs2.map dQ),AV.mslice b11 0 (N+fr) 4,bQ 7 b16 (LL.map eC)]) (o6:=.cells [AV.slice (gs2.map dQ),AV.mslice b11 0 (N+fr) 4,bQ 7 b16 (LL.map eC)]) (hDs.trans hDW) hA2 H5 h6 h62 aD6 h13 MR hVq (by rw[HT];simp) (by rw[AS];simp) h16 mQ
   simp only[aG,HR,g13,g6,iM,nG,aB,seval,pY]
   have hms:LL.map eC≠[]→b11≠b16:=by rintro h rfl;have:=h16 h;rw[hVq b11 (dM aSR) (by rintro rfl;rw[d9,MR] at hA2;cases hA2),hA2] at this;cases this
   refine⟨lP g14,_,E.1,b16,LL.map eC,_,rfl,fun h=>E.2 (by simpa using h),aV8 LL,⟨7,aV9 LL⟩,b11,cE (N+fr) σ',st,rfl,fun _=>H5,DP _ _,⟨4,zW _ _⟩,rfl,?_⟩
   rw[←hinv]
   simp only[fE,eW,kN,gY,jD,bF,bD,aDY hms,HN hNf]
   rfl
 · have h':left.drop (i+1)= []:=F8 (by simp at h;omega)
   have E:=aI0 (o6:=.cells [AV.slice (gs2.map dQ),AV.mslice b11 0 (N+fr) 4,AV.slice (cs.map eC)]) (o':=.cells [AV.slice (gs2.map dQ),AV.mslice b11 0 (N+fr) 4,AV.slice (cs.map eC)]) (b:=0) (L:=[]) (hDs.trans hDW) hA2 H5 h6 h62 aD6 h13 h13 (fun q h _=>aA.aO s2 (.cells [AV.slice (gs2.map dQ),AV.mslice b11 0 (N+fr) 4,AV.slice (cs.map eC)]) h) (by rw[aA.aK];simp) (by rw[aA.aK];simp) (by simp) mQ
   simp only[aG,HR,aEA,aA.aK,aB,seval,pY]
   rw[aN h'] at hinv
   have E1:=E.1
   simp only[aU,d3] at E1
   refine⟨_,E1,0,[],_,rfl,by simp,by simp,⟨0,by simp⟩,b11,cE (N+fr) σ',st,rfl,fun _=>H5,DP _ _,⟨4,zW _ _⟩,rfl,?_⟩
   rw[←hinv]
   simp only[fE,eW,kN,gY,bF,bD,aDY (l:=[]) (fun h=>absurd rfl h),HN hNf]
   rfl
end Go.AW
