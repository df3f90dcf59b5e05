import Derived.Test.YtimfffmcljmfgaaGreatDoorUuq
import Derived.Test.YtimfffmcljmfgaaGreatDoorUup
import Derived.Test.YtimfffmcljmfgaaGreatDoorUul
import Derived.Test.YtimfffmcljmfgaaGreatDoorUun
import Derived.Test.YtimfffmcljmfgaaGreatDoorUum
import Derived.Test.YtimfffmcljmfgaaGreatDoorUuf
set_option linter.unusedSimpArgs false
set_option linter.unusedVariables false
set_option maxRecDepth 100000
namespace Go.AW
open Go.Proofs.Tryz
theorem UZ{st:aB}{b q:Nat}{l:List AV}{o:AO}(hb:l≠[]→st b=none)(h:st q=some o):a7 st b l q=some o:=by
 cases l with
 | nil=>exact h
 | cons x l=>exact(aB.aL _ _ (by rintro rfl;have:=hb (by simp);rw[h] at this;cases this)).trans h
abbrev BD:=zi tI_9 (zi zI_9 (zi cI (zi tI_31 (zi zI_31 (zi aN (zi bG (zi bH (zi b9 (zi tI_66 (zi zI_66 (zi bQ (zi bR (zi bS (zi bT bP))))))))))))))
set_option maxHeartbeats 1000000 in
theorem aSY{T:Tm→ByteArray}(n:Nat)(t:Tm)(hn:t.nodes≤n+1)(hws:Ws t)(PW:t.nodes≤1000)(hT:∀x,Ws x→x.nodes<t.nodes→w8 T x)(hp:rH t=true)(st:aB):aD prog 275 [t.av] st (fun r st'=>r=.str (HA T (spine n t))∧st'=st):=by
 obtain⟨q1,q2,q3⟩:=SM n t hws
 obtain⟨e1,e2⟩:=aMU n t hn
 have d4:=aMT n t
 have hnp:=pO (spine n t).2
 have hne:1≤(spine n t).1.length:=by
  cases n with
  | zero=>obtain⟨m,x,y,rfl⟩:=D0 hp;simp only[Tm.gI,bF] at hn;have:=pO x;omega
  | succ m=>unfold spine;rw[aH hp];simp
 generalize spine n t=p at *
 obtain⟨its,tl⟩:=p
 simp only at q1 q2 q3 e1 e2 d4 hnp hne
 have hTi:∀x∈its,w8 T x:=fun x hx=>hT x (q1 x hx) (by have:=aK4 hx;omega)
 have hTt:w8 T tl:=hT tl q2 (by omega)
 have rD:=WQ its hTi (by omega) (by omega)
 have a6T:=JN (T:=T) (l:=its) fun x hx=>(hTi x hx).2.1
 obtain⟨c1,c2,c3,c4⟩:=hTt
 have hm:maxLen=9223372036854775807:=by rfl
 have hs1:(⟨#[91]⟩:ByteArray).size+(lE T its).size≤maxLen:=by show 1+_≤_;omega
 have hs2:((⟨#[91]⟩:ByteArray)++lE T its).size+(⟨#[93]⟩:ByteArray).size≤maxLen:=by rw[dG];show 1+_+1≤_;omega
 have hs3:((⟨#[91]⟩:ByteArray)++lE T its).size+(⟨#[124]⟩:ByteArray).size≤maxLen:=by rw[dG];show 1+_+1≤_;omega
 have hs4:(((⟨#[91]⟩:ByteArray)++lE T its)++(⟨#[124]⟩:ByteArray)).size+(T tl).size≤maxLen:=by rw[dG,dG];show 1+_+1+_≤_;omega
 have hs5:((((⟨#[91]⟩:ByteArray)++lE T its)++(⟨#[124]⟩:ByteArray))++T tl).size+(⟨#[93]⟩:ByteArray).size≤maxLen:=by rw[dG,dG,dG];show 1+_+1+_+1≤_;omega
 refine aD.pZ ?_
 refine wF [1000000,1] 1 func275 ntmps275 rfl rfl ?_
 intro _
 simp -implicitDefEqProofs only[cG,↓reduceIte,aA,seval,BD]
 intro b1 hb1
 have hD:=fun(o:AO)=>(aM.refl st).aC (o:=o) hb1
 refine rT (σ:=Unit) [1000000,1] [1,2] its 4 3 (fun i _=>(its.take i).map Tm.av) (fun _ _=>True) (fun i _=>[]) (fun i _=>st.aC b1 (.cells (wK i t).av.cells)) (fun i _ _ e he=>by simp only[cS] at he;obtain⟨x,_,rfl⟩:=he;exact⟨cG _,aJ _⟩) (by decide +kernel) ⟨(),0,trivial,fun h=>absurd rfl h,aO.mk (by simp -implicitDefEqProofs only[jG,kS,aW,↓reduceIte,aA,seval])⟩ (fun i x s b hx hlt bV hdr hinv hb=>?_) (fun s b hge hinv=>?_)
 case refine_1=>
  obtain⟨g1,g2⟩:=d4 i x hx
  have hst:=aMS i t
  generalize wK i t=u at *
  have hpu:=JV u
  rw[g1] at hpu
  obtain⟨m,y,z,rfl⟩:=D0 g1
  rw[DN.1] at g2
  rw[DN.2] at hst
  subst g2
  have hcs:(Tm.mk 3 m ⟨#[46]⟩ [y,z]).av.cells= [.int .i64 3,.int .i64 m,.str ⟨#[46]⟩,.slice [y.av,z.av]]:=by rw[aV];try rfl
  rw[hcs] at hb ⊢
  have hlk:a7 (st.aC b1 (.cells [.int .i64 3,.int .i64 m,.str ⟨#[46]⟩,.slice [y.av,z.av]])) b ((its.take i).map Tm.av) b1=some (.cells [.int .i64 3,.int .i64 m,.str ⟨#[46]⟩,.slice [y.av,z.av]]):=UZ hb (aB.aP _ _ _)
  have hi0:=bM (av:=Tm.av) (l:=[y,z]) (i:=0) aN rfl (aJ y)
  have hi1:=bM (av:=Tm.av) (l:=[y,z]) (i:=1) aN rfl (aJ z)
  rw[show((0:Nat):Int)=0 from rfl] at hi0
  rw[show((1:Nat):Int)=1 from rfl] at hi1
  have cZ:((its.take i).map Tm.av).length=i:=by simp only[aF,dS];omega
  have htk:(its.take i).map Tm.av++ [y.av]=(its.take (i+1)).map Tm.av:=by rw[fG,hx];simp
  rw[hst]
  simp only[aV,bA,aW] at hlk hpu hi0 hi1 hb ⊢
  have hLw:∀e∈(its.take i).map Tm.av,e.width=4:=d6 _
  generalize (its.take i).map Tm.av=L at *
  simp -implicitDefEqProofs only[↓reduceIte,hlk,aA,seval,BD]
  refine(hpu _).to ?_
  simp -implicitDefEqProofs only[aT,aJ,cG,↓reduceIte,hlk,hi0,aA,seval,BD]
  refine eW aN bG bH rfl rfl (fM (aJ _) (cC _)) (fun e he=>hLw e he) hb (by simp only[cZ,aS,aZ];omega) (by simp only[cZ,aS,aZ];omega) (fun b' hb'=>?_)
  rw[htk] at hb' ⊢
  have aX7:=UZ (l:=(its.take (i+1)).map Tm.av) hb' (aB.aP st b1 (.cells [.int .i64 3,.int .i64 m,.str ⟨#[46]⟩,.slice [y.av,z.av]]))
  have hnb:(its.take (i+1)).map Tm.av≠[]→b1≠b':=fun h=>by rintro rfl;have:=hb' h;rw[aB.aP] at this;cases this
  have hup:=fun o=>oZ (st:=st.aC b1 (.cells [.int .i64 3,.int .i64 m,.str ⟨#[46]⟩,.slice [y.av,z.av]])) (o:=o) hnb
  simp -implicitDefEqProofs only[aK,aT,aJ,cC,bY,↓reduceIte,aX7,hi1,hup,dC,aA,seval,BD]
  exact⟨(),b',fun h=>by have:=hb' h;rw[aB.aL _ _ (dD (hnb h))] at this ⊢;exact this,aO.mk (by simp -implicitDefEqProofs only[↓reduceIte,aA,seval])⟩
 rw[eS,←e1]
 have hpt:=JV tl
 rw[e2] at hpt
 have hnt:=aSM tl
 simp -implicitDefEqProofs only[iY,GJ,lV,aW,bY,eO (bY _),eK (aT _),↓reduceIte,aA,seval,BD]
 refine(hpt _).to ?_
 simp -implicitDefEqProofs only[bY,eO (bY _),eK (aT _),↓reduceIte,aA,seval,BD]
 refine(hnt _).to ?_
 unfold HA
 cases hnk:LH tl with
 | true=>
  rw[aH rfl]
  simp -implicitDefEqProofs only[↓reduceIte,aA,seval]
  refine(rD _).to ?_
  simp -implicitDefEqProofs only[↓reduceIte,hs1,hs2,aA,seval]
  exact hD _
 | false=>
  rw[aE (by decide)]
  simp -implicitDefEqProofs only[↓reduceIte,aA,seval]
  refine wP [(0,1),(1,2),(2,1),(3,1),(4,2),(5,2),(6,1),(7,1),(8,1)] [0,1,2,3,4,5,6,7,8] mixed ?_
  simp -implicitDefEqProofs only[↓reduceIte,aA,seval]
  refine iD (rD _) ?_
  simp -implicitDefEqProofs only[bY,eO (bY _),eK (aT _),↓reduceIte,hs1,hs3,aA,seval,BD]
  refine iD (c1 _) ?_
  simp -implicitDefEqProofs only[↓reduceIte,hs4,hs5,aA,seval]
  exact hD _
abbrev tB:=zi tI_3 (zi zI_3 (zi aX (zi tI_9 (zi zI_9 (zi cI (zi tI_31 (zi zI_31 (zi aN (zi bG (zi bH (zi b9 (zi tI_66 (zi zI_66 (zi bQ (zi bR (zi bS (zi bT bP)))))))))))))))))
set_option maxHeartbeats 1000000 in
theorem aS5:∀(n:Nat) (t:Tm) (st:aB),Ws t→t.nodes≤n→t.nodes≤1000→aD prog 213 [t.av] st (fun r st'=>r=.str (tx n t)∧st'=st):=by
 intro n
 induction n with
 | zero=>intro t st _ h;have:=pO t;omega
 | succ n IH=>
 intro t st hws hn PW
 have hsz:=MZ (n+1) t hws
 have hT:∀x,Ws x→x.nodes<t.nodes→w8 (tx n) x:=fun x hx hlt=>⟨fun st=>IH x st hx (by omega) (by omega),MZ n x hx,a4I hx (by have:=pO x;omega),by omega⟩
 have hpt:=JV t
 have hit:=WS t
 have aX6:=aSY (T:=tx n) n t hn hws PW hT
 have hm:maxLen=9223372036854775807:=by rfl
 unfold tx at hsz ⊢
 refine wF [1000000] 1 func213 ntmps213 rfl rfl ?_
 intro _
 simp -implicitDefEqProofs only[aT,aJ,cG,↓reduceIte,aA,seval,tB]
 refine(hpt _).to ?_
 cases hp:rH t with
 | true=>
  rw[aH rfl]
  simp -implicitDefEqProofs only[aT,aJ,↓reduceIte,aA,seval,tB]
  refine(aX6 hp _).to ?_
  simp -implicitDefEqProofs only[↓reduceIte,aA,seval]
 | false=>
  rw[hp] at hsz
  rw[aE (by decide)] at hsz ⊢
  simp -implicitDefEqProofs only[aT,aJ,↓reduceIte,aA,seval,tB]
  refine(hit _).to ?_
  cases hi:v6 t with
  | true=>
   rw[hi] at hsz
   rw[aH rfl] at hsz ⊢
   obtain⟨m,s,x,y,rfl,hs⟩:=Q5 hi
   have hk:=hws.own.2
   have hxl:x.nodes<(Tm.mk 3 m s [x,y]).nodes:=by simp only[Tm.gI,bF];have:=pO y;omega
   have hyl:y.nodes<(Tm.mk 3 m s [x,y]).nodes:=by simp only[Tm.gI,bF];have:=pO x;omega
   have hx:=hT x (hk x (by simp)) hxl
   have hy:=hT y (hk y (by simp)) hyl
   rw[DN.1,DN.2,show(Tm.mk 3 m s [x,y]).s=s from rfl] at hsz ⊢
   have h6:s.size≤6:=hws.size.1
   have hl3:dQ s≤3:=by unfold dQ;cases (decide (s=⟨#[61]⟩)||decide (s=⟨#[92,61]⟩)||decide (s=⟨#[61,61]⟩)||decide (s=⟨#[60]⟩)||decide (s=⟨#[62]⟩)||decide (s=⟨#[61,60]⟩)||decide (s=⟨#[62,61]⟩)||decide (s=⟨#[61,58,61]⟩)||decide (s=⟨#[105,115]⟩))<;>cases (decide (s=⟨#[43]⟩)||decide (s=⟨#[45]⟩))<;>cases (decide (s=⟨#[42]⟩)||decide (s=⟨#[47,47]⟩)||decide (s=⟨#[109,111,100]⟩))<;>decide
   have hll:lvl (dQ s)≤10:=by unfold lvl;split<;>omega
   have cl:=aSX x hx (lvl (dQ s)) hll
   have cr:=aS3 y hy (dQ s - 1) (by omega)
   have csp:=aS4 s (by omega)
   have clv:=vF s
   rw[dG,dG] at hsz
   generalize hA:AK (tx n) x (lvl (dQ s))=A at *
   generalize hB:A6 (tx n) y (dQ s - 1)=B at *
   generalize rL s=C at *
   have hs1:A.size+C.size≤maxLen:=by omega
   have hs2:(A++C).size+B.size≤maxLen:=by rw[dG];omega
   have hi0:=bM (av:=Tm.av) (l:=[x,y]) (i:=0) aN rfl (aJ x)
   have hi1:=bM (av:=Tm.av) (l:=[x,y]) (i:=1) aN rfl (aJ y)
   rw[show((0:Nat):Int)=0 from rfl] at hi0
   rw[show((1:Nat):Int)=1 from rfl] at hi1
   simp only[aV,bA,aW] at hi0 hi1 ⊢
   generalize hL:dQ s=L at *
   obtain⟨L1,hL1⟩:∃L1,L1=L - 1:=⟨_,rfl⟩
   have hw:=nY (x:=(L:Int) - 1) (m:=L1) (by omega) (by omega)
   rw[←hL1] at cr
   by_cases h3:L=3
   case' pos=>
    have h3':((L:Int)=3)=True:=dB (by omega)
    have hlv:lvl L=2:=by unfold lvl;rw[aH h3]
   case' neg=>
    have h3':((L:Int)=3)=False:=cH (by omega)
    have hlv:lvl L=L:=by unfold lvl;rw[aE h3]
   all_goals
    rw[hlv] at cl
    simp -implicitDefEqProofs only[↓reduceIte,aA,seval,tB]
    refine(clv _).to ?_
    simp -implicitDefEqProofs only[↓reduceIte,h3',bU,bZ,aA,seval]
    refine wP [(0,1),(4,1),(6,1),(10,1),(14,1),(15,1),(1,2),(2,1),(3,2),(5,2),(7,2),(8,2),(9,1),(11,2),(12,1),(13,2),(16,2),(17,1),(18,1)] [0,4,6,10,14,15,1,2,3,5,7,8,9,11,12,13,16,17,18] mixed ?_
    simp -implicitDefEqProofs only[aT,aJ,↓reduceIte,hi0,hw,aA,seval,tB]
    refine iD (cl _) ?_
    simp -implicitDefEqProofs only[↓reduceIte,aA,seval,tB]
    refine iD (csp _) ?_
    simp -implicitDefEqProofs only[aT,aJ,↓reduceIte,hi1,hs1,aA,seval,tB]
    refine iD (cr _) ?_
    simp -implicitDefEqProofs only[↓reduceIte,hs2,aA,seval]
  | false=>
   rw[hi] at hsz
   rw[aE (by decide)] at hsz ⊢
   cases ha:N7 t with
   | true=>
    rw[ha] at hsz
    rw[aH rfl] at hsz ⊢
    obtain⟨k,m,s,ts⟩:=t
    rw[N6,cA,bJ,bJ] at ha
    obtain⟨rfl,h0⟩:=ha
    have h0':((0:Int)<(ts.length:Int))=True:=dB (by omega)
    simp only[Tm.s,Tm.ts] at hsz ⊢
    simp only[Tm.gI] at hn PW hT hsz
    have hk:=hws.own.2
    have h4:ts.length≤4:=by rcases HE hws.own.1 with h | h | h<;>omega
    have rD:=WQ (T:=tx n) ts (fun x hx=>hT x (hk x hx) (by have:=aK4 hx;omega)) (by omega) (by omega)
    rw[dG,dG,dG] at hsz
    generalize lE (tx n) ts=A at *
    have a69:s.size+A.size≤100000:=by omega
    have hs1:s.size+(⟨#[40]⟩:ByteArray).size≤maxLen:=by show _+1≤_;omega
    have hs2:(s++(⟨#[40]⟩:ByteArray)).size+A.size≤maxLen:=by rw[dG];show _+1+_≤_;omega
    have hs3:((s++(⟨#[40]⟩:ByteArray))++A).size+(⟨#[41]⟩:ByteArray).size≤maxLen:=by rw[dG,dG];show _+1+_+1≤_;omega
    simp only[aV]
    simp -implicitDefEqProofs only[↓reduceIte,h0',aF,bU,aA,seval,tB]
    refine wP [(0,1),(3,1),(1,2),(2,1),(4,2),(5,2),(6,1),(7,1),(8,1)] [0,3,1,2,4,5,6,7,8] mixed ?_
    simp -implicitDefEqProofs only[↓reduceIte,hs1,aA,seval,tB]
    refine iD (rD _) ?_
    simp -implicitDefEqProofs only[↓reduceIte,hs2,hs3,aA,seval]
   | false=>
    rw[aE (by decide)]
    have hl:=aSV t hws (fun h=>by
     obtain⟨k,m,s,ts⟩:=t
     rw[N6,show k=3 from h] at ha
     simp only[bU,eV,dJ] at ha
     exact List.length_eq_zero_iff.1 (by show ts.length=0;omega))
    generalize DO t=A at *
    obtain⟨k,m,s,ts⟩:=t
    rw[N6] at ha
    simp only[aV] at hl ⊢
    by_cases hk:k=3
    case pos=>
     rw[hk] at ha hl ⊢
     simp only[bU,eV,dJ] at ha
     have h0':((0:Int)<(ts.length:Int))=False:=cH (by omega)
     simp -implicitDefEqProofs only[↓reduceIte,h0',aF,bU,bZ,aA,seval,tB]
     refine(hl _).to ?_
     simp -implicitDefEqProofs only[↓reduceIte,aA,seval]
    case neg=>
     have hk':=cH hk
     simp -implicitDefEqProofs only[↓reduceIte,hk',bZ,aA,seval,tB]
     refine(hl _).to ?_
     simp -implicitDefEqProofs only[↓reduceIte,aA,seval]
end Go.AW
namespace Go.AW
def qP(t:Tm):ByteArray:=tx 130 t
def tX(T:Tm→ByteArray)(h:ByteArray):List Tm→ByteArray
 | []=>h
 | x::xs=>xs.foldl (fun o y=>(o++⟨#[44]⟩)++T y) ((h++⟨#[58,45]⟩)++T x)
def O1(c:Cl):ByteArray:=tX qP (qP c.1) c.2++⟨#[46]⟩
def fmtC(c:Cl):ByteArray:=if j9 c then O1 c else⟨#[]⟩
def HM(l:List UInt8):lC:=fun a=>rd l (4*l.length+4) 30 a 3
def sK(l:List UInt8):Nat→Nat→List Tm→Option (List Tm×Nat)
 | 0,_,_=>none
 | m+1,a,acc=>match HM l a with
  | none=>none
  | some (t,e)=>if cT l e 44 then sK l m (e+1) (acc++ [t]) else some (acc++ [t],e)
def sE(l:List UInt8):Option (Cl×Nat):=
 match HM l 0 with
 | none=>none
 | some (h,e)=>if(cT l e 58&&cT l (e+1) 45)=true then match sK l 7 (e+2) [] with
  | none=>none
  | some (b,e2)=>some ((h,b),e2)
  else some ((h,[]),e)
def oO(l:List UInt8):Option Cl:=match sE l with
 | none=>none
 | some (c,e)=>if l.length≤1000∧e+1=l.length∧cT l e 46=true∧sb (fmtC c)=l then some c else none
def nQ(c:Nat):List UInt8→List UInt8→List (List UInt8)
 | [],acc=>[acc]
 | x::l,acc=>if x.toNat=c then acc::nQ c l [] else nQ c l (acc++ [x])
def AL:List (List UInt8)→List Cl→Option (List Cl)
 | [],acc=>some acc
 | l::ls,acc=>match oO l with
  | none=>none
  | some c=>AL ls (acc++ [c])
def AZ(l:List UInt8):Option (List Cl):=
 let ls:=nQ 10 l []
 if 21<ls.length∨ls.getLast?≠some [] then none else AL ls.dropLast []
def nA(l:List UInt8):Option (List Tm):=match sK l 7 0 [] with
 | none=>none
 | some (g,e)=>if l.length≤1000∧e=l.length∧kF g=true then some g else none
theorem aQY{T:Tm→ByteArray}{h:ByteArray}{l:List Tm}{i:Nat}{x:Tm}(hx:l[i]?=some x):tX T h (l.take (i+1))=(if i=0 then tX T h (l.take i)++⟨#[58,45]⟩ else tX T h (l.take i)++⟨#[44]⟩)++T x:=by
 rw[fG,hx]
 cases l with
 | nil=>simp at hx
 | cons y l=>
  cases i with
  | zero=>simp at hx;subst hx;rfl
  | succ i=>
   rw[aE (by omega),uT]
   simp only[tX,BX,fL,List.foldl_append,yW,List.foldl_nil]
theorem VU{T:Tm→ByteArray}{h:ByteArray}{l:List Tm}{m:Nat}(hT:∀x∈l,(T x).size≤m):(tX T h l).size≤h.size+l.length*(m+2):=by
 have hg:∀(xs:List Tm) (o:ByteArray),(∀x∈xs,(T x).size≤m)→(xs.foldl (fun o y=>(o++⟨#[44]⟩)++T y) o).size≤o.size+xs.length*(m+2):=by
  intro xs
  induction xs with
  | nil=>intro o _;simp
  | cons x xs ih=>
   intro o hx
   refine lA (ih _ fun y hy=>hx y (by simp [hy])) ?_
   rw[dG,dG]
   have:=hx x (by simp)
   simp only[aS,qV]
   show o.size+1+_+_≤_
   omega
 cases l with
 | nil=>simp [tX]
 | cons x l=>
  refine lA (hg l _ fun y hy=>hT y (by simp [hy])) ?_
  rw[dG,dG]
  have:=hT x (by simp)
  simp only[aS,qV]
  show h.size+2+_+_≤_
  omega
theorem aOT{t:Tm}(h:t.valid=true):Ws t∧t.nodes≤120:=by
 simp only[Tm.valid,cA,bJ] at h
 exact⟨⟨_,h.1⟩,h.2⟩
theorem PU{t:Tm}(h:t.goal=true):t.valid=true:=by
 obtain⟨k,n,s,ts⟩:=t
 simp only[Tm.goal,cA] at h
 exact h.1
theorem aUU{c:Cl}(h:j9 c=true):(Ws c.1∧c.1.nodes≤120)∧c.2.length≤6∧∀x∈c.2,Ws x∧x.nodes≤120:=by
 simp only[j9,cA,bJ,dW] at h
 exact⟨aOT h.1.1,h.2.1,fun x hx=>aOT (PU (h.2.2 x hx))⟩
theorem KR{l:List UInt8}(hl:l.length≤1000):∀(m a:Nat) (acc ts:List Tm) (e:Nat),a≤l.length→(∀x∈acc,Dn x)→sK l m a acc=some (ts,e)→a<e∧e≤l.length∧(∀x∈ts,Dn x)∧ts.length≤acc.length+m:=by
 intro m
 induction m with
 | zero=>intro a acc ts e _ _ h;cases h
 | succ m ih=>
  intro a acc ts e ha oE h
  unfold sK at h
  split at h
  · cases h
  rename_i t e1 h1
  obtain⟨h2,h3,h4⟩:=A3 hl _ _ _ a t e1 ha h1
  have GP:∀x∈acc++ [t],Dn x:=by intro x hx;rw[fF] at hx;rcases hx with hx | hx;exact oE x hx;rw[I4] at hx;subst hx;exact h4
  split at h
  · rename_i h5
    have h6:=oI h5
    obtain⟨g1,g2,g3,g4⟩:=ih (e1+1) _ ts e (by omega) GP h
    rw[dM,NJ] at g4
    exact⟨by omega,g2,g3,by omega⟩
  · cases h
    exact⟨h2,h3,GP,by rw[dM,NJ];omega⟩
abbrev vI (c:Cl):Prop:=Dn c.1∧c.2.length≤7∧∀x∈c.2,Dn x
theorem J5{l:List UInt8}(hl:l.length≤1000){c:Cl}{e:Nat}(h:sE l=some (c,e)):0<e∧e≤l.length∧vI c:=by
 unfold sE at h
 split at h
 · cases h
 rename_i t e1 h1
 obtain⟨h2,h3,h4⟩:=A3 hl _ _ _ 0 t e1 (jD _) h1
 split at h
 · rename_i h5
   rw[cA] at h5
   have h6:=oI h5.2
   split at h
   · cases h
   rename_i b e2 h7
   obtain⟨g1,g2,g3,g4⟩:=KR hl _ _ _ _ _ (by omega) (by simp) h7
   cases h
   exact⟨by omega,g2,h4,by rw[aZ] at g4;show b.length≤7;omega,g3⟩
 · cases h
   exact⟨h2,h3,h4,by show 0≤7;omega,by intro x hx;cases hx⟩
theorem aLO{l:List UInt8}{c:Cl}(h:oO l=some c):vI c∧j9 c=true:=by
 unfold oO at h
 split at h
 · cases h
 rename_i c' e h1
 split at h
 · rename_i h2
   cases h
   refine⟨(J5 h2.1 h1).2.2,?_⟩
   have h3:=h2.2.2.2
   unfold fmtC at h3
   split at h3
   · assumption
   · have:=gV List.length h3
     simp at this
     omega
 · cases h
theorem XX(c:Nat):∀(l acc:List UInt8),nQ c l acc≠[]
 | [],acc=>by simp [nQ]
 | x::l,acc=>by unfold nQ;split<;>simp [XX c l]
theorem O4(c:Nat):∀(l acc:List UInt8),(nQ c l acc).length≤l.length+1
 | [],acc=>by simp [nQ]
 | x::l,acc=>by unfold nQ;split;have:=O4 c l [];simp only[aS];omega;have:=O4 c l (acc++ [x]);simp only[aS];omega
end Go.AW
namespace Go.AW
open Go.Proofs.Tryz
theorem XK{t:Tm}(h:Ws t∧t.nodes≤120)(st:aB):aD prog 213 [t.av] st (fun r st'=>r=.str (qP t)∧st'=st):=aS5 130 t st h.1 (by omega) (by omega)
theorem M0{t:Tm}(h:Ws t∧t.nodes≤120):(qP t).size≤3840:=by have:=MZ 130 t h.1;unfold qP;omega
abbrev MG:=zi tI_3 (zi zI_3 (zi aX (zi tI_9 (zi zI_9 (zi cI (zi tI_31 (zi zI_31 (zi aN (zi bG (zi bH (zi b9 (zi tI_66 (zi zI_66 (zi bQ (zi bR (zi bS (zi bT (zi bP (zi tI_84 (zi zI_84 (zi kV (zi kW kU))))))))))))))))))))))
set_option maxHeartbeats 1000000 in
theorem aTB(c:Cl)(hc:(Ws c.1∧c.1.nodes≤120)∧c.2.length≤6∧∀x∈c.2,Ws x∧x.nodes≤120)(st:aB):aD prog 370 [bX c] st (fun r st'=>r=.str (O1 c)∧st'=st):=by
 obtain⟨⟨k,n,s,ks⟩,ts⟩:=c
 obtain⟨hh,hl,hb⟩:=hc
 simp only at hh hl hb
 have hhd:=fun st=>XK hh st
 have hhs:=M0 hh
 unfold O1
 simp only
 generalize qP (.mk k n s ks)=H at *
 simp only[aV] at hhd
 simp only[fY]
 have hm:maxLen=9223372036854775807:=by rfl
 refine wF [1000000] 1 func370 ntmps370 rfl rfl ?_
 intro _
 simp -implicitDefEqProofs only[aA,seval,MG]
 refine(hhd _).to ?_
 simp -implicitDefEqProofs only[aA,seval]
 refine eP (σ:=Unit) [1000000] [1,2] ts (fun i _=>True) (fun i _=>[(3,.str (tX qP H (ts.take i))),(4,.int .i64 i)]) (fun _ _=>st) (by decide +kernel) ⟨(),trivial,aO.mk (by simp -implicitDefEqProofs only[kS,aA,↓aU,seval]<;>rfl)⟩ (fun i x _ hx hlt bV hdr hinv=>?_) (fun _ hge hinv=>?_)
 case refine_2=>
  rw[eS]
  have hsz:=VU (T:=qP) (h:=H) (l:=ts) (m:=3840) fun x hx=>M0 (hb x hx)
  have hs:(tX qP H ts).size+(⟨#[46]⟩:ByteArray).size≤maxLen:=by
   have:ts.length*(3840+2)≤6*3842:=rZ _ hl
   show _+1≤_;omega
  simp -implicitDefEqProofs only[aF,hge,hs,↓reduceIte,aA,seval,MG]
 have hxm:=cP hx
 have c1:=fun st=>XK (hb x hxm) st
 have c2:=M0 (hb x hxm)
 have hw:=bO (n:=(i:Int)+1)
 have hat:=bM (av:=Tm.av) aN hx (aJ x)
 have iS:=aQY (T:=qP) (h:=H) hx
 have hsz:=VU (T:=qP) (h:=H) (l:=ts.take i) (m:=3840) fun y hy=>M0 (hb y (mC hy))
 have hln:(ts.take i).length*(3840+2)≤6*3842:=rZ _ (by rw[dS];omega)
 generalize tX qP H (ts.take i)=B at *
 generalize qP x=X at *
 have hs1:B.size+(⟨#[44]⟩:ByteArray).size≤maxLen:=by show _+1≤_;omega
 have hs2:(B++(⟨#[44]⟩:ByteArray)).size+X.size≤maxLen:=by rw[dG];show _+1+_≤_;omega
 have hs3:B.size+(⟨#[58,45]⟩:ByteArray).size≤maxLen:=by show _+2≤_;omega
 have hs4:(B++(⟨#[58,45]⟩:ByteArray)).size+X.size≤maxLen:=by rw[dG];show _+2+_≤_;omega
 by_cases h0:i=0
 · rw[aH h0] at iS
   have h0':((i:Int)=0)=True:=dB (by omega)
   simp -implicitDefEqProofs only[aF,hat,aT,aJ,bV,h0',hs3,↓reduceIte,bU,aA,seval,MG]
   refine(c1 _).to ?_
   simp -implicitDefEqProofs only[hs4,↓reduceIte,aA,seval]
   exact⟨(),aO.mk (by simp -implicitDefEqProofs only[hw,iS,↓reduceIte,aA,seval])⟩
 · rw[aE h0] at iS
   have h0':((i:Int)=0)=False:=cH (by omega)
   simp -implicitDefEqProofs only[aF,hat,aT,aJ,bV,h0',hs1,↓reduceIte,bU,bZ,aA,seval,MG]
   refine(c1 _).to ?_
   simp -implicitDefEqProofs only[hs2,↓reduceIte,aA,seval]
   exact⟨(),aO.mk (by simp -implicitDefEqProofs only[hw,iS,↓reduceIte,aA,seval])⟩
abbrev TD:=zi tI_4 (zi zI_4 (zi cE (zi tI_9 (zi zI_9 (zi cI (zi tI_84 (zi zI_84 (zi kV (zi kW kU)))))))))
theorem OI(c:Cl)(st:aB):aD prog 324 [bX c] st (fun r st'=>r=.str (fmtC c)∧st'=st):=by
 have hv:=XE c
 unfold fmtC
 cases h:j9 c with
 | true=>
  rw[h] at hv
  have ht:=aTB c (aUU h)
  rw[aH rfl]
  obtain⟨⟨k,n,s,ks⟩,ts⟩:=c
  simp only[fY] at hv ht ⊢
  refine wF [1000000] 1 func324 ntmps324 rfl rfl ?_
  intro _
  simp -implicitDefEqProofs only[aA,seval,TD]
  refine(hv _).to ?_
  simp -implicitDefEqProofs only[aA,seval,TD]
  refine(ht _).to ?_
  simp -implicitDefEqProofs only[aA,seval]
 | false=>
  rw[h] at hv
  rw[aE (by decide)]
  obtain⟨⟨k,n,s,ks⟩,ts⟩:=c
  simp only[fY] at hv ⊢
  refine wF [1000000] 1 func324 ntmps324 rfl rfl ?_
  intro _
  simp -implicitDefEqProofs only[aA,seval,TD]
  refine(hv _).to ?_
  simp -implicitDefEqProofs only[aA,seval]
theorem W8{s:ByteArray}(hs:s.size≤1000)(a:Nat)(ha:a≤s.size)(st:aB):aD prog 322 [.str s,.int .i64 (a:Int),.int .i64 30,.int .i64 3] st (fun r st'=>mF (HM (sb s) a) r∧st'=st):=
 aS2 hs (4*(sb s).length+4) 30 a 3 st ha (by omega) (by omega) (by rw[cM];omega)
def rV(o:Option (List Tm×Nat))(r:AV):Prop:=match o with | some (ts,e)=>r=.tup [.slice (ts.map Tm.av),.int .i64 (e:Int)] | none=>r=.tup [.slice [],.int .i64 (-1)]
abbrev TC:=zi tI_3 (zi zI_3 (zi aX (zi tI_4 (zi zI_4 (zi cE (zi tI_5 (zi zI_5 (zi lM (zi tI_8 (zi zI_8 (zi xQ (zi xR (zi xS (zi xT (zi xG (zi tI_9 (zi zI_9 (zi cI (zi tI_31 (zi zI_31 (zi aN (zi bG (zi bH (zi b9 (zi tI_44 (zi zI_44 (zi YA (zi X7 (zi YC (zi aON (zi tI_66 (zi zI_66 (zi bQ (zi bR (zi bS (zi bT bP))))))))))))))))))))))))))))))))))))
set_option maxHeartbeats 1000000 in
theorem WW{s:ByteArray}(hs:s.size≤1000)(a:Nat)(ha:a≤s.size)(st:aB):aD prog 268 [.str s,.int .i64 (a:Int)] st (fun r st'=>rV (sK (sb s) 7 a []) r∧st'=st):=by
 generalize hT:sK (sb s) 7 a []=T
 refine aD.drop (Q:=rV T) (aD.fin ?_)
 refine wF [1000000] 2 func268 ntmps268 rfl rfl ?_
 intro _
 simp -implicitDefEqProofs only[aA,seval,TC]
 refine iE (σ:=Nat×List Tm×Nat×Nat) [1000000] [0] (fun x=>sK (sb s) x.2.2.1 x.1 x.2.1=T∧x.1≤s.size∧x.2.1.length+x.2.2.1=7∧(x.2.1.map Tm.av≠[]→st x.2.2.2=none)) (fun x=>[(1,.int .i64 (x.1:Int)),(4,.fslice []),(5,.int .i64 0),(6,bD 4 x.2.2.2 (x.2.1.map Tm.av))]) (fun x=>a7 st x.2.2.2 (x.2.1.map Tm.av)) (fun x=>x.2.2.1) (by decide +kernel) ⟨(a,[],7,0),⟨hT,ha,rfl,by simp⟩,aO.mk (by simp -implicitDefEqProofs only[aW,jG,aA,seval])⟩ ?_
 rintro⟨i,acc,m,b⟩ ⟨ht,hi,hlen,hb⟩
 simp only at ht hi hlen hb ⊢
 have fin:∀(l:List Tm) (b':Nat) (r':AV),(l.map Tm.av≠[]→st b'=none)→rV T (r'.fin b' (l.map Tm.av))→∃b2 l2 s0,a7 st b' (l.map Tm.av)=a7 s0 b2 l2∧(l2≠[]→s0 b2=none)∧(∀e∈l2,e.cF=false)∧gZ l2∧aM s0 st∧rV T (r'.fin b2 l2):=fun l b' r' h1 h2=>⟨b',_,st,rfl,h1,iU _,⟨4,d6 _⟩,aM.refl _,h2⟩
 have hTn:T=none→∀(b':Nat) (l:List AV),rV T ((AV.tup [.fslice [],.int .i64 (-1)]).fin b' l):=by
  rintro rfl b' l
  simp only[rV,jQ,eG,oD,bA,aW]
 have hln:(acc.map Tm.av).length=acc.length:=aF _
 have hal:=tS (P:=prog) (b:=b) (w:=4) (l:=acc.map Tm.av) b9
 rw[hln] at hal
 by_cases h6:acc.length≤6
 case neg=>
  have h6':((acc.length:Int)≤6)=False:=cH (by omega)
  obtain rfl:m=0:=by omega
  simp -implicitDefEqProofs only[hal,h6',bZ,aA,seval]
  exact fin _ _ _ hb (hTn ht.symm _ _)
 have h6':((acc.length:Int)≤6)=True:=dB (by omega)
 obtain⟨m,rfl⟩:∃m',m=m'+1:=⟨m - 1,by omega⟩
 simp only[sK] at ht
 simp -implicitDefEqProofs only[hal,h6',bU,aA,seval]
 refine(W8 hs i hi _).mono ?_
 rintro r _ ⟨hr,rfl⟩
 cases hRi:HM (sb s) i with
 | none=>
  rw[hRi] at ht hr
  obtain⟨k,hk,rfl⟩:=hr
  have hk0:((-1 - (k:Int))<0)=True:=dB (by omega)
  simp -implicitDefEqProofs only[aJ,cC,cG,hk0,lF,bU,aA,↓aU,seval,TC]
  exact fin _ _ _ hb (hTn ht.symm _ _)
 | some p=>
  obtain⟨t,e⟩:=p
  rw[hRi] at ht hr
  simp only at ht
  obtain⟨g1,g2,g3⟩:=A3 (by rw[cM];exact hs) _ _ _ i t e (by rw[cM];exact hi) hRi
  rw[cM] at g2
  simp only[mF] at hr
  subst hr
  have he0:((e:Int)<0)=False:=cH (by omega)
  simp -implicitDefEqProofs only[aT,aJ,cC,cG,he0,lN,tD,bZ,aA,↓aU,seval,TC]
  refine eW aN bG bH rfl rfl (fM (aJ _) (cC _)) (d6 _) hb (by simp only[aF,aS,aZ];omega) (by simp only[aF,aS,aZ];omega) (fun b' hb'=>?_)
  rw[show acc.map Tm.av++ [t.av]=(acc++ [t]).map Tm.av by simp] at hb' ⊢
  have hw1:=bO (n:=(e:Int)+1)
  simp -implicitDefEqProofs only[aA,seval]
  refine(kZ s e 44 _).to ?_
  cases h3:cT (sb s) e 44 with
  | true=>
   have h4:=oI h3
   rw[cM] at h4
   rw[h3,aH rfl] at ht
   simp -implicitDefEqProofs only[hw1,aA,seval]
   refine⟨(e+1,acc++ [t],m,b'),by simp only;omega,⟨ht,by simp only;omega,by simp only[dM,aS,aZ];omega,hb'⟩,aO.mk (by simp -implicitDefEqProofs only[aA,seval]<;>rfl)⟩
  | false=>
   rw[h3,aE (by decide)] at ht
   simp -implicitDefEqProofs only[nL,lN,tD,aA,seval]
   refine fin _ _ _ hb' ?_
   subst ht
   simp only[rV,jQ,eG,lV,bA,aW]
abbrev cl0:Cl:=(ID,[])
def yT(o:Option Cl):AV:=match o with | some c=>.tup [bX c,.bool true] | none=>.tup [bX cl0,.bool false]
theorem q7:(AV.tup [.agg [.int .i64 0,.int .i64 0,.str ⟨#[]⟩,.fslice [],.fslice []],.bool false]).soft=yT none:=by simp only[yT,fY,kO,k7,j6,sZ,l8,nD,bA,aW]
theorem O2(c:Cl):(AV.tup [bX c,.bool true]).soft=yT (some c):=by
 obtain⟨⟨k,n,s,ks⟩,ts⟩:=c
 simp only[yT,fY,kO,k7,j6,sZ,l8,rK,bA,aW]
theorem wD{l:List UInt8}{c:Cl}{e:Nat}(h:sE l=some (c,e))(h1:¬(l.length≤1000∧e+1=l.length∧cT l e 46=true∧sb (fmtC c)=l)):oO l=none:=by
 unfold oO
 rw[h]
 simp only
 rw[aE h1]
theorem RT{l:List UInt8}{c:Cl}{e:Nat}(h:sE l=some (c,e))(h1:l.length≤1000∧e+1=l.length∧cT l e 46=true∧sb (fmtC c)=l):oO l=some c:=by
 unfold oO
 rw[h]
 simp only
 rw[aH h1]
theorem SH{a b:ByteArray}(h:sb a=sb b):a=b:=by rw[←VO a,←VO b,h]
abbrev jN:=zi tI_3 (zi zI_3 (zi aX (zi tI_4 (zi zI_4 (zi cE (zi tI_5 (zi zI_5 (zi lM (zi tI_8 (zi zI_8 (zi xQ (zi xR (zi xS (zi xT (zi xG (zi tI_9 (zi zI_9 (zi cI (zi tI_31 (zi zI_31 (zi aN (zi bG (zi bH (zi b9 (zi tI_46 (zi zI_46 (zi dH (zi fA (zi eX (zi fB (zi tI_58 (zi zI_58 (zi aV9 (zi aQT (zi tI_66 (zi zI_66 (zi bQ (zi bR (zi bS (zi bT (zi bP (zi tI_84 (zi zI_84 (zi kV (zi kW kU)))))))))))))))))))))))))))))))))))))))))))))
set_option maxHeartbeats 2000000 in
theorem aRL(s:ByteArray)(st:aB):aD prog 266 [.str s] st (fun r st'=>r=yT (oO (sb s))∧st'=st):=by
 refine aD.done ?_
 refine wF [1000000,6] 1 func266 ntmps266 rfl rfl ?_
 intro _
 simp -implicitDefEqProofs only[aA,seval,jN]
 intro b2 hb2
 have hD:=fun(o:AO)=>(aM.refl st).aC (o:=o) hb2
 by_cases hs:s.size≤1000
 case neg=>
  have hs':((1000:Int)<(s.size:Int))=True:=dB (by omega)
  have hP:oO (sb s)=none:=by
   unfold oO
   split
   · rfl
   · rw[aE fun h=>hs (by rw[←cM];exact h.1)]
  rw[hP]
  simp -implicitDefEqProofs only[aK,hs',bU,aA,seval,jN]
  exact⟨q7,hD _⟩
 have hs':((1000:Int)<(s.size:Int))=False:=cH (by omega)
 have h0:=fun st=>W8 hs 0 (jD _) st
 rw[show((0:Nat):Int)=0 from rfl] at h0
 simp -implicitDefEqProofs only[hs',bZ,aA,seval]
 refine(h0 _).mono ?_
 rintro r _ ⟨hr,rfl⟩
 cases hRi:HM (sb s) 0 with
 | none=>
  have hP:oO (sb s)=none:=by unfold oO sE;rw[hRi]
  rw[hP]
  rw[hRi] at hr
  obtain⟨k,hk,rfl⟩:=hr
  have hk0:((-1 - (k:Int))<0)=True:=dB (by omega)
  simp -implicitDefEqProofs only[aK,aJ,cC,cG,hk0,lF,bU,aA,↓aU,seval,jN]
  exact⟨q7,hD _⟩
 | some p=>
  obtain⟨⟨hk,hn,hsn,hts⟩,e⟩:=p
  rw[hRi] at hr
  simp only[mF,aV] at hr
  subst hr
  obtain⟨g1,g2,g3⟩:=A3 (by rw[cM];exact hs) _ _ _ 0 _ e (jD _) hRi
  rw[cM] at g2
  have he0:((e:Int)<0)=False:=cH (by omega)
  obtain⟨f1,hf1⟩:∃f1,f1=e+1:=⟨_,rfl⟩
  obtain⟨f2,hf2⟩:∃f2,f2=e+2:=⟨_,rfl⟩
  have hw1:=nY (x:=(e:Int)+1) (m:=f1) (by omega) (by omega)
  have hw2:=nY (x:=(e:Int)+2) (m:=f2) (by omega) (by omega)
  simp -implicitDefEqProofs only[aK,he0,bZ,aA,↓aU,seval,jN]
  intro b6 h6
  have hbb:b6≠b2:=fun h=>by rw[h,aB.aP] at h6;cases h6
  have h6':st b6=none:=by rwa [aB.aL _ _ hbb] at h6
  have hE:∀o1 o2 o3,aM (((st.aC b2 o1).aC b6 o2).aC b2 o3) st:=fun o1 o2 o3=>((hD _).aC h6').aC hb2
  refine(kZ s e 58 _).to ?_
  by_cases hbd:(cT (sb s) e 58&&cT (sb s) (e+1) 45)=true
  case neg=>
   obtain⟨b,hb⟩:∃b:List Tm,b= []:=⟨_,rfl⟩
   have hcl:sE (sb s)=some ((.mk hk hn hsn hts,b),e):=by
    unfold sE
    rw[hRi,hb]
    simp only
    rw[aE hbd]
   obtain⟨e2,he2⟩:∃e2,e2=e:=⟨_,rfl⟩
   rw[←he2] at hcl
   cases h58:cT (sb s) e 58 with
   | false=>
    simp -implicitDefEqProofs only[aA,seval,jN]
    rw[←he2]
    have hdn:=(J5 (by rw[cM];exact hs) hcl).2.2
    have hwl:=bO (n:=(s.size:Int) - 1)
    by_cases he:e2+1=s.size
    case neg=>
     rw[wD hcl (fun h=>he (by rw[cM] at h;exact h.2.1))]
     have he':((e2:Int)=(s.size:Int) - 1)=False:=cH (by omega)
     simp -implicitDefEqProofs only[aK,hwl,he',hbb.symm,bZ,aA,seval,jN]
     exact⟨q7,hE _ _ _⟩
    have he':((e2:Int)=(s.size:Int) - 1)=True:=dB (by omega)
    simp -implicitDefEqProofs only[hwl,he',bU,aA,seval]
    refine(kZ s e2 46 _).to ?_
    cases hd:cT (sb s) e2 46 with
    | false=>
     rw[wD hcl (fun h=>by rw[hd] at h;exact absurd h.2.2.1 (by decide))]
     simp -implicitDefEqProofs only[aK,hbb.symm,aA,seval,jN]
     exact⟨q7,hE _ _ _⟩
    | true=>
     simp -implicitDefEqProofs only[aA,seval,jN]
     refine(aD.oS (by rw[show gY [AV.agg [.int .i64 hk,.int .i64 hn,.str hsn,.slice (hts.map Tm.av),.fslice []]]= [bX (.mk hk hn hsn hts,b)] by simp only[gY,fY,hb,kO,j6,l8,rK,nD,bA,aW]];exact OI (.mk hk hn hsn hts,b) _):aD prog 324 _ _ _).to ?_
     by_cases hf:fmtC (.mk hk hn hsn hts,b)=s
     case neg=>
      rw[wD hcl (fun h=>hf (SH h.2.2.2))]
      have hf':=cH hf
      simp -implicitDefEqProofs only[aK,hf',hbb.symm,bZ,aA,seval,jN]
      exact⟨q7,hE _ _ _⟩
     rw[RT hcl ⟨by rw[cM];exact hs,by rw[cM];exact he,hd,by rw[hf]⟩]
     have hf':=dB hf
     simp -implicitDefEqProofs only[hf',bU,aA,seval,jN]
     refine(aD.oS (by rw[show gY [AV.agg [.int .i64 hk,.int .i64 hn,.str hsn,.slice (hts.map Tm.av),.fslice []]]= [bX (.mk hk hn hsn hts,b)] by simp only[gY,fY,hb,kO,j6,l8,rK,nD,bA,aW]];exact OQ (.mk hk hn hsn hts,b) hdn.1.2 (by have:=hdn.2.1;omega) (fun x hx=>(hdn.2.2 x hx).2) _):aD prog 248 _ _ _).to ?_
     rw[fY]
     simp -implicitDefEqProofs only[aK,hbb.symm,aA,seval,jN]
     rw[←fY]
     exact⟨O2 _,hE _ _ _⟩
   | true=>
    simp -implicitDefEqProofs only[hw1,aA,seval]
    refine(kZ s f1 45 _).to ?_
    rw[h58,eV,←hf1] at hbd
    rw[show cT (sb s) f1 45=false by simpa using hbd]
    simp -implicitDefEqProofs only[aA,seval,jN]
    rw[←he2]
    have hdn:=(J5 (by rw[cM];exact hs) hcl).2.2
    have hwl:=bO (n:=(s.size:Int) - 1)
    by_cases he:e2+1=s.size
    case neg=>
     rw[wD hcl (fun h=>he (by rw[cM] at h;exact h.2.1))]
     have he':((e2:Int)=(s.size:Int) - 1)=False:=cH (by omega)
     simp -implicitDefEqProofs only[aK,hwl,he',hbb.symm,bZ,aA,seval,jN]
     exact⟨q7,hE _ _ _⟩
    have he':((e2:Int)=(s.size:Int) - 1)=True:=dB (by omega)
    simp -implicitDefEqProofs only[hwl,he',bU,aA,seval]
    refine(kZ s e2 46 _).to ?_
    cases hd:cT (sb s) e2 46 with
    | false=>
     rw[wD hcl (fun h=>by rw[hd] at h;exact absurd h.2.2.1 (by decide))]
     simp -implicitDefEqProofs only[aK,hbb.symm,aA,seval,jN]
     exact⟨q7,hE _ _ _⟩
    | true=>
     simp -implicitDefEqProofs only[aA,seval,jN]
     refine(aD.oS (by rw[show gY [AV.agg [.int .i64 hk,.int .i64 hn,.str hsn,.slice (hts.map Tm.av),.fslice []]]= [bX (.mk hk hn hsn hts,b)] by simp only[gY,fY,hb,kO,j6,l8,rK,nD,bA,aW]];exact OI (.mk hk hn hsn hts,b) _):aD prog 324 _ _ _).to ?_
     by_cases hf:fmtC (.mk hk hn hsn hts,b)=s
     case neg=>
      rw[wD hcl (fun h=>hf (SH h.2.2.2))]
      have hf':=cH hf
      simp -implicitDefEqProofs only[aK,hf',hbb.symm,bZ,aA,seval,jN]
      exact⟨q7,hE _ _ _⟩
     rw[RT hcl ⟨by rw[cM];exact hs,by rw[cM];exact he,hd,by rw[hf]⟩]
     have hf':=dB hf
     simp -implicitDefEqProofs only[hf',bU,aA,seval,jN]
     refine(aD.oS (by rw[show gY [AV.agg [.int .i64 hk,.int .i64 hn,.str hsn,.slice (hts.map Tm.av),.fslice []]]= [bX (.mk hk hn hsn hts,b)] by simp only[gY,fY,hb,kO,j6,l8,rK,nD,bA,aW]];exact OQ (.mk hk hn hsn hts,b) hdn.1.2 (by have:=hdn.2.1;omega) (fun x hx=>(hdn.2.2 x hx).2) _):aD prog 248 _ _ _).to ?_
     rw[fY]
     simp -implicitDefEqProofs only[aK,hbb.symm,aA,seval,jN]
     rw[←fY]
     exact⟨O2 _,hE _ _ _⟩
  rw[cA,←hf1] at hbd
  have aXS:=oI hbd.2
  rw[cM] at aXS
  rw[hbd.1]
  simp -implicitDefEqProofs only[hw1,aA,seval]
  refine(kZ s f1 45 _).to ?_
  rw[hbd.2]
  simp -implicitDefEqProofs only[hw2,aA,seval]
  refine(WW hs f2 (by omega) _).mono ?_
  rintro r _ ⟨hr,rfl⟩
  cases hG:sK (sb s) 7 f2 [] with
  | none=>
   have hP:oO (sb s)=none:=by
    unfold oO sE
    rw[hRi]
    simp only
    rw[aH (by rw[←hf1,hbd.1,hbd.2];try rfl),←hf2,hG]
   rw[hP]
   rw[hG] at hr
   simp only[rV] at hr
   subst hr
   have hwl:=bO (n:=(s.size:Int) - 1)
   have he':((-1:Int)=(s.size:Int) - 1)=False:=cH (by omega)
   simp -implicitDefEqProofs only[aK,hwl,he',hbb.symm,bZ,aA,seval,jN]
   exact⟨q7,hE _ _ _⟩
  | some p=>
   obtain⟨b,e2⟩:=p
   rw[hG] at hr
   simp only[rV] at hr
   subst hr
   have hcl:sE (sb s)=some ((.mk hk hn hsn hts,b),e2):=by
    unfold sE
    rw[hRi]
    simp only
    rw[aH (by rw[←hf1,hbd.1,hbd.2];try rfl),←hf2,hG]
   have hg2:=KR (by rw[cM];exact hs) _ _ _ _ _ (by rw[cM];omega) (by simp) hG
   rw[cM] at hg2
   simp -implicitDefEqProofs only[aK,aA,seval,jN]
   have hdn:=(J5 (by rw[cM];exact hs) hcl).2.2
   have hwl:=bO (n:=(s.size:Int) - 1)
   by_cases he:e2+1=s.size
   case neg=>
    rw[wD hcl (fun h=>he (by rw[cM] at h;exact h.2.1))]
    have he':((e2:Int)=(s.size:Int) - 1)=False:=cH (by omega)
    simp -implicitDefEqProofs only[aK,hwl,he',hbb.symm,bZ,aA,seval,jN]
    exact⟨q7,hE _ _ _⟩
   have he':((e2:Int)=(s.size:Int) - 1)=True:=dB (by omega)
   simp -implicitDefEqProofs only[hwl,he',bU,aA,seval]
   refine(kZ s e2 46 _).to ?_
   cases hd:cT (sb s) e2 46 with
   | false=>
    rw[wD hcl (fun h=>by rw[hd] at h;exact absurd h.2.2.1 (by decide))]
    simp -implicitDefEqProofs only[aK,hbb.symm,aA,seval,jN]
    exact⟨q7,hE _ _ _⟩
   | true=>
    simp -implicitDefEqProofs only[aA,seval,jN]
    refine(aD.oS (by rw[show gY [AV.agg [.int .i64 hk,.int .i64 hn,.str hsn,.slice (hts.map Tm.av),.slice (b.map Tm.av)]]= [bX (.mk hk hn hsn hts,b)] by simp only[gY,fY,AV.soft]];exact OI (.mk hk hn hsn hts,b) _):aD prog 324 _ _ _).to ?_
    by_cases hf:fmtC (.mk hk hn hsn hts,b)=s
    case neg=>
     rw[wD hcl (fun h=>hf (SH h.2.2.2))]
     have hf':=cH hf
     simp -implicitDefEqProofs only[aK,hf',hbb.symm,bZ,aA,seval,jN]
     exact⟨q7,hE _ _ _⟩
    rw[RT hcl ⟨by rw[cM];exact hs,by rw[cM];exact he,hd,by rw[hf]⟩]
    have hf':=dB hf
    simp -implicitDefEqProofs only[hf',bU,aA,seval,jN]
    refine(aD.oS (by rw[show gY [AV.agg [.int .i64 hk,.int .i64 hn,.str hsn,.slice (hts.map Tm.av),.slice (b.map Tm.av)]]= [bX (.mk hk hn hsn hts,b)] by simp only[gY,fY,AV.soft]];exact OQ (.mk hk hn hsn hts,b) hdn.1.2 (by have:=hdn.2.1;omega) (fun x hx=>(hdn.2.2 x hx).2) _):aD prog 248 _ _ _).to ?_
    rw[fY]
    simp -implicitDefEqProofs only[aK,hbb.symm,aA,seval,jN]
    rw[←fY]
    exact⟨O2 _,hE _ _ _⟩
abbrev yL:=zi tI_3 (zi zI_3 (zi aX (zi tI_31 (zi zI_31 (zi aN (zi bG (zi bH (zi b9 (zi tI_66 (zi zI_66 (zi bQ (zi bR (zi bS (zi bT (zi bP (zi tI_84 (zi zI_84 (zi kV (zi kW kU)))))))))))))))))))
theorem aS6(k n:Int)(s:ByteArray)(ks ts:List Tm)(h1:(Tm.mk k n s ks).small=true)(h2:ts.length≤1048576)(h3:∀x∈ts,x.small=true)(st:aB):aD prog 248 [bX (.mk k n s ks,ts)] st (fun r st'=>∃b,r=.agg [.int .i64 k,.int .i64 n,.str s,.slice (ks.map Tm.av),bD 4 b (ts.map Tm.av)]∧st'=a7 st b (ts.map Tm.av)∧(ts.map Tm.av≠[]→st b=none)):=by
 have hhd:=fun st=>zJ (.mk k n s ks) st h1
 simp only[aV] at hhd
 have IH:=fun(x:Tm) (hx:x∈ts) st=>zJ x st (h3 x hx)
 have hlen:ts.length≤1048576:=h2
 refine aD.mK ?_
 simp only[fY]
 refine wF [] 1 func248 ntmps248 rfl rfl ?_
 simp only[eC,AV.fits,eF,aF]
 intro ⟨_,_,_,_,hl,_⟩
 simp -implicitDefEqProofs only[aA,seval,yL]
 intro b2 hb2
 refine(hhd _).to ?_
 simp -implicitDefEqProofs only[aK,aA,seval,yL]
 intro c hc
 have hne:c≠b2:=by rintro rfl;rw[aB.aP] at hc;cases hc
 have hn2:st c=none:=by rw[aB.aL st _ hne] at hc;exact hc
 have nS:b2≠c:=dD hne
 refine eP (σ:=Nat) [] [1,2,3] ts (fun i b=>(((ts.take i).map (fun y=>y)).map Tm.av≠[]→(aB.aC (st.aC b2 (.cells [AV.int .i64 0,AV.int .i64 0,AV.str ⟨#[]⟩,AV.fslice [],AV.fslice []])) c (.cells ([AV.int .i64 k,AV.int .i64 n,AV.str s,AV.slice (ks.map Tm.av)]++ [bD 4 b (((ts.take i).map (fun y=>y)).map Tm.av)]))) b=none)) (fun i b=>[(4,.int .i64 i)]) (fun i b=>fK (st.aC b2 (.cells [AV.int .i64 0,AV.int .i64 0,AV.str ⟨#[]⟩,AV.fslice [],AV.fslice []])) c b [AV.int .i64 k,AV.int .i64 n,AV.str s,AV.slice (ks.map Tm.av)] (((ts.take i).map (fun y=>y)).map Tm.av)) (by decide +kernel)
  ⟨0,fun h=>absurd rfl h,aO.mk (by simp -implicitDefEqProofs only[aA,↓aU,seval])⟩ (fun i x b hx hlt bV hdr hinv=>?_) (fun b hge hinv=>?_)
 case refine_1=>
  have hw:=bO (n:=(i:Int)+1)
  have cZ:(((ts.take i).map (fun y=>y)).map Tm.av).length=i:=by simp only[aF,dS];omega
  have htk:(ts.take (i+1)).map (fun y=>y)=(ts.take i).map (fun y=>y)++ [(fun y=>y) x]:=by rw[fG,hx];simp
  have hbo:=eN hinv
  simp -implicitDefEqProofs only[aF,bV,aA,seval,yL]
  refine wP [(0,1),(2,1),(4,1),(1,2),(3,2),(5,1),(6,2),(7,2),(8,1),(9,0),(10,1),(11,0)] [0,2,4,1,3,5,6,7,8,10] mixed ?_
  simp -implicitDefEqProofs only[bM (av:=Tm.av) aN hx (aJ x),aT,aJ,hbo,mZ,hH,aA,seval,yL]
  refine iD (IH x (cP hx) _) ?_
  simp -implicitDefEqProofs only[aT,aJ,cG,hH,aA,seval,yL]
  refine eW aN bG bH rfl rfl (fM (aJ _) (cC _)) (d6 _) hinv (by simp only[cZ,aS,aZ];omega) (by simp only[cZ,aS,aZ];omega) (fun b' hb'=>?_)
  rw[show(((ts.take i).map (fun y=>y)).map Tm.av)++ [((fun y=>y) x).av]=((ts.take (i+1)).map (fun y=>y)).map Tm.av by rw[htk];simp] at hb' ⊢
  obtain⟨g1,g2,g3⟩:=oL hb'
  simp only[fL,eR] at g1 g3
  simp -implicitDefEqProofs only[g3,m6,fJ,aK,g1,hw,aK,aA,seval,yL]
  exact⟨b',g2,aO.mk (by simp -implicitDefEqProofs only[aA,seval])⟩
 have hbo:=eN hinv
 rw[eS] at hinv hbo ⊢
 simp -implicitDefEqProofs only[aF,hge,aA,seval,yL]
 simp -implicitDefEqProofs only[hbo,aK,aA,seval,yL]
 have hS:(st.aC b2 (.cells [AV.int .i64 0,AV.int .i64 0,AV.str ⟨#[]⟩,AV.fslice [],AV.fslice []])) b2≠none:=by rw[aB.aP];simp
 have h1:=gS hinv hS nS
 rw[aB.aP] at h1
 simp -implicitDefEqProofs only[h1,fJ,aA,seval]
 obtain⟨h2,h3⟩:=kE (o:=.cells [AV.int .i64 k,AV.int .i64 n,AV.str s,AV.slice (ks.map Tm.av),bD 4 b ((ts.map fun y=>y).map Tm.av)]) hinv hS nS
 simp only[fL,eR] at h2 h3
 rw[h2]
 have D:∀o o' o'',aM (((st.aC b2 o).aC c o').aC b2 o'') st:=fun o o' o''=>(((aM.refl _).aC hb2).aC hn2).aC hb2
 simp only[List.map_id'] at h3 ⊢
 exact⟨_,PF (D _ _ _),b,rfl,rfl,fun h=>(D _ _ _ b).1 (h3 h)⟩
abbrev nX:=zi tI_3 (zi zI_3 (zi aX (zi tI_9 (zi zI_9 (zi cI (zi tI_31 (zi zI_31 (zi aN (zi bG (zi bH (zi b9 (zi tI_40 (zi zI_40 (zi sH (zi zS (zi zW (zi yN (zi tI_66 (zi zI_66 (zi bQ (zi bR (zi bS (zi bT (zi bP (zi tI_84 (zi zI_84 (zi kV (zi kW (zi kU (zi tI_116 (zi zI_116 (zi tI_147 (zi zI_147 (zi iR (zi lS (zi lT mR))))))))))))))))))))))))))))))))))))
set_option maxHeartbeats 2000000 in
theorem aS9(bs:List Bt)(c p:Nat)(cl:Cl)(hcl:vI cl)(st:aB)(hp:p+6000≤1099511627776)(hR:dO st c bs p) :
 aD prog 214 [.ptr c 0,bX cl] st (Dr bs c p 6000 st (fun r=>∃cl':Cl,r=bX cl')):=by
 obtain⟨⟨k,n,s,ks⟩,ts⟩:=cl
 obtain⟨d1,d2,d3⟩:=hcl
 simp only at d1 d2 d3
 have hcp:=fun st=>aS6 k n s ks ts d1.2 (by omega) (fun x hx=>(d3 x hx).2) st
 simp only[fY] at hcp ⊢
 refine aD.mK (aD.fin ?_)
 refine wF [1000000,5] 2 func214 ntmps214 rfl rfl ?_
 intro _
 simp -implicitDefEqProofs only[aA,seval,nX]
 intro b4 h4
 have h4c:=hR.ne h4
 have hR':=fun o=>hR.aC (o:=o) h4c
 refine(hcp _).mono ?_
 rintro _ _ ⟨b,rfl,rfl,hb⟩
 simp -implicitDefEqProofs only[fJ,aK,aA,↓aU,seval,nX]
 intro b5 h5
 obtain⟨hn5,hb5⟩:=CA h5
 have h54:b5≠b4:=by rintro rfl;rw[aB.aP] at hn5;cases hn5
 have QN:st b5=none:=by rw[aB.aL _ _ h54] at hn5;exact hn5
 have h5c:b5≠c:=hR.ne QN
 have hW4:∀q,((st.aC b4 (.cells [.int .i64 0,.int .i64 0,.str ⟨#[]⟩,.fslice [],.fslice []])).aC c (cD bs q)) b4=some (.cells [.int .i64 0,.int .i64 0,.str ⟨#[]⟩,.fslice [],.fslice []]):=fun q=>by rw[aB.aL _ _ h4c,aB.aP]
 have hdr:∀q Z Y,aM ((((st.aC b4 (.cells [.int .i64 0,.int .i64 0,.str ⟨#[]⟩,.fslice [],.fslice []])).aC c (cD bs q)).aC b5 Z).aC b4 Y) (st.aC c (cD bs q)):=fun q Z Y x=>by
  by_cases e4:x=b4<;>by_cases ec:x=c<;>by_cases e5:x=b5<;>simp_all [aB.aC]
 have e0:(a7 (st.aC b4 (.cells [.int .i64 0,.int .i64 0,.str ⟨#[]⟩,.fslice [],.fslice []])) b (ts.map Tm.av)).aC b5 (.cells [.int .i64 k,.int .i64 n,.str s,.slice (ks.map Tm.av),bD 4 b (ts.map Tm.av)])=fK (st.aC b4 (.cells [.int .i64 0,.int .i64 0,.str ⟨#[]⟩,.fslice [],.fslice []])) b5 b [.int .i64 k,.int .i64 n,.str s,.slice (ks.map Tm.av)] (ts.map Tm.av):=by
  rw[oZ hb5];try rfl
 have i0:ts.map Tm.av≠[]→((st.aC b4 (.cells [.int .i64 0,.int .i64 0,.str ⟨#[]⟩,.fslice [],.fslice []])).aC b5 (.cells ([.int .i64 k,.int .i64 n,.str s,.slice (ks.map Tm.av)]++ [bD 4 b (ts.map Tm.av)]))) b=none:=fun h=>by
  rw[aB.aL _ _ (dD (hb5 h))];exact hb h
 have hUc:(st.aC b4 (.cells [.int .i64 0,.int .i64 0,.str ⟨#[]⟩,.fslice [],.fslice []])) c≠none:=by rw[hR' _];simp
 rw[e0]
 have hRk:dO (fK (st.aC b4 (.cells [.int .i64 0,.int .i64 0,.str ⟨#[]⟩,.fslice [],.fslice []])) b5 b [.int .i64 k,.int .i64 n,.str s,.slice (ks.map Tm.av)] (ts.map Tm.av)) c bs p:=by
  unfold dO
  rw[gS i0 hUc h5c.symm]
  exact hR' _
 refine(nN bs c p (by omega) 40 (by omega) (by omega) _ hRk).mono ?_
 rintro _ _ ⟨j,hj,rfl,rfl⟩
 obtain⟨e1,i1⟩:=qH (o:=cD bs (p+1)) i0 hUc h5c.symm
 rw[e1]
 have hWc:∀q,((st.aC b4 (.cells [.int .i64 0,.int .i64 0,.str ⟨#[]⟩,.fslice [],.fslice []])).aC c (cD bs q)) c≠none:=fun q=>by rw[aB.aP];simp
 have hRq:∀q (hd l:List AV),(l≠[]→(((st.aC b4 (.cells [.int .i64 0,.int .i64 0,.str ⟨#[]⟩,.fslice [],.fslice []])).aC c (cD bs q)).aC b5 (.cells (hd++ [bD 4 b l]))) b=none)→dO (fK ((st.aC b4 (.cells [.int .i64 0,.int .i64 0,.str ⟨#[]⟩,.fslice [],.fslice []])).aC c (cD bs q)) b5 b hd l) c bs q:=fun q hd l hi=>by
  unfold dO
  rw[gS hi (hWc q) h5c.symm,aB.aP]
  try rfl
 clear e0 i0 hRk e1
 simp -implicitDefEqProofs only[aA,seval]
 refine aQ (fun h0=>?_) (fun h0=>?_)
 · simp -implicitDefEqProofs only[aA,seval]
   refine(WO bs c (p+1) _ (by omega) (hRq _ _ _ i1)).mono ?_
   rintro _ _ ⟨p1,q1,q2,rfl,t1,ht1,rfl⟩
   obtain⟨e1,i1⟩:=qH (o:=cD bs p1) i1 (hWc _) h5c.symm
   rw[dC] at e1 i1
   rw[e1]
   simp -implicitDefEqProofs only[aA,seval]
   refine(ON bs c p1 t1 ht1.2 _ (by omega) (hRq _ _ _ i1)).mono ?_
   rintro _ _ ⟨p2,r1,r2,rfl,⟨k',n',s',ks'⟩,rfl⟩
   obtain⟨e1,i1⟩:=qH (o:=cD bs p2) i1 (hWc _) h5c.symm
   rw[dC] at e1 i1
   rw[e1]
   have hbo:=eN i1
   obtain⟨e2,i1⟩:=G7 (hd':=[.int .i64 k',.int .i64 n',.str s',.slice (ks'.map Tm.av)]) i1
   simp only[fL,eR] at e2
   rw[aV]
   simp -implicitDefEqProofs only[aK,hbo,aA,seval,nX]
   rw[e2]
   have hbo:=eN i1
   have h4o:=gS i1 (x:=b4) (by rw[hW4];simp) h54.symm
   rw[hW4] at h4o
   simp -implicitDefEqProofs only[h4o,fJ,aA,seval]
   obtain⟨g5,g6⟩:=kE (o:=.cells [.int .i64 (k'),.int .i64 (n'),.str (s'),.slice ((ks').map Tm.av),bD 4 b ((ts).map Tm.av)]) i1 (show((st.aC b4 (.cells [.int .i64 0,.int .i64 0,.str ⟨#[]⟩,.fslice [],.fslice []])).aC c (cD bs (p2))) b4≠none by rw[hW4];simp) h54.symm
   refine⟨b,_,_,g5,g6,iU _,⟨4,d6 _⟩,st.aC c (cD bs (p2)),hdr _ _ _,p2,by omega,by omega,rfl,(.mk (k') (n') (s') (ks'),ts),?_⟩
   simp only[fZ,bA,aW,eG,iY,iN,iP,fY]
 simp -implicitDefEqProofs only[aA,seval]
 refine aQ (fun h0=>?_) (fun h0=>?_)
 · have hbo:=eN i1
   simp -implicitDefEqProofs only[aA,seval]
   refine ET [(0,1),(1,1),(2,1),(3,1),(4,0),(5,0),(6,1),(7,0),(8,1),(9,2)] [0,1,2,3,6,8] (eH.aC b5 (.cells [.int .i64 k,.int .i64 n,.str s,.slice (ks.map Tm.av),bD 4 b (ts.map Tm.av)])) mixed (by decide +kernel) (by decide +kernel) (by decide +kernel) rfl (iF hbo) ?_
   simp -implicitDefEqProofs only[mZ,aA,seval,nX]
   refine(WO bs c (p+1) _ (by omega) (hRq _ _ _ i1)).mono ?_
   rintro _ _ ⟨p1,q1,q2,rfl,t1,ht1,rfl⟩
   obtain⟨e1,i1⟩:=qH (o:=cD bs p1) i1 (hWc _) h5c.symm
   rw[dC] at e1 i1
   rw[e1]
   have hbo:=eN i1
   simp -implicitDefEqProofs only[aA,seval]
   refine⟨iF hbo,?_⟩
   refine(ON bs c p1 t1 ht1.2 _ (by omega) (hRq _ _ _ i1)).mono ?_
   rintro _ _ ⟨p2,r1,r2,rfl,t2,rfl⟩
   obtain⟨e1,i1⟩:=qH (o:=cD bs p2) i1 (hWc _) h5c.symm
   rw[dC] at e1 i1
   rw[e1]
   have hbo:=eN i1
   simp -implicitDefEqProofs only[aT,aJ,cG,aA,seval,nX]
   refine⟨iF hbo,?_⟩
   refine eW aN bG bH rfl rfl (fM (aJ _) (cC _)) (d6 _) i1 (by simp only[aF,aS,aZ];omega) (by simp only[aF,aS,aZ];omega) (fun b' hb'=>?_)
   rw[show ts.map Tm.av++ [t2.av]=(ts++ [t2]).map Tm.av by simp] at hb' ⊢
   obtain⟨g1,g2,g3⟩:=oL hb'
   simp only[fL,eR] at g1 g3
   simp -implicitDefEqProofs only[aK,fJ,m6,aA,seval,nX]
   refine⟨iF g3,?_⟩
   simp -implicitDefEqProofs only[g3,g1,aK,fJ,aA,seval,nX]
   have hbo:=eN g2
   have h4o:=gS g2 (x:=b4) (by rw[hW4];simp) h54.symm
   rw[hW4] at h4o
   simp -implicitDefEqProofs only[h4o,aA,seval]
   obtain⟨g5,g6⟩:=kE (o:=.cells [.int .i64 (k),.int .i64 (n),.str (s),.slice ((ks).map Tm.av),bD 4 b' ((ts++ [t2]).map Tm.av)]) g2 (show((st.aC b4 (.cells [.int .i64 0,.int .i64 0,.str ⟨#[]⟩,.fslice [],.fslice []])).aC c (cD bs (p2))) b4≠none by rw[hW4];simp) h54.symm
   refine⟨b',_,_,g5,g6,iU _,⟨4,d6 _⟩,st.aC c (cD bs (p2)),hdr _ _ _,p2,by omega,by omega,rfl,(.mk (k) (n) (s) (ks),ts++ [t2]),?_⟩
   simp only[fZ,bA,aW,eG,iY,iN,iP,fY]
 simp -implicitDefEqProofs only[aA,seval]
 refine aQ (fun h0=>?_) (fun h0=>?_)
 · simp -implicitDefEqProofs only[aA,seval]
   refine iE (σ:=Nat×List Tm) [1000000,5] [0,4,5,9] (fun x=>(x.2.map Tm.av≠[]→(aB.aC ((st.aC b4 (.cells [.int .i64 0,.int .i64 0,.str ⟨#[]⟩,.fslice [],.fslice []])).aC c (cD bs (p+1))) b5 (.cells ([.int .i64 k,.int .i64 n,.str s,.slice (ks.map Tm.av)]++ [bD 4 x.1 (x.2.map Tm.av)]))) x.1=none)) (fun _=>[]) (fun x=>fK ((st.aC b4 (.cells [.int .i64 0,.int .i64 0,.str ⟨#[]⟩,.fslice [],.fslice []])).aC c (cD bs (p+1))) b5 x.1 [.int .i64 k,.int .i64 n,.str s,.slice (ks.map Tm.av)] (x.2.map Tm.av)) (fun x=>7 - x.2.length) (by decide +kernel) ⟨(b,ts),i1,aO.mk (by simp -implicitDefEqProofs only[aA,seval])⟩ ?_
   rintro⟨b,acc⟩ i1
   simp only at i1
   have hbo:=eN i1
   have haL:=tS (w:=4) (b:=b) (l:=acc.map Tm.av) b9
   simp -implicitDefEqProofs only[hbo,mZ,haL,aF,aA,seval,nX]
   refine aQ (fun h1=>?_) (fun h1=>?_)
   · simp only[bJ] at h1
     have cZ:(acc.map Tm.av).length≤6:=by rw[aF];omega
     simp -implicitDefEqProofs only[aA,seval]
     refine ET [(0,1),(1,1),(2,0),(3,1),(4,0),(5,1),(6,2)] [0,1,3,5] (eH.aC b5 (.cells [.int .i64 k,.int .i64 n,.str s,.slice (ks.map Tm.av),bD 4 b (acc.map Tm.av)])) mixed (by decide +kernel) (by decide +kernel) (by decide +kernel) rfl (iF hbo) ?_
     simp -implicitDefEqProofs only[mZ,aA,seval,nX]
     refine(sB ⟨#[116,114,117,101]⟩ [] (by simp) _).to ?_
     simp -implicitDefEqProofs only[aT,aJ,cG,aA,seval,nX]
     refine⟨iF hbo,?_⟩
     refine eW aN bG bH rfl rfl (fM (aJ _) (cC _)) (d6 _) i1 (by simp only[aS,aZ];omega) (by simp only[aS,aZ];omega) (fun b' hb'=>?_)
     rw[show acc.map Tm.av++ [(Tm.mk 3 0 ⟨#[116,114,117,101]⟩ []).av]=(acc++ [Tm.mk 3 0 ⟨#[116,114,117,101]⟩ []]).map Tm.av by simp] at hb' ⊢
     obtain⟨g1,g2,g3⟩:=oL hb'
     simp only[fL,eR] at g1 g3
     simp -implicitDefEqProofs only[aK,fJ,m6,aA,seval,nX]
     refine⟨iF g3,?_⟩
     simp -implicitDefEqProofs only[g3,g1,aA,seval]
     refine⟨(b',acc++ [Tm.mk 3 0 ⟨#[116,114,117,101]⟩ []]),by simp only[dM,aS,aZ];omega,g2,aO.mk (by simp -implicitDefEqProofs only[aA,seval])⟩
   · simp -implicitDefEqProofs only[aK,hbo,fJ,aA,seval,nX]
     have hbo:=eN i1
     have h4o:=gS i1 (x:=b4) (by rw[hW4];simp) h54.symm
     rw[hW4] at h4o
     simp -implicitDefEqProofs only[h4o,aA,seval]
     obtain⟨g5,g6⟩:=kE (o:=.cells [.int .i64 (k),.int .i64 (n),.str (s),.slice ((ks).map Tm.av),bD 4 b ((acc).map Tm.av)]) i1 (show((st.aC b4 (.cells [.int .i64 0,.int .i64 0,.str ⟨#[]⟩,.fslice [],.fslice []])).aC c (cD bs (p+1))) b4≠none by rw[hW4];simp) h54.symm
     refine⟨b,_,_,g5,g6,iU _,⟨4,d6 _⟩,st.aC c (cD bs (p+1)),hdr _ _ _,p+1,by omega,by omega,rfl,(.mk (k) (n) (s) (ks),acc),?_⟩
     simp only[fZ,bA,aW,eG,iY,iN,iP,fY]
 simp -implicitDefEqProofs only[aA,seval]
 refine aQ (fun h0=>?_) (fun h0=>?_)
 · simp -implicitDefEqProofs only[aA,seval,nX]
   refine(FU [⟨#[116,114,117,101]⟩,⟨#[105,115]⟩,⟨#[61]⟩,⟨#[109,111,100]⟩,⟨#[113]⟩] (by simp) (by simp) bs c (p+1) (by omega) _ (hRq _ _ _ i1)).mono ?_
   rintro _ _ ⟨y,_,rfl,rfl⟩
   obtain⟨e1,i1⟩:=qH (o:=cD bs (p+1+1)) i1 (hWc _) h5c.symm
   rw[dC] at e1 i1
   rw[e1]
   have hbo:=eN i1
   obtain⟨e2,i1⟩:=G7 (hd':=[.int .i64 k,.int .i64 n,.str y,.slice (ks.map Tm.av)]) i1
   simp only[fL,eR] at e2
   simp -implicitDefEqProofs only[aK,hbo,aA,seval,nX]
   rw[e2]
   have hbo:=eN i1
   have h4o:=gS i1 (x:=b4) (by rw[hW4];simp) h54.symm
   rw[hW4] at h4o
   simp -implicitDefEqProofs only[h4o,fJ,aA,seval]
   obtain⟨g5,g6⟩:=kE (o:=.cells [.int .i64 (k),.int .i64 (n),.str (y),.slice ((ks).map Tm.av),bD 4 b ((ts).map Tm.av)]) i1 (show((st.aC b4 (.cells [.int .i64 0,.int .i64 0,.str ⟨#[]⟩,.fslice [],.fslice []])).aC c (cD bs (p+1+1))) b4≠none by rw[hW4];simp) h54.symm
   refine⟨b,_,_,g5,g6,iU _,⟨4,d6 _⟩,st.aC c (cD bs (p+1+1)),hdr _ _ _,p+1+1,by omega,by omega,rfl,(.mk (k) (n) (y) (ks),ts),?_⟩
   simp only[fZ,bA,aW,eG,iY,iN,iP,fY]
 · simp -implicitDefEqProofs only[aA,seval,nX]
   have hbo:=eN i1
   have h4o:=gS i1 (x:=b4) (by rw[hW4];simp) h54.symm
   rw[hW4] at h4o
   simp -implicitDefEqProofs only[aK,hbo,h4o,fJ,aA,seval,nX]
   obtain⟨g5,g6⟩:=kE (o:=.cells [.int .i64 (k),.int .i64 (n),.str (s),.slice ((ks).map Tm.av),bD 4 b ((ts).map Tm.av)]) i1 (show((st.aC b4 (.cells [.int .i64 0,.int .i64 0,.str ⟨#[]⟩,.fslice [],.fslice []])).aC c (cD bs (p+1))) b4≠none by rw[hW4];simp) h54.symm
   refine⟨b,_,_,g5,g6,iU _,⟨4,d6 _⟩,st.aC c (cD bs (p+1)),hdr _ _ _,p+1,by omega,by omega,rfl,(.mk (k) (n) (s) (ks),ts),?_⟩
   simp only[fZ,bA,aW,eG,iY,iN,iP,fY]
end Go.AW
namespace Go.AW
def MY:List ByteArray:=[⟨#[97,112,112,40,91,93,44,65,44,65,41,46,10,97,112,112,40,91,65,124,66,93,44,67,44,91,65,124,68,93,41,58,45,97,112,112,40,66,44,67,44,68,41,46,10]⟩,
 ⟨#[109,101,109,40,65,44,91,65,124,66,93,41,46,10,109,101,109,40,65,44,91,66,124,67,93,41,58,45,109,101,109,40,65,44,67,41,46,10]⟩,
 ⟨#[112,40,49,41,46,10,112,40,50,41,46,10,112,40,51,41,46,10,113,40,65,41,58,45,112,40,65,41,44,65,62,49,44,33,46,10,114,40,65,44,66,41,58,45,112,40,65,41,44,112,40,66,41,46,10]⟩,
 ⟨#[108,101,110,40,91,93,44,48,41,46,10,108,101,110,40,91,65,124,66,93,44,67,41,58,45,108,101,110,40,66,44,68,41,44,67,32,105,115,32,68,43,49,46,10]⟩,
 ⟨#[109,97,120,40,65,44,66,44,65,41,58,45,65,62,61,66,44,33,46,10,109,97,120,40,65,44,66,44,66,41,46,10]⟩,
 ⟨#[101,40,97,44,98,41,46,10,101,40,98,44,99,41,46,10,101,40,99,44,100,41,46,10,116,40,65,44,66,41,58,45,101,40,65,44,66,41,46,10,116,40,65,44,66,41,58,45,101,40,65,44,67,41,44,116,40,67,44,66,41,46,10]⟩,
 ⟨#[108,111,111,112,58,45,108,111,111,112,46,10,111,107,46,10]⟩,
 ⟨#[102,97,99,40,48,44,49,41,58,45,33,46,10,102,97,99,40,65,44,66,41,58,45,65,62,48,44,67,32,105,115,32,65,45,49,44,102,97,99,40,67,44,68,41,44,66,32,105,115,32,65,42,68,46,10]⟩,
 ⟨#[115,40,65,41,58,45,65,61,102,40,66,41,44,97,114,103,40,49,44,65,44,66,41,44,66,61,49,46,10,115,40,65,41,58,45,118,97,114,40,65,41,44,65,61,110,111,110,101,46,10]⟩,
 ⟨#[114,101,118,40,91,93,44,65,44,65,41,46,10,114,101,118,40,91,65,124,66,93,44,67,44,68,41,58,45,114,101,118,40,66,44,91,65,124,67,93,44,68,41,46,10]⟩,
 ⟨#[98,97,100,40,65,41,58,45,66,32,105,115,32,65,43,102,111,111,44,67,61,66,46,10,98,105,103,40,65,41,58,45,65,32,105,115,32,57,57,57,43,49,46,10,117,110,40,65,41,58,45,110,111,115,117,99,104,40,65,41,46,10]⟩]
def TM:List ByteArray:=[⟨#[97,112,112,40,65,44,66,44,91,49,44,50,93,41]⟩,
 ⟨#[97,112,112,40,91,49,93,44,91,50,93,44,65,41]⟩,
 ⟨#[109,101,109,40,65,44,91,97,44,98,44,99,93,41]⟩,
 ⟨#[113,40,65,41]⟩,
 ⟨#[114,40,65,44,66,41,44,65,62,66]⟩,
 ⟨#[108,101,110,40,91,97,44,98,44,99,93,44,65,41]⟩,
 ⟨#[109,97,120,40,51,44,50,44,65,41]⟩,
 ⟨#[109,97,120,40,65,44,50,44,51,41]⟩,
 ⟨#[116,40,97,44,65,41]⟩,
 ⟨#[108,111,111,112]⟩,
 ⟨#[111,107,44,33]⟩,
 ⟨#[102,97,99,40,52,44,65,41]⟩,
 ⟨#[115,40,65,41]⟩,
 ⟨#[114,101,118,40,91,49,44,50,44,51,93,44,91,93,44,65,41]⟩,
 ⟨#[98,97,100,40,65,41]⟩,
 ⟨#[98,105,103,40,65,41]⟩,
 ⟨#[117,110,40,65,41]⟩,
 ⟨#[112,40,65,41,44,33,44,112,40,66,41]⟩,
 ⟨#[65,61,102,40,66,44,67,41,44,97,114,103,40,49,44,65,44,68,41]⟩,
 ⟨#[109,101,109,40,65,44,91,49,44,50,93,41,44,109,101,109,40,66,44,91,65,44,51,93,41]⟩,
 ⟨#[65,32,105,115,32,51,47,47,48]⟩,
 ⟨#[116,114,117,101]⟩,
 ⟨#[109,101,109,40,65,44,66,41]⟩,
 ⟨#[112,40,65,41,44,65,92,61,50]⟩]
def EN:List (List ByteArray):=[[⟨#[97,112,112,40,65,44,66,44,91,49,44,50,93,41]⟩,⟨#[97,112,112,40,91,49,93,44,91,50,124,65,93,44,66,41]⟩,⟨#[97,112,112,40,65,44,91,49,93,44,65,41]⟩],
 [⟨#[109,101,109,40,65,44,91,97,44,98,44,99,93,41]⟩,⟨#[109,101,109,40,65,44,91,49,44,50,93,41,44,109,101,109,40,66,44,91,65,44,51,93,41]⟩,⟨#[109,101,109,40,65,44,66,41]⟩],
 [⟨#[113,40,65,41]⟩,⟨#[114,40,65,44,66,41,44,65,62,66]⟩,⟨#[112,40,65,41,44,33,44,112,40,66,41]⟩,⟨#[114,40,65,44,65,41]⟩],
 [⟨#[108,101,110,40,91,97,44,98,44,99,93,44,65,41]⟩,⟨#[108,101,110,40,65,44,50,41]⟩],
 [⟨#[109,97,120,40,51,44,50,44,65,41]⟩,⟨#[109,97,120,40,65,44,50,44,51,41]⟩,⟨#[109,97,120,40,49,44,50,44,65,41]⟩],
 [⟨#[116,40,97,44,65,41]⟩,⟨#[116,40,65,44,100,41]⟩,⟨#[101,40,65,44,66,41]⟩],
 [⟨#[108,111,111,112]⟩,⟨#[111,107,44,33]⟩,⟨#[111,107,44,108,111,111,112]⟩],
 [⟨#[102,97,99,40,52,44,65,41]⟩,⟨#[102,97,99,40,48,44,65,41]⟩,⟨#[102,97,99,40,55,44,65,41]⟩],
 [⟨#[115,40,65,41]⟩,⟨#[115,40,66,41,44,66,61,102,40,49,41]⟩],
 [⟨#[114,101,118,40,91,49,44,50,44,51,93,44,91,93,44,65,41]⟩,⟨#[114,101,118,40,65,44,91,93,44,91,49,93,41]⟩],
 [⟨#[98,97,100,40,65,41]⟩,⟨#[98,105,103,40,65,41]⟩,⟨#[117,110,40,65,41]⟩]]
def RR(s:ByteArray):Bool:=decide (s.size≤200)&&match AZ (sb s) with | some l=>decide (2≤l.length)&&decide (l.length≤20) | none=>false
theorem a4H:MY.all RR=true:=by decide +kernel
theorem a4F:EN.all (fun l=>decide (1≤l.length)&&l.all (fun s=>decide (s.size≤1000)))=true:=by decide +kernel
theorem a4G(y:List ByteArray)(h:y∈EN):y.length≤4:=by
 have h2:(EN.all fun l=>decide (l.length≤4))=true:=by decide +kernel
 simpa using dW.1 h2 y h
end Go.AW
namespace Go.AW
open Go.Proofs.Tryz
def lZ(p:List UInt8):AV:=.str (ba p)
theorem aLP(l:List (List UInt8)):∀e∈l.map lZ,e.width=1:=by intro e h;simp only[cS] at h;obtain⟨t,_,rfl⟩:=h;rfl
theorem a08(l:List (List UInt8)):∀e∈l.map lZ,e.cF=false:=by intro e h;simp only[cS] at h;obtain⟨t,_,rfl⟩:=h;rfl
abbrev H7:=zi tI_3 (zi zI_3 (zi aX (zi tI_5 (zi zI_5 (zi lM (zi tI_9 (zi zI_9 (zi cI (zi tI_147 (zi zI_147 (zi iR (zi lS (zi lT mR)))))))))))))
set_option maxHeartbeats 1000000 in
theorem aSD(s:ByteArray)(c:Nat)(hs:s.size≤1048576)(st:aB):aD prog 265 [.str s,.int .u8 (c:Int)] st (fun r st'=>r=.slice ((nQ c (sb s) []).map lZ)∧st'=st):=by
 generalize hT:nQ c (sb s) []=T
 refine aD.pZ (aD.fin ?_)
 refine wF [1000000] 2 func265 ntmps265 rfl rfl ?_
 intro _
 simp -implicitDefEqProofs only[aA,seval,H7]
 refine iE (σ:=List (List UInt8)×Nat×Nat×Nat) [1000000] [0,1,4] (fun x=>((x.2.2.1≤s.size∧x.2.1≤x.2.2.1∧x.1++nQ c ((sb s).drop x.2.2.1) (((sb s).drop x.2.1).take (x.2.2.1 - x.2.1))=T)∨(x.2.2.1=s.size+1∧x.2.1≤s.size+1∧x.1=T))∧x.1.length≤x.2.2.1∧(x.1.map lZ≠[]→st x.2.2.2=none)) (fun x=>[(5,bD 1 x.2.2.2 (x.1.map lZ)),(6,.int .i64 (x.2.1:Int)),(7,.int .i64 (x.2.2.1:Int))]) (fun x=>a7 st x.2.2.2 (x.1.map lZ)) (fun x=>s.size+1 - x.2.2.1) (by decide +kernel) ⟨([],0,0,0),⟨Or.inl ⟨jD _,c7 _,hT⟩,jD _,by simp⟩,aO.mk (by simp -implicitDefEqProofs only[aW,jG,aA,↓aU,seval])⟩ ?_
 rintro⟨out,f,i,b⟩ ⟨ht,hlen,hb⟩
 simp only at ht hlen hb ⊢
 by_cases hi:i≤s.size
 case neg=>
  obtain⟨h1,h2,rfl⟩:i=s.size+1∧f≤s.size+1∧out=T:=by
   rcases ht with h | h
   · exact absurd h.1 hi
   · exact h
  have hi':((i:Int)≤(s.size:Int))=False:=cH (by omega)
  simp -implicitDefEqProofs only[hi',bZ,aA,seval,H7]
  exact⟨b,_,st,rfl,hb,a08 _,⟨1,aLP _⟩,by rw[iP],aM.refl _⟩
 obtain⟨-,hfi,ht⟩:i≤s.size∧f≤i∧out++nQ c ((sb s).drop i) (((sb s).drop f).take (i - f))=T:=by
  rcases ht with h | h
  · exact h
  · omega
 have hi':((i:Int)≤(s.size:Int))=True:=dB (by omega)
 have hw:=bO (n:=(i:Int)+1)
 have hsl:=fun(φ:AF) (y z:Operand) (h:φ.eval y=.int .i64 (f:Int)) (h':φ.eval z=.int .i64 (i:Int))=>HU (s:=s) h h' hfi hi
 rw[FP] at hsl
 generalize hp:((sb s).drop f).take (i - f)=p at *
 have KX:∀(K:AV→aB→Prop),(∀b',((out++ [p]).map lZ≠[]→st b'=none)→K (bD 1 b' ((out++ [p]).map lZ)) (a7 st b' ((out++ [p]).map lZ)))→j7 prog 147 (a7 st b (out.map lZ)) (bD 1 b (out.map lZ)) (.fslice [.str (ba p)]) K:=by
  intro K hK
  refine eW iR lS lT rfl rfl (fM rfl rfl) (aLP _) hb (by simp only[aF,aS,aZ];omega) (by simp only[aF,aS,aZ];omega) (fun b' hb'=>?_)
  rw[show out.map lZ++ [AV.str (ba p)]=(out++ [p]).map lZ by simp [lZ]] at hb' ⊢
  exact hK b' hb'
 by_cases hie:i=s.size
 case pos=>
  have K5:((i:Int)=(s.size:Int))=True:=dB (by omega)
  rw[BR (by rw[cM];omega)] at ht
  simp only[nQ] at ht
  simp -implicitDefEqProofs only[hi',K5,hsl,bU,aA,seval,H7]
  refine KX _ fun b' hb'=>?_
  simp -implicitDefEqProofs only[hw,aA,seval]
  refine⟨(out++ [p],i+1,i+1,b'),by simp only;omega,⟨Or.inr ⟨by simp only;omega,by simp only;omega,ht⟩,by simp only[dM,aS,aZ];omega,hb'⟩,aO.mk (by simp -implicitDefEqProofs only[aA,seval]<;>exact⟨rfl,rfl⟩)⟩
 have K5:((i:Int)=(s.size:Int))=False:=cH (by omega)
 obtain⟨x,hx⟩:=vE (s:=s) (n:=i) (by omega)
 have hix:=sS (P:=prog) (t:=9) cI hx
 obtain⟨hx1,hx2⟩:=gP.1 hx
 rw[qS hx1,hx2] at ht
 unfold nQ at ht
 by_cases hxc:x.toNat=c
 · rw[aH hxc] at ht
   have QZ:((x.toNat:Int)=(c:Int))=True:=dB (by omega)
   simp -implicitDefEqProofs only[hi',K5,hsl,hix,QZ,bU,bZ,aA,seval,H7]
   refine KX _ fun b' hb'=>?_
   simp -implicitDefEqProofs only[hw,aA,seval]
   refine⟨(out++ [p],i+1,i+1,b'),by simp only;omega,⟨Or.inl ⟨by simp only;omega,c7 _,by rw[←ht];simp⟩,by simp only[dM,aS,aZ];omega,hb'⟩,aO.mk (by simp -implicitDefEqProofs only[aA,seval]<;>exact⟨rfl,rfl⟩)⟩
 · rw[aE hxc] at ht
   have QZ:((x.toNat:Int)=(c:Int))=False:=cH (by omega)
   have hp':((sb s).drop f).take (i+1 - f)=p++ [x]:=by
    rw[show i+1 - f=(i - f)+1 by omega,fG,hp,NH,show f+(i - f)=i by omega,hx];try rfl
   simp -implicitDefEqProofs only[hi',K5,hw,hix,QZ,bU,bZ,aA,seval,H7]
   refine⟨(out,f,i+1,b),by simp only;omega,⟨Or.inl ⟨by simp only;omega,by simp only;omega,by simp only;rw[hp'];exact ht⟩,by simp only;omega,hb⟩,aO.mk (by simp -implicitDefEqProofs only[aA,seval]<;>rfl)⟩
def E7(o:Option (List Cl))(r:AV):Prop:=match o with | some l=>r=.tup [.slice (l.map bX),.bool true] | none=>r=.tup [.slice [],.bool false]
theorem XT:∀(ls:List (List UInt8)) (acc r:List Cl),(∀c∈acc,vI c∧j9 c=true)→AL ls acc=some r→(∀c∈r,vI c∧j9 c=true)∧r.length=acc.length+ls.length
 | [],acc,r,h,h1=>by cases h1;exact⟨h,rfl⟩
 | l::ls,acc,r,h,h1=>by
  unfold AL at h1
  split at h1
  · cases h1
  rename_i c h2
  have:=XT ls (acc++ [c]) r (by intro x hx;rw[fF,I4] at hx;rcases hx with hx | rfl;exact h x hx;exact aLO h2) h1
  refine⟨this.1,?_⟩
  rw[this.2]
  simp only[dM,aS,aZ]
  omega
abbrev yJ:=zi tI_3 (zi zI_3 (zi aX (zi tI_4 (zi zI_4 (zi cE (zi tI_5 (zi zI_5 (zi lM (zi tI_8 (zi zI_8 (zi xQ (zi xR (zi xS (zi xT (zi xG (zi tI_9 (zi zI_9 (zi cI (zi tI_10 (zi zI_10 (zi a4J (zi tI_29 (zi zI_29 (zi gW (zi kA (zi kB (zi lL (zi tI_84 (zi zI_84 (zi kV (zi kW (zi kU (zi tI_147 (zi zI_147 (zi iR (zi lS (zi lT mR)))))))))))))))))))))))))))))))))))))
set_option maxHeartbeats 1000000 in
theorem aRM(s:ByteArray)(hs:s.size≤100000)(st:aB):aD prog 205 [.str s] st (fun r st'=>E7 (AZ (sb s)) r∧st'=st):=by
 generalize hP:AZ (sb s)=T
 unfold AZ at hP
 simp only at hP
 have xW:=fun st=>aSD s 10 (by omega) st
 rw[show((10:Nat):Int)=10 from rfl] at xW
 have hne:=XX 10 (sb s) []
 have hcl:=O4 10 (sb s) []
 rw[cM] at hcl
 generalize nQ 10 (sb s) []=L at *
 obtain⟨m,hm⟩:∃m,L.length=m+1:=⟨L.length - 1,by have:=List.length_pos_iff.2 hne;omega⟩
 obtain⟨y,hy⟩:∃y,L[m]?=some y:=⟨_,eE (by omega)⟩
 have hgl:L.getLast?=some y:=by rw[T8,hm];exact hy
 rw[hgl] at hP
 refine aD.drop (Q:=E7 T) (aD.fin ?_)
 have qD:T=none→∀(b:Nat) (l:List Cl) (s0:aB),(l.map bX≠[]→s0 b=none)→aM s0 st→∃b2 l2 s1,a7 s0 b (l.map bX)=a7 s1 b2 l2∧(l2≠[]→s1 b2=none)∧(∀e∈l2,e.cF=false)∧gZ l2∧aM s1 st∧E7 T ((AV.tup [.fslice [],.bool false]).fin b2 l2):=by
  rintro rfl b l s0 hb hD
  exact⟨b,_,s0,rfl,hb,J4 _,⟨5,zN _⟩,hD,by simp only[E7,jQ,pC,oD,bA,aW]⟩
 refine wF [1000000] 1 func205 ntmps205 rfl rfl ?_
 intro _
 simp -implicitDefEqProofs only[aA,seval,yJ]
 refine(xW _).to ?_
 have hat:=bM (av:=lZ) iR hy rfl
 have hw0:=nY (x:=(L.length:Int) - 1) (m:=m) (by omega) (by omega)
 by_cases h21:21<L.length
 case pos=>
  rw[aH (Or.inl h21)] at hP
  have KT:((21:Int)<(L.length:Int))=True:=dB (by omega)
  simp -implicitDefEqProofs only[aF,KT,bU,aA,seval,yJ]
  exact qD hP.symm 0 [] st (by simp) (aM.refl _)
 have KT:((21:Int)<(L.length:Int))=False:=cH (by omega)
 by_cases hye:y= []
 case neg=>
  rw[aH (Or.inr (by simpa using hye))] at hP
  have Q0:(ba y=⟨#[]⟩)=False:=cH fun h=>hye (by have:=gV sb h;exact this)
  simp -implicitDefEqProofs only[aF,KT,hw0,hat,lZ,Q0,bZ,aA,seval,yJ]
  exact qD hP.symm 0 [] st (by simp) (aM.refl _)
 rw[aE (by rintro(h | h);exact h21 h;exact h (by rw[hye]))] at hP
 have Q0:(ba y=⟨#[]⟩)=True:=dB (by rw[hye])
 simp -implicitDefEqProofs only[aF,KT,hw0,hat,lZ,Q0,bU,bZ,aA,seval,yJ]
 refine iE (σ:=Nat×List Cl×Nat) [1000000] [5] (fun x=>x.1≤m∧AL (L.dropLast.drop x.1) x.2.1=T∧x.2.1.length=x.1∧(∀c∈x.2.1,vI c)∧(x.2.1.map bX≠[]→st x.2.2=none)) (fun x=>[(2,.fslice []),(3,.bool false),(4,bD 5 x.2.2 (x.2.1.map bX)),(6,.int .i64 (x.1:Int))]) (fun x=>a7 st x.2.2 (x.2.1.map bX)) (fun x=>m - x.1) (by decide +kernel) ⟨(0,[],0),⟨jD _,hP,rfl,by simp,by simp⟩,aO.mk (by simp -implicitDefEqProofs only[aW,jG,aA,↓aU,seval])⟩ ?_
 rintro⟨i,acc,b⟩ ⟨hi,ht,hlen,hdn,hb⟩
 simp only at hi ht hlen hdn hb ⊢
 have hdl:L.dropLast.length=m:=by rw[List.length_dropLast,hm];try rfl
 have hw1:=bO (n:=(i:Int)+1)
 by_cases him:i<m
 case neg=>
  have QJ:((i:Int)+1<(L.length:Int))=False:=cH (by omega)
  rw[BR (by omega)] at ht
  simp only[AL] at ht
  simp -implicitDefEqProofs only[aF,QJ,hw1,nL,lN,tD,bZ,aA,seval,yJ]
  exact⟨b,_,st,rfl,hb,J4 _,⟨5,zN _⟩,aM.refl _,by rw[←ht];simp only[E7,jQ,pC,lV,bA,aW]⟩
 have QJ:((i:Int)+1<(L.length:Int))=True:=dB (by omega)
 obtain⟨z,hz⟩:∃z,L[i]?=some z:=⟨_,eE (by omega)⟩
 have hz2:L.dropLast[i]?=some z:=by rw[List.getElem?_dropLast,aH (by omega)];exact hz
 obtain⟨hz3,hz4⟩:=gP.1 hz2
 rw[qS hz3,hz4] at ht
 unfold AL at ht
 have aW7:=bM (av:=lZ) iR hz rfl
 have hpc:=aRL (ba z)
 rw[show sb (ba z)=z from rfl] at hpc
 simp -implicitDefEqProofs only[aF,QJ,hw1,aW7,lZ,bU,aA,seval,yJ]
 refine(hpc _).to ?_
 cases hc:oO z with
 | none=>
  rw[hc] at ht
  simp -implicitDefEqProofs only[yT,fY,aA,↓aU,seval,yJ]
  exact qD ht.symm b acc st hb (aM.refl _)
 | some c=>
  rw[hc] at ht
  simp only at ht
  have hcd:=(aLO hc).1
  have hca:=CP c
  have hcw:=nO c
  have hcj:=J3 c
  have hcs:=XS c
  have hcc:=XR c
  simp -implicitDefEqProofs only[yT,hca,hcw,hcj,hcs,aA,↓aU,seval,yJ]
  refine eW gW kA kB rfl rfl (fM hcw hcs) (zN _) hb (by simp only[aF,aS,aZ];omega) (by simp only[aF,aS,aZ];omega) (fun b' hb'=>?_)
  rw[show acc.map bX++ [bX c]=(acc++ [c]).map bX by simp] at hb' ⊢
  simp -implicitDefEqProofs only[hw1,aA,seval]
  refine⟨(i+1,acc++ [c],b'),by simp only;omega,⟨by simp only;omega,ht,by simp only[dM,aS,aZ];omega,?_,hb'⟩,aO.mk (by simp -implicitDefEqProofs only[aA,seval]<;>rfl)⟩
  intro x hx
  rw[fF,I4] at hx
  rcases hx with hx | rfl
  · exact hdn x hx
  · exact hcd
def E8(o:Option (List Tm)):AV:=match o with | some l=>.tup [.slice (l.map Tm.av),.bool true] | none=>.tup [.slice [],.bool false]
theorem a06{l:List UInt8}{q:List Tm}(h:nA l=some q):kF q=true∧∀t∈q,Dn t:=by
 unfold nA at h
 split at h
 · cases h
 rename_i g e h1
 split at h
 · rename_i h2
   cases h
   exact⟨h2.2.2,(KR h2.1 7 0 [] _ _ (jD _) (by simp) h1).2.2.1⟩
 · cases h
abbrev uO:=zi tI_3 (zi zI_3 (zi aX (zi tI_4 (zi zI_4 (zi cE (zi tI_9 (zi zI_9 (zi cI (zi tI_31 (zi zI_31 (zi aN (zi bG (zi bH (zi b9 (zi tI_66 (zi zI_66 (zi bQ (zi bR (zi bS (zi bT bP))))))))))))))))))))
set_option maxHeartbeats 1000000 in
theorem V4(s:ByteArray)(st:aB):aD prog 207 [.str s] st (fun r st'=>r=E8 (nA (sb s))∧st'=st):=by
 refine aD.pZ (aD.fin ?_)
 have qD:nA (sb s)=none→∃b l s0,st=a7 s0 b l∧(l≠[]→s0 b=none)∧(∀e∈l,e.cF=false)∧gZ l∧(AV.tup [.fslice [],.bool false]).fin b l=E8 (nA (sb s))∧aM s0 st:=fun h=>by
  rw[h]
  exact⟨0,[],st,rfl,by simp,by simp,⟨4,by simp⟩,by simp only[E8,jQ,pC,oD,bA,aW],aM.refl _⟩
 refine wF [1000000] 1 func207 ntmps207 rfl rfl ?_
 intro _
 by_cases hs:s.size≤1000
 case neg=>
  have hs':((1000:Int)<(s.size:Int))=True:=dB (by omega)
  have hP:nA (sb s)=none:=by
   unfold nA
   split
   · rfl
   · rw[aE fun h=>hs (by rw[←cM];exact h.1)]
  simp -implicitDefEqProofs only[hs',bU,aA,seval,uO]
  exact qD hP
 have hs':((1000:Int)<(s.size:Int))=False:=cH (by omega)
 have h0:=fun st=>WW hs 0 (jD _) st
 rw[show((0:Nat):Int)=0 from rfl] at h0
 simp -implicitDefEqProofs only[hs',bZ,aA,seval,uO]
 refine(h0 _).mono ?_
 rintro r st ⟨hr,rfl⟩
 cases hG:sK (sb s) 7 0 [] with
 | none=>
  have hP:nA (sb s)=none:=by unfold nA;rw[hG]
  rw[hG] at hr
  simp only[rV] at hr
  subst hr
  have he:((-1:Int)=(s.size:Int))=False:=cH (by omega)
  simp -implicitDefEqProofs only[he,bZ,aA,seval,uO]
  exact qD hP
 | some p=>
  obtain⟨g,e⟩:=p
  rw[hG] at hr
  simp only[rV] at hr
  subst hr
  have hg:=KR (by rw[cM];exact hs) 7 0 [] _ _ (jD _) (by simp) hG
  rw[cM] at hg
  simp -implicitDefEqProofs only[aA,seval,uO]
  by_cases he:e=s.size
  case neg=>
   have hP:nA (sb s)=none:=by
    unfold nA
    rw[hG]
    simp only
    rw[aE fun h=>he (by rw[←cM];exact h.2.1)]
   have he':((e:Int)=(s.size:Int))=False:=cH (by omega)
   simp -implicitDefEqProofs only[he',bZ,aA,seval,uO]
   exact qD hP
  have he':((e:Int)=(s.size:Int))=True:=dB (by omega)
  simp -implicitDefEqProofs only[he',bU,aA,seval]
  refine(XH g _).to ?_
  cases hq:kF g with
  | false=>
   have hP:nA (sb s)=none:=by
    unfold nA
    rw[hG]
    simp only
    rw[aE fun h=>by rw[hq] at h;exact absurd h.2.2 (by decide)]
   simp -implicitDefEqProofs only[aA,seval,uO]
   exact qD hP
  | true=>
   have hP:nA (sb s)=some g:=by
    unfold nA
    rw[hG]
    simp only
    rw[aH ⟨by rw[cM];exact hs,by rw[cM];exact he,hq⟩]
   have hg6:g.length≤6:=by
    simp only[kF,cA,bJ] at hq
    exact hq.1
   simp -implicitDefEqProofs only[aA,seval,uO]
   refine eP (σ:=Nat) [1000000] [2,3,4] g (fun i b=>((g.take i).map Tm.av≠[]→st b=none)) (fun i b=>[(6,bD 4 b ((g.take i).map Tm.av)),(7,.int .i64 i)]) (fun i b=>a7 st b ((g.take i).map Tm.av)) (by decide +kernel) ⟨0,fun h=>absurd rfl h,aO.mk (by simp -implicitDefEqProofs only[jG,aA,↓aU,seval])⟩ (fun i x b hx hlt bV hdr hinv=>?_) (fun b hge hinv=>?_)
   case refine_1=>
    have hw:=bO (n:=(i:Int)+1)
    have cZ:((g.take i).map Tm.av).length=i:=by simp only[aF,dS];omega
    have htk:(g.take i).map Tm.av++ [x.av]=(g.take (i+1)).map Tm.av:=by rw[fG,hx];simp
    have hat:=bM (av:=Tm.av) aN hx (aJ x)
    simp -implicitDefEqProofs only[bV,aF,hat,aT,aJ,aA,seval,uO]
    refine(zJ x _ (hg.2.2.1 x (cP hx)).2).to ?_
    simp -implicitDefEqProofs only[aT,aJ,cG,aA,seval,uO]
    refine eW aN bG bH rfl rfl (fM (aJ _) (cC _)) (d6 _) hinv (by simp only[cZ,aS,aZ];omega) (by simp only[cZ,aS,aZ];omega) (fun b' hb'=>?_)
    rw[htk] at hb' ⊢
    simp -implicitDefEqProofs only[hw,aA,seval]
    exact⟨b',hb',aO.mk (by simp -implicitDefEqProofs only[aA,seval])⟩
   rw[eS] at hinv ⊢
   simp -implicitDefEqProofs only[aF,hge,nL,lN,tD,aA,seval,uO]
   rw[hP]
   exact⟨b,_,st,rfl,hinv,iU _,⟨4,d6 _⟩,by simp only[E8,jQ,pC,lV,bA,aW],aM.refl _⟩
end Go.AW
namespace Go.AW

theorem qX.fin{s0:aB}{b:Nat}{l:List AV}{r:AV}(h0:l≠[]→s0 b=none)(h2:∀e∈l,e.cF=false)(h3:gZ l):y9 (a7 s0 b l) s0∧qX (a7 s0 b l) r s0 (r.fin b l):=by
 cases l with
 | nil=>exact⟨(aM.refl _).tG,fun h v S y=>y.soft⟩
 | cons e l=>
  have hb:=h0 (by simp)
  have h1:a7 s0 b (e::l) b=some (.cells ((e::l).flatMap AV.cells)):=by simp only[a7,aB.aP]
  have e1:(a7 s0 b (e::l)).erase b=s0:=by simp only[a7];exact aB.vO _ _ _ hb
  refine⟨?_,fun h v S y=>?_⟩
  · have:=(jI (a7 s0 b (e::l)) b).tG
    rwa [e1] at this
  · have:=y.fz S h1 h2 h3
    rw[e1] at this
    exact this.soft
theorem qX.tail{s0:aB}{b k w:Nat}{l:List AV}(hb:s0 b=none)(hk:k<l.length)(h2:∀e∈l,e.cF=false)(hw:∀e∈l,e.width=w):y9 (a7 s0 b l) s0∧qX (a7 s0 b l) (.mslice b (k*w) (l.length - k) w) s0 (.slice (l.drop k)):=by
 have hl:l≠[]:=by rintro rfl;simp at hk
 have h1:a7 s0 b l b=some (.cells (l.flatMap AV.cells)):=by rw[jP hl,aB.aP]
 have e1:(a7 s0 b l).erase b=s0:=by rw[jP hl];exact aB.vO _ _ _ hb
 refine⟨?_,fun h v S y=>?_⟩
 · have:=(jI (a7 s0 b l) b).tG
   rwa [e1] at this
 · obtain⟨f1,f2⟩:=frozen S h1 h2
   rw[e1] at f2
   obtain⟨cap,hv,l1,l2,_⟩:=y.AP
   have hE:=c9.drop k hw f2
   rw[hH] at hE
   subst hv
   refine⟨rfl,?_⟩
   unfold VC
   exact .inr ⟨b,k*w,cap,by rw[mX];try rfl,by rw[mX];exact l1,l2,hb,f1,⟨w,fun e he=>hw e (List.mem_of_mem_drop he)⟩,hE⟩
theorem aD.aIZ{P:Program}{g:FuncId}{args:List AV}{st:aB}{Q:AV→aB→Prop}(x:aD P g args st (fun r st'=>∃r2 s2,(y9 st' s2∧qX st' r s2 r2)∧Q r2 s2)):aD P g args st Q:=
 x.mT fun r st' ⟨r2,s2,⟨h1,h2⟩,h3⟩=>⟨r2,s2,h1,h2,h3⟩
end Go.AW
namespace Go.AW
open Go.Proofs.Tryz
theorem a2S{P:Program}{t:TypeId}{ag:Bool}{w b n:Nat}(hI:eI P t=some (ag,w))(h1:1<n)(φ:AF):g7 P φ t (.mslice b 0 n w) (some (.const (.int .i64 1))) none none=some (.mslice b (0+1*w) (n - 1) w):=by
 have h2:dZ φ none n n=some n:=rfl
 have h3:dZ φ (some (.const (.int .i64 1))) 0 n=some 1:=by
  show(if((0:Nat):Int)≤1∧(1:Int)≤(n:Int) then some (Int.toNat 1) else none)=some 1
  rw[aH ⟨by omega,by omega⟩]
  try rfl
 unfold g7 oA
 rw[aE (by simp [qG])]
 simp only[hI,h2,h3]
 rw[aH trivial,aE (by decide),aH h1]
def zG:Cl:=(.mk 3 0 ⟨#[122]⟩ [],[])
abbrev H9:=zi tI_3 (zi zI_3 (zi aX (zi tI_9 (zi zI_9 (zi cI (zi tI_29 (zi zI_29 (zi gW (zi kA (zi kB (zi lL (zi tI_31 (zi zI_31 (zi aN (zi bG (zi bH (zi b9 (zi tI_84 (zi zI_84 (zi kV (zi kW (zi kU (zi tI_116 zI_116)))))))))))))))))))))))
set_option maxHeartbeats 2000000 in
theorem aTA(bs:List Bt)(c p:Nat)(l:List Cl)(hl:∀x∈l,vI x)(h1:2≤l.length)(h2:l.length≤40)(st:aB)(hp:p+1000000≤1099511627776)(hR:dO st c bs p) :
 aD prog 138 [.ptr c 0,.slice (l.map bX)] st (Dr bs c p 1000000 st (fun r=>∃l':List Cl,r=.slice (l'.map bX))):=by
 refine aD.aIZ ?_
 have QS:st.aC c (cD bs p)=st:=TQ hR
 have jY:∀(q b:Nat) (acc:List Cl),p≤q→q≤p+1000000→(acc.map bX≠[]→(st.aC c (cD bs q)) b=none)→∃r2 s2,(y9 (a7 (st.aC c (cD bs q)) b (acc.map bX)) s2∧qX (a7 (st.aC c (cD bs q)) b (acc.map bX)) (bD 5 b (acc.map bX)) s2 r2)∧Dr bs c p 1000000 st (fun r=>∃l':List Cl,r=.slice (l'.map bX)) r2 s2:=fun q b acc g1 g2 hb=>by
  have:=qX.fin (r:=bD 5 b (acc.map bX)) hb (J4 _) ⟨5,zN _⟩
  rw[iP] at this
  exact⟨_,_,this,q,g1,g2,rfl,acc,rfl⟩
 have hRq:∀(q b:Nat) (L:List AV),(L≠[]→(st.aC c (cD bs q)) b=none)→dO (a7 (st.aC c (cD bs q)) b L) c bs q∧∀o,(a7 (st.aC c (cD bs q)) b L).aC c o=a7 (st.aC c o) b L∧(L≠[]→(st.aC c o) b=none):=fun q b L hb=>by
  have hne:L≠[]→c≠b:=fun h e=>by have:=hb h;rw[←e,aB.aP] at this;cases this
  refine⟨?_,fun o=>⟨?_,fun h=>?_⟩⟩
  · unfold dO
    by_cases h:L= []
    · rw[h,xF,aB.aP];try rfl
    · rw[oY (hne h),aB.aP];try rfl
  · rw[oZ hne,dC]
  · have:=hb h
    rw[aB.aL _ _ (dD (hne h))] at this ⊢
    exact this
 refine wF [1000000] 2 func138 ntmps138 rfl rfl ?_
 simp only[eC,AV.fits,eF,aF]
 intro _
 simp -implicitDefEqProofs only[aA,seval,H9]
 refine eP (σ:=Nat×Nat×List Cl) [1000000] [0,1,4] l (fun i x=>p≤x.1∧x.1≤p+6000*i∧x.2.2.length=i∧(x.2.2.map bX≠[]→(st.aC c (cD bs x.1)) x.2.1=none)) (fun i x=>[(5,bD 5 x.2.1 (x.2.2.map bX)),(6,.int .i64 i)]) (fun i x=>a7 (st.aC c (cD bs x.1)) x.2.1 (x.2.2.map bX)) (by decide +kernel) ⟨(p,0,[]),⟨c7 _,by simp only;omega,rfl,fun h=>absurd rfl h⟩,by
  simp only[aW,xF,QS]
  exact aO.mk (by simp -implicitDefEqProofs only[jG,aA,↓aU,seval])⟩ (fun i x s hx hlt bV hdr hinv=>?_) (fun s hge hinv=>?_)
 case refine_1=>
  obtain⟨q,b,acc⟩:=s
  obtain⟨g1,g2,g3,g4⟩:=hinv
  simp only at g1 g2 g3 g4
  have hw:=bO (n:=(i:Int)+1)
  have hat:=bM (av:=bX) gW hx (nO x)
  have hcw:=nO x
  have hca:=CP x
  obtain⟨k1,k2⟩:=hRq _ _ _ g4
  simp -implicitDefEqProofs only[bV,aF,hat,hcw,hca,aA,seval,H9]
  refine(aS9 bs c q x (hl x (cP hx)) _ (by omega) k1).mono ?_
  rintro _ _ ⟨q2,r1,r2,rfl,y,rfl⟩
  obtain⟨k3,k4⟩:=k2 (cD bs q2)
  rw[k3]
  have hya:=CP y
  have hyw:=nO y
  have hyj:=J3 y
  have hys:=XS y
  have hyc:=XR y
  simp -implicitDefEqProofs only[hya,hyw,hyj,aA,seval,H9]
  refine eW gW kA kB rfl rfl (fM hyw hys) (zN _) k4 (by simp only[aF,aS,aZ];omega) (by simp only[aF,aS,aZ];omega) (fun b' hb'=>?_)
  rw[show acc.map bX++ [bX y]=(acc++ [y]).map bX by simp] at hb' ⊢
  simp -implicitDefEqProofs only[hw,aA,seval]
  exact⟨(q2,b',acc++ [y]),⟨by simp only;omega,by simp only;omega,by simp only[dM,aS,aZ];omega,hb'⟩,aO.mk (by simp -implicitDefEqProofs only[aA,seval])⟩
 obtain⟨q,b,acc⟩:=s
 obtain⟨g1,g2,g3,g4⟩:=hinv
 simp only at g1 g2 g3 g4
 obtain⟨k1,k2⟩:=hRq _ _ _ g4
 simp -implicitDefEqProofs only[aF,hge,aA,seval,H9]
 refine(nN bs c q (by omega) 30 (by omega) (by omega) _ k1).mono ?_
 rintro _ _ ⟨j,hj,rfl,rfl⟩
 obtain⟨k3,k4⟩:=k2 (cD bs (q+1))
 rw[k3]
 have QW:prog.underlying 29=some (.slice 84):=by kernel_rfl
 simp -implicitDefEqProofs only[aA,seval]
 refine aQ (fun h0=>?_) (fun h0=>?_)
 · simp -implicitDefEqProofs only[aA,seval]
   refine iE (σ:=Nat×List Cl) [1000000] [4,24] (fun x=>(x.2.map bX≠[]→(st.aC c (cD bs (q+1))) x.1=none)∧x.2.length≤41) (fun x=>[(5,bD 5 x.1 (x.2.map bX))]) (fun x=>a7 (st.aC c (cD bs (q+1))) x.1 (x.2.map bX)) (fun x=>41 - x.2.length) (by decide +kernel) ⟨(b,acc),⟨k4,by simp only;omega⟩,aO.mk (by simp -implicitDefEqProofs only[aA,seval])⟩ ?_
   rintro⟨b,acc⟩ ⟨i1,i2⟩
   simp only at i1 i2
   have haL:=tS (w:=5) (b:=b) (l:=acc.map bX) QW
   rw[aF] at haL
   simp -implicitDefEqProofs only[haL,aA,seval]
   refine aQ (fun h1=>?_) (fun h1=>?_)
   case refine_2=>
    simp -implicitDefEqProofs only[aA,seval]
    exact jY _ _ _ (by omega) (by omega) i1
   simp only[bJ] at h1
   simp -implicitDefEqProofs only[aA,seval]
   refine(sB ⟨#[122]⟩ [] (by simp) _).to ?_
   simp -implicitDefEqProofs only[aV,aW,aA,seval,H9]
   refine eW (xs:=[.agg [.int .i64 3,.int .i64 0,.str ⟨#[122]⟩,.slice [],.fslice []]]) gW kA kB rfl rfl (fM rfl rfl) (zN _) i1 (by simp only[aF,aS,aZ];omega) (by simp only[aF,aS,aZ];omega) (fun b' hb'=>?_)
   have hb2:(acc++ [zG]).map bX≠[]→(st.aC c (cD bs (q+1))) b'=none:=fun _=>hb' (by simp)
   have iG:a7 (st.aC c (cD bs (q+1))) b' (acc.map bX++ [.agg [.int .i64 3,.int .i64 0,.str ⟨#[122]⟩,.slice [],.fslice []]]) b'=some (.cells (((acc.map bX).flatMap AV.cells++ [.int .i64 3,.int .i64 0,.str ⟨#[122]⟩,.slice []])++ .fslice []:: [])):=by
    rw[jP (by simp),aB.aP]
    simp [AV.cells]
   have aKE:=fun φ=>fX.a2U (φ:=φ) iG
   have aYU:(a7 (st.aC c (cD bs (q+1))) b' (acc.map bX++ [.agg [.int .i64 3,.int .i64 0,.str ⟨#[122]⟩,.slice [],.fslice []]])).aC b' (.cells (((acc.map bX).flatMap AV.cells++ [.int .i64 3,.int .i64 0,.str ⟨#[122]⟩,.slice []])++(AV.fslice []).soft:: []))=a7 (st.aC c (cD bs (q+1))) b' ((acc++ [zG]).map bX):=by
    rw[jP (by simp),dC,jP (by simp)]
    congr 2
    simp [AV.cells,AV.soft,zG,fY]
   rw[aYU] at aKE
   have hV:bD 5 b' (acc.map bX++ [.agg [.int .i64 3,.int .i64 0,.str ⟨#[122]⟩,.slice [],.fslice []]])=bD 5 b' ((acc++ [zG]).map bX):=by
    rw[o0 (by simp),o0 (by simp)]
    simp
   rw[hV]
   simp -implicitDefEqProofs only[aA,seval]
   refine⟨(b',acc++ [zG]),by simp only[dM,aS,aZ];omega,⟨hb2,by simp only[dM,aS,aZ];omega⟩,(aKE _).trans (aO.mk (by simp -implicitDefEqProofs only[aA,seval]))⟩
 simp -implicitDefEqProofs only[aA,seval]
 refine aQ (fun h1=>?_) (fun h1=>?_)
 · have hne:acc.map bX≠[]:=fun h=>by have:=gV List.length h;simp at this;subst this;simp at g3;omega
   have hlen:(acc.map bX).length=acc.length:=aF _
   have hsl:=a2S (P:=prog) (b:=b) gW (show 1<acc.length by omega)
   have hb0:=k4 hne
   simp -implicitDefEqProofs only[o0 hne,hlen,hsl,aA,seval]
   have hT:=qX.tail (k:=1) (w:=5) hb0 (by rw[hlen];omega) (J4 acc) (zN acc)
   rw[hlen] at hT
   simp only[Nat.one_mul] at hT ⊢
   exact⟨_,_,hT,q+1,by omega,by omega,rfl,acc.drop 1,by rw[EZ]⟩
 · skip
   simp -implicitDefEqProofs only[aA,seval]
   exact jY _ _ _ (by omega) (by omega) k4
abbrev H8:=zi tI_3 (zi zI_3 (zi aX (zi tI_9 (zi zI_9 (zi cI (zi tI_31 (zi zI_31 (zi aN (zi bG (zi bH (zi b9 (zi tI_66 (zi zI_66 (zi bQ (zi bR (zi bS (zi bT (zi bP (zi tI_116 zI_116)))))))))))))))))))
set_option maxHeartbeats 2000000 in
theorem aTP(bs:List Bt)(c p:Nat)(l:List Tm)(hl:∀x∈l,Dn x)(h2:l.length≤40)(st:aB)(hp:p+1000000≤1099511627776)(hR:dO st c bs p) :
 aD prog 125 [.ptr c 0,.slice (l.map Tm.av)] st (Dr bs c p 1000000 st (fun r=>∃l':List Tm,l'.length≤41∧r=.slice (l'.map Tm.av))):=by
 refine aD.aIZ ?_
 have QS:st.aC c (cD bs p)=st:=TQ hR
 have jY:∀(q b:Nat) (acc:List Tm),acc.length≤41→p≤q→q≤p+1000000→(acc.map Tm.av≠[]→(st.aC c (cD bs q)) b=none)→∃r2 s2,(y9 (a7 (st.aC c (cD bs q)) b (acc.map Tm.av)) s2∧qX (a7 (st.aC c (cD bs q)) b (acc.map Tm.av)) (bD 4 b (acc.map Tm.av)) s2 r2)∧Dr bs c p 1000000 st (fun r=>∃l':List Tm,l'.length≤41∧r=.slice (l'.map Tm.av)) r2 s2:=fun q b acc g0 g1 g2 hb=>by
  have:=qX.fin (r:=bD 4 b (acc.map Tm.av)) hb (iU _) ⟨4,d6 _⟩
  rw[iP] at this
  exact⟨_,_,this,q,g1,g2,rfl,acc,g0,rfl⟩
 have hRq:∀(q b:Nat) (L:List AV),(L≠[]→(st.aC c (cD bs q)) b=none)→dO (a7 (st.aC c (cD bs q)) b L) c bs q∧∀o,(a7 (st.aC c (cD bs q)) b L).aC c o=a7 (st.aC c o) b L∧(L≠[]→(st.aC c o) b=none):=fun q b L hb=>by
  have hne:L≠[]→c≠b:=fun h e=>by have:=hb h;rw[←e,aB.aP] at this;cases this
  refine⟨?_,fun o=>⟨?_,fun h=>?_⟩⟩
  · unfold dO
    by_cases h:L= []
    · rw[h,xF,aB.aP];try rfl
    · rw[oY (hne h),aB.aP];try rfl
  · rw[oZ hne,dC]
  · have:=hb h
    rw[aB.aL _ _ (dD (hne h))] at this ⊢
    exact this
 refine wF [1000000] 2 func125 ntmps125 rfl rfl ?_
 simp only[eC,AV.fits,eF,aF]
 intro _
 simp -implicitDefEqProofs only[aA,seval,H8]
 refine eP (σ:=Nat×Nat×List Tm) [1000000] [0,1,4] l (fun i x=>p≤x.1∧x.1≤p+10*i∧x.2.2.length=i∧(x.2.2.map Tm.av≠[]→(st.aC c (cD bs x.1)) x.2.1=none)) (fun i x=>[(5,bD 4 x.2.1 (x.2.2.map Tm.av)),(6,.int .i64 i)]) (fun i x=>a7 (st.aC c (cD bs x.1)) x.2.1 (x.2.2.map Tm.av)) (by decide +kernel) ⟨(p,0,[]),⟨c7 _,by simp only;omega,rfl,fun h=>absurd rfl h⟩,by
  simp only[aW,xF,QS]
  exact aO.mk (by simp -implicitDefEqProofs only[jG,aA,↓aU,seval])⟩ (fun i x s hx hlt bV hdr hinv=>?_) (fun s hge hinv=>?_)
 case refine_1=>
  obtain⟨q,b,acc⟩:=s
  obtain⟨g1,g2,g3,g4⟩:=hinv
  simp only at g1 g2 g3 g4
  have hw:=bO (n:=(i:Int)+1)
  have hat:=bM (av:=Tm.av) aN hx (aJ x)
  obtain⟨k1,k2⟩:=hRq _ _ _ g4
  simp -implicitDefEqProofs only[bV,aF,hat,aJ,aT,aA,seval,H8]
  refine(ON bs c q x (hl x (cP hx)).2 _ (by omega) k1).mono ?_
  rintro _ _ ⟨q2,r1,r2,rfl,y,rfl⟩
  obtain⟨k3,k4⟩:=k2 (cD bs q2)
  rw[k3]
  simp -implicitDefEqProofs only[aJ,aT,cG,aA,seval,H8]
  refine eW aN bG bH rfl rfl (fM (aJ _) (cC _)) (d6 _) k4 (by simp only[aF,aS,aZ];omega) (by simp only[aF,aS,aZ];omega) (fun b' hb'=>?_)
  rw[show acc.map Tm.av++ [y.av]=(acc++ [y]).map Tm.av by simp] at hb' ⊢
  simp -implicitDefEqProofs only[hw,aA,seval]
  exact⟨(q2,b',acc++ [y]),⟨by simp only;omega,by simp only;omega,by simp only[dM,aS,aZ];omega,hb'⟩,aO.mk (by simp -implicitDefEqProofs only[aA,seval])⟩
 obtain⟨q,b,acc⟩:=s
 obtain⟨g1,g2,g3,g4⟩:=hinv
 simp only at g1 g2 g3 g4
 obtain⟨k1,k2⟩:=hRq _ _ _ g4
 simp -implicitDefEqProofs only[aF,hge,aA,seval,H8]
 refine(nN bs c q (by omega) 30 (by omega) (by omega) _ k1).mono ?_
 rintro _ _ ⟨j,hj,rfl,rfl⟩
 obtain⟨k3,k4⟩:=k2 (cD bs (q+1))
 rw[k3]
 have QW:prog.underlying 31=some (.slice 66):=by kernel_rfl
 simp -implicitDefEqProofs only[aA,seval]
 refine aQ (fun h0=>?_) (fun h0=>?_)
 · simp -implicitDefEqProofs only[aA,seval]
   refine iE (σ:=Nat×List Tm) [1000000] [4] (fun x=>(x.2.map Tm.av≠[]→(st.aC c (cD bs (q+1))) x.1=none)∧x.2.length≤41) (fun x=>[(5,bD 4 x.1 (x.2.map Tm.av))]) (fun x=>a7 (st.aC c (cD bs (q+1))) x.1 (x.2.map Tm.av)) (fun x=>41 - x.2.length) (by decide +kernel) ⟨(b,acc),⟨k4,by simp only;omega⟩,aO.mk (by simp -implicitDefEqProofs only[aA,seval])⟩ ?_
   rintro⟨b,acc⟩ ⟨i1,i2⟩
   simp only at i1 i2
   have haL:=tS (w:=4) (b:=b) (l:=acc.map Tm.av) QW
   rw[aF] at haL
   simp -implicitDefEqProofs only[haL,aA,seval]
   refine aQ (fun h1=>?_) (fun h1=>?_)
   case refine_2=>
    simp -implicitDefEqProofs only[aA,seval]
    exact jY _ _ _ i2 (by omega) (by omega) i1
   simp only[bJ] at h1
   simp -implicitDefEqProofs only[aA,seval]
   refine(sB ⟨#[116,114,117,101]⟩ [] (by simp) _).to ?_
   simp -implicitDefEqProofs only[aT,aJ,cG,aA,seval,H8]
   refine eW aN bG bH rfl rfl (fM (aJ _) (cC _)) (d6 _) i1 (by simp only[aF,aS,aZ];omega) (by simp only[aF,aS,aZ];omega) (fun b' hb'=>?_)
   rw[show acc.map Tm.av++ [(Tm.mk 3 0 ⟨#[116,114,117,101]⟩ []).av]=(acc++ [Tm.mk 3 0 ⟨#[116,114,117,101]⟩ []]).map Tm.av by simp] at hb' ⊢
   simp -implicitDefEqProofs only[aA,seval]
   exact⟨(b',acc++ [Tm.mk 3 0 ⟨#[116,114,117,101]⟩ []]),by simp only[dM,aS,aZ];omega,⟨hb',by simp only[dM,aS,aZ];omega⟩,aO.mk (by simp -implicitDefEqProofs only[aA,seval])⟩
 · skip
   simp -implicitDefEqProofs only[aA,seval]
   exact jY _ _ _ (by omega) (by omega) (by omega) k4
abbrev a36:=zi tI_3 (zi zI_3 (zi aX (zi tI_46 (zi zI_46 (zi dH (zi fA (zi eX (zi fB (zi tI_116 zI_116)))))))))
theorem aTO(bs:List Bt)(c p:Nat)(st:aB)(hp:p+10≤1099511627776)(hR:dO st c bs p):aD prog 137 [.ptr c 0] st (Dr bs c p 10 st (fun r=>∃n:Int,r=.int .i64 n)):=by
 refine wF [1000000] 1 func137 ntmps137 rfl rfl ?_
 intro _
 simp -implicitDefEqProofs only[aA,seval,a36]
 refine(xI [20,3,1,5,0,21,-1] (by simp) (by simp) bs c p (by omega) _ hR).mono ?_
 rintro _ _ ⟨x,hx,rfl,rfl⟩
 simp -implicitDefEqProofs only[aA,seval]
 exact⟨p+1,by omega,by omega,rfl,x,rfl⟩
abbrev a38:=zi tI_3 (zi zI_3 (zi aX (zi tI_46 (zi zI_46 (zi dH (zi fA (zi eX (zi fB (zi tI_116 zI_116)))))))))
theorem aTN(bs:List Bt)(c p:Nat)(st:aB)(hp:p+10≤1099511627776)(hR:dO st c bs p):aD prog 139 [.ptr c 0] st (Dr bs c p 10 st (fun r=>∃n:Int,-1≤n∧n≤301∧r=.int .i64 n)):=by
 refine wF [1000000] 1 func139 ntmps139 rfl rfl ?_
 intro _
 simp -implicitDefEqProofs only[aA,seval,a38]
 refine(xI [100,60,200,10,300,0,301,-1] (by simp) (by simp) bs c p (by omega) _ hR).mono ?_
 rintro _ _ ⟨x,hx,rfl,rfl⟩
 simp -implicitDefEqProofs only[aA,seval]
 refine⟨p+1,by omega,by omega,rfl,x,?_,?_,rfl⟩<;>(simp only[cX,dN,dV] at hx;omega)
abbrev a39:=zi tI_147 (zi zI_147 (zi iR (zi lS (zi lT mR))))
theorem aTC(st:aB):aD prog 204 [] st (fun r st'=>r=.slice (MY.map AV.str)∧st'=st):=by
 refine aD.done ?_
 refine wF [1000000] 0 func204 ntmps204 rfl rfl ?_
 intro _
 simp -implicitDefEqProofs only[aA,seval,a39]
 exact⟨rfl,aM.refl _⟩
abbrev a4A:=zi tI_147 (zi zI_147 (zi iR (zi lS (zi lT mR))))
theorem aTR(st:aB):aD prog 267 [] st (fun r st'=>r=.slice (TM.map AV.str)∧st'=st):=by
 refine aD.done ?_
 refine wF [1000000] 0 func267 ntmps267 rfl rfl ?_
 intro _
 simp -implicitDefEqProofs only[aA,seval,a4A]
 exact⟨rfl,aM.refl _⟩
theorem aAW{α:Type}{P:Program}{t:TypeId}{ag:Bool}{w:Nat}{av:α→AV}{l:List α}{i:Nat}{x:α}(hI:eI P t=some (ag,w))(h:l[i]?=some x)(hw:(av x).width=w):dF P t (.fslice (l.map av)) (.int .i64 (i:Int))=some (.pptr (av x)):=by
 simp only[dF,hI,kR,mW,h,n0,hw]
 simp
theorem aVK{P:Program}{φ:AF}{st:aB}{t u v w:Tmp}{K:AV→aB→Prop}:nC P [.tmp t,.tmp u,.tmp v,.tmp w] K φ st=(kP [φ t,φ u,φ v,φ w]=true∧K (.tup [φ t,φ u,φ v,φ w]) st):=rfl
def aJA(l:List ByteArray):AV:=.fslice (l.map AV.str)
abbrev RZ (q:List Tm):Prop:=q.length≤6∧∀t∈q,Dn t
theorem aLU(s:ByteArray):∃q:List Tm,RZ q∧∃f,E8 (nA (sb s))=.tup [.slice (q.map Tm.av),.bool f]:=by
 cases h:nA (sb s) with
 | none=>exact⟨[],⟨by simp,by simp⟩,false,rfl⟩
 | some q=>
  obtain⟨h1,h2⟩:=a06 h
  exact⟨q,⟨(HJ h1).1,h2⟩,true,rfl⟩
theorem a09{s:ByteArray}(h:RR s=true):s.size≤200∧∃l:List Cl,AZ (sb s)=some l∧2≤l.length∧l.length≤20∧∀c∈l,vI c:=by
 unfold RR at h
 rw[cA,bJ] at h
 refine⟨h.1,?_⟩
 have h2:=h.2
 cases hp:AZ (sb s) with
 | none=>rw[hp] at h2;simp at h2
 | some l=>
  rw[hp] at h2
  simp only[cA,bJ] at h2
  refine⟨l,rfl,h2.1,h2.2,fun c hc=>?_⟩
  unfold AZ at hp
  simp only at hp
  split at hp
  · cases hp
  · exact((XT _ [] l (by simp) hp).1 c hc).1
abbrev aN1:=zi tI_3 (zi zI_3 (zi aX (zi tI_9 (zi zI_9 (zi cI (zi tI_31 (zi zI_31 (zi aN (zi bG (zi bH (zi b9 (zi tI_116 (zi zI_116 (zi tI_147 (zi zI_147 (zi iR (zi lS (zi lT mR))))))))))))))))))
theorem aTS(bs:List Bt)(c p:Nat)(st:aB)(hp:p+10≤1099511627776)(hR:dO st c bs p):aD prog 206 [.ptr c 0] st (Dr bs c p 10 st (fun r=>∃q:List Tm,RZ q∧r=.slice (q.map Tm.av))):=by
 refine wF [1000000] 1 func206 ntmps206 rfl rfl ?_
 intro _
 simp -implicitDefEqProofs only[aA,seval]
 refine(aTR _).to ?_
 simp -implicitDefEqProofs only[aF,aA,seval,aN1]
 refine(nN bs c p (by omega) TM.length (by decide) (by decide) _ hR).mono ?_
 rintro _ _ ⟨k,hk,rfl,rfl⟩
 obtain⟨x,hx⟩:∃x,TM[k]?=some x:=⟨_,eE hk⟩
 have hat:=bM (av:=AV.str) iR hx rfl
 simp -implicitDefEqProofs only[hat,aA,seval,aN1]
 refine(V4 x _).to ?_
 obtain⟨q,hq,f,hf⟩:=aLU x
 rw[hf]
 simp -implicitDefEqProofs only[aA,seval]
 exact⟨p+1,by omega,by omega,rfl,q,hq,rfl⟩
abbrev IA:=zi tI_3 (zi zI_3 (zi aX (zi tI_5 (zi zI_5 (zi lM (zi tI_9 (zi zI_9 (zi cI (zi tI_29 (zi zI_29 (zi gW (zi kA (zi kB (zi lL (zi tI_31 (zi zI_31 (zi aN (zi bG (zi bH (zi b9 (zi tI_116 (zi zI_116 (zi tI_147 (zi zI_147 (zi iR (zi lS (zi lT (zi mR (zi tI_210 (zi zI_210 (zi X8 (zi aU9 (zi aVC a4K)))))))))))))))))))))))))))))))))
set_option maxHeartbeats 1000000 in
theorem aTQ(bs:List Bt)(c p:Nat)(st:aB)(hp:p+100≤1099511627776)(hR:dO st c bs p) :
 aD prog 123 [.ptr c 0] st (Dr bs c p 100 st (fun r=>∃(l:List Cl) (q:List Tm),(2≤l.length∧l.length≤20∧∀x∈l,vI x)∧RZ q∧r=.tup [.slice (l.map bX),.slice (q.map Tm.av)])):=by
 refine wF [1000000] 1 func123 ntmps123 rfl rfl ?_
 intro _
 simp -implicitDefEqProofs only[aA,seval]
 refine(aTC _).to ?_
 simp -implicitDefEqProofs only[aF,aA,seval,IA]
 refine(nN bs c p (by omega) MY.length (by decide) (by decide) _ hR).mono ?_
 rintro _ _ ⟨k,hk,rfl,rfl⟩
 obtain⟨x,hx⟩:∃x,MY[k]?=some x:=⟨_,eE hk⟩
 have hat:=bM (av:=AV.str) iR hx rfl
 have hk2:k<EN.length:=hk
 obtain⟨y,hy⟩:∃y,EN[k]?=some y:=⟨_,eE hk2⟩
 obtain⟨hxs,l,hl1,hl2,hl3,hl4⟩:=a09 (dW.1 a4H x (cP hx))
 have hyo:=dW.1 a4F y (cP hy)
 simp only[cA,bJ] at hyo
 have aJM:=aAW (P:=prog) (av:=aJA) X8 hy rfl
 simp only[EN,aJA,bA,aW] at aJM
 have hpp:=fun st=>aRM x (by omega) st
 rw[hl1] at hpp
 simp -implicitDefEqProofs only[hat,aA,seval,IA]
 refine(hpp _).mono ?_
 rintro _ _ ⟨rfl,rfl⟩
 simp -implicitDefEqProofs only[aJM,aA,seval,IA]
 refine(nN bs c (p+1) (by omega) 5 (by omega) (by omega) _ dO.new).mono ?_
 rintro _ _ ⟨j,hj,rfl,rfl⟩
 rw[dC]
 simp -implicitDefEqProofs only[aA,seval]
 refine aQ (fun h0=>?_) (fun h0=>?_)
 · simp -implicitDefEqProofs only[aA,seval]
   refine(aTS bs c (p+1+1) _ (by omega) dO.new).mono ?_
   rintro _ _ ⟨p2,r1,r2,rfl,q,hq,rfl⟩
   rw[dC]
   simp -implicitDefEqProofs only[aA,seval]
   exact⟨p2,by omega,by omega,rfl,l,q,⟨hl2,hl3,hl4⟩,hq,rfl⟩
 simp -implicitDefEqProofs only[aF,aA,seval,IA]
 refine(nN bs c (p+1+1) (by omega) y.length (by omega) (by have:=a4G y (cP hy);omega) _ dO.new).mono ?_
 rintro _ _ ⟨i,hi,rfl,rfl⟩
 rw[dC]
 obtain⟨z,hz⟩:∃z,y[i]?=some z:=⟨_,eE hi⟩
 have sM:=aAW (P:=prog) (av:=AV.str) iR hz rfl
 simp -implicitDefEqProofs only[sM,aA,seval,IA]
 refine(V4 z _).to ?_
 obtain⟨q,hq,f,hf⟩:=aLU z
 rw[hf]
 simp -implicitDefEqProofs only[aA,seval]
 exact⟨p+1+1+1,by omega,by omega,rfl,l,q,⟨hl2,hl3,hl4⟩,hq,rfl⟩
theorem aRD(code:List Bt)(st:aB):aD prog 57 [.slice (code.map iQ)] st (fun r st'=>(∃(p:List Cl) (q:List Tm) (most fuel:Int),(q.length≤41∧-1≤fuel∧fuel≤301)∧r=.tup [.slice (p.map bX),.slice (q.map Tm.av),.int .i64 most,.int .i64 fuel])∧st'=st):=by
 refine aD.drop ?_
 refine wF [1000000] 1 func57 ntmps57 rfl rfl ?_
 intro _
 simp -implicitDefEqProofs only[aA,seval]
 refine(aSE code _).mono ?_
 rintro _ _ ⟨c,bs,rfl,hc,rfl⟩
 have hD:∀o,aM (st.aC c o) st:=fun o=>(aM.refl _).aC hc
 simp -implicitDefEqProofs only[aA,seval]
 refine(aTQ bs c 0 _ (by omega) dO.new).mono ?_
 rintro _ _ ⟨p1,r1,r2,rfl,l,q,⟨l1,l2,l3⟩,⟨q1,q2⟩,rfl⟩
 rw[dC]
 simp -implicitDefEqProofs only[aA,seval]
 refine(aTO bs c p1 _ (by omega) dO.new).mono ?_
 rintro _ _ ⟨p2,s1,s2,rfl,n,rfl⟩
 rw[dC]
 simp -implicitDefEqProofs only[aA,seval]
 refine(aTA bs c p2 l l3 l1 (by omega) _ (by omega) dO.new).mono ?_
 rintro _ _ ⟨p3,t1,t2,rfl,l',rfl⟩
 rw[dC]
 simp -implicitDefEqProofs only[aA,seval]
 refine(aTP bs c p3 q q2 (by omega) _ (by omega) dO.new).mono ?_
 rintro _ _ ⟨p4,u1,u2,rfl,q',u3,rfl⟩
 rw[dC]
 simp -implicitDefEqProofs only[aA,seval]
 refine(aTN bs c p4 _ (by omega) dO.new).mono ?_
 rintro _ _ ⟨p5,v1,v2,rfl,m,w1,w2,rfl⟩
 rw[dC]
 simp -implicitDefEqProofs only[aVK,aA,seval]
 exact⟨hD _,l',q',n,m,⟨u3,w1,w2⟩,rfl⟩
end Go.AW
namespace Go.AW

end Go.AW
namespace Go.AW
open Go.Proofs.Tryz

end Go.AW
