import Derived.Test.YthigelfjekcbmaaGreatDoorUzs
import Derived.Test.YthigelfjekcbmaaGreatDoorUzk
import Derived.Test.YthigelfjekcbmaaGreatDoorUzh
import Derived.Test.YthigelfjekcbmaaGreatDoorUzl
import Derived.Test.YthigelfjekcbmaaGreatDoorUzp
import Derived.Test.YthigelfjekcbmaaGreatDoorUzn
import Derived.Test.YthigelfjekcbmaaGreatDoorUzr
import Derived.Test.YthigelfjekcbmaaGreatDoorUzt
set_option linter.unusedSimpArgs false
set_option linter.unusedVariables false
set_option maxRecDepth 100000
namespace Go.AW
open Go.Proofs.Tryz
section
variable {H:Type} {enc:TypeId×Value→H} {w:World}
theorem aYV:prog.cellsOf 5=1:=by kernel_rfl
theorem a5S(n:Nat):Reads enc prog w 5 n gE:=by
 intro cs x h
 obtain⟨k,rfl,_,hw⟩:=DataW.trod_int mH h
 simp only[Lit.wf,IntKind.min,IntKind.max,IntKind.signed,IntKind.bits,cE,bK] at hw
 refine⟨⟨k.toNat,?_⟩,?_⟩
 · simp at hw;omega
 · have:(((k.toNat:Nat)):Int)=k:=by simp at hw;omega
   simp only[gE,this,VC]
theorem yB(n:Nat):Reads enc prog w 47 n (fun l:List Bt=>.slice (l.map gE)):=
 a5T pJ aYV (by omega) MC fun m _=>a5S m
end
section
variable {H:Type} {enc:TypeId×Value→H} {w:World}
theorem yN{r:Reach}{b0:Nat}{t e:TypeId}{v:Value}(ht:prog.underlying t=some (.slice e))(h:Value.okWide prog w r b0 t v):lY v=false:=by
 cases v<;>first | rfl | (simp [Value.okWide,ht,Cell.okWide,Cell.ok] at h)
end


theorem a60(s:Ss):(cQ s).width=6:=rfl
theorem a6Z(s:Ss):(cQ s).cells.all AV.storable=true:=rfl
theorem a6Y(s:Ss):(cQ s).cJ=false:=rfl
end Go.AW
namespace Go.AW
def C5:AV→Bool
 | .int _ _ | .bool _ | .str _=>true
 | _=>false
theorem aP2{st:aB}{a o:AV}{bs:List Nat}(h:C5 a=true):bL st a o bs↔o=a∧bs= []:=by
 cases a<;>simp [C5] at h<;>simp [bL]
theorem a4X{st:aB}{a:AV}{es os:List AV}{bs:List Nat}(h:C5 a=true):bA st (a::es) os bs↔∃os',os=a::os'∧bA st es os' bs:=by
 simp only[bA]
 constructor
 · rintro⟨o,os',b1,b2,rfl,rfl,x1,x2⟩
   obtain⟨rfl,rfl⟩:=(aP2 h).1 x1
   exact⟨os',rfl,x2⟩
 · rintro⟨os',rfl,x⟩
   exact⟨a,os',[],bs,rfl,rfl,(aP2 h).2 ⟨rfl,rfl⟩,x⟩
def D3:List AV→List AV→List AV
 | [],_=>[]
 | a::es,qs=>if C5 a then a::D3 es qs else match qs with
  | q::qs=>q::D3 es qs
  | []=>[]
theorem GA{st:aB}:∀ {es os:List AV} {bs:List Nat},bA st es os bs↔∃qs,os=D3 es qs∧bA st (es.filter fun a=> !C5 a) qs bs
 | [],os,bs=>by
  simp only[bA,D3,List.filter_nil]
  constructor
  · rintro⟨rfl,rfl⟩;exact⟨[],rfl,rfl,rfl⟩
  · rintro⟨qs,rfl,rfl,rfl⟩;exact⟨rfl,rfl⟩
 | a::es,os,bs=>by
  cases h:C5 a with
  | true=>
   rw[a4X h]
   simp only[D3,h,List.filter_cons,pM,jR,d4,fS]
   constructor
   · rintro⟨os',rfl,x⟩
     obtain⟨qs,rfl,y⟩:=GA.1 x
     exact⟨qs,rfl,y⟩
   · rintro⟨qs,rfl,y⟩
     exact⟨_,rfl,GA.2 ⟨qs,rfl,y⟩⟩
  | false=>
   simp only[D3,h,List.filter_cons,oU,jR,d4,fS,bA]
   constructor
   · rintro⟨o,os',b1,b2,rfl,rfl,x1,x2⟩
     obtain⟨qs,rfl,y⟩:=GA.1 x2
     exact⟨o::qs,rfl,o,qs,b1,b2,rfl,rfl,x1,y⟩
   · rintro⟨qs,rfl,o,os',b1,b2,rfl,rfl,x1,y⟩
     exact⟨o,_,b1,b2,rfl,rfl,x1,GA.2 ⟨os',rfl,y⟩⟩
theorem a41{st:aB}{cs:List AV}{o:AV}{bs:List Nat}:bL st (.agg cs) o bs↔∃qs,o=.agg (D3 cs qs)∧bA st (cs.filter fun a=> !C5 a) qs bs:=by
 simp only[bL]
 constructor
 · rintro⟨os,rfl,x⟩
   obtain⟨qs,rfl,y⟩:=GA.1 x
   exact⟨qs,rfl,y⟩
 · rintro⟨qs,rfl,y⟩
   exact⟨_,rfl,GA.2 ⟨qs,rfl,y⟩⟩
def aO0:AV→Bool
 | .slice _=>true
 | _=>false
def One(q:AV):Prop:=q.cells= [q]∧q.storable=true∧q.isAgg=false∧q.width=1∧q.cJ=false
theorem bA.VS{st:aB}:∀ {es os:List AV} {bs:List Nat},bA st es os bs→es.all aO0=true→∀q∈os,One q
 | [],os,bs,x,_=>by simp only[bA] at x;rw[x.1];simp
 | a::es,os,bs,x,h=>by
  simp only[bA] at x
  obtain⟨o,os',b1,b2,rfl,rfl,x1,x2⟩:=x
  simp only[k0,cE] at h
  intro q hq
  rcases dB.1 hq with rfl | hq
  · cases a<;>simp [aO0] at h
    exact bL.nT x1
  · exact bA.VS x2 h.2 q hq
structure qE (st:aB) (ds:List Nat) (es os:List AV) (bs:List Nat) (s:aB):Prop where
 nd:bs.Nodup
 fresh:∀b∈bs,st b=none
 apart:∀d∈ds,st d=none∧d∉bs∧s d≠none
 own:bA s es os bs
 a7:∀x,x∉bs→x∉ds→s x=st x
theorem qE.start{st:aB}{ds:List Nat}{s:aB}(h1:∀d∈ds,st d=none∧s d≠none)(h2:∀x,x∉ds→s x=st x):qE st ds [] [] [] s:=
 ⟨mK,by simp,fun d hd=>⟨(h1 d hd).1,by simp,(h1 d hd).2⟩,⟨rfl,rfl⟩,fun x _ h=>h2 x h⟩
theorem qE.aC{st:aB}{ds:List Nat}{es os:List AV}{bs:List Nat}{s:aB}(c:qE st ds es os bs s){d:Nat}(hd:d∈ds)(o:AO):qE st ds es os bs (s.aC d o):=by
 refine⟨c.nd,c.fresh,fun e he=>⟨(c.apart e he).1,(c.apart e he).2.1,?_⟩,bA.a7 _ _ _ (fun b hb=>aB.aG _ _ (fun e=>(c.apart d hd).2.1 (e▸hb))) c.own,fun x h1 h2=>?_⟩
 · by_cases h:e=d
   · subst h;rw[aB.aJ];simp
   · rw[aB.aG _ _ h];exact(c.apart e he).2.2
 · have hx:x≠d:=by rintro rfl;exact h2 hd
   rw[aB.aG _ _ hx];exact c.a7 x h1 h2
theorem qE.made{st:aB}{ds:List Nat}{es os:List AV}{bs:List Nat}{s s':aB}{a r:AV}(c:qE st ds es os bs s)(m:Made s a r s'):(∀d∈ds,s' d=s d)∧∃bs',qE st ds (es++ [a]) (os++ [r]) bs' s':=by
 obtain⟨b2,m1,m2,m3,m4⟩:=m
 have hb:∀b∈bs,b∉b2:=fun b hb hb'=>by
  obtain⟨cs,e,_⟩:=(bA.gV _ _ _ c.own).2 b hb
  rw[m2 b hb'] at e;cases e
 have hd:∀d∈ds,d∉b2:=fun d hd hd'=>(c.apart d hd).2.2 (m2 d hd')
 have hf:∀b∈b2,st b=none:=fun b h2=>by
  have h1:b∉bs:=fun h=>hb b h h2
  have h3:b∉ds:=fun h=>hd b h h2
  rw[←c.a7 b h1 h3];exact m2 b h2
 refine⟨fun d h=>m4 d (hd d h),bs++b2,n6.2 ⟨c.nd,m1,fun x hx y hy e=>hb x hx (e▸hy)⟩,fun b h=>?_,fun d h=>⟨(c.apart d h).1,?_,?_⟩,?_,fun x h1 h2=>?_⟩
 · rcases eK.1 h with h | h
   · exact c.fresh b h
   · exact hf b h
 · simp only[eK,oG];exact⟨(c.apart d h).2.1,hd d h⟩
 · rw[m4 d (hd d h)];exact(c.apart d h).2.2
 · exact bA.snoc c.own (fun b h=>m4 b (hb b h)) m3
 · simp only[eK,oG] at h1
   rw[m4 x h1.2,c.a7 x h1.1 h2]
theorem qE.done{st:aB}{ds:List Nat}{es os:List AV}{bs:List Nat}{s:aB}(c:qE st ds es os bs s){a r:AV}(h:bA s es os bs→bL s a r bs):∃ds,YB st ds a r s:=
 ⟨ds,bs,c.nd,c.fresh,fun d hd=>⟨(c.apart d hd).1,(c.apart d hd).2.1⟩,h c.own,fun b h1 h2=>c.a7 b h1 h2⟩
theorem qE.two{st:aB}{b b2:Nat}{o o2:AO}(hb:st b=none)(hb2:(st.aC b o) b2=none):b2≠b∧qE st [b,b2] [] [] [] ((st.aC b o).aC b2 o2):=by
 have hne:b2≠b:=by rintro rfl;rw[aB.aJ] at hb2;cases hb2
 have hn2:st b2=none:=by rw[aB.aG st _ hne] at hb2;exact hb2
 refine⟨hne,qE.start (fun d hd=>?_) (fun x hx=>?_)⟩
 · simp only[dB,dV,eA] at hd
   rcases hd with rfl | rfl
   · exact⟨hb,by rw[aB.aG _ _ (dG hne),aB.aJ];simp⟩
   · exact⟨hn2,by rw[aB.aJ];simp⟩
 · simp only[dB,dV,eA,oG] at hx
   rw[aB.aG _ _ hx.2,aB.aG _ _ hx.1]
abbrev Fr:=Int×ByteArray
structure Clt where
 rest:List Bt
 brk:Bool
 wait:List Fr
 prog:List Cl
 act:Bool
 ses:Ss
 told:Bool
 out:List Fr
structure Sv where
 cs:List Clt
 dR:Int
end Go.AW
namespace Go.AW
open Go.Proofs.Tryz



noncomputable def dH(s:Ss)(u:Int):List (List Tm)×Int:=
 ((d8 s.p (fun _ l=>l) s.q 20 u).1,if(d8 s.p (fun _ l=>l) s.q 20 u).2=2∧u<s.dR then -1 else(d8 s.p (fun _ l=>l) s.q 20 u).2)
noncomputable def v3(s:Ss):List (List Tm)×Int:=dH s s.used
def wE(s:Ss):Bool:=oJ s.p&&(kY s.q&&(decide (0≤s.dR)&&(decide (s.dR≤300)&&(decide (0≤s.used)&&decide (s.used≤s.dR)))))
def GO(s:Ss):Bool:=decide (s.used=0)&&(decide (s.sent=0)&&decide (s.fin= -1))
noncomputable def fO(s:Ss):Bool:=wE s&&(GO s||(decide (s.sent=((v3 s).1.length:Int))&&decide (s.fin=(v3 s).2)))
theorem WQ{s:Ss}(h:wE s=true):gH s.p s.q 20 s.used=true:=by
 simp only[wE,cE,bK] at h
 obtain⟨h1,h2,h3,h4,h5,h6⟩:=h
 simp only[gH,h1,h2,eP]
 rw[gJ h5,gJ (show s.used≤300 by omega)]
 decide
abbrev aRZ:=zi tI_3 (zi zI_3 (zi aU (zi tI_27 (zi zI_27 (zi eH (zi gK (zi gN (zi iJ (zi tI_28 (zi zI_28 (zi aO (zi bF (zi bG (zi bZ (zi tI_30 (zi zI_30 (zi iL (zi iM (zi iN (zi iO (zi iP (zi iQ (zi iK (zi tI_31 (zi zI_31 (zi gM (zi jX (zi jY lX))))))))))))))))))))))))))))
theorem aAJ(s:Ss)(u:Int)(h:gH s.p s.q 20 u=true)(st:aB):aD prog 89 [cQ s,.int .i64 u] st (fun r st'=>r=.tup [.slice ((dH s u).1.map cD),.int .i64 (dH s u).2]∧st'=st):=by
 have hok:=h
 simp only[gH,cE,bK] at h
 obtain⟨kp,kq,_,_,k3,k4⟩:=h
 obtain⟨p1,p2⟩:=OL kp
 obtain⟨q1,q2⟩:=J6 kq
 have hr:=aA7 p2 p1 q2 q1 (most:=20) (fuel:=u.toNat) (by omega) (by omega)
 rw[show((20:Nat):Int)=20 from rfl,show((u.toNat:Nat):Int)=u by omega] at hr
 have hs:d8 s.p (fun _ l=>l) s.q 20 u=uV s.p (fun _ l=>l) s.q 20 u.toNat:=by
  unfold d8
  rw[aH hok]
  try rfl
 rw[←hs] at hr
 unfold dH
 generalize d8 s.p (fun _ l=>l) s.q 20 u=T at *
 obtain⟨L,e⟩:=T
 simp only at hr ⊢
 obtain⟨p,q,i0,i1,i2,i3⟩:=s
 simp only[cQ] at *
 refine wF [1000000] 2 func89 ntmps89 rfl rfl ?_
 intro _
 simp -implicitDefEqProofs only[aA,seval,aRZ]
 refine(hr _).to ?_
 repeat' (first
  | (simp -implicitDefEqProofs only[*,aA,seval,aRZ])
  | (refine cU (fun h=>?_) (fun h=>?_))
  | (refine aQ (fun h=>?_) (fun h=>?_)))
 all_goals simp_all
theorem aWP(s:Ss)(h:wE s=true)(st:aB):aD prog 89 [cQ s,.int .i64 s.used] st (fun r st'=>r=.tup [.slice ((v3 s).1.map cD),.int .i64 (v3 s).2]∧st'=st):=aAJ s s.used (WQ h) st
abbrev aRX:=zi tI_3 (zi zI_3 (zi aU (zi tI_4 (zi zI_4 (zi cI (zi tI_27 (zi zI_27 (zi eH (zi gK (zi gN (zi iJ (zi tI_28 (zi zI_28 (zi aO (zi bF (zi bG (zi bZ (zi tI_30 (zi zI_30 (zi iL (zi iM (zi iN (zi iO (zi iP (zi iQ (zi iK (zi tI_31 (zi zI_31 (zi gM (zi jX (zi jY lX)))))))))))))))))))))))))))))))
theorem aBJ(s:Ss)(st:aB):aD prog 37 [cQ s] st (fun r st'=>r=.bool (fO s)∧st'=st):=by
 have ha:=aWP s
 unfold fO
 generalize v3 s=T at *
 obtain⟨L,e⟩:=T
 obtain⟨p,q,i0,i1,i2,i3⟩:=s
 simp only[cQ,wE,GO] at *
 refine aD.done ?_
 refine wF [1000000] 1 func37 ntmps37 rfl rfl ?_
 intro _
 simp -implicitDefEqProofs only[aA,seval,aRX]
 repeat' (first
  | (simp -implicitDefEqProofs only[*,aF,aA,seval,aRX])
  | (refine cU (fun h=>?_) (fun h=>?_))
  | (refine(SJ p _).to ?_) | (refine(MM q _).to ?_) | (refine(ha (by simp_all) _).to ?_)
  | (refine aQ (fun h=>?_) (fun h=>?_)))
 all_goals (refine⟨?_,aL.refl _⟩;simp only[AV.soft];first | (simp_all;done) | (simp_all;intros;omega))
abbrev aRY:=zi tI_3 (zi zI_3 (zi aU (zi tI_27 (zi zI_27 (zi eH (zi gK (zi gN (zi iJ (zi tI_28 (zi zI_28 (zi aO (zi bF (zi bG (zi bZ (zi tI_30 (zi zI_30 (zi iL (zi iM (zi iN (zi iO (zi iP (zi iQ (zi iK (zi tI_31 (zi zI_31 (zi gM (zi jX (zi jY lX))))))))))))))))))))))))))))
theorem aAC(s:Ss)(u:Int)(st:aB):aD prog 88 [cQ s,.int .i64 u] st (QS st ((dH s u).1.map cD) (dH s u).2):=by
 have hr:=aAE s.p s.q 20 u
 unfold dH
 generalize d8 s.p (fun _ l=>l) s.q 20 u=T at *
 obtain⟨L,e⟩:=T
 simp only at hr ⊢
 obtain⟨p,q,i0,i1,i2,i3⟩:=s
 simp only[cQ] at *
 refine wF [1000000] 2 func88 ntmps88 rfl rfl ?_
 intro _
 simp -implicitDefEqProofs only[aA,seval,aRY]
 refine(hr _).mono ?_
 intro r s1 h
 obtain⟨o,rfl,hM,hN⟩:=h
 obtain⟨hqc,hqs,hqa,hqw,hqj⟩:=bL.nT hM.choose_spec.2.2.1
 repeat' (first
  | (simp -implicitDefEqProofs only[*,aA,seval,aRY])
  | (refine cU (fun h=>?_) (fun h=>?_))
  | (refine aQ (fun h=>?_) (fun h=>?_)))
 all_goals exact⟨o,by simp_all,hM,hN⟩
theorem aWE(s:Ss)(u:Int)(st:aB):aD prog 88 [cQ s,.int .i64 u] st (k6 st [.slice ((dH s u).1.map cD),.int .i64 (dH s u).2]):=
 (aAC s u st).mono fun _ _ ⟨o,h1,h2,_⟩=>by subst h1;exact k6.VP h2
theorem aWD(s:Ss)(k:Int)(st:aB):aD prog 88 [cQ s,.int .i64 s.used] st (k6 st [.slice ((v3 s).1.map cD),.int .i64 (v3 s).2]):=aWE s s.used st
abbrev aRW:=zi tI_3 (zi zI_3 (zi aU (zi tI_4 (zi zI_4 (zi cI (zi tI_27 (zi zI_27 (zi eH (zi gK (zi gN (zi iJ (zi tI_28 (zi zI_28 (zi aO (zi bF (zi bG (zi bZ (zi tI_30 (zi zI_30 (zi iL (zi iM (zi iN (zi iO (zi iP (zi iQ (zi iK (zi tI_31 (zi zI_31 (zi gM (zi jX (zi jY (zi lX (zi tI_300 (zi zI_300 (zi TE (zi TF (zi TH (zi TI (zi TJ (zi TK (zi TL (zi TM (zi TN (zi TO (zi TG RP)))))))))))))))))))))))))))))))))))))))))))))
theorem w7(s:Ss)(st:aB):aD prog 36 [cQ s] st (fun r st'=>r=.bool (fO s)∧st'=st):=by
 have ha:=fun st=>(aWD s 0 st).AC
 unfold fO
 generalize v3 s=T at *
 obtain⟨L,e⟩:=T
 obtain⟨p,q,i0,i1,i2,i3⟩:=s
 simp only[cQ,wE,GO] at *
 refine aD.done ?_
 refine wF [1000000] 1 func36 ntmps36 rfl rfl ?_
 intro _
 simp -implicitDefEqProofs only[aA,seval,aRW]
 repeat' (first
  | (simp -implicitDefEqProofs only[*,aF,aA,seval,aRW])
  | (refine cU (fun h=>?_) (fun h=>?_))
  | (refine(R6 p _).to ?_) | (refine(R7 q _).to ?_) | (refine(zP _ _ _ _).to ?_) | (refine(ha _).to ?_)
  | (refine aQ (fun h=>?_) (fun h=>?_)))
 all_goals (refine⟨?_,aL.refl _⟩;simp only[AV.soft];first | (simp_all;done) | (simp_all;intros;omega))
def dS(s:Ss)(n:Int):Int:=if n<s.dR - s.used then s.used+n else s.dR
noncomputable def kI(s:Ss)(n:Int):Ss:={ s with used:=dS s n,sent:=((dH s (dS s n)).1.length:Int),fin:=(dH s (dS s n)).2 }
noncomputable def AE(s:Ss)(n:Int):List (List Tm):=(dH s (dS s n)).1.drop s.sent.toNat
noncomputable def kR(s:Ss)(n:Int):Bool:=fO s&&(decide (0≤n)&&decide (s.fin= -1))
noncomputable def cA(s:Ss)(n:Int):Ss×List (List Tm):=if kR s n=true then(kI s n,AE s n) else(s,[])
structure SlF (s:Ss) (n:Int):Prop where
 rng:wE s=true
 ok:gH s.p s.q 20 (dS s n)=true
 u0:0≤s.used
 u1:s.used≤dS s n
 u2:dS s n≤s.dR
 q1:s.dR≤300
 s0:0≤s.sent
 s1:s.sent≤((dH s (dS s n)).1.length:Int)
 l:(dH s (dS s n)).1.length≤20
 nxt:fO (kI s n)=true
theorem OZ{s:Ss}:wE s=true↔oJ s.p=true∧kY s.q=true∧0≤s.dR∧s.dR≤300∧0≤s.used∧s.used≤s.dR:=by
 simp only[wE,cE,bK]
theorem tD{s:Ss}{n:Int}(h:fO s=true)(hn:0≤n):SlF s n:=by
 have h':=h
 simp only[fO,cE] at h'
 obtain⟨hr,hs⟩:=h'
 obtain⟨kp,kq,k1,k2,k3,k4⟩:=OZ.1 hr
 have hu1:s.used≤dS s n:=by unfold dS;split<;>omega
 have hu2:dS s n≤s.dR:=by unfold dS;split<;>omega
 have a2K:gH s.p s.q 20 s.used=true:=WQ hr
 have hok:gH s.p s.q 20 (dS s n)=true:=KG.2 ⟨kp,kq,by omega,by omega,by omega,by omega⟩
 have hl:=a6V (cnd:=fun _ l=>l) hok
 have N0:=(TS (cnd:=fun _ l=>l) a2K hu1 (by omega)).2.length_le
 have aOM:0≤s.sent∧s.sent≤((dH s (dS s n)).1.length:Int):=by
  simp only[oV,GO,cE,bK] at hs
  rcases hs with ⟨_,h2,_⟩ | ⟨h1,_⟩
  · omega
  · simp only[v3,dH] at h1 ⊢
    omega
 refine⟨hr,hok,k3,hu1,hu2,k2,aOM.1,aOM.2,by simp only[dH];omega,?_⟩
 simp only[fO,cE]
 refine⟨OZ.2 ⟨kp,kq,k1,k2,?_,hu2⟩,?_⟩
 · show 0≤dS s n
   omega
 · rw[oV]
   exact .inr (by rw[cE];exact⟨gJ rfl,gJ rfl⟩)
theorem YS{P:Program}{t:TypeId}{ag:Bool}{w:Nat}{φ:AF}{y:Operand}{L:List AV}{n:Nat}(hI:eI P t=some (ag,w))(hn:n≤L.length)(hw:∀e∈L,e.width=w)(h:φ.eval y=.int .i64 (n:Int)):fY P φ t (.slice L) (some y) none none=some (.slice (L.drop n)):=by
 have h1:dJ φ none L.length L.length=some L.length:=rfl
 have h3:dJ φ (some y) 0 L.length=some n:=by
  simp only[dJ,h]
  rw[aH ⟨by omega,by omega⟩]
  rw[jT]
 have hwd:wN L n w=true:=by
  unfold wN
  split
  · rename_i e he
    simp [hw e (dA he)]
  · rfl
 unfold fY nK
 rw[aE (by simp [pE])]
 simp only[hI,h1,h3,hwd]
 simp
theorem zJ(l:List (List Tm)):∀e∈l.map cD,e.width=1:=by intro e h;simp only[cY] at h;obtain⟨t,_,rfl⟩:=h;rfl
theorem aUF(l:List (List Tm)):∀e∈l.map cD,e.cJ=false:=by intro e h;simp only[cY] at h;obtain⟨t,_,rfl⟩:=h;rfl
abbrev A0:=zi tI_3 (zi zI_3 (zi aU (zi tI_30 (zi zI_30 (zi iL (zi iM (zi iN (zi iO (zi iP (zi iQ (zi iK (zi tI_31 (zi zI_31 (zi gM (zi jX (zi jY lX))))))))))))))))
set_option maxHeartbeats 2000000 in
theorem aWQ(s:Ss)(n:Int)(h:fO s=true)(hn:0≤n)(st:aB):aD prog 65 [cQ s,.int .i64 n] st (fun r st'=>r=.tup [cQ (kI s n),.slice ((AE s n).map cD)]∧st'=st):=by
 have hF:=tD h hn
 obtain⟨kp,kq,k1,k2,k3,k4⟩:=OZ.1 hF.rng
 obtain⟨p1,p2⟩:=OM kp
 obtain⟨q1,q2⟩:=OP kq
 have hcp:=MG s (by omega) p2 (by omega) q2
 have ha:=aAJ s (dS s n) hF.ok
 have hs0:=hF.s0
 have hs1:=hF.s1
 have hfl:=hF.l
 have hu0:=hF.u0
 have hu1:=hF.u1
 have hu2:=hF.u2
 have hq1:=hF.q1
 unfold kI AE
 generalize dH s (dS s n)=T at *
 obtain⟨L,e⟩:=T
 simp only at ha hs1 hfl ⊢
 have hnu:dS s n=if n<s.dR - s.used then s.used+n else s.dR:=rfl
 generalize dS s n=u at *
 obtain⟨p,q,i0,i1,i2,i3⟩:=s
 simp only[cQ] at *
 obtain⟨k,rfl⟩:=qF hs0
 refine aD.done ?_
 refine wF [1000000,6] 2 func65 ntmps65 rfl rfl ?_
 intro _
 simp -implicitDefEqProofs only[aA,seval,A0]
 intro b4 h4
 refine(hcp _).to ?_
 simp -implicitDefEqProofs only[aK,aA,↓aS,seval,A0]
 intro b6 h6
 have h64:b6≠b4:=by rintro rfl;rw[aB.aJ] at h6;cases h6
 have h6':st b6=none:=by rwa [aB.aG _ _ h64] at h6
 have hw0:=bO (n:=i0 - i1)
 have hsl:=fun(φ:AF) (y:Operand) (h:φ.eval y=.int .i64 (k:Int))=>YS (P:=prog) (t:=31) (L:=L.map cD) gM (by rw[aF];omega) (zJ L) h
 simp -implicitDefEqProofs only[hw0,seval]
 refine aQ (fun h1=>?_) (fun h1=>?_)
 · have h1':n<i0 - i1:=by simpa using h1
   rw[aH h1'] at hnu
   have hw1:=bO (n:=i1+n)
   rw[←hnu] at hw1
   simp -implicitDefEqProofs only[aK,hw1,←hnu,cK,aA,seval,A0]
   refine(ha _).to ?_
   simp -implicitDefEqProofs only[aF,aK,cK,aA,seval,A0]
   have gO:∀(o:AO),((st.aC b4 (.cells [.fslice [],.fslice [],.int .i64 0,.int .i64 0,.int .i64 0,.int .i64 0])).aC b6 o) b6=some o:=fun o=>aB.aJ _ _ _
   refine vF [(0,1),(1,1),(2,1),(3,1),(4,1),(5,0),(6,1)] [0,1,2,3,4,6] (dQ.aC b6 (.cells [.slice (p.map a9),.slice (q.map Tm.av),.int .i64 i0,.int .i64 (u),.int .i64 (L.length:Int),.int .i64 e])) mixed (by decide +kernel) (by decide +kernel) (by decide +kernel) rfl (eV (gO _)) ?_
   simp -implicitDefEqProofs only[aK,h64.symm,hsl,aA,seval,A0]
   exact⟨eV (by rw[aB.aG _ _ h64,aB.aJ]),by simp only[jI,jQ,jB,nA,bB,aW,jT,yW],(((aL.refl _).aC h4).aC h6').aC h4⟩
 · have h1':¬n<i0 - i1:=by simpa using h1
   rw[aE h1'] at hnu
   obtain rfl:i0=u:=hnu.symm
   simp -implicitDefEqProofs only[aA,seval,A0]
   refine(ha _).to ?_
   simp -implicitDefEqProofs only[aF,aK,cK,aA,seval,A0]
   have gO:∀(o:AO),((st.aC b4 (.cells [.fslice [],.fslice [],.int .i64 0,.int .i64 0,.int .i64 0,.int .i64 0])).aC b6 o) b6=some o:=fun o=>aB.aJ _ _ _
   refine vF [(0,1),(1,1),(2,1),(3,1),(4,1),(5,0),(6,1)] [0,1,2,3,4,6] (dQ.aC b6 (.cells [.slice (p.map a9),.slice (q.map Tm.av),.int .i64 i0,.int .i64 (i0),.int .i64 (L.length:Int),.int .i64 e])) mixed (by decide +kernel) (by decide +kernel) (by decide +kernel) rfl (eV (gO _)) ?_
   simp -implicitDefEqProofs only[aK,h64.symm,hsl,aA,seval,A0]
   exact⟨eV (by rw[aB.aG _ _ h64,aB.aJ]),by simp only[jI,jQ,jB,nA,bB,aW,jT,yW],(((aL.refl _).aC h4).aC h6').aC h4⟩
theorem mT{s:Ss}{n:Int}:kR s n=true↔fO s=true∧0≤n∧s.fin= -1:=by
 simp only[kR,cE,bK]
abbrev wJ:=zi tI_3 (zi zI_3 (zi aU (zi tI_4 (zi zI_4 (zi cI (zi tI_30 (zi zI_30 (zi iL (zi iM (zi iN (zi iO (zi iP (zi iQ (zi iK (zi tI_31 (zi zI_31 (zi gM (zi jX (zi jY lX)))))))))))))))))))
set_option maxHeartbeats 1000000 in
theorem MN(s:Ss)(n:Int)(hp:s.p.length≤1048576)(hps:∀c∈s.p,aBS c)(hq:s.q.length≤1048576)(hqs:∀t∈s.q,t.small=true)(st:aB):aD prog 16 [cQ s,.int .i64 n] st (fun r st'=>r=.tup [cQ (cA s n).1,.slice ((cA s n).2.map cD)]∧st'=st):=by
 have hv:=aBJ s
 have hcp:=MG s hp hps hq hqs
 have hsl:=fun h hn=>aWQ s n h hn
 have iW:kR s n=false→cA s n=(s,[]):=fun h=>by unfold cA;rw[h];try rfl
 have UO:kR s n=true→cA s n=(kI s n,AE s n):=fun h=>by unfold cA;rw[h];try rfl
 have xR:fO s=true→0≤n→s.fin= -1→kR s n=true:=fun a b c=>mT.2 ⟨a,b,c⟩
 have CU:kR s n=true→fO s=true∧0≤n∧s.fin= -1:=mT.1
 generalize kI s n=A at *
 generalize AE s n=M at *
 generalize cA s n=R at *
 generalize kR s n=cs at *
 generalize fO s=ok at *
 have hE:∀(o:AO) (b4:Nat),st b4=none→aL (st.aC b4 o) st:=fun o b4 h=>(aL.refl _).aC h
 obtain⟨p,q,i0,i1,i2,i3⟩:=s
 obtain⟨ap,aq,a0,a1,a2,a3⟩:=A
 simp only[cQ] at *
 refine aD.done ?_
 refine wF [1000000] 2 func16 ntmps16 rfl rfl ?_
 intro _
 simp -implicitDefEqProofs only[aA,seval,wJ]
 intro b4 h4
 refine(hv _).to ?_
 simp -implicitDefEqProofs only[aA,seval]
 cases ok with
 | false=>
  have:R=(⟨p,q,i0,i1,i2,i3⟩,[]):=iW (by cases cs with | false=>rfl | true=>exact absurd (CU rfl).1 (by decide))
  subst this
  simp -implicitDefEqProofs only[aA,seval,wJ]
  refine(hcp _).to ?_
  simp -implicitDefEqProofs only[aK,aA,seval,wJ]
  exact⟨by simp only[jI,jQ,jB,nA,lW,bB,aW],(aL.refl _).aC h4⟩
 | true=>
  simp -implicitDefEqProofs only[aA,seval]
  by_cases hn:0≤n
  case neg=>
   have:R=(⟨p,q,i0,i1,i2,i3⟩,[]):=iW (by cases cs with | false=>rfl | true=>exact absurd (CU rfl).2.1 hn)
   subst this
   have hn':(n<0)=True:=cM (by omega)
   simp -implicitDefEqProofs only[hn',bE,aA,seval,wJ]
   refine(hcp _).to ?_
   simp -implicitDefEqProofs only[aK,aA,seval,wJ]
   exact⟨by simp only[jI,jQ,jB,nA,lW,bB,aW],(aL.refl _).aC h4⟩
  have hn':(n<0)=False:=cB (by omega)
  simp -implicitDefEqProofs only[hn',bM,aA,seval,wJ]
  by_cases h3:i3= -1
  case neg=>
   have:R=(⟨p,q,i0,i1,i2,i3⟩,[]):=iW (by cases cs with | false=>rfl | true=>exact absurd (CU rfl).2.2 h3)
   subst this
   have h3':=cB h3
   simp -implicitDefEqProofs only[h3',bM,aA,seval,wJ]
   refine(hcp _).to ?_
   simp -implicitDefEqProofs only[aK,aA,seval,wJ]
   exact⟨by simp only[jI,jQ,jB,nA,lW,bB,aW],(aL.refl _).aC h4⟩
  have:R=(⟨ap,aq,a0,a1,a2,a3⟩,M):=UO (xR rfl hn h3)
  subst this
  have h3':=cM h3
  simp -implicitDefEqProofs only[h3',bE,aA,seval,wJ]
  refine(hsl rfl hn _).to ?_
  simp -implicitDefEqProofs only[aK,aA,seval,wJ]
  exact⟨by simp only[jI,jQ,jB,nA,bB,aW],(aL.refl _).aC h4⟩
theorem Made.VQ{st S:aB}{a r:AV}{bs:List Nat}(hnd:bs.Nodup)(kV:∀b∈bs,st b=none)(hO:bL S a r bs)(hk:∀x o,st x=some o→S x=some o):∃s2,aL S s2∧Made st a r s2:=by
 refine⟨fun x=>if x∈bs then S x else st x,fun x=>?_,bs,hnd,kV,bL.a7 _ _ _ (fun b hb=>aH hb) hO,fun b hb=>aE hb⟩
 dsimp only
 by_cases hx:x∈bs
 · rw[aH hx]
   exact⟨fun h=>h,fun o h=>h⟩
 · rw[aE hx]
   refine⟨fun h=>?_,fun o h=>hk x o h⟩
   cases hs:st x with
   | none=>rfl
   | some o=>rw[hk x o hs] at h;cases h
def EF(st:aB)(L:List AV)(k:Nat)(o:AV)(st':aB):Prop:=∃q,Made st (.slice L) q st'∧HI L.length k q o
def K3(b n k:Nat):AV:=if k<n then .mslice b (k*1) (n - k) 1 else .eslice
theorem aT2{P:Program}{t:TypeId}{ag:Bool}{φ:AF}{y:Operand}{b n k:Nat}(hI:eI P t=some (ag,1))(hk:k≤n)(hn:0<n)(h:φ.eval y=.int .i64 (k:Int)):fY P φ t (.mslice b 0 n 1) (some y) none none=some (K3 b n k):=by
 have h1:dJ φ none n n=some n:=rfl
 have h3:dJ φ (some y) 0 n=some k:=by
  simp only[dJ,h]
  rw[aH ⟨by omega,by omega⟩]
  rw[jT]
 unfold fY nK
 rw[aE (by simp [pE])]
 simp only[hI,h1,h3]
 rw[aH trivial]
 unfold K3
 by_cases h0:k=0
 · subst h0
   rw[aH rfl,aH hn]
   simp
 · rw[aE h0]
   by_cases hlt:k<n
   · rw[aH hlt,aH hlt,iA]
   · rw[aE hlt,aE hlt]
theorem aT1{P:Program}{t:TypeId}{ag:Bool}{w:Nat}{φ:AF}{y:Operand}(hI:eI P t=some (ag,w))(h:φ.eval y=.int .i64 0):fY P φ t (.fslice []) (some y) none none=some (.fslice []):=by
 have h1:dJ φ none 0 0=some 0:=rfl
 have h3:dJ φ (some y) 0 0=some 0:=by
  simp only[dJ,h]
  rw[aH ⟨by omega,by omega⟩]
  try rfl
 unfold fY
 rw[aH ⟨rfl,rfl⟩]
 simp only[hI,h1,h3]
theorem aZM{P:Program}{t:TypeId}:mO P t .eslice=match P.underlying t with | some (.slice _)=>some (.int .i64 ((0:Nat):Int)) | _=>none:=rfl
abbrev W9:=zi tI_31 (zi zI_31 (zi gM (zi jX (zi jY lX))))
theorem aTY{P:Program}{t:TypeId}{ag:Bool}{φ:AF}{y z:Operand}{b n off:Nat}(hI:eI P t=some (ag,1))(h:φ.eval y=.int .i64 (n:Int))(h':φ.eval z=.int .i64 (n:Int)):fY P φ t (.mslice b off n 1) none (some y) (some z)=some (.mslice b off n 1):=by
 have h3:∀y,φ.eval y=.int .i64 (n:Int)→dJ φ (some y) n n=some n:=fun y h=>by
  simp only[dJ,h]
  rw[aH ⟨by omega,by omega⟩]
  rw[jT]
 unfold fY nK
 rw[aE (by simp [pE])]
 simp only[hI,h3 y h,h3 z h']
 rw[aH trivial]
theorem aTZ{P:Program}{t:TypeId}{ag:Bool}{w:Nat}{φ:AF}{y z:Operand}(hI:eI P t=some (ag,w))(h:φ.eval y=.int .i64 0)(h':φ.eval z=.int .i64 0):fY P φ t .eslice none (some y) (some z)=some (.fslice []):=by
 have h3:∀y,φ.eval y=.int .i64 0→dJ φ (some y) 0 0=some 0:=fun y h=>by
  simp only[dJ,h]
  rw[aH ⟨by omega,by omega⟩]
  try rfl
 unfold fY nK
 rw[aE (by simp [pE])]
 simp only[hI,h3 y h,h3 z h']
theorem aT0{P:Program}{t:TypeId}{ag:Bool}{w:Nat}{φ:AF}{y z:Operand}(hI:eI P t=some (ag,w))(h:φ.eval y=.int .i64 0)(h':φ.eval z=.int .i64 0):fY P φ t (.fslice []) none (some y) (some z)=some (.fslice []):=by
 have h3:∀y,φ.eval y=.int .i64 0→dJ φ (some y) 0 0=some 0:=fun y h=>by
  simp only[dJ,h]
  rw[aH ⟨by omega,by omega⟩]
  try rfl
 have h4:dJ φ none 0 0=some 0:=rfl
 unfold fY nK
 rw[aE (by simp [pE])]
 simp only[hI,aX,h3 y h,h3 z h',h4]
 simp [wN]
theorem aV9(b off n:Nat)(st:aB):aD prog 113 [.mslice b off n 1] st (fun r st'=>r=.mslice b off n 1∧st'=st):=by
 refine wF [1000000] 1 func113 ntmps113 rfl rfl ?_
 intro _
 have hcl:=fun(φ:AF) (y z:Operand) (h:φ.eval y=.int .i64 (n:Int)) (h':φ.eval z=.int .i64 (n:Int))=>aTY (P:=prog) (t:=31) (b:=b) (off:=off) gM h h'
 simp -implicitDefEqProofs only[hcl,aA,seval,W9]
theorem aV7(st:aB):aD prog 113 [.eslice] st (fun r st'=>r=.fslice []∧st'=st):=by
 refine wF [1000000] 1 func113 ntmps113 rfl rfl ?_
 intro _
 have hcl:=fun(φ:AF) (y z:Operand) (h:φ.eval y=.int .i64 0) (h':φ.eval z=.int .i64 0)=>aTZ (P:=prog) (t:=31) gM h h'
 simp -implicitDefEqProofs only[hcl,aZM,aA,↓aS,seval,W9]
theorem aV8(st:aB):aD prog 113 [.fslice []] st (fun r st'=>r=.fslice []∧st'=st):=by
 refine wF [1000000] 1 func113 ntmps113 rfl rfl ?_
 intro _
 have hcl:=fun(φ:AF) (y z:Operand) (h:φ.eval y=.int .i64 0) (h':φ.eval z=.int .i64 0)=>aT0 (P:=prog) (t:=31) gM h h'
 simp -implicitDefEqProofs only[hcl,aX,aA,seval,W9]
abbrev PB:=zi tI_27 (zi zI_27 (zi eH (zi gK (zi gN (zi iJ (zi tI_28 (zi zI_28 (zi aO (zi bF (zi bG (zi bZ (zi tI_30 (zi zI_30 (zi iL (zi iM (zi iN (zi iO (zi iP (zi iQ iK)))))))))))))))))))
theorem aPO(s:Ss)(hp:s.p.length≤1048576)(hps:∀c∈s.p,CB c)(hq:s.q.length≤1048576)(hqx:∀t∈s.q,t.small=true)(st:aB):aD prog 66 [cQ s] st (Made st (cQ s)):=by
 obtain⟨p,q,i0,i1,i2,i3⟩:=s
 simp only at hp hps hq hqx
 simp only[cQ]
 refine aD.VH ?_
 refine wF [1000000,1] 1 func66 ntmps66 rfl rfl ?_
 intro _
 simp -implicitDefEqProofs only[aA,seval,PB]
 intro b hb1 b2 hb2
 obtain⟨hne,C0⟩:=qE.two hb1 hb2
 refine vF [(0,1),(1,1),(3,1),(4,1),(2,0),(6,1),(5,0),(7,2),(8,2),(9,2)] [0,1,3,4,6] (dQ.aC b (.cells [.slice (p.map a9),.slice (q.map Tm.av),.int .i64 i0,.int .i64 i1,.int .i64 i2,.int .i64 i3])) mixed (by decide +kernel) (by decide +kernel) (by decide +kernel) rfl (eV (by rw[aB.aG _ _ hne.symm,aB.aJ])) ?_
 simp -implicitDefEqProofs only[lG,aA,seval,PB]
 refine(aPN p _ hp fun x hx s=>aPM x s (hps x hx)).mono ?_
 rintro q0 s1 m1
 obtain⟨k1,bs1,C1⟩:=C0.made m1
 have e1:=k1 b (by simp)
 have e2:=k1 b2 (by simp)
 simp only[lG,hne,hne.symm,fS,d4] at e1 e2
 obtain⟨hqc,hqs,hqa,hqw,hqj⟩:=C1.own.VS rfl q0 (by simp)
 simp -implicitDefEqProofs only[aA,seval,PB]
 refine⟨eV e1,?_⟩
 refine(J1 q _ hq fun x hx s=>F0 x s (hqx x hx)).mono ?_
 rintro q1 s2 m2
 obtain⟨k2,bs2,C2⟩:=C1.made m2
 have f1:=k2 b (by simp)
 have f2:=k2 b2 (by simp)
 rw[e1] at f1
 rw[e2] at f2
 obtain⟨hrc,hrs,hra,hrw,hrj⟩:=C2.own.VS rfl q1 (by simp)
 simp -implicitDefEqProofs only[aK,lG,hne,f1,f2,hqc,hqs,hrc,hrs,cK,aA,seval,PB]
 refine⟨eV f1,?_⟩
 refine((C2.aC (d:=b) (by simp) _).aC (d:=b2) (by simp) _).done fun h=>?_
 exact a41.2 ⟨_,rfl,h⟩
theorem a66{st:aB}{L:List (List Tm)}{o:AV}{bs:List Nat}{k:Nat}(hO:bL st (.slice (L.map cD)) o bs)(hN:L.map cD= []→o=.fslice [])(hk:k≤L.length) :
 ∃o1 o2,(∀(φ:AF) (y:Operand),φ.eval y=.int .i64 (k:Int)→fY prog φ 31 o (some y) none none=some o1)∧mO prog 31 o=some (.int .i64 (L.length:Int)) ∧
  (∀s,aD prog 113 [o1] s (fun r s'=>r=o2∧s'=s))∧HI (L.map cD).length k o o2∧(o1.isAgg=false∧o1.cJ=false∧o1.width=1∧o1.cells= [o1]):=by
 have hun:prog.underlying 31=some (.slice 55):=by kernel_rfl
 by_cases hL:L= []
 · subst hL
   obtain rfl:=hN rfl
   obtain rfl:k=0:=by simpa using hk
   exact⟨.fslice [],.fslice [],fun φ y h=>aT1 gM h,by simp only[mO,hun];rfl,fun s=>aV8 s,.inr ⟨rfl,rfl⟩,rfl,rfl,rfl,rfl⟩
 have hl:0<L.length:=QP.2 hL
 simp only[bL] at hO
 rcases hO with ⟨h,_,_⟩ | ⟨b,bs',os,w,rfl,_,_,_,hw⟩
 · exact absurd (by simpa using h) hL
 · obtain⟨x,l,rfl⟩:∃x l,L=x::l:=by cases L with | nil=>exact absurd rfl hL | cons x l=>exact⟨x,l,rfl⟩
   obtain rfl:w=1:=(hw (cD x) (by simp)).symm
   generalize hLL:x::l=L at *
   rw[aF]
   refine⟨K3 b L.length k,if k<L.length then .mslice b (k*1) (L.length - k) 1 else .fslice [],fun φ y h=>aT2 gM hk hl h,by simp only[mO,hun],fun s=>?_,?_,?_⟩
   · unfold K3
     by_cases h:k<L.length
     · rw[aH h,aH h];exact aV9 _ _ _ s
     · rw[aE h,aE h];exact aV7 s
   · by_cases h:k<L.length
     · rw[aH h];exact .inl ⟨hk,b,1,rfl,rfl⟩
     · rw[aE h];exact .inr ⟨by omega,rfl⟩
   · unfold K3
     split<;>exact⟨rfl,rfl,rfl,rfl⟩
abbrev KT:=zi tI_3 (zi zI_3 (zi aU (zi tI_30 (zi zI_30 (zi iL (zi iM (zi iN (zi iO (zi iP (zi iQ (zi iK (zi tI_31 (zi zI_31 (zi gM (zi jX (zi jY lX))))))))))))))))
set_option maxHeartbeats 2000000 in
theorem aYH(s:Ss)(n:Int)(h:fO s=true)(hn:0≤n)(st:aB):aD prog 67 [cQ s,.int .i64 n] st (fun r st'=>∃o,r=.tup [cQ (kI s n),o]∧EF st ((dH s (dS s n)).1.map cD) s.sent.toNat o st'):=by
 have hF:=tD h hn
 have hs0:=hF.s0
 have hs1:=hF.s1
 have hfl:=hF.l
 have hu0:=hF.u0
 have hu1:=hF.u1
 have hu2:=hF.u2
 have hq1:=hF.q1
 have hf:=aAC ⟨s.p,s.q,s.dR,dS s n,s.sent,s.fin⟩ (dS s n)
 rw[show dH ⟨s.p,s.q,s.dR,dS s n,s.sent,s.fin⟩ (dS s n)=dH s (dS s n) from rfl] at hf
 unfold kI
 generalize dH s (dS s n)=T at *
 obtain⟨L,e⟩:=T
 simp only at hf hs1 hfl ⊢
 have hnu:dS s n=if n<s.dR - s.used then s.used+n else s.dR:=rfl
 generalize dS s n=u at *
 obtain⟨p,q,i0,i1,i2,i3⟩:=s
 simp only[cQ] at *
 obtain⟨k,rfl⟩:=qF hs0
 obtain⟨m,hm,hmu⟩:∃m,(if i0 - i1<n then i0 - i1 else n)=m∧i1+m=u:=by
  refine⟨_,rfl,?_⟩
  rw[hnu]
  split<;>split<;>omega
 have hw0:=bO (n:=i0 - i1)
 have hw1:=bO (n:=i1+m)
 rw[hmu] at hw1
 refine aD.kS ?_
 refine wF [1000000,2] 2 func67 ntmps67 rfl rfl ?_
 intro _
 simp -implicitDefEqProofs only[aA,seval,KT]
 intro b2 h2 b4 h4
 have h42:b4≠b2:=by rintro rfl;rw[aB.aJ] at h4;cases h4
 have h4':st b4=none:=by rwa [aB.aG _ _ h42] at h4
 simp -implicitDefEqProofs only[aK,h42.symm,hw0,hm,hmu,hw1,aA,seval,KT]
 refine(hf _).mono ?_
 rintro r s1 ⟨o,rfl,⟨bs,m1,m2,m3,m4⟩,hN⟩
 have hb2:b2∉bs:=fun hq=>by have:=m2 b2 hq;simp [lG] at this
 have hb4:b4∉bs:=fun hq=>by have:=m2 b4 hq;simp [lG,h42] at this
 have e2:=m4 b2 hb2
 have e4:=m4 b4 hb4
 simp only[lG,h42,h42.symm,fS,d4] at e2 e4
 obtain⟨hqc,hqs,hqa,hqw,hqj⟩:=bL.nT m3
 obtain⟨o1,o2,hsl,hlen,hcl,hT,ho1,ho2,ho3,ho4⟩:=a66 (k:=k) m3 hN (by omega)
 obtain⟨ht1,ht2,ht3,ht4,ht5⟩:=O2 hT
 simp -implicitDefEqProofs only[aK,e2,lG,hsl,hlen,cK,aA,seval,KT]
 refine vF [(0,1),(1,1),(2,0),(3,0),(4,1)] [0,1,4] (dQ.aC b2 (.cells [.slice (p.map a9),.slice (q.map Tm.av),.int .i64 i0,.int .i64 u,.int .i64 (L.length:Int),.int .i64 e])) mixed (by decide +kernel) (by decide +kernel) (by decide +kernel) rfl (eV (by simp only[lG,fS])) ?_
 simp -implicitDefEqProofs only[lG,aA,seval,KT]
 refine(hcl _).to ?_
 simp -implicitDefEqProofs only[aK,h42,e4,lG,ht2,aA,seval,KT]
 refine⟨eV (by simp only[lG,fS]),eV (by simp only[lG,h42.symm,fS,d4]),?_⟩
 generalize hS:aB.aC (aB.aC s1 b2 _) b4 _=S
 have hSx:∀x,x≠b2→x≠b4→S x=s1 x:=fun x h2 h4=>by rw[←hS,aB.aG _ _ h4,aB.aG _ _ h2]
 have hne:∀x,st x≠none→x≠b2∧x≠b4:=fun x h=>⟨fun e=>h (e▸h2),fun e=>h (e▸h4')⟩
 have hin:∀x∈bs,x≠b2∧x≠b4:=fun x hx=>⟨fun e=>hb2 (e▸hx),fun e=>hb4 (e▸hx)⟩
 have kV:∀x∈bs,st x=none:=fun x hx=>by
  have:=m2 x hx
  rwa [aB.aG _ _ (hin x hx).1,aB.aG _ _ (hin x hx).2,aB.aG _ _ (hin x hx).1] at this
 obtain⟨s2,hd,hm2⟩:=Made.VQ (st:=st) (S:=S) m1 kV (bL.a7 _ _ _ (fun x hx=>hSx x (hin x hx).1 (hin x hx).2) m3) (fun x o hx=>by
  have hx0:st x≠none:=by rw[hx];exact fun e=>nomatch e
  have hxb:x∉bs:=fun hq=>hx0 (kV x hq)
  rw[hSx x (hne x hx0).1 (hne x hx0).2,m4 x hxb,aB.aG _ _ (hne x hx0).1,aB.aG _ _ (hne x hx0).2,aB.aG _ _ (hne x hx0).1,hx])
 exact⟨s2,hd,_,rfl,o,hm2,by rw[jT];exact hT⟩
def aUD(l:List Tm):Nat:=bH Tm.uS l

theorem k6.VQ{st S:aB}{xs os:List AV}{bs:List Nat}(hnd:bs.Nodup)(kV:∀b∈bs,st b=none)(hO:bA S xs os bs)(hk:∀x o,st x=some o→S x=some o):∃s2,aL S s2∧k6 st xs (.tup os) s2:=by
 refine⟨fun x=>if x∈bs then S x else st x,fun x=>?_,os,bs,rfl,hnd,kV,bA.a7 _ _ _ (fun b hb=>aH hb) hO,fun b hb=>aE hb⟩
 dsimp only
 by_cases hx:x∈bs
 · rw[aH hx]
   exact⟨fun h=>h,fun o h=>h⟩
 · rw[aE hx]
   refine⟨fun h=>?_,fun o h=>hk x o h⟩
   cases hs:st x with
   | none=>rfl
   | some o=>rw[hk x o hs] at h;cases h
def EJ(st:aB)(s:Ss)(n:Int)(r:AV)(st':aB):Prop:=
 ∃o1 q o2 L k,r=.tup [o1,o2]∧k6 st [cQ (cA s n).1,.slice (L.map cD)] (.tup [o1,q]) st'∧HI (L.map cD).length k q o2∧k≤L.length∧L.drop k=(cA s n).2∧L.length≤20∧(bH aUD L≤9360*L.length)
theorem Made.two{st st1 st2:aB}{a b o p:AV}(h1:Made st a o st1)(h2:Made st1 b p st2):k6 st [b,a] (.tup [p,o]) st2:=by
 obtain⟨b1,m1,m2,m3,m4⟩:=h1
 obtain⟨b2,n1,n2,n3,n4⟩:=h2
 have hs:=m3.a6X
 have hd:∀x∈b1,x∉b2:=fun x hx hx'=>hs x hx (n2 x hx')
 refine⟨_,b2++b1,rfl,n6.2 ⟨n1,m1,fun x hx y hy e=>hd y hy (e▸hx)⟩,fun x hx=>?_,J3.2 ⟨p,o,b2,b1,rfl,rfl,n3,bL.a7 _ _ _ (fun x hx=>n4 x (hd x hx)) m3⟩,fun x hx=>?_⟩
 · rcases eK.1 hx with hx | hx
   · have:=n2 x hx
     by_cases h:x∈b1
     · exact m2 x h
     · rw[←m4 x h];exact this
   · exact m2 x hx
 · simp only[eK,oG] at hx
   rw[n4 x hx.1,m4 x hx.2]
theorem k6.under{st s1:aB}{b4:Nat}{v w:AO}{xs os:List AV}(h4:st b4=none)(h:k6 (st.aC b4 v) xs (.tup os) s1):∃s2,aL (s1.aC b4 w) s2∧k6 st xs (.tup os) s2:=by
 obtain⟨os',bs,he,m1,m2,m3,m4⟩:=h
 cases he
 have hb4:b4∉bs:=fun hq=>by have:=m2 b4 hq;rw[aB.aJ] at this;cases this
 have hne:∀x∈bs,x≠b4:=fun x hx e=>hb4 (e▸hx)
 refine k6.VQ m1 (fun x hx=>?_) (bA.a7 _ _ _ (fun x hx=>aB.aG _ _ (hne x hx)) m3) (fun x o hx=>?_)
 · have:=m2 x hx
   rwa [aB.aG _ _ (hne x hx)] at this
 · have hx4:x≠b4:=by rintro rfl;rw[h4] at hx;cases hx
   have hxb:x∉bs:=fun h=>by have:=m2 x h;rw[aB.aG _ _ hx4,hx] at this;cases this
   rw[aB.aG _ _ hx4,m4 x hxb,aB.aG _ _ hx4,hx]
theorem Made.aQ4{st s1:aB}{s:Ss}{r:AV}(h:Made st (cQ s) r s1):∃q q',r=.agg [q,q',.int .i64 s.dR,.int .i64 s.used,.int .i64 s.sent,.int .i64 s.fin]∧(∃b,bL s1 (.slice (s.p.map a9)) q b)∧∃b,bL s1 (.slice (s.q.map Tm.av)) q' b:=by
 obtain⟨bs,_,_,h,_⟩:=h
 obtain⟨q,b1,q',b2,rfl,_,h1,h2⟩:=VW.1 h
 exact⟨q,q',rfl,⟨b1,h1⟩,⟨b2,h2⟩⟩
theorem Made.stays{st s1:aB}{a r:AV}{b:Nat}{o:AO}(h:Made st a r s1)(hb:st b=some o):s1 b=some o:=by
 obtain⟨bs,_,h2,_,h4⟩:=h
 rw[h4 b (fun hq=>by have:=h2 b hq;rw[hb] at this;cases this),hb]
theorem EF.stays{st s1:aB}{L:List AV}{k:Nat}{r:AV}{b:Nat}{o:AO}(h:EF st L k r s1)(hb:st b=some o):s1 b=some o:=by
 obtain⟨q,h1,_⟩:=h
 exact h1.stays hb
theorem EF.flat{st s1:aB}{L:List AV}{k:Nat}{r:AV}(h:EF st L k r s1):r.isAgg=false∧r.cJ=false∧r.width=1∧r.cells= [r]∧r.storable=true:=by
 obtain⟨q,_,h2⟩:=h
 exact O2 h2
abbrev u9:=zi tI_3 (zi zI_3 (zi aU (zi tI_4 (zi zI_4 (zi cI (zi tI_30 (zi zI_30 (zi iL (zi iM (zi iN (zi iO (zi iP (zi iQ (zi iK (zi tI_31 (zi zI_31 (zi gM (zi jX (zi jY lX)))))))))))))))))))
set_option maxHeartbeats 2000000 in
theorem B4(s:Ss)(n:Int)(hp:s.p.length≤1048576)(hps:∀c∈s.p,CB c)(hq:s.q.length≤1048576)(hqs:∀t∈s.q,t.small=true)(st:aB):aD prog 18 [cQ s,.int .i64 n] st (EJ st s n):=by
 have hv:=w7 s
 have how:=aPO s hp hps hq hqs
 have a2M:=aPO (kI s n) hp hps hq hqs
 have hsl:=fun(h:kR s n=true)=>aYH s n (mT.1 h).1 (mT.1 h).2.1
 have iW:∀(b4:Nat) (r:AV) (s1:aB) (v w:AO),kR s n=false→st b4=none→Made (st.aC b4 v) (cQ s) r s1→∃s2,aL (s1.aC b4 w) s2∧EJ st s n (.tup [r,.fslice []]) s2:=fun b4 r s1 v w hc h4 hM=>by
  have hs:cA s n=(s,[]):=by unfold cA;rw[hc];try rfl
  have h0:Made (st.aC b4 v) (.slice []) (.fslice []) (st.aC b4 v):=⟨[],mK,by simp,.inl ⟨rfl,rfl,rfl⟩,fun _ _=>rfl⟩
  obtain⟨s2,D,hT⟩:=k6.under (w:=w) h4 (Made.two h0 hM)
  exact⟨s2,D,r,.fslice [],.fslice [],[],0,rfl,by rw[hs];exact hT,.inr ⟨rfl,rfl⟩,dC _,by rw[hs];try rfl,by simp,by simp [bH]⟩
 have UO:∀(b4:Nat) (r o:AV) (s1 s2:aB) (v w:AO),kR s n=true→st b4=none→EF (st.aC b4 v) ((dH s (dS s n)).1.map cD) s.sent.toNat o s1→Made s1 (cQ (kI s n)) r s2→∃s3,aL (s2.aC b4 w) s3∧EJ st s n (.tup [r,o]) s3:=fun b4 r o s1 s2 v w hc h4 hL hM=>by
  have hs:cA s n=(kI s n,AE s n):=by unfold cA;rw[hc];try rfl
  have hF:=tD (mT.1 hc).1 (mT.1 hc).2.1
  obtain⟨q,h1,h2⟩:=hL
  obtain⟨s3,D,hT⟩:=k6.under (w:=w) h4 (Made.two h1 hM)
  have hSo:=WO s.p (cnd:=fun _ l=>l) (fun _ l=>⟨fun _ h=>h,dC _⟩) s.q 20 (dS s n)
  exact⟨s3,D,r,q,o,(dH s (dS s n)).1,s.sent.toNat,rfl,by rw[hs];exact hT,h2,by have:=hF.s1;omega,by rw[hs];try rfl,hF.l,ZE hSo.2⟩
 have xR:fO s=true→0≤n→s.fin= -1→kR s n=true:=fun a b c=>mT.2 ⟨a,b,c⟩
 have CU:kR s n=true→fO s=true∧0≤n∧s.fin= -1:=mT.1
 have hsw:=fun {st s1:aB} {r:AV} (h:Made st (cQ s) r s1)=>h.aQ4
 have hAw:=fun {st s1:aB} {r:AV} (h:Made st (cQ (kI s n)) r s1)=>h.aQ4
 generalize kI s n=A at *
 generalize hRR:EJ st s n=RR at *
 generalize kR s n=cs at *
 generalize fO s=ok at *
 obtain⟨ap,aq,a0,a1,a2,a3⟩:=A
 obtain⟨p,q,i0,i1,i2,i3⟩:=s
 simp only[cQ] at *
 refine aD.kS ?_
 refine wF [1000000] 2 func18 ntmps18 rfl rfl ?_
 intro _
 simp -implicitDefEqProofs only[aA,seval,u9]
 intro b4 h4
 refine(hv _).to ?_
 simp -implicitDefEqProofs only[aA,seval]
 cases ok with
 | false=>
  have hc:cs=false:=by cases cs with | false=>rfl | true=>exact absurd (CU rfl).1 (by decide)
  subst hc
  simp -implicitDefEqProofs only[aA,seval,u9]
  refine(how _).mono ?_
  intro r s1 hM
  obtain⟨q0,q1,rfl,⟨_,hq0⟩,⟨_,hq1⟩⟩:=hsw hM
  obtain⟨hqc,hqs,hqa,hqw,hqj⟩:=bL.nT hq0
  obtain⟨hrc,hrs,hra,hrw,hrj⟩:=bL.nT hq1
  have e4:=hM.stays (aB.aJ _ _ _)
  simp -implicitDefEqProofs only[aK,e4,hqs,hrs,aA,seval,u9]
  exact iW b4 _ s1 _ _ rfl h4 hM
 | true=>
  simp -implicitDefEqProofs only[aA,seval,u9]
  by_cases h3:i3= -1
  case neg=>
   have hc:cs=false:=by cases cs with | false=>rfl | true=>exact absurd (CU rfl).2.2 h3
   subst hc
   have h3':=cB h3
   simp -implicitDefEqProofs only[h3',bM,aA,seval,u9]
   refine(how _).mono ?_
   intro r s1 hM
   obtain⟨q0,q1,rfl,⟨_,hq0⟩,⟨_,hq1⟩⟩:=hsw hM
   obtain⟨hqc,hqs,hqa,hqw,hqj⟩:=bL.nT hq0
   obtain⟨hrc,hrs,hra,hrw,hrj⟩:=bL.nT hq1
   have e4:=hM.stays (aB.aJ _ _ _)
   simp -implicitDefEqProofs only[aK,e4,hqs,hrs,aA,seval,u9]
   exact iW b4 _ s1 _ _ rfl h4 hM
  have h3':=cM h3
  by_cases hn:0≤n
  case neg=>
   have hc:cs=false:=by cases cs with | false=>rfl | true=>exact absurd (CU rfl).2.1 hn
   subst hc
   have hn':(n<0)=True:=cM (by omega)
   simp -implicitDefEqProofs only[h3',hn',bE,aA,seval,u9]
   refine(how _).mono ?_
   intro r s1 hM
   obtain⟨q0,q1,rfl,⟨_,hq0⟩,⟨_,hq1⟩⟩:=hsw hM
   obtain⟨hqc,hqs,hqa,hqw,hqj⟩:=bL.nT hq0
   obtain⟨hrc,hrs,hra,hrw,hrj⟩:=bL.nT hq1
   have e4:=hM.stays (aB.aJ _ _ _)
   simp -implicitDefEqProofs only[aK,e4,hqs,hrs,aA,seval,u9]
   exact iW b4 _ s1 _ _ rfl h4 hM
  have hn':(n<0)=False:=cB (by omega)
  have hc:cs=true:=xR rfl hn h3
  subst hc
  simp -implicitDefEqProofs only[h3',hn',bM,bE,aA,seval,u9]
  refine(hsl rfl _).mono ?_
  rintro _ s1 ⟨o,rfl,hL⟩
  have f4:=hL.stays (aB.aJ _ _ _)
  obtain⟨ht1,ht2,ht3,ht4,ht5⟩:=hL.flat
  simp -implicitDefEqProofs only[aA,↓aS,seval,u9]
  refine(a2M _).mono ?_
  intro r s2 hM
  obtain⟨q0,q1,rfl,⟨_,hq0⟩,⟨_,hq1⟩⟩:=hAw hM
  obtain⟨hqc,hqs,hqa,hqw,hqj⟩:=bL.nT hq0
  obtain⟨hrc,hrs,hra,hrw,hrj⟩:=bL.nT hq1
  have e4:=hM.stays f4
  simp -implicitDefEqProofs only[aK,e4,hqs,hrs,ht2,aA,seval,u9]
  exact UO b4 _ _ s1 s2 _ _ rfl h4 hL hM
theorem aD.GJ{P:Program}{g:FuncId}{args:List AV}{st:aB}{s:Ss}{n:Int}(x:aD P g args st (EJ st s n)):aD P g args st (fun r st'=>r=.tup [cQ (cA s n).1,.slice ((cA s n).2.map cD)]∧st'=st):=by
 refine x.nY fun r st' h=>?_
 obtain⟨o1,q,o2,L,k,rfl,⟨os,bs,he,h1,h2,h3,h4⟩,hT,hk,hd,_⟩:=h
 cases he
 obtain⟨p1,p2,b1,b2,e1,rfl,h5,h6⟩:=J3.1 h3
 cases e1
 have D:aL st' st:=fun b=>⟨fun e=>by
  by_cases hb:b∈b1++b2
  · exact h2 b hb
  · rw[←h4 b hb];exact e,fun o e=>by
  by_cases hb:b∈b1++b2
  · rw[h2 b hb] at e;cases e
  · rw[h4 b hb];exact e⟩
 refine⟨_,st,D.tO,fun h v S y=>?_,rfl,rfl⟩
 have hv1:∀v,aR h st' o1 v→aR h st (cQ (cA s n).1) v:=fun v y=>h5.X0 S D (fun b hb=>h2 b (by simp [hb])) y
 have hv2:∀v,aR h st' o2 v→aR h st (.slice ((cA s n).2.map cD)) v:=fun v y=>by
  rw[←hd,yW]
  have ha:=(O2 hT).1
  have hy:VC h st' o2 v.cells.toList∧o2.isAgg=lY v:=by rcases hT with ⟨_,b,w,_,rfl⟩ | ⟨_,rfl⟩<;>exact⟨y.2,y.1⟩
  exact⟨by rw[←hy.2,ha];try rfl,bL.a8T S D h6 (fun b hb=>h2 b (by simp [hb])) hT hy.1⟩
 obtain⟨y0,y1⟩:=y
 refine⟨y0,?_⟩
 unfold VC at y1 ⊢
 obtain⟨vs,e,y2⟩:=y1
 simp only[d6] at y2 ⊢
 obtain⟨v1,r1,rfl,ya,v2,r2,rfl,yb,rfl⟩:=y2
 have z1:=hv1 v1 (aR.F3 ya)
 have z2:=hv2 v2 (aR.F3 yb)
 exact⟨_,e,v1,_,rfl,z1,v2,[],rfl,z2,rfl⟩
end Go.AW
namespace Go.AW
def nV(s:Ss):List AV:=[.slice (s.p.map a9),.slice (s.q.map Tm.av),.int .i64 s.dR,.int .i64 s.used,.int .i64 s.sent,.int .i64 s.fin]
theorem a5M{p:List Cl}{cnd:Tm→List Nat→List Nat}{s:RS}{g:RG}{rest:List RG}{e:Int}(h:iF p cnd s g rest=.stop e):0≤e:=by
 unfold iF at h
 repeat' split at h
 all_goals first | (cases h;done) | (injection h with h;subst h;unfold qN;repeat' split;all_goals omega) | (injection h with h;omega)
theorem a5H(p:List Cl)(cnd:Tm→List Nat→List Nat)(vars:List Int):∀(n most f:Nat) (s:RS),most+f≤n→0≤(iZ p cnd vars most f s).2:=by
 intro n
 induction n with
 | zero=>
  intro most f s hn
  obtain rfl:most=0:=by omega
  obtain rfl:f=0:=by omega
  cases hg:s.goals with
  | nil=>rw[rA hg];simp
  | cons g rest=>rw[oK (fuel:=0) hg];simp
 | succ n ih=>
  intro most f s hn
  cases hg:s.goals with
  | nil=>
   rw[rA hg]
   by_cases hm:most=0
   · rw[aH hm];simp
   rw[aE hm]
   cases ha:jW s.σ vars with
   | none=>simp
   | some a=>
    simp only
    cases hb:fM p s.chs.length s.chs with
    | none=>simp
    | some s'=>exact ih (most - 1) f s' (by omega)
  | cons g rest=>
   by_cases hf:f=0
   · subst hf
     rw[oK (fuel:=0) hg];simp
   rw[oK hg,aE hf]
   cases hst:iF p cnd s g rest with
   | stop e=>exact a5M hst
   | go s'=>exact ih most (f - 1) s' (by omega)
   | fail=>
    simp only
    cases hb:fM p s.chs.length s.chs with
    | none=>simp
    | some s'=>exact ih most (f - 1) s' (by omega)
theorem aQZ{p:List Cl}{cnd:Tm→List Nat→List Nat}{q:List Tm}{most fuel:Int}:0≤(d8 p cnd q most fuel).2:=by
 unfold d8
 split
 · exact a5H p cnd _ _ _ _ _ (dC _)
 · simp
theorem aND{s:Ss}{u v:Int}(hok:gH s.p s.q 20 u=true)(huv:u≤v)(hv:v≤s.dR)(hq:s.dR≤300)(h:(dH s u).2≠-1):dH s v=dH s u:=by
 have hf:=(TS (cnd:=fun _ l=>l) hok huv (by omega)).1
 by_cases h2:(d8 s.p (fun _ l=>l) s.q 20 u).2=2
 · have hu:¬u<s.dR:=fun hu=>by
    unfold dH at h
    rw[aH ⟨h2,hu⟩] at h
    exact h rfl
   obtain rfl:v=u:=by omega
   rfl
 · have he:=hf h2
   unfold dH
   rw[he,aE (fun h=>h2 h.1),aE (fun h=>h2 h.1)]
theorem aNE{s:Ss}{u v:Int}(hok:gH s.p s.q 20 u=true)(huv:u≤v)(hv:v≤300):(dH s u).1 <+: (dH s v).1:=(TS (cnd:=fun _ l=>l) hok huv hv).2
theorem aS5{s:Ss}(h:fO s=true)(hf:s.fin≠-1):(d8 s.p (fun _ l=>l) s.q 20 s.dR).2=s.fin∧s.sent=((d8 s.p (fun _ l=>l) s.q 20 s.dR).1.length:Int):=by
 simp only[fO,cE] at h
 obtain⟨hr,hs⟩:=h
 obtain⟨kp,kq,k1,k2,k3,k4⟩:=OZ.1 hr
 simp only[oV,GO,cE,bK] at hs
 rcases hs with ⟨_,_,h3⟩ | ⟨h1,h2⟩
 · exact absurd h3 hf
 have he:(dH s s.used).2≠-1:=by rw[show dH s s.used=v3 s from rfl,←h2];exact hf
 have:=aND (WQ hr) k4 (Int.le_refl _) k2 he
 have hq:dH s s.dR=((d8 s.p (fun _ l=>l) s.q 20 s.dR).1,(d8 s.p (fun _ l=>l) s.q 20 s.dR).2):=by
  unfold dH
  rw[aE (by omega)]
 rw[hq] at this
 have e1:=oC Prod.fst this
 have e2:=oC Prod.snd this
 simp only at e1 e2
 rw[e1,e2]
 exact⟨h2.symm,h1⟩
theorem DO{s:Ss}{n:Int}(h:kR s n=false):cA s n=(s,[]):=by unfold cA;rw[h];try rfl
theorem yE{s:Ss}{n:Int}(h:kR s n=true):cA s n=(kI s n,AE s n):=by unfold cA;rw[h];try rfl
theorem SP{s:Ss}{n:Int}(h:s.fin≠-1):kR s n=false:=by
 cases hc:kR s n with
 | false=>rfl
 | true=>exact absurd (mT.1 hc).2.2 h
theorem a3G{s:Ss}{n:Int}(h:fO s=true):((cA s n).1.fin≠-1→cA (cA s n).1 n=((cA s n).1,[]))∧(s.dR≤s.used→0≤n→(cA s n).1.fin≠-1):=by
 refine⟨fun hf=>DO (SP hf),fun hq hn=>?_⟩
 by_cases hf:s.fin= -1
 · have hc:kR s n=true:=mT.2 ⟨h,hn,hf⟩
   have hF:=tD h hn
   rw[yE hc]
   show(dH s (dS s n)).2≠-1
   have hu:=hF.u1
   have hu2:=hF.u2
   have:=aQZ (p:=s.p) (cnd:=fun _ l=>l) (q:=s.q) (most:=20) (fuel:=dS s n)
   unfold dH
   rw[aE (by omega)]
   simp only
   omega
 · rw[DO (SP hf)]
   exact hf
theorem a6J{s:Ss}{n:Int}(h:fO s=true)(hn:0≤n)(hf:s.fin= -1) :
 fO (cA s n).1=true∧(cA s n).1.used≤(cA s n).1.dR∧s.used≤(cA s n).1.used∧(cA s n).1.sent=s.sent+((cA s n).2.length:Int)∧0≤s.sent∧s.sent.toNat≤(d8 s.p (fun _ l=>l) s.q 20 (cA s n).1.used).1.length∧(d8 s.p (fun _ l=>l) s.q 20 (cA s n).1.used).1.drop s.sent.toNat=(cA s n).2:=by
 have hc:kR s n=true:=mT.2 ⟨h,hn,hf⟩
 have hF:=tD h hn
 rw[yE hc]
 have h0:=hF.s0
 have h1:=hF.s1
 refine⟨hF.nxt,hF.u2,hF.u1,?_,h0,?_,rfl⟩
 · show((dH s (dS s n)).1.length:Int)=s.sent+((dH s (dS s n)).1.drop s.sent.toNat).length
   rw[lO]
   omega
 · show s.sent.toNat≤(dH s (dS s n)).1.length
   omega
theorem aPH{s:Ss}{a b:Int}(ha:0≤a)(hb:0≤b)(hu:s.used≤s.dR):dS (kI s a) b=dS s (a+b):=by
 show(if b<s.dR - dS s a then dS s a+b else s.dR)=dS s (a+b)
 unfold dS
 repeat' split
 all_goals omega
theorem a77{s:Ss}{a b:Int}(h:fO s=true)(hf:s.fin= -1)(ha:0≤a)(hb:0≤b) :
 (cA s a).2++(cA (cA s a).1 b).2=(cA s (a+b)).2∧(cA (cA s a).1 b).1.fin=(cA s (a+b)).1.fin∧((cA s a).1.fin= -1→(cA (cA s a).1 b).1=(cA s (a+b)).1):=by
 have hF:=tD h ha
 have hF2:=tD h (show 0≤a+b by omega)
 rw[yE (mT.2 ⟨h,ha,hf⟩),yE (mT.2 ⟨h,by omega,hf⟩)]
 simp only
 have hle:dS s a≤dS s (a+b):=by
  rw[←aPH ha hb (by have:=hF.u1;have:=hF.u2;omega)]
  have hF3:=tD hF.nxt hb
  exact hF3.u1
 have h0:=hF.s0
 have h1:=hF.s1
 by_cases fW:(kI s a).fin= -1
 · rw[yE (mT.2 ⟨hF.nxt,hb,fW⟩)]
   have hnu:=aPH (s:=s) ha hb (by have:=hF.u1;have:=hF.u2;omega)
   have hA:kI (kI s a) b=kI s (a+b):=by
    show({ kI s a with used:=dS (kI s a) b,sent:=((dH (kI s a) (dS (kI s a) b)).1.length:Int),fin:=(dH (kI s a) (dS (kI s a) b)).2 }:Ss)=_
    rw[hnu]
    try rfl
   refine⟨?_,by rw[hA],fun _=>hA⟩
   show(dH s (dS s a)).1.drop s.sent.toNat++(dH s (dS (kI s a) b)).1.drop ((dH s (dS s a)).1.length:Int).toNat=(dH s (dS s (a+b))).1.drop s.sent.toNat
   rw[hnu]
   obtain⟨M,hM⟩:=aNE hF.ok hle (by have:=hF2.u2;have:=hF2.q1;omega)
   rw[←hM,jT,BE,QL (by omega)]
 · rw[DO (SP fW)]
   have he:dH s (dS s (a+b))=dH s (dS s a):=aND hF.ok hle hF2.u2 hF.q1 fW
   refine⟨?_,?_,fun h=>absurd h fW⟩
   · rw[iV]
     show(dH s (dS s a)).1.drop s.sent.toNat=(dH s (dS s (a+b))).1.drop s.sent.toNat
     rw[he]
   · show(dH s (dS s a)).2=(dH s (dS s (a+b))).2
     rw[he]
noncomputable def drain:List Int→Ss→List (List Tm)→List (List Tm)×Int
 | [],s,acc=>if s.fin= -1 then(acc++(cA s 300).2,(cA s 300).1.fin) else(acc,s.fin)
 | n::sl,s,acc=>if s.fin= -1 then drain sl (cA s n).1 (acc++(cA s n).2) else(acc,s.fin)
theorem yF(s:Ss)(n:Int):(cA s n).1.p=s.p∧(cA s n).1.q=s.q∧(cA s n).1.dR=s.dR:=by
 unfold cA
 split<;>exact⟨rfl,rfl,rfl⟩
theorem OX{s:Ss}{n:Int}(h:fO s=true):fO (cA s n).1=true:=by
 by_cases hc:kR s n=true
 · rw[yE hc]
   exact(tD h (mT.1 hc).2.1).nxt
 · rw[DO (by simpa using hc)]
   exact h
theorem TR(s:Ss):dH s s.dR=d8 s.p (fun _ l=>l) s.q 20 s.dR:=by
 unfold dH
 rw[aE (by omega)]
theorem a6H{s:Ss}{n:Int}(h:fO s=true):(cA s n).2++(dH s s.dR).1.drop (cA s n).1.sent.toNat=(dH s s.dR).1.drop s.sent.toNat:=by
 by_cases hc:kR s n=true
 · rw[yE hc]
   have hF:=tD h (mT.1 hc).2.1
   have h0:=hF.s0
   have h1:=hF.s1
   obtain⟨M,hM⟩:=aNE hF.ok hF.u2 hF.q1
   show(dH s (dS s n)).1.drop s.sent.toNat++(dH s s.dR).1.drop ((dH s (dS s n)).1.length:Int).toNat=_
   rw[←hM,jT,BE,QL (by omega)]
 · rw[DO (by simpa using hc)]
   try rfl
theorem M3{s:Ss}(h:fO s=true)(hf:s.fin≠-1):(dH s s.dR).1.drop s.sent.toNat= []∧(dH s s.dR).2=s.fin:=by
 obtain⟨h1,h2⟩:=aS5 h hf
 rw[TR]
 exact⟨EC (by omega),h1⟩
theorem VF{s:Ss}(h:fO s=true)(hf:s.fin= -1):(cA s 300).1.fin=(dH s s.dR).2∧(cA s 300).2=(dH s s.dR).1.drop s.sent.toNat:=by
 have hc:kR s 300=true:=mT.2 ⟨h,by omega,hf⟩
 have hF:=tD (n:=300) h (by omega)
 have hu:dS s 300=s.dR:=by
  have:=hF.u0
  have:=hF.q1
  unfold dS
  rw[aE (by omega)]
 rw[yE hc]
 show(dH s (dS s 300)).2=_∧(dH s (dS s 300)).1.drop s.sent.toNat=_
 rw[hu]
 exact⟨rfl,rfl⟩
theorem aB5:∀(sl:List Int) (s:Ss) (acc:List (List Tm)),fO s=true→drain sl s acc=(acc++(dH s s.dR).1.drop s.sent.toNat,(dH s s.dR).2)
 | [],s,acc,h=>by
  unfold drain
  by_cases hf:s.fin= -1
  · rw[aH hf,(VF h hf).1,(VF h hf).2]
  · rw[aE hf,(M3 h hf).1,(M3 h hf).2,iV]
 | n::sl,s,acc,h=>by
  unfold drain
  by_cases hf:s.fin= -1
  · obtain⟨k1,k2,k3⟩:=yF s n
    have hq:dH (cA s n).1 (cA s n).1.dR=dH s s.dR:=by
     unfold dH
     rw[k1,k2,k3]
    rw[aH hf,aB5 sl _ _ (OX h),hq,nE,a6H h]
  · rw[aE hf,(M3 h hf).1,(M3 h hf).2,iV]
theorem OW{s:Ss}{n:Int}(h:fO s=true):(cA s n).2.length≤20:=by
 by_cases hc:kR s n=true
 · rw[yE hc]
   have:=(tD h (mT.1 hc).2.1).l
   simp only[AE,lO]
   omega
 · rw[DO (by simpa using hc)]
   exact jU _
end Go.AW
namespace Go.AW
open Go.Proofs.Tryz
structure l9 (s:Ss):Prop where
 p:s.p.length≤20
 ps:∀c∈s.p,uC c
 q:s.q.length≤6
 qs:∀t∈s.q,Dn t
theorem l9.small{s:Ss}(h:l9 s):s.p.length≤1048576∧(∀c∈s.p,CB c)∧s.q.length≤1048576∧∀t∈s.q,t.small=true:=
 ⟨by have:=h.p;omega,fun c hc=>⟨(h.ps c hc).1.2,by have:=(h.ps c hc).2.1;omega,fun x hx=>((h.ps c hc).2.2 x hx).2⟩,by have:=h.q;omega,fun t ht=>(h.qs t ht).2⟩
theorem l9.mE{p:List Cl}{q:List Tm}{k:Int}(hp:p.length≤20)(hps:∀c∈p,uC c)(hq:OO q):l9 (mE p q k):=by
 unfold AW.mE
 split
 · exact⟨hp,hps,hq.1,hq.2⟩
 · exact⟨by simp,by simp,by simp,by simp⟩
theorem l9.of{s s':Ss}(h:l9 s)(hp:s'.p=s.p)(hq:s'.q=s.q):l9 s':=
 ⟨by rw[hp];exact h.p,by rw[hp];exact h.ps,by rw[hq];exact h.q,by rw[hq];exact h.qs⟩
theorem l9.cA{s:Ss}{n:Int}(h:l9 s):l9 (cA s n).1:=h.of (yF s n).1 (yF s n).2.1
abbrev QG (r:AV):Prop:=∃s:Ss,l9 s∧r=cQ s
abbrev DY:=zi tI_3 (zi zI_3 (zi aU (zi tI_27 (zi zI_27 (zi eH (zi gK (zi gN (zi iJ (zi tI_28 (zi zI_28 (zi aO (zi bF (zi bG (zi bZ (zi tI_30 (zi zI_30 (zi iL (zi iM (zi iN (zi iO (zi iP (zi iQ (zi iK (zi tI_40 (zi zI_40 (zi dT (zi fJ (zi fK (zi fU (zi tI_91 zI_91))))))))))))))))))))))))))))))
set_option maxHeartbeats 2000000 in
theorem H5(bs:List Bt)(c p:Nat)(st:aB)(hp:p+1000≤1099511627776)(hR:cW st c bs p):aD prog 84 [.ptr c 0] st (Dr bs c p 1000 st QG):=by
 refine aD.kS ?_
 refine wF [1000000,2,5] 1 func84 ntmps84 rfl rfl ?_
 intro _
 simp -implicitDefEqProofs only[aA,seval,DY]
 intro b2 h2
 have h2c:=hR.ne h2
 refine(aA6 bs c p _ (by omega) (hR.aC h2c)).mono ?_
 rintro _ _ ⟨p1,r1,r2,rfl,l,q,⟨l1,l2,l3⟩,hq,rfl⟩
 simp -implicitDefEqProofs only[aA,seval,DY]
 refine(nO [60,100,20,7,0] (by simp) (by simp) bs c p1 (by omega) _ cW.new).mono ?_
 rintro _ _ ⟨x,hx,rfl,rfl⟩
 rw[cK]
 simp -implicitDefEqProofs only[aA,seval]
 refine(aBI l q x _).to ?_
 have hD:l9 (mE l q x):=l9.mE l2 l3 hq
 generalize mE l q x=s0 at *
 simp only[cQ]
 simp -implicitDefEqProofs only[aK,aA,↓aS,seval,DY]
 intro b5 h5
 have h5c:b5≠c:=cW.new.ne h5
 rw[aB.aG _ _ h5c] at h5
 have h52:b5≠b2:=by rintro rfl;rw[aB.aJ] at h5;cases h5
 rw[aB.aG _ _ h52] at h5
 refine(mS bs c (p1+1) (by omega) 3 (by omega) (by omega) _ (cW.new.aC h5c)).mono ?_
 rintro _ _ ⟨k,hk,rfl,rfl⟩
 rw[aB.nD _ _ _ h5c,cK]
 simp -implicitDefEqProofs only[aA,seval]
 generalize ho:(AO.cells _:AO)=o2
 refine iT (σ:=Nat×Nat×Ss) [1000000] [0,2,5] (fun x=>x.1≤2∧p≤x.2.1∧x.2.1+10*x.1≤p+900∧l9 x.2.2) (fun x=>[(7,.int .i64 (x.1:Int))]) (fun x=>((st.aC b2 o2).aC c (b7 bs x.2.1)).aC b5 (.cells (nV x.2.2))) (fun x=>x.1) (by decide +kernel) ⟨(k,p1+1+1,s0),⟨by simp only;omega,by simp only;omega,by simp only;omega,hD⟩,aP.mk (by simp -implicitDefEqProofs only[aA,seval])⟩ ?_
 rintro⟨i,q2,z⟩ ⟨i1,i2,i3,i4⟩
 simp only at i1 i2 i3 i4
 obtain⟨k1,k2,k3,k4⟩:=i4.small
 have hsl:=fun n=>MN z n k1 k2 k3 k4
 have hkp:=fun n=>i4.cA (n:=n)
 have e5:∀X:AO,(((st.aC b2 o2).aC c X).aC b5 (.cells (nV z))) b5=some (.cells [.slice (z.p.map a9),.slice (z.q.map Tm.av),.int .i64 z.dR,.int .i64 z.used,.int .i64 z.sent,.int .i64 z.fin]):=fun X=>aB.aJ _ _ _
 have e2:∀X Y:AO,(((st.aC b2 o2).aC c X).aC b5 Y) b2=some o2:=fun X Y=>by rw[aB.aG _ _ h52.symm,aB.aG _ _ h2c,aB.aJ]
 simp only[cQ] at hsl
 have hw:=bO (n:=(i:Int) - 1)
 subst ho
 simp -implicitDefEqProofs only[aA,seval]
 refine aQ (fun h=>?_) (fun h=>?_)
 case refine_2=>
  simp -implicitDefEqProofs only[aK,e5,e2,aB.aJ,aA,seval,DY]
  refine⟨st.aC c (b7 bs q2),fun x=>?_,q2,by omega,by omega,rfl,z,i4,rfl⟩
  by_cases x2:x=b2<;>by_cases xc:x=c<;>by_cases x5:x=b5<;>simp_all [aB.aC]
 have hi:0<i:=by simp only[bK] at h;omega
 simp -implicitDefEqProofs only[aA,seval]
 refine HY (.br [(0,1),(1,1),(2,1)] 3 8 (.fin [(4,1),(5,1),(6,1),(7,1),(8,0),(9,0),(10,1)]) (.fin [(3,0),(4,1),(5,1),(6,1),(7,1),(9,0),(10,1)])) [0,1,2,4,5,6,7,10] (one b5 (.cells [.slice (z.p.map a9),.slice (z.q.map Tm.av),.int .i64 z.dR,.int .i64 z.used,.int .i64 z.sent,.int .i64 z.fin])) mixed (by decide +kernel) rfl (by decide +kernel) (eV (e5 _)) ?_
 simp -implicitDefEqProofs only[wC,BH,YC,aTI,aTJ,YD,aA,seval,DY]
 refine⟨?_,?_⟩
 · refine(nO [3,5,1,20,0] (by simp) (by simp) bs c q2 (by omega) _ (cW.new.aC h5c)).mono ?_
   rintro _ _ ⟨x,hx,rfl,rfl⟩
   rw[aB.nD _ _ _ h5c,cK]
   simp -implicitDefEqProofs only[BH,YD,aA,seval]
   refine⟨eV (e5 _),?_⟩
   refine MP (fun st _=>hsl x st) ?_
   simp -implicitDefEqProofs only[aK,hw,aB.aJ,cK,aA,seval,DY]
   intro b8 h8
   have h85:b8≠b5:=by rintro rfl;rw[aB.aJ] at h8;cases h8
   have h8c:b8≠c:=by rintro rfl;rw[aB.aG _ _ h85,aB.aJ] at h8;cases h8
   have e58:∀X Y:AO,((((st.aC b2 (.cells [.fslice [],.fslice [],.int .i64 0,.int .i64 0,.int .i64 0,.int .i64 0])).aC c X).aC b5 (.cells (nV z))).aC b8 Y) b5=some (.cells [.slice (z.p.map a9),.slice (z.q.map Tm.av),.int .i64 z.dR,.int .i64 z.used,.int .i64 z.sent,.int .i64 z.fin]):=fun X Y=>by rw[aB.aG _ _ h85.symm,e5]
   refine⟨eV (e58 _ _),eV (e58 _ _),?_⟩
   rw[e58]
   simp -implicitDefEqProofs only[aA,seval]
   have hi1:((i - 1:Nat):Int)=(i:Int) - 1:=by omega
   have D:∀X Y Z W:AO,aL (((((st.aC b2 X).aC c Y).aC b5 Z).aC b8 W).aC b5 (.cells (nV (cA z x).1))) (((st.aC b2 X).aC c Y).aC b5 (.cells (nV (cA z x).1))):=fun X Y Z W y=>by
    by_cases x2:y=b2<;>by_cases xc:y=c<;>by_cases x5:y=b5<;>by_cases x8:y=b8<;>simp_all [aB.aC]
   exact⟨(i - 1,q2+1,(cA z x).1),by simp only;omega,⟨by simp only;omega,by simp only;omega,by simp only;omega,hkp x⟩,aP.drop (D _ _ _ _) (by simp -implicitDefEqProofs only[hi1,aA,seval])⟩
 · intro b8 h8
   refine⟨eV ?_,?_⟩
   · rw[aB.aG _ _ (show b5≠b8 by rintro rfl;rw[e5] at h8;cases h8),e5]
   have h85:b8≠b5:=by rintro rfl;rw[aB.aJ] at h8;cases h8
   have h8c:b8≠c:=by rintro rfl;rw[aB.aG _ _ h85,aB.aJ] at h8;cases h8
   refine(nO [3,5,1,20,0] (by simp) (by simp) bs c q2 (by omega) _ ((cW.new.aC h5c).aC h8c)).mono ?_
   rintro _ _ ⟨x,hx,rfl,rfl⟩
   rw[aB.nD _ _ _ h8c,aB.nD _ _ _ h5c,cK]
   simp -implicitDefEqProofs only[aA,seval]
   refine⟨eV ?_,?_⟩
   · rw[aB.aG _ _ h85.symm,e5]
   refine MP (fun st _=>hsl x st) ?_
   simp -implicitDefEqProofs only[aK,hw,aB.aJ,cK,aA,seval,DY]
   have e58:∀X Y:AO,((((st.aC b2 (.cells [.fslice [],.fslice [],.int .i64 0,.int .i64 0,.int .i64 0,.int .i64 0])).aC c X).aC b5 (.cells (nV z))).aC b8 Y) b5=some (.cells [.slice (z.p.map a9),.slice (z.q.map Tm.av),.int .i64 z.dR,.int .i64 z.used,.int .i64 z.sent,.int .i64 z.fin]):=fun X Y=>by rw[aB.aG _ _ h85.symm,e5]
   refine⟨eV (e58 _ _),?_⟩
   rw[e58]
   simp -implicitDefEqProofs only[aA,seval]
   have hi1:((i - 1:Nat):Int)=(i:Int) - 1:=by omega
   have D:∀X Y Z W:AO,aL (((((st.aC b2 X).aC c Y).aC b5 Z).aC b8 W).aC b5 (.cells (nV (cA z x).1))) (((st.aC b2 X).aC c Y).aC b5 (.cells (nV (cA z x).1))):=fun X Y Z W y=>by
    by_cases x2:y=b2<;>by_cases xc:y=c<;>by_cases x5:y=b5<;>by_cases x8:y=b8<;>simp_all [aB.aC]
   exact⟨(i - 1,q2+1,(cA z x).1),by simp only;omega,⟨by simp only;omega,by simp only;omega,by simp only;omega,hkp x⟩,aP.drop (D _ _ _ _) (by simp -implicitDefEqProofs only[hi1,aA,seval])⟩
abbrev vB:=zi tI_3 (zi zI_3 (zi aU (zi tI_24 (zi zI_24 (zi aZ7 (zi aZ8 (zi aZ9 (zi a0A (zi a0B (zi a0C (zi aUY (zi tI_30 (zi zI_30 (zi iL (zi iM (zi iN (zi iO (zi iP (zi iQ (zi iK (zi tI_40 (zi zI_40 (zi dT (zi fJ (zi fK (zi fU (zi tI_91 zI_91)))))))))))))))))))))))))))
set_option maxHeartbeats 2000000 in
theorem MH(bs:List Bt)(c p:Nat)(s:Ss)(hs:l9 s)(st:aB)(hp:p+10≤1099511627776)(hR:cW st c bs p):aD prog 83 [.ptr c 0,cQ s] st (Dr bs c p 10 st QG):=by
 obtain⟨k1,k2,k3,k4⟩:=hs.small
 have hcp:=MG s k1 k2 k3 k4
 obtain⟨p',q',i0,i1,i2,i3⟩:=s
 simp only[cQ] at *
 refine aD.kS ?_
 refine wF [1000000,4,5] 2 func83 ntmps83 rfl rfl ?_
 intro _
 simp -implicitDefEqProofs only[aA,seval,vB]
 intro b4 h4
 have h4c:=hR.ne h4
 refine(hcp _).to ?_
 simp -implicitDefEqProofs only[aK,aA,↓aS,seval,vB]
 intro b5 h5
 have h54:b5≠b4:=by rintro rfl;rw[aB.aJ] at h5;cases h5
 rw[aB.aG _ _ h54] at h5
 have h5c:=hR.ne h5
 refine(mS bs c p (by omega) 24 (by omega) (by omega) _ ((hR.aC h4c).aC h5c)).mono ?_
 rintro _ _ ⟨k,hk,rfl,rfl⟩
 have e5:∀(o o':AO) (X:AO),(((st.aC b4 o).aC b5 o').aC c X) b5=some o':=fun o o' X=>by rw[aB.aG _ _ h5c,aB.aJ]
 have e4:∀(o o':AO) (X:AO),(((st.aC b4 o).aC b5 o').aC c X) b4=some o:=fun o o' X=>by rw[aB.aG _ _ h4c,aB.aG _ _ h54.symm,aB.aJ]
 have e4':∀(o o':AO) (X Y:AO),((((st.aC b4 o).aC b5 o').aC c X).aC b5 Y) b4=some o:=fun o o' X Y=>by rw[aB.aG _ _ h54.symm,e4]
 simp -implicitDefEqProofs only[aA,seval]
 refine aQ (fun h=>?_) (fun h=>?_)
 · simp -implicitDefEqProofs only[aA,seval,vB]
   refine(nO [-1,400,0] (by simp) (by simp) bs c (p+1) (by omega) _ cW.new).mono ?_
   rintro _ _ ⟨x,hx,rfl,rfl⟩
   rw[cK]
   simp -implicitDefEqProofs only[aK,e5,e4',aB.aJ,aA,seval,vB]
   refine⟨st.aC c (b7 bs (p+1+1)),fun y=>?_,p+1+1,by omega,by omega,rfl,⟨p',q',i0,x,i2,i3⟩,hs.of rfl rfl,rfl⟩
   by_cases x4:y=b4<;>by_cases xc:y=c<;>by_cases x5:y=b5<;>simp_all [aB.aC]
 simp -implicitDefEqProofs only[aA,seval]
 refine aQ (fun h=>?_) (fun h=>?_)
 · simp -implicitDefEqProofs only[aA,seval,vB]
   refine(nO [-1,9] (by simp) (by simp) bs c (p+1) (by omega) _ cW.new).mono ?_
   rintro _ _ ⟨x,hx,rfl,rfl⟩
   rw[cK]
   simp -implicitDefEqProofs only[aK,e5,e4',aB.aJ,aA,seval,vB]
   refine⟨st.aC c (b7 bs (p+1+1)),fun y=>?_,p+1+1,by omega,by omega,rfl,⟨p',q',i0,i1,x,i3⟩,hs.of rfl rfl,rfl⟩
   by_cases x4:y=b4<;>by_cases xc:y=c<;>by_cases x5:y=b5<;>simp_all [aB.aC]
 simp -implicitDefEqProofs only[aA,seval]
 refine aQ (fun h=>?_) (fun h=>?_)
 · simp -implicitDefEqProofs only[aA,seval,vB]
   refine(nO [0,9,-2] (by simp) (by simp) bs c (p+1) (by omega) _ cW.new).mono ?_
   rintro _ _ ⟨x,hx,rfl,rfl⟩
   rw[cK]
   simp -implicitDefEqProofs only[aK,e5,e4',aB.aJ,aA,seval,vB]
   refine⟨st.aC c (b7 bs (p+1+1)),fun y=>?_,p+1+1,by omega,by omega,rfl,⟨p',q',i0,i1,i2,x⟩,hs.of rfl rfl,rfl⟩
   by_cases x4:y=b4<;>by_cases xc:y=c<;>by_cases x5:y=b5<;>simp_all [aB.aC]
 simp -implicitDefEqProofs only[aA,seval]
 refine aQ (fun h=>?_) (fun h=>?_)
 · simp -implicitDefEqProofs only[aA,seval,vB]
   refine(nO [-1,301] (by simp) (by simp) bs c (p+1) (by omega) _ cW.new).mono ?_
   rintro _ _ ⟨x,hx,rfl,rfl⟩
   rw[cK]
   simp -implicitDefEqProofs only[aK,e5,e4',aB.aJ,aA,seval,vB]
   refine⟨st.aC c (b7 bs (p+1+1)),fun y=>?_,p+1+1,by omega,by omega,rfl,⟨p',q',x,i1,i2,i3⟩,hs.of rfl rfl,rfl⟩
   by_cases x4:y=b4<;>by_cases xc:y=c<;>by_cases x5:y=b5<;>simp_all [aB.aC]
 simp -implicitDefEqProofs only[aK,e5,e4,aB.aJ,aA,seval,vB]
 refine⟨st.aC c (b7 bs (p+1)),fun x=>?_,p+1,by omega,by omega,rfl,⟨p',q',i0,i1,i2,i3⟩,hs,rfl⟩
 by_cases x4:x=b4<;>by_cases xc:x=c<;>by_cases x5:x=b5<;>simp_all [aB.aC]
theorem aZE{st:aB}{b c:Nat}{o X:AO}(h:st b=none)(hc:st c=none):aL ((st.aC b o).aC c X) st:=((aL.refl _).aC h).aC hc
theorem S6{st:aB}{b c:Nat}{o o' X:AO}(h:st b=none)(hc:st c=none):aL (((st.aC b o).aC c X).aC b o') st:=(aZE h hc).aC h
abbrev aSD:=zi tI_30 (zi zI_30 (zi iL (zi iM (zi iN (zi iO (zi iP (zi iQ (zi iK (zi tI_47 (zi zI_47 (zi mU (zi pT (zi pU (zi pJ (zi tI_91 zI_91)))))))))))))))
theorem aVM(code:List Bt)(st:aB):aD prog 35 [.slice (code.map gE)] st (fun r st'=>QG r∧st'=st):=by
 refine aD.drop ?_
 refine wF [1000000,2] 1 func35 ntmps35 rfl rfl ?_
 intro _
 simp -implicitDefEqProofs only[aA,seval,aSD]
 intro b2 h2
 refine(H6 code _).mono ?_
 rintro _ _ ⟨c,bs,rfl,hc,rfl⟩
 have hcb:c≠b2:=by rintro rfl;rw[aB.aJ] at hc;cases hc
 rw[aB.aG _ _ hcb] at hc
 simp -implicitDefEqProofs only[aA,seval]
 refine(H5 bs c 0 _ (by omega) cW.new).mono ?_
 rintro _ _ ⟨p1,r1,r2,rfl,s,hs,rfl⟩
 rw[cK]
 simp -implicitDefEqProofs only[aA,seval]
 refine(MH bs c p1 s hs _ (by omega) cW.new).mono ?_
 rintro _ _ ⟨p2,s1,s2,rfl,s',hs',rfl⟩
 rw[cK]
 have e2:∀(o X:AO),((st.aC b2 o).aC c X) b2=some o:=fun o X=>by rw[aB.aG _ _ hcb.symm,aB.aJ]
 simp only[cQ]
 simp -implicitDefEqProofs only[aK,e2,aB.aJ,aA,seval,aSD]
 exact⟨S6 h2 hc,s',hs',rfl⟩
abbrev PH:=zi tI_3 (zi zI_3 (zi aU (zi tI_30 (zi zI_30 (zi iL (zi iM (zi iN (zi iO (zi iP (zi iQ (zi iK (zi tI_40 (zi zI_40 (zi dT (zi fJ (zi fK (zi fU (zi tI_47 (zi zI_47 (zi mU (zi pT (zi pU (zi pJ (zi tI_91 zI_91))))))))))))))))))))))))
theorem RY(code:List Bt)(st:aB):aD prog 38 [.slice (code.map gE)] st (fun r st'=>(∃(s:Ss) (n:Int),l9 s∧r=.tup [cQ s,.int .i64 n])∧st'=st):=by
 refine aD.drop ?_
 refine wF [1000000,2] 1 func38 ntmps38 rfl rfl ?_
 intro _
 simp -implicitDefEqProofs only[aA,seval,PH]
 intro b2 h2
 refine(H6 code _).mono ?_
 rintro _ _ ⟨c,bs,rfl,hc,rfl⟩
 have hcb:c≠b2:=by rintro rfl;rw[aB.aJ] at hc;cases hc
 rw[aB.aG _ _ hcb] at hc
 simp -implicitDefEqProofs only[aA,seval]
 refine(H5 bs c 0 _ (by omega) cW.new).mono ?_
 rintro _ _ ⟨p1,r1,r2,rfl,s,hs,rfl⟩
 rw[cK]
 simp -implicitDefEqProofs only[aA,seval]
 refine(MH bs c p1 s hs _ (by omega) cW.new).mono ?_
 rintro _ _ ⟨p2,s1,s2,rfl,s',hs',rfl⟩
 rw[cK]
 have e2:∀(o X:AO),((st.aC b2 o).aC c X) b2=some o:=fun o X=>by rw[aB.aG _ _ hcb.symm,aB.aJ]
 simp only[cQ]
 simp -implicitDefEqProofs only[aA,↓aS,seval,PH]
 refine wX [(0,1),(1,1),(2,1),(3,0),(4,0),(5,1)] [0,1,2,5] dQ mixed rfl dY ?_
 simp -implicitDefEqProofs only[aA,seval,PH]
 refine(nO [3,10,1,0,50,-1,9223372036854775807] (by simp) (by simp) bs c p2 (by omega) _ cW.new).mono ?_
 rintro _ _ ⟨x,hx,rfl,rfl⟩
 rw[cK]
 simp -implicitDefEqProofs only[aK,e2,aB.aJ,aA,seval,PH]
 exact⟨dY,dY,S6 h2 hc,s',x,hs',rfl⟩
theorem aVK(code:List Bt)(st:aB):aD prog 42 [.slice (code.map gE)] st (fun r st'=>(∃(p:List Cl) (q:List Tm) (k:Int),r=.tup [.slice (p.map a9),.slice (q.map Tm.av),.int .i64 k])∧st'=st):=by
 refine wF [1000000] 1 func42 ntmps42 rfl rfl ?_
 intro _
 simp -implicitDefEqProofs only[aA,seval]
 refine(Z7 code _).mono ?_
 rintro _ s1 ⟨⟨p,q,most,fuel,_,rfl⟩,rfl⟩
 simp -implicitDefEqProofs only[aA,seval]
 exact⟨p,q,fuel,rfl⟩
abbrev K1:=zi tI_3 (zi zI_3 (zi aU (zi tI_30 (zi zI_30 (zi iL (zi iM (zi iN (zi iO (zi iP (zi iQ (zi iK (zi tI_40 (zi zI_40 (zi dT (zi fJ (zi fK (zi fU (zi tI_47 (zi zI_47 (zi mU (zi pT (zi pU (zi pJ (zi tI_91 zI_91))))))))))))))))))))))))
set_option maxHeartbeats 1000000 in
theorem aVJ(code:List Bt)(st:aB):aD prog 45 [.slice (code.map gE)] st (fun r st'=>(∃(s:Ss) (sl:List Int),l9 s∧r=.tup [cQ s,.slice (sl.map iv)])∧st'=st):=by
 refine aD.kS (aD.fin ?_)
 refine wF [1000000,2] 1 func45 ntmps45 rfl rfl ?_
 intro _
 simp -implicitDefEqProofs only[aA,seval,K1]
 intro b2 h2
 refine(H6 code _).mono ?_
 rintro _ _ ⟨c,bs,rfl,hc,rfl⟩
 have hcb:c≠b2:=by rintro rfl;rw[aB.aJ] at hc;cases hc
 rw[aB.aG _ _ hcb] at hc
 simp -implicitDefEqProofs only[aA,seval]
 refine(H5 bs c 0 _ (by omega) cW.new).mono ?_
 rintro _ _ ⟨p1,r1,r2,rfl,s,hs,rfl⟩
 rw[cK]
 simp -implicitDefEqProofs only[aA,seval]
 refine(MH bs c p1 s hs _ (by omega) cW.new).mono ?_
 rintro _ _ ⟨p2,s1,s2,rfl,s',hs',rfl⟩
 rw[cK]
 have e2:∀(o X:AO),((st.aC b2 o).aC c X) b2=some o:=fun o X=>by rw[aB.aG _ _ hcb.symm,aB.aJ]
 simp only[cQ]
 simp -implicitDefEqProofs only[aA,↓aS,seval,K1]
 refine(nO [3,5,1,0] (by simp) (by simp) bs c p2 (by omega) _ cW.new).mono ?_
 rintro _ _ ⟨x,hx,rfl,rfl⟩
 rw[cK]
 have hx5:0≤x∧x≤5:=by simp only[dB,dV,eA] at hx;omega
 simp -implicitDefEqProofs only[aA,seval]
 generalize ho:(AO.cells _:AO)=o2
 have hRq:∀(q b:Nat) (L:List AV),(L≠[]→((st.aC b2 o2).aC c (b7 bs q)) b=none)→cW (aV ((st.aC b2 o2).aC c (b7 bs q)) b L) c bs q∧∀o,(aV ((st.aC b2 o2).aC c (b7 bs q)) b L).aC c o=aV ((st.aC b2 o2).aC c o) b L∧(L≠[]→((st.aC b2 o2).aC c o) b=none):=fun q b L hb=>by
  have hne:L≠[]→c≠b:=fun h e=>by have:=hb h;rw[←e,aB.aJ] at this;cases this
  refine⟨?_,fun o=>⟨?_,fun h=>?_⟩⟩
  · unfold cW
    by_cases h:L= []
    · rw[h,oA,aB.aJ];try rfl
    · rw[nL (hne h),aB.aJ];try rfl
  · rw[lQ hne,cK]
  · have:=hb h
    rw[aB.aG _ _ (dG (hne h))] at this ⊢
    exact this
 obtain⟨k,rfl⟩:=qF hx5.1
 refine iT (σ:=Nat×Nat×Nat×List Int) [1000000] [2,3,4,5] (fun x=>x.1≤5∧p2+1≤x.2.1∧x.2.1+x.1≤p2+10∧x.2.2.2.length+x.1≤5∧(x.2.2.2.map iv≠[]→((st.aC b2 o2).aC c (b7 bs x.2.1)) x.2.2.1=none)) (fun x=>[(6,aZ 1 x.2.2.1 (x.2.2.2.map iv)),(7,.int .i64 (x.1:Int))]) (fun x=>aV ((st.aC b2 o2).aC c (b7 bs x.2.1)) x.2.2.1 (x.2.2.2.map iv)) (fun x=>x.1) (by decide +kernel) ⟨(k,p2+1,0,[]),⟨by simp only;omega,by simp only;omega,by simp only;omega,by simp only[aX];omega,by simp⟩,aP.mk (by simp -implicitDefEqProofs only[aW,jV,aA,seval])⟩ ?_
 rintro⟨i,q,b,l⟩ ⟨i1,i2,i3,i4,i5⟩
 simp only at i1 i2 i3 i4 i5
 obtain⟨m1,m2⟩:=hRq q b _ i5
 have hw:=bO (n:=(i:Int) - 1)
 have hbb:l.map iv≠[]→b2≠b:=fun h e=>by have:=i5 h;rw[←e,aB.aG _ _ hcb.symm,aB.aJ] at this;cases this
 have e2':aV ((st.aC b2 o2).aC c (b7 bs q)) b (l.map iv) b2=some o2:=by rw[t8 hbb,e2]
 subst ho
 simp -implicitDefEqProofs only[aA,seval]
 refine aQ (fun h=>?_) (fun h=>?_)
 case refine_2=>
  simp -implicitDefEqProofs only[aK,e2',aB.aJ,nM,aA,seval,K1]
  rw[lQ hbb]
  have hj:∀e∈l.map iv,e.cJ=false:=fun e he=>by simp only[cY] at he;obtain⟨t,_,rfl⟩:=he;rfl
  have hwd:∀e∈l.map iv,e.width=1:=fun e he=>by simp only[cY] at he;obtain⟨t,_,rfl⟩:=he;rfl
  refine⟨b,l.map iv,_,rfl,fun h=>?_,hj,⟨1,hwd⟩,st,S6 h2 hc,⟨s',l,hs',by simp only[gG,kK,eS,jF,mV,bB,aW]⟩,rfl⟩
  rw[aB.aG _ _ (hbb h).symm]
  exact i5 h
 have hi:0<i:=by simp only[bK] at h;omega
 simp -implicitDefEqProofs only[aA,seval,K1]
 refine(nO [1,4,9,0,30,-1] (by simp) (by simp) bs c q (by omega) _ m1).mono ?_
 rintro _ _ ⟨x,hx,rfl,rfl⟩
 obtain⟨m3,m4⟩:=m2 (b7 bs (q+1))
 rw[m3]
 simp -implicitDefEqProofs only[aA,seval,K1]
 have hwd:∀e∈l.map iv,e.width=1:=fun e he=>by simp only[cY] at he;obtain⟨t,_,rfl⟩:=he;rfl
 refine eE (xs:=[.int .i64 x]) dT fJ fK rfl rfl (fL rfl rfl) hwd m4 (by simp only[aF,aT,aX];omega) (by simp only[aF,aT,aX];omega) (fun b' hb'=>?_)
 rw[show l.map iv++ [AV.int .i64 x]=(l++ [x]).map iv by simp] at hb' ⊢
 have hi1:((i - 1:Nat):Int)=(i:Int) - 1:=by omega
 simp -implicitDefEqProofs only[hw,aA,seval]
 exact⟨(i - 1,q+1,b',l++ [x]),by simp only;omega,⟨by simp only;omega,by simp only;omega,by simp only;omega,by simp only[dW,aT,aX];omega,hb'⟩,aP.mk (by simp -implicitDefEqProofs only[hi1,aA,seval])⟩
abbrev G1:=zi tI_2 (zi zI_2 (zi LC (zi tI_3 (zi zI_3 (zi aU (zi tI_30 (zi zI_30 (zi iL (zi iM (zi iN (zi iO (zi iP (zi iQ (zi iK (zi tI_47 (zi zI_47 (zi mU (zi pT (zi pU (zi pJ (zi tI_91 zI_91)))))))))))))))))))))
set_option maxHeartbeats 1000000 in
theorem aVL(code:List Bt)(st:aB):aD prog 40 [.slice (code.map gE)] st (fun r st'=>(∃a b:Ss,l9 a∧l9 b∧r=.tup [cQ a,cQ b])∧st'=st):=by
 refine aD.drop ?_
 refine wF [1000000,2,3] 1 func40 ntmps40 rfl rfl ?_
 intro _
 simp -implicitDefEqProofs only[aA,seval,G1]
 intro b2 h2 b3 h3
 have h32:b3≠b2:=by rintro rfl;rw[aB.aJ] at h3;cases h3
 rw[aB.aG _ _ h32] at h3
 refine(H6 code _).mono ?_
 rintro _ _ ⟨c,bs,rfl,hc,rfl⟩
 have hc3:c≠b3:=by rintro rfl;rw[aB.aJ] at hc;cases hc
 rw[aB.aG _ _ hc3] at hc
 have hc2:c≠b2:=by rintro rfl;rw[aB.aJ] at hc;cases hc
 rw[aB.aG _ _ hc2] at hc
 simp -implicitDefEqProofs only[aA,seval]
 refine(H5 bs c 0 _ (by omega) cW.new).mono ?_
 rintro _ _ ⟨p1,r1,r2,rfl,s,hs,rfl⟩
 rw[cK]
 simp -implicitDefEqProofs only[a60,a6Z,a6Y,aA,↓aS,seval,G1]
 refine(mS bs c p1 (by omega) 2 (by omega) (by omega) _ cW.new).mono ?_
 rintro _ _ ⟨k,hk,rfl,rfl⟩
 rw[cK]
 simp -implicitDefEqProofs only[aA,seval]
 simp only[cQ]
 have R:∀(X Y:AO) (q:Nat),cW (((st.aC b2 X).aC b3 Y).aC c (b7 bs q)) c bs q:=fun _ _ _=>cW.new
 have e2:∀X Y Z:AO,(((st.aC b2 X).aC b3 Y).aC c Z) b2=some X:=fun X Y Z=>by rw[aB.aG _ _ hc2.symm,aB.aG _ _ h32.symm,aB.aJ]
 have e3:∀X Y Z W:AO,((((st.aC b2 X).aC b3 Y).aC c Z).aC b2 W) b3=some Y:=fun X Y Z W=>by rw[aB.aG _ _ h32,aB.aG _ _ hc3.symm,aB.aJ]
 have e2':∀(X Y Z W V:AO),(((((st.aC b2 X).aC b3 Y).aC c Z).aC b2 W).aC b3 V) b2=some W:=fun X Y Z W V=>by rw[aB.aG _ _ h32.symm,aB.aJ]
 refine aQ (fun h0=>?_) (fun h0=>?_)
 · simp -implicitDefEqProofs only[aA,seval]
   refine HY (.fin [(0,1),(1,1),(2,0),(3,0),(4,0)]) [0,1] dQ mixed (by decide +kernel) rfl (by decide +kernel) dY ?_
   simp -implicitDefEqProofs only[BH,aA,seval,G1]
   refine(H5 bs c (p1+1) _ (by omega) (R _ _ _)).mono ?_
   rintro _ _ ⟨p2,s1,s2,rfl,z,hz,rfl⟩
   rw[cK]
   simp only[cQ]
   simp -implicitDefEqProofs only[aK,aB.aJ,e2,e3,e2',aA,seval,G1]
   refine⟨dY,dY,dY,fun x=>?_,s,z,hs,hz,rfl⟩
   by_cases x2:x=b2<;>by_cases xc:x=c<;>by_cases x3:x=b3<;>simp_all [aB.aC]
 · simp -implicitDefEqProofs only[aA,seval]
   refine HY (.fin [(0,1),(1,1),(2,1),(3,1),(4,0),(5,0),(6,0),(7,0)]) [0,1,2,3] dQ mixed (by decide +kernel) rfl (by decide +kernel) dY ?_
   simp -implicitDefEqProofs only[BH,aA,seval,G1]
   have hmu:=fun(z:Ss) (h:l9 z) q hq=>MH bs c q z h _ hq (R (.cells [.fslice [],.fslice [],.int .i64 0,.int .i64 0,.int .i64 0,.int .i64 0]) (.cells [.fslice [],.fslice [],.int .i64 0,.int .i64 0,.int .i64 0,.int .i64 0]) q)
   simp only[cQ] at hmu
   refine(hmu s hs (p1+1) (by omega)).mono ?_
   rintro _ _ ⟨p2,s1,s2,rfl,z,hz,rfl⟩
   rw[cK]
   simp only[cQ]
   simp -implicitDefEqProofs only[aA,seval]
   refine⟨dY,?_⟩
   refine(hmu z hz p2 (by omega)).mono ?_
   rintro _ _ ⟨p3,t1,t2,rfl,y,hy,rfl⟩
   rw[cK]
   simp only[cQ]
   simp -implicitDefEqProofs only[aK,aB.aJ,e2,e3,e2',aA,seval,G1]
   refine⟨dY,dY,dY,fun x=>?_,s,y,hs,hy,rfl⟩
   by_cases x2:x=b2<;>by_cases xc:x=c<;>by_cases x3:x=b3<;>simp_all [aB.aC]
def uW(a b:Ss):Bool:=jP nP a.p b.p&&(jP Tm.same a.q b.q&&(decide (a.dR=b.dR)&&(decide (a.used=b.used)&&(decide (a.sent=b.sent)&&decide (a.fin=b.fin)))))
theorem aY2(x y:Cl):nP x y=true↔x=y:=by
 obtain⟨h,b⟩:=x
 obtain⟨h',b'⟩:=y
 simp only[nP,cE,Tm.DN,Prod.mk.injEq]
 rw[E9 fun x _ y=>Tm.DN x y]
theorem O0{a b:Ss}:uW a b=true↔a=b:=by
 obtain⟨p,q,i0,i1,i2,i3⟩:=a
 obtain⟨p',q',j0,j1,j2,j3⟩:=b
 simp only[uW,cE,bK,Ss.mk.injEq]
 rw[E9 fun x _ y=>aY2 x y,E9 fun x _ y=>Tm.DN x y]
theorem a61(a:Ss):uW a a=true:=O0.2 rfl
theorem a62(a b:Ss):uW a b=uW b a:=by
 rw[vI,O0,O0]
 exact eq_comm
abbrev W8:=zi tI_3 (zi zI_3 (zi aU (zi tI_4 (zi zI_4 (zi cI (zi tI_27 (zi zI_27 (zi eH (zi gK (zi gN (zi iJ (zi tI_111 (zi zI_111 (zi kT (zi kU kQ)))))))))))))))
theorem aVN(l l':List Cl)(g:FuncId)(st:aB)(hc:∀x∈l,∀(y:Cl) (st:aB),aD prog g [a9 x,a9 y] st (fun r st'=>r=.bool (nP x y)∧st'=st)) :
 aD prog 91 [.slice (l.map a9),.slice (l'.map a9),.func g []] st (fun r st'=>r=.bool (jP nP l l')∧st'=st):=by
 refine wF [1000000] 3 func91 ntmps91 rfl rfl ?_
 simp only[eQ,AV.fits,eR,aF]
 intro ⟨⟨hl,_⟩,⟨hl',_⟩⟩
 simp -implicitDefEqProofs only[aF,aA,seval,W8]
 refine⟨fun h4=>?_,fun h4=>?_⟩
 · simp -implicitDefEqProofs only[aA,seval]
   simp only[lT,dL] at h4
   rw[CK _ (show l.length≠l'.length by omega)]
 simp only[qD,bK] at h4
 have h4':l.length=l'.length:=by omega
 simp -implicitDefEqProofs only[aF,aA,seval,W8]
 refine eL (σ:=Unit) [1000000] [1,2,15,16] l (fun i _=>∀(j:Nat) (x y:Cl),j<i→l[j]?=some x→l'[j]?=some y→nP x y=true) (fun i _=>[(17,.int .i64 i)]) (fun _ _=>st) (by decide +kernel) ⟨(),by intro j x y h;omega,aP.mk (by simp -implicitDefEqProofs only[aA,↓aS,seval])⟩ (fun i x _ hx hlt bR hdr cS=>?_) (fun _ hge cS=>?_)
 case refine_2=>
  simp -implicitDefEqProofs only[hge,aA,seval]
  rw[CI _ h4' (fun j x y h6 h7=>cS j x y (by have:=(gW.1 h6).1;omega) h6 h7)]
 obtain⟨y,hy⟩:∃y,l'[i]?=some y:=⟨_,fF (h4'▸hlt)⟩
 have hw:=bO (n:=(i:Int)+1)
 simp -implicitDefEqProofs only[bR,qL,jN,E5,E4,bQ (av:=a9) eH hx (jN x),bQ (av:=a9) eH hy (jN y),aA,↓aS,seval,W8]
 refine(hc x (dA hx) y _).to ?_
 simp -implicitDefEqProofs only[aA,seval]
 refine⟨fun h6=>?_,fun h6=>?_⟩
 · simp -implicitDefEqProofs only[aA,seval]
   have h7:nP x y=false:=by simpa using h6
   rw[CJ _ i x y hx hy h7]
 have h7:nP x y=true:=by simpa using h6
 simp -implicitDefEqProofs only[aA,seval]
 refine⟨(),fun j u v hj hu hv=>?_,aP.mk (by simp -implicitDefEqProofs only[hw,aA,seval])⟩
 rcases k7 j i with h8 | h8
 · exact cS j u v h8 hu hv
 · obtain rfl:j=i:=by omega
   rw[hx] at hu;rw[hy] at hv;cases hu;cases hv;exact h7
abbrev aRV:=zi tI_4 (zi zI_4 (zi cI (zi tI_28 (zi zI_28 (zi aO (zi bF (zi bG (zi bZ (zi tI_52 (zi zI_52 (zi bU (zi bV (zi bX (zi bY (zi bT (zi tI_111 (zi zI_111 (zi kT (zi kU kQ)))))))))))))))))))
theorem aWG(x y:Cl)(st:aB):aD prog 92 [a9 x,a9 y] st (fun r st'=>r=.bool (nP x y)∧st'=st):=by
 obtain⟨⟨k,n,s,ts⟩,b⟩:=x
 obtain⟨⟨k',n',s',ts'⟩,b'⟩:=y
 have hg:=fun st=>EY (.mk k n s ts) (.mk k' n' s' ts') st
 have hc:=fun st=>ME b b' 82 st fun x _ y s=>EY x y s
 simp only[a8] at hg
 simp only[gI,nP]
 generalize Tm.same (.mk k n s ts) (.mk k' n' s' ts')=u at *
 generalize jP Tm.same b b'=v at *
 refine wF [1000000] 2 func92 ntmps92 rfl rfl ?_
 intro _
 simp -implicitDefEqProofs only[aA,seval,aRV]
 refine(hg _).to ?_
 cases u with
 | false=>simp -implicitDefEqProofs only[g9,aA,seval]
 | true=>
  simp -implicitDefEqProofs only[aA,seval,aRV]
  refine(hc _).to ?_
  simp -implicitDefEqProofs only[aA,seval]
abbrev aRU:=zi tI_3 (zi zI_3 (zi aU (zi tI_4 (zi zI_4 (zi cI (zi tI_27 (zi zI_27 (zi eH (zi gK (zi gN (zi iJ (zi tI_28 (zi zI_28 (zi aO (zi bF (zi bG (zi bZ (zi tI_30 (zi zI_30 (zi iL (zi iM (zi iN (zi iO (zi iP (zi iQ iK)))))))))))))))))))))))))
set_option maxHeartbeats 1000000 in
theorem R8(a b:Ss)(st:aB):aD prog 39 [cQ a,cQ b] st (fun r st'=>r=.bool (uW a b)∧st'=st):=by
 have hp:=fun st=>aVN a.p b.p 92 st fun x _ y s=>aWG x y s
 have hq:=fun st=>ME a.q b.q 82 st fun x _ y s=>EY x y s
 unfold uW
 generalize jP nP a.p b.p=u at *
 generalize jP Tm.same a.q b.q=v at *
 obtain⟨p,q,i0,i1,i2,i3⟩:=a
 obtain⟨p',q',j0,j1,j2,j3⟩:=b
 simp only[cQ] at *
 refine wF [1000000] 2 func39 ntmps39 rfl rfl ?_
 intro _
 simp -implicitDefEqProofs only[aA,seval,aRU]
 repeat' (first
  | (simp -implicitDefEqProofs only[*,aA,seval,aRU])
  | (refine cU (fun h=>?_) (fun h=>?_))
  | (refine(hp _).to ?_) | (refine(hq _).to ?_)
  | (refine aQ (fun h=>?_) (fun h=>?_)))
 all_goals simp_all
theorem B3(a:Ss)(st:aB):aD prog 39 [cQ a,cQ a] st (fun r st'=>r=.bool true∧st'=st):=by
 have:=R8 a a st
 rwa [a61] at this
abbrev KP:=zi tI_3 (zi zI_3 (zi aU (zi tI_4 (zi zI_4 (zi cI (zi tI_28 (zi zI_28 (zi aO (zi bF (zi bG (zi bZ (zi tI_52 (zi zI_52 (zi bU (zi bV (zi bX (zi bY (zi bT (zi tI_111 (zi zI_111 (zi kT (zi kU kQ))))))))))))))))))))))
theorem aYJ(x y:Cl)(st:aB):aD prog 94 [a9 x,a9 y] st (fun r st'=>r=.bool (nP x y)∧st'=st):=by
 obtain⟨⟨k,n,s,ts⟩,b⟩:=x
 obtain⟨⟨k',n',s',ts'⟩,b'⟩:=y
 have hg:=fun st=>H9 (.mk k n s ts) (.mk k' n' s' ts') st
 simp only[a8] at hg
 simp only[gI,nP]
 generalize Tm.same (.mk k n s ts) (.mk k' n' s' ts')=u at *
 refine wF [1000000] 2 func94 ntmps94 rfl rfl ?_
 simp only[eQ,AV.fits,eR,aF]
 intro ⟨⟨_,_,_,_,hl⟩,_,_,_,_,hl'⟩
 simp -implicitDefEqProofs only[aA,seval,KP]
 refine(hg _).to ?_
 cases u with
 | false=>simp -implicitDefEqProofs only[g9,aA,seval]
 | true=>
  simp -implicitDefEqProofs only[aF,aA,seval,KP]
  by_cases hlen:b.length=b'.length
  case neg=>
   have h1:=cB (show ¬((b.length:Int)=(b'.length:Int)) by omega)
   simp -implicitDefEqProofs only[h1,bM,aA,seval]
   rw[CK _ hlen]
   try simp
  have h1:=cM (show((b.length:Int)=(b'.length:Int)) by omega)
  simp -implicitDefEqProofs only[h1,bE,aA,seval]
  try simp only[eP]
  refine eL (σ:=Unit) [1000000] [2,3] b (fun i _=>∀(j:Nat) (x y:Tm),j<i→b[j]?=some x→b'[j]?=some y→Tm.same x y=true) (fun i _=>[(4,.bool false),(5,.int .i64 i)]) (fun _ _=>st) (by decide +kernel) ⟨(),by intro j x y h;omega,aP.mk (by simp -implicitDefEqProofs only[aA,↓aS,seval])⟩ (fun i x _ hx hlt bR hdr cS=>?_) (fun _ hge cS=>?_)
  case refine_1=>
   obtain⟨y,hy⟩:∃y,b'[i]?=some y:=⟨_,fF (by omega)⟩
   have hw:=bO (n:=(i:Int)+1)
   have fR:=bQ (P:=prog) (av:=Tm.av) aO hx (aM x)
   have qR:=bQ (P:=prog) (av:=Tm.av) aO hy (aM y)
   have hwx:=aM x
   have hwy:=aM y
   have hax:=aY x
   have hay:=aY y
   simp -implicitDefEqProofs only[bR,aF,aA,seval,KP]
   refine L9 mixed (by decide +kernel) (by decide +kernel) ?_
   simp -implicitDefEqProofs only[fR,qR,hwx,hwy,hax,hay,aA,seval,KP]
   refine(H9 x y _).to ?_
   simp -implicitDefEqProofs only[aA,seval]
   refine aQ (fun h6=>?_) (fun h6=>?_)
   · simp -implicitDefEqProofs only[aA,seval]
     have h7:Tm.same x y=false:=by simpa using h6
     have h8:=CJ Tm.same i x y hx hy h7
     simp [h8]
   have h7:Tm.same x y=true:=by simpa using h6
   simp -implicitDefEqProofs only[hw,aA,seval]
   refine⟨(),fun j u v hj hu hv=>?_,aP.mk (by simp -implicitDefEqProofs only[aA,seval])⟩
   rcases k7 j i with h8 | h8
   · exact cS j u v h8 hu hv
   · obtain rfl:j=i:=by omega
     rw[hx] at hu;rw[hy] at hv;cases hu;cases hv;exact h7
  have heq:jP Tm.same b b'=true:=CI _ hlen (fun j x y h6 h7=>cS j x y (by have:=(gW.1 h6).1;omega) h6 h7)
  simp -implicitDefEqProofs only[hge,aF,aA,seval,KP]
  rw[heq]
abbrev tH:=zi tI_3 (zi zI_3 (zi aU (zi tI_4 (zi zI_4 (zi cI (zi tI_27 (zi zI_27 (zi eH (zi gK (zi gN (zi iJ (zi tI_28 (zi zI_28 (zi aO (zi bF (zi bG (zi bZ (zi tI_30 (zi zI_30 (zi iL (zi iM (zi iN (zi iO (zi iP (zi iQ (zi iK (zi tI_52 (zi zI_52 (zi bU (zi bV (zi bX (zi bY (zi bT (zi tI_111 (zi zI_111 (zi kT (zi kU kQ)))))))))))))))))))))))))))))))))))))
set_option maxHeartbeats 1000000 in
theorem aYL(a b:Ss)(st:aB):aD prog 41 [cQ a,cQ b] st (fun r st'=>r=.bool (uW a b)∧st'=st):=by
 unfold uW
 obtain⟨p,q,i0,i1,i2,i3⟩:=a
 obtain⟨p',q',j0,j1,j2,j3⟩:=b
 simp only[cQ]
 refine wF [1000000] 2 func41 ntmps41 rfl rfl ?_
 simp only[eQ,AV.fits,eR,aF]
 intro ⟨⟨hl1,hl2,_⟩,hl3,hl4,_⟩
 simp -implicitDefEqProofs only[aF,aA,seval,tH]
 by_cases hlen:p.length=p'.length
 case neg=>
  have h1:=cB (show ¬((p.length:Int)=(p'.length:Int)) by omega)
  simp -implicitDefEqProofs only[h1,bM,aA,seval]
  rw[CK _ hlen]
  simp
 have h1:=cM (show((p.length:Int)=(p'.length:Int)) by omega)
 simp -implicitDefEqProofs only[bE,aF,h1,aA,seval,tH]
 by_cases hq:q.length=q'.length
 case neg=>
  have h2:=cB (show ¬((q.length:Int)=(q'.length:Int)) by omega)
  simp -implicitDefEqProofs only[h2,bM,aA,seval]
  rw[CK _ hq]
  simp
 have h2:=cM (show((q.length:Int)=(q'.length:Int)) by omega)
 simp -implicitDefEqProofs only[bE,h2,aA,seval,tH]
 by_cases e0:i0=j0
 case neg=>
  simp -implicitDefEqProofs only[e0,bM,aA,seval]
  simp []
 subst e0
 simp -implicitDefEqProofs only[bE,aA,seval,tH]
 by_cases e1:i1=j1
 case neg=>
  simp -implicitDefEqProofs only[e1,bM,aA,seval]
  simp []
 subst e1
 simp -implicitDefEqProofs only[bE,aA,seval,tH]
 by_cases e2:i2=j2
 case neg=>
  simp -implicitDefEqProofs only[e2,bM,aA,seval]
  simp []
 subst e2
 simp -implicitDefEqProofs only[bE,aA,seval,tH]
 by_cases e3:i3=j3
 case neg=>
  simp -implicitDefEqProofs only[e3,bM,aA,seval]
  simp []
 subst e3
 simp -implicitDefEqProofs only[bE,aA,seval]
 try simp only[eP,BA,bE]
 refine eL (σ:=Unit) [1000000] [2,3] p (fun i _=>∀(j:Nat) (x y:Cl),j<i→p[j]?=some x→p'[j]?=some y→nP x y=true) (fun i _=>[(4,.bool false),(5,.int .i64 i)]) (fun _ _=>st) (by decide +kernel) ⟨(),by intro j x y h;omega,aP.mk (by simp -implicitDefEqProofs only[aA,↓aS,seval])⟩ (fun i x _ hx hlt bR hdr cS=>?_) (fun _ hge cS=>?_)
 case refine_1=>
  obtain⟨y,hy⟩:∃y,p'[i]?=some y:=⟨_,fF (by omega)⟩
  have hw:=bO (n:=(i:Int)+1)
  have fR:=bQ (P:=prog) (av:=a9) eH hx (jN x)
  have qR:=bQ (P:=prog) (av:=a9) eH hy (jN y)
  have hwx:=jN x
  have hwy:=jN y
  have hax:=qL x
  have hay:=qL y
  simp -implicitDefEqProofs only[bR,aF,aA,seval,tH]
  refine L9 mixed (by decide +kernel) (by decide +kernel) ?_
  simp -implicitDefEqProofs only[fR,qR,hwx,hwy,hax,hay,aA,seval,tH]
  refine(aYJ x y _).to ?_
  simp -implicitDefEqProofs only[aA,seval]
  refine aQ (fun h6=>?_) (fun h6=>?_)
  · simp -implicitDefEqProofs only[aA,seval]
    have h7:nP x y=false:=by simpa using h6
    have h8:=CJ nP i x y hx hy h7
    simp [h8]
  have h7:nP x y=true:=by simpa using h6
  simp -implicitDefEqProofs only[hw,aA,seval]
  refine⟨(),fun j u v hj hu hv=>?_,aP.mk (by simp -implicitDefEqProofs only[aA,seval])⟩
  rcases k7 j i with h8 | h8
  · exact cS j u v h8 hu hv
  · obtain rfl:j=i:=by omega
    rw[hx] at hu;rw[hy] at hv;cases hu;cases hv;exact h7
 have heq:jP nP p p'=true:=CI _ hlen (fun j x y h6 h7=>cS j x y (by have:=(gW.1 h6).1;omega) h6 h7)
 simp -implicitDefEqProofs only[hge,aF,aA,seval,tH]
 rw[heq]
 replace heq:=hq
 clear cS
 have hlen:=hq
 refine eL (σ:=Unit) [1000000] [2,3] q (fun i _=>∀(j:Nat) (x y:Tm),j<i→q[j]?=some x→q'[j]?=some y→Tm.same x y=true) (fun i _=>[(4,.bool false),(6,.int .i64 i)]) (fun _ _=>st) (by decide +kernel) ⟨(),by intro j x y h;omega,aP.mk (by simp -implicitDefEqProofs only[aA,↓aS,seval])⟩ (fun i x _ hx hlt bR hdr cS=>?_) (fun _ hge cS=>?_)
 case refine_1=>
  obtain⟨y,hy⟩:∃y,q'[i]?=some y:=⟨_,fF (by omega)⟩
  have hw:=bO (n:=(i:Int)+1)
  have fR:=bQ (P:=prog) (av:=Tm.av) aO hx (aM x)
  have qR:=bQ (P:=prog) (av:=Tm.av) aO hy (aM y)
  have hwx:=aM x
  have hwy:=aM y
  have hax:=aY x
  have hay:=aY y
  simp -implicitDefEqProofs only[bR,aF,aA,seval,tH]
  refine L9 mixed (by decide +kernel) (by decide +kernel) ?_
  simp -implicitDefEqProofs only[fR,qR,hwx,hwy,hax,hay,aA,seval,tH]
  refine(H9 x y _).to ?_
  simp -implicitDefEqProofs only[aA,seval]
  refine aQ (fun h6=>?_) (fun h6=>?_)
  · simp -implicitDefEqProofs only[aA,seval]
    have h7:Tm.same x y=false:=by simpa using h6
    have h8:=CJ Tm.same i x y hx hy h7
    simp [h8]
  have h7:Tm.same x y=true:=by simpa using h6
  simp -implicitDefEqProofs only[hw,aA,seval]
  refine⟨(),fun j u v hj hu hv=>?_,aP.mk (by simp -implicitDefEqProofs only[aA,seval])⟩
  rcases k7 j i with h8 | h8
  · exact cS j u v h8 hu hv
  · obtain rfl:j=i:=by omega
    rw[hx] at hu;rw[hy] at hv;cases hu;cases hv;exact h7
 have heq:jP Tm.same q q'=true:=CI _ hlen (fun j x y h6 h7=>cS j x y (by have:=(gW.1 h6).1;omega) h6 h7)
 simp -implicitDefEqProofs only[hge,aF,aA,seval,tH]
 rw[heq]
abbrev yJ:=zi tI_3 (zi zI_3 (zi aU (zi tI_4 (zi zI_4 (zi cI (zi tI_27 (zi zI_27 (zi eH (zi gK (zi gN (zi iJ (zi tI_28 (zi zI_28 (zi aO (zi bF (zi bG (zi bZ (zi tI_30 (zi zI_30 (zi iL (zi iM (zi iN (zi iO (zi iP (zi iQ (zi iK (zi tI_31 (zi zI_31 (zi gM (zi jX (zi jY (zi lX (zi tI_47 (zi zI_47 (zi mU (zi pT (zi pU pJ)))))))))))))))))))))))))))))))))))))
set_option maxHeartbeats 2000000 in
theorem aVR(code:List Bt)(st:aB):aD prog 6 [.slice (code.map gE)] st (fun r _=>r=.bool true):=by
 refine wF [1000000] 1 func6 ntmps6 rfl rfl ?_
 intro _
 simp -implicitDefEqProofs only[aF,aA,seval,yJ]
 refine aQ (fun h1=>?_) (fun h1=>?_)
 · simp -implicitDefEqProofs only[aA,seval]
 simp -implicitDefEqProofs only[aA,seval]
 refine(aVM code _).mono ?_
 rintro _ s1 ⟨⟨s,hs,rfl⟩,rfl⟩
 have hv:=w7 s
 have hv2:=aBJ s
 have hE:=fun h hf=>aS5 (s:=s) h hf
 have hS:=fun st=>(H3 s.p s.q 20 s.dR st).AC
 generalize fO s=ok at *
 generalize d8 s.p (fun _ l=>l) s.q 20 s.dR=T at *
 obtain⟨L,e⟩:=T
 obtain⟨p,q,i0,i1,i2,i3⟩:=s
 simp only[cQ] at *
 simp -implicitDefEqProofs only[aA,↓aS,seval,yJ]
 refine(hv _).to ?_
 simp -implicitDefEqProofs only[aA,seval,yJ]
 refine(hv2 _).to ?_
 cases ok with
 | false=>
  simp -implicitDefEqProofs only[dX,aA,seval,yJ]
  refine(hv2 _).to ?_
  simp -implicitDefEqProofs only[dX,aA,seval,yJ]
 | true=>
  by_cases h3:i3= -1
  · have h3':=cM h3
    simp -implicitDefEqProofs only[h3',dX,bE,aA,seval,yJ]
    refine(hv2 _).to ?_
    simp -implicitDefEqProofs only[dX,aA,seval,yJ]
  have h3':=cB h3
  obtain⟨e1,e2⟩:=hE rfl h3
  subst e1 e2
  simp -implicitDefEqProofs only[h3',dX,bM,aA,seval,yJ]
  refine(hS _).to ?_
  simp -implicitDefEqProofs only[dX,bE,aF,aF,aA,seval,yJ]
abbrev tF:=zi tI_3 (zi zI_3 (zi aU (zi tI_4 (zi zI_4 (zi cI (zi tI_30 (zi zI_30 (zi iL (zi iM (zi iN (zi iO (zi iP (zi iQ (zi iK (zi tI_31 (zi zI_31 (zi gM (zi jX (zi jY (zi lX (zi tI_47 (zi zI_47 (zi mU (zi pT (zi pU pJ)))))))))))))))))))))))))
set_option maxHeartbeats 2000000 in
theorem aVP(code:List Bt)(st:aB):aD prog 7 [.slice (code.map gE)] st (fun r _=>r=.bool true):=by
 refine wF [1000000] 1 func7 ntmps7 rfl rfl ?_
 intro _
 simp -implicitDefEqProofs only[aF,aA,seval,tF]
 refine aQ (fun h1=>?_) (fun h1=>?_)
 · simp -implicitDefEqProofs only[aA,seval]
 simp -implicitDefEqProofs only[aA,seval]
 refine(RY code _).mono ?_
 rintro _ s1 ⟨⟨s,n,hs,rfl⟩,rfl⟩
 obtain⟨k1,k2,k3,k4⟩:=hs.small
 obtain⟨j1,j2,j3,j4⟩:=hs.cA (n:=n) |>.small
 have hsp:=MN s n k1 k2 k3 k4
 have him:=fun st=>(B4 s n k1 k2 k3 k4 st).GJ
 have hv:=w7 s
 have hI:=fun h=>a3G (s:=s) (n:=n) h
 have UQ:=fun st=>(B4 (cA s n).1 n j1 j2 j3 j4 st).GJ
 have hss:=B3 (cA s n).1
 generalize fO s=ok at *
 generalize cA (cA s n).1 n=Y at *
 generalize cA s n=X at *
 obtain⟨⟨p,q,i0,i1,i2,i3⟩,kk⟩:∃t:Ss,t=s:=⟨s,rfl⟩
 subst kk
 obtain⟨⟨xp,xq,x0,x1,x2,x3⟩,xl⟩:=X
 obtain⟨⟨yp,yq,y0,y1,y2,y3⟩,yl⟩:=Y
 simp only at hI
 simp only[cQ] at *
 simp -implicitDefEqProofs only[aA,↓aS,seval,tF]
 refine(him _).to ?_
 simp -implicitDefEqProofs only[aA,↓aS,seval,tF]
 refine(hsp _).to ?_
 simp -implicitDefEqProofs only[aA,↓aS,seval,tF]
 refine(hss _).to ?_
 simp -implicitDefEqProofs only[aA,seval]
 refine(o0 xl _).to ?_
 simp -implicitDefEqProofs only[aA,seval,tF]
 refine(hv _).to ?_
 cases ok with
 | false=>
  simp -implicitDefEqProofs only[aA,seval,tF]
  refine(hss _).to ?_
  simp -implicitDefEqProofs only[aA,seval]
  refine(o0 xl _).to ?_
  simp -implicitDefEqProofs only[aA,seval]
 | true=>
  simp -implicitDefEqProofs only[aA,seval,tF]
  refine(UQ _).to ?_
  obtain⟨hI1,hI2⟩:=hI rfl
  by_cases h3:x3= -1
  · have h3':=cM h3
    simp -implicitDefEqProofs only[h3',bE,aA,↓aS,seval,tF]
    by_cases h4:i1<i0
    · have h4':=cM h4
      simp -implicitDefEqProofs only[h4',bE,dX,aA,seval]
    have h4':=cB h4
    by_cases h5:n<0
    · have h5':=cM h5
      simp -implicitDefEqProofs only[h4',h5',bE,bM,aA,seval]
    · exact absurd h3 (hI2 (by simpa using h4) (by omega))
  · have h3':=cB h3
    have hY:=hI1 h3
    simp only[Prod.mk.injEq,Ss.mk.injEq] at hY
    obtain⟨⟨rfl,rfl,rfl,rfl,rfl,rfl⟩,rfl⟩:=hY
    simp -implicitDefEqProofs only[h3',bE,bM,aW,aX,dX,aA,↓aS,seval,tF]
    refine(hss _).to ?_
    by_cases h4:i1<i0
    · have h4':=cM h4
      simp -implicitDefEqProofs only[h4',bE,dX,aA,seval,tF]
    have h4':=cB h4
    by_cases h5:n<0
    · have h5':=cM h5
      simp -implicitDefEqProofs only[h4',h5',bE,bM,dX,aA,seval,tF]
    · have h5':=cB h5
      simp -implicitDefEqProofs only[h3',h4',h5',bM,dX,aA,seval,tF]
end Go.AW
