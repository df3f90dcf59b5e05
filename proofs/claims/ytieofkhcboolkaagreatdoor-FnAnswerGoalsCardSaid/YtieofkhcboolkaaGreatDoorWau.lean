import Derived.Test.YtieofkhcboolkaaGreatDoorWas
import Derived.Test.YtieofkhcboolkaaGreatDoorWak
import Derived.Test.YtieofkhcboolkaaGreatDoorWah
import Derived.Test.YtieofkhcboolkaaGreatDoorWal
import Derived.Test.YtieofkhcboolkaaGreatDoorWar
import Derived.LaidMore
import Derived.LaidSub
import Derived.Lib.LaidTab
import Derived.Test.YtieofkhcboolkaaGreatDoorWat
import Derived.Test.YtieofkhcboolkaaGreatDoorWap
import Derived.Test.YtieofkhcboolkaaGreatDoorWao
import Derived.Test.YtieofkhcboolkaaGreatDoorWaq
import Derived.Test.YtieofkhcboolkaaGreatDoorWaj
set_option linter.unusedSimpArgs false
set_option linter.unusedVariables false
set_option maxRecDepth 100000
namespace Go.AW
open Go.Proofs.Tryz
section
variable {H:Type} {enc:TypeId×Value→H} {w:World}
theorem aV0:prog.cellsOf 5=1:=by kernel_rfl
end
section
variable {H:Type} {enc:TypeId×Value→H} {w:World}
theorem aPW{r:Reach}{b0:Nat}{t e:TypeId}{v:Value}(ht:prog.underlying t=some (.slice e))(h:Value.okWide prog w r b0 t v):mC v=false:=by
 cases v<;>first | rfl | (simp [Value.okWide,ht,Cell.okWide,Cell.ok] at h)
end
section
variable {H:Type} {enc:TypeId×Value→H} {w:World}
end
end Go.AW
namespace Go.AW
def wU(k:Nat)(o:AO):aB:=fun b=>if b=k then some o else none
theorem aNO(k:Nat)(o:AO):wU k o k=some o:=by simp [wU]
theorem aNP{k:Nat}{o:AO}{b:Nat}(h:b≠k):wU k o b=none:=by simp [wU,h]
end Go.AW

namespace Go.AW
open Go.ChangeShapes Go.WideShapes Go.ChangeAt Go.RowKit
set_option maxRecDepth 100000
section
variable {H:Type} {enc:TypeId×Value→H} {P:Program} {w:World}
def Sep(h:bM)(s0:aB):Prop:=∀b off v,s0 b≠none→cellAt h b off=some v→∃n,v=.int .u64 n
def U5(h:bM)(s0:aB){α:Type}(av:α→AV):Prop:=∀(a:α) ds,VC h s0 (av a) ds→∃v,v∈ds∧∀n,v≠.int .u64 n
def FF(enc:TypeId×Value→H)(P:Program)(w:World)(s0:aB)(t n:Nat){α:Type}(av:α→AV):Prop:=
 ∀cs x,DataW.trod enc P w 0 (fun _=>true) true n t cs=some x→∃a:α,VC w.heap s0 (av a) cs
theorem YR{h:bM}{b:Nat}:∀ {l:List Value} {off:Nat},eV h b off l→∀v∈l,∃o,cellAt h b o=some v
 | [],_,_,v,hv=>by cases hv
 | x::l,off,hc,v,hv=>by
  rcases c8.1 hv with rfl | hv
  · exact⟨off,hc.1⟩
  · exact YR hc.2 v hv
theorem a4P{s0:aB}(hS:Sep w.heap s0){t e n k:Nat}{α:Type}{av:α→AV}(ht:P.underlying t=some (.slice e))(hk:P.cellsOf e=k)(yC:0<k)(hw:∀a,(av a).width=k)(hu:U5 w.heap s0 av)(hr:∀m,m<n→FF enc P w s0 e m av) :
 FF enc P w s0 t n (fun l:List α=>.slice (l.map av)):=by
 intro cs x h
 rcases DataW.trod_slice ht h with ⟨rfl,_⟩ | ⟨a,len,cap,elems,rest,m,hm,rfl,rfl,_,hl,DG,hlen,hel,hsp,_⟩
 · exact⟨[],by simp only[aV];unfold VC;exact .inl ⟨⟨_,rfl⟩,rfl⟩⟩
 obtain⟨hrl,DM⟩:=hsp rfl
 rw[hk] at hel DM
 have get:∀i,i<cap→∃ds y,w.cells? 0 (a.add (i*k)) k=some ds∧DataW.trod enc P w 0 (fun _=>true) true m e ds=some y:=by
  intro i hi
  have hb:∃y,(w.cells? 0 (a.add (i*k)) k).bind (DataW.trod enc P w 0 (fun _=>true) true m e)=some y:=by
   by_cases hi':i<len
   · exact⟨elems[i]'(by omega),by rw[hel i hi'];simp [show i<elems.length by omega]⟩
   · have:=DM (i - len) (by omega)
     rw[show len+(i - len)=i by omega] at this
     exact⟨rest[i - len]'(by omega),by rw[this];simp [show i - len<rest.length by omega]⟩
  obtain⟨y,hy⟩:=hb
  obtain⟨ds,h1,h2⟩:=Option.bind_eq_some_iff.1 hy
  exact⟨ds,y,h1,h2⟩
 by_cases hc0:cap=0
 · subst hc0
   obtain rfl:len=0:=by omega
   exact⟨[],by simp only[aV];unfold VC;exact .inl ⟨⟨_,rfl⟩,rfl⟩⟩
 obtain⟨ds0,y0,hd0,hy0⟩:=get 0 (by omega)
 have aK3:a.spot=none∧a.block<w.heap.size:=by
  obtain⟨_,hl0,hc⟩:=World.cells?_some hd0
  have:=hc 0 yC
  have h0:ds0[0]?=some (ds0[0]'(by omega)):=by simp [hl0,yC]
  rw[h0] at this
  have:=YQ this
  obtain⟨b,off,sp⟩:=a
  simp only[Nat.zero_mul] at this
  cases sp with
  | none=>exact⟨rfl,by simpa [Addr.nR] using this.2.1⟩
  | some s=>exact absurd this.1 (by simp [Addr.add])
 obtain⟨b,off,sp⟩:=a
 simp only at aK3
 obtain⟨rfl,hbl⟩:=aK3
 have hb0:s0 b=none:=by
  cases hsb:s0 b with
  | none=>rfl
  | some o=>
   obtain⟨v,hv⟩:=hr m (by omega) ds0 y0 hy0
   obtain⟨u,hu1,hu2⟩:=hu v ds0 hv
   obtain⟨c1,_⟩:=YT (a:=(⟨b,off,none⟩:Addr).add (0*k)) (by simp [Addr.nR]) hd0
   obtain⟨o',ho'⟩:=YR c1 u hu1
   obtain⟨n',hn'⟩:=hS b o' u (by rw[hsb];simp) (by simpa [Addr.nR] using ho')
   exact absurd hn' (hu2 n')
 have val:∀i,i<len→∃v:α,VE w.heap s0 b (off+i*k) (av v):=by
  intro i hi
  obtain⟨ds,y,h1,h2⟩:=get i (by omega)
  obtain⟨v,hv⟩:=hr m (by omega) ds y h2
  obtain⟨c1,c2⟩:=YT (a:=(⟨b,off,none⟩:Addr).add (i*k)) (by simp [Addr.nR]) h1
  exact⟨v,ds,by simpa [Addr.nR] using c1,by rw[hw];exact c2,hv⟩
 have build:∀j,j≤len→∃l:List α,l.length=j∧∀(i:Nat) v,l[i]?=some v→VE w.heap s0 b (off+i*k) (av v):=by
  intro j
  induction j with
  | zero=>intro _;exact⟨[],rfl,by simp⟩
  | succ j ih=>
   intro hj
   obtain⟨l,h1,h2⟩:=ih (by omega)
   obtain⟨v,hv⟩:=val j (by omega)
   refine⟨l++ [v],by simp [h1],fun i u hi=>?_⟩
   rw[List.getElem?_append] at hi
   split at hi
   · exact h2 i u hi
   · rename_i hge
     have:i=j:=by
      have:=(gS.1 hi).1
      simp at this
      omega
     subst this
     simp [h1] at hi
     subst hi
     exact hv
 obtain⟨l,h1,h2⟩:=build len (cZ _)
 refine⟨l,?_⟩
 unfold VC
 refine .inr ⟨b,off,cap,by simp [h1],by simp [h1];exact hl,DG,hb0,hbl,aXB hw l,VI (k:=k) (by intro e he;simp only[cI] at he;obtain⟨v,_,rfl⟩:=he;exact hw v) fun i e he=>?_⟩
 rw[mD] at he
 obtain⟨v,hv,rfl⟩:=Option.map_eq_some_iff.1 he
 exact h2 i v hv
theorem aMP{s0:aB}{t:TypeId}{α:Type}{av:α→AV}{v:Value}{d:DataW H}{ps:List MemPlace}(hr:∀n,FF enc P w s0 t n av)(hag:∀a,(av a).isAgg=mC v)(h:DataW.Trod enc P w 0 (fun _=>true) true t v d ps) :
 ∃a:α,aQ w.heap s0 (av a) v:=by
 obtain⟨n,hn⟩:=h
 obtain⟨a,ha⟩:=hr n _ _ hn
 refine⟨a,?_⟩
 have:=hag a
 cases hq:av a<;>rw[hq] at ha this<;>first | trivial | exact⟨this,ha⟩
theorem aR3{W W':World}{s0 st':aB}(T:b7 W.heap s0 W'.heap st')(s:fJ W W')(h0:∀b,s0 b≠none→W'.heap[b]?=W.heap[b]?):Below W.heap.size W W':=
 ⟨s.1,s.2.1,s.2.2,T.size,fun k hk=>by
  cases h:s0 k with
  | none=>exact(T.bB k hk h).1
  | some o=>exact h0 k (by rw[h];simp)⟩
theorem aLL{kb:Nat}{cs:Array Value}{f:Func}{g:FuncId}{s:ChangeSpec}{W:World}{args:Array Value}{ds:List (DataW H)}{before:List MemPlace}{avs:List AV}{tb:TypeId}
 (hl:laidOutB P=true) (hts:(f.params.toList.all fun t=>P.readableRec t&&decide (t<P.types.size))=true) (hrt:f.resultTypes= #[tb]) (htb:P.underlying tb=some .bool) (hsv:s.vars= [])
 (hW:DataW.Whole enc P f.params.toList [] false W args.toList ds [] before) (hfn:s.fn H ds= { results:=[.lit (.bool true)],args:=ds }) (hT:∃t,W.heap[kb]?=some (.cells cs t (0,0))) (a1H:dA W.heap (wU kb (.tab cs)) avs args.toList)
 (hc:aD P g avs (wU kb (.tab cs)) (fun r st'=>r=.bool true∧st' kb=some (.tab cs))) :
 Calls P g args W fun e W'=>∃v,e=.returned v∧s.post enc P f false true false false W args v W':=by
 obtain⟨t0,ht0⟩:=hT
 have hS:cW W.heap (wU kb (.tab cs)):=fun b o h=>by
  unfold wU at h
  split at h
  · rename_i hb
    subst hb
    cases h
    exact⟨(EY.1 ht0).1,t0,ht0⟩
  · cases h
 have:=hc.2 W args.toList hS a1H
 simp only[tV] at this
 refine this.mono ?_
 rintro e W' ⟨v,r,st',rfl,hv,S',T,sm,rfl,h0'⟩
 refine⟨v,rfl,?_⟩
 have hB:=aR3 T sm fun b hb=>by
  have hb0:b=kb:=by
   by_cases h:b=kb
   · exact h
   · exact absurd (aNP h) hb
  subst hb0
  obtain⟨_,t1,h1⟩:=S' b _ h0'
  obtain⟨c',h2,h3⟩:=T.shape b cs t0 (0,0) ht0
  rw[h2] at h1
  cases h1
  rw[h2,ht0]
 rw[hv.zY]
 have hW':DataW.Whole enc P f.params.toList s.vars false W args.toList ds [] before:=by rw[hsv];exact hW
 obtain⟨p,q,hA,hV,rfl,hz,_⟩:=hW
 obtain⟨_,rfl⟩:=trodVars_none hV
 have hlt:∀x∈p,x.block<W.heap.size:=fun x hx=>hW'.lt x (by simp [hx])
 have AR:∀(b:Nat) (sp:Nat→Bool) (hd:Bool),DataW.TrodAll enc P W' b sp hd f.resultTypes.toList ((Value.bool true).resultList f.resultTypes.size) (s.fn H (ds++ [])).results []:=fun _ _ _=>by
  rw[iB,hfn,hrt]
  exact trodAll_mk1 (shut_bool htb true)
 have rW:∀sp:Nat→Bool,(∀x∈p,sp x.block=true)→DataW.TrodAll enc P W' 0 sp true f.params.toList args.toList (s.fn H (ds++ [])).args p:=fun sp hsp=>by
  rw[iB,hfn]
  exact aPD hl hts hA (fun x hx=>hB.same (hlt x hx)) hsp
 have aK6:∀sp:Nat→Bool,DataW.TrodVars enc P W' sp s.vars (s.fn H (ds++ [])).vars []:=fun sp=>by
  rw[iB,hfn,hsv]
  exact rfl
 refine⟨ds,[],p++ [],[],p,[],hW',AR _ _ _,rW _ (fun x hx=>by simpa using hlt x hx),aK6 _,World.keptBut_mono (fun x hx=>⟨hx,by simpa using hx⟩) (hB.frame (·∈p++ [])),fun _=>?_⟩
 refine⟨ok_one hrt rfl (okWide_bool_mk htb true),_,_,([]++p)++ [],⟨[]++p,[],trodAll_append (rW _ (fun _ _=>rfl)) (AR _ _ _),aK6 _,rfl,?_,?_⟩,?_⟩
 · intro b off hp
   have hp':MemPlace.cell b off∈p:=by simpa using hp
   rw[hB.frozen (p:=⟨b,off,none⟩) (hlt _ hp')]
   exact hz b off (by simpa using hp')
 · intro ha;cases ha
 · intro x hx _
   simpa using hx
theorem a52{kb:Nat}{P:Program}{W:World}{name:String}{k:IntKind}{zs:List Int}{rest:List (String×DataW Unit)}{t e:TypeId}{n:Nat}
 (hg:P.globalNamed name=some kb) (hty:(P.globals[kb]?).map (·.type)=some t) (ht:P.underlying t=some (.array n e)) (he:P.underlying e=some (.int k)) (hce:P.cellsOf e=1) (hct:P.cellsOf t=n) (hz:zs≠[])
 (hn:(((name,(Lib.tabData k zs:DataW Unit))::rest).all fun x=>x.2.handleName?.isNone)=true)
 (h:laidMetH P ((name,Lib.tabData k zs)::rest) W):∃t,W.heap[kb]?=some (.cells (zs.map fun z=>Value.int k z).toArray t (0,0)):=by
 replace h:=(laidMetH_iff.1 h).1
 rw[List.filter_eq_self.2 fun x hx=>dQ.1 hn x hx] at h
 have hT:=Lib.tabIs_of_head hg hty ht he hce hct h
 obtain⟨ps,⟨g',t',cs,fuel,p,q,hg',_,aK5,_,_,rfl⟩,_,hc⟩:=h
 obtain rfl:=kZ (hg.symm.trans hg')
 have hcs:cs=(zs.map fun z=>Value.int k z).toArray:=by
  unfold Lib.TabIs at hT
  rw[hT] at aK5
  exact(kZ aK5).symm
 have yC:0<cs.size:=by
  rw[hcs]
  cases zs with
  | nil=>exact absurd rfl hz
  | cons z zs=>simp
 obtain⟨⟨c,t1,hb⟩,_⟩:=hc kb 0 (by
  simp only[fQ]
  exact .inl (.inl (by
   unfold MemPlace.row
   simp
   exact yC)))
 refine⟨t1,?_⟩
 unfold Lib.TabIs World.var? at hT
 rw[hg] at hT
 simp only[I9,hb] at hT
 rw[hb,kZ hT]
end
open Go.Proofs.Tryz
section
variable {H:Type} {enc:TypeId×Value→H} {w:World} {s0:aB}
theorem a3H{h:bM}:U5 h s0 iC:=fun a ds x=>by
 simp only[iC,VC] at x
 subst x
 exact⟨_,E8.2 rfl,fun n hn=>by simp at hn⟩
theorem a4O(n:Nat):FF enc prog w s0 5 n iC:=by
 intro cs x h
 obtain⟨k,rfl,_,hw⟩:=DataW.trod_int uU5 h
 simp only[Lit.wf,IntKind.min,IntKind.max,IntKind.signed,IntKind.bits,cB,bO] at hw
 refine⟨⟨k.toNat,?_⟩,?_⟩
 · simp at hw;omega
 · have:(((k.toNat:Nat)):Int)=k:=by simp at hw;omega
   simp only[iC,this,VC]
theorem aMO(hS:Sep w.heap s0)(n:Nat):FF enc prog w s0 22 n (fun l:List Bt=>.slice (l.map iC)):=
 a4P hS a7E aV0 (by omega) JT a3H fun m _=>a4O m
end
theorem aM2{kb:Nat}{h:bM}{zs:List Int}{t:TypeId}(ht:h[kb]?=some (.cells (zs.map fun z=>Value.int .u64 z).toArray t (0,0))):Sep h (wU kb (.tab (zs.map fun z=>Value.int .u64 z).toArray)):=fun b off v hb hc=>by
 have hb0:b=kb:=by
  by_cases h:b=kb
  · exact h
  · exact absurd (aNP h) hb
 subst hb0
 simp only[cellAt,ht] at hc
 simp at hc
 obtain⟨z,_,rfl⟩:=hc
 exact⟨z,rfl⟩
end Go.AW


namespace Go.Proofs.YtieofkhcboolkaaGreatDoor
open Go.ChangeShapes Go.WideShapes Go.ChangeAt Go.RowKit Go.AW
theorem aMJ{W:World}(h:laidMetH Tryz.prog [(SK,(Lib.tabData .u64 Lib.pow10Tab:DataW Unit))] W):∃t,W.heap[g9]?=some (.cells (Lib.pow10Tab.map fun z=>Value.int .u64 z).toArray t (0,0)):=
 a52 (t:=362) (e:=354) (n:=20) (by kernel_rfl) (by kernel_rfl) Tryz.underlying362 Tryz.underlying354 (by kernel_rfl) (by kernel_rfl) (by decide) (by decide +kernel) h
end Go.Proofs.YtieofkhcboolkaaGreatDoor

namespace Go.AW
open Go.Proofs.Tryz
abbrev uZ:=zi IF (zi aX (zi bZ (zi kU (zi yZ (zi BQ (zi k9 (zi bS (zi nM oW))))))))
theorem aSL(code:List Bt)(st:aB):aD prog 14 [.slice (code.map iC)] st (fun r st'=>(∃(q a:List Tm),q.length≤41∧a.length≤26∧r=.tup [.slice (q.map Tm.av),cG a])∧st'=st):=by
 refine aD.KF ?_
 refine wF [1000000,3,9] 1 func14 ntmps14 rfl rfl ?_
 intro _
 simp only[aA,seval,uZ]
 intro b3 hb3
 refine(XJ code _).mono ?_
 rintro _ _ ⟨c,bs,rfl,hc,rfl⟩
 have hcb:c≠b3:=by rintro rfl;rw[aB.aO] at hc;cases hc
 simp only[aA,seval]
 refine(X7 bs c 0 _ (by omega) dG.new).mono ?_
 rintro _ _ ⟨p1,r1,r2,rfl,l,q,⟨⟨l1,l2,l3⟩,hpo⟩,⟨⟨q1,q2⟩,hqo⟩,rfl⟩
 obtain⟨pl,px⟩:=HE hpo
 obtain⟨ql,qx⟩:=A9 hqo
 have kQ:=fun st=>X8 px pl qx ql (most:=5) (fuel:=100) (by decide) (by decide) st
 have hok:=(SN px pl (cnd:=fun _ l=>l) (fun _ l=>⟨fun _ h=>h,cZ _⟩) (HF qx).1 _ 5 100 (lJ q) 26 (cZ _) (lF.start qx ql) (by decide))
 have a90:=(HF qx).2
 rw[show kS l (fun _ l=>l) (aY q []) 5 100 (lJ q)=wT l (fun _ l=>l) q 5 100 from rfl] at hok
 generalize wT l (fun _ l=>l) q 5 100=T at *
 obtain⟨L,e⟩:=T
 simp only at kQ hok
 rw[cY]
 simp only[aA,seval]
 refine(kQ _).to ?_
 simp only[aA,seval]
 refine(OV bs c 2 p1 _ (by decide) (by omega) dG.new).mono ?_
 rintro _ _ ⟨p2,s1,s2,rfl,x,hx,rfl⟩
 rw[cY]
 simp only[aK,aE,aA,↓aR,seval,uZ]
 intro b9 hb9
 obtain⟨S,hS⟩:∃S:Nat→AV→aB,S=fun p A=>((st.aC b3 (.cells [.fslice []])).aC c (cA bs p)).aC b9 (.cells [A]):=⟨_,rfl⟩
 have h9c:b9≠c:=by rintro rfl;rw[aB.aO] at hb9;cases hb9
 have h93:b9≠b3:=by rintro rfl;rw[aB.aM _ _ (c7 hcb),aB.aO] at hb9;cases hb9
 have h9n:st b9=none:=by rw[aB.aM _ _ h9c,aB.aM _ _ h93] at hb9;exact hb9
 have hcn:st c=none:=by rw[aB.aM _ _ hcb] at hc;exact hc
 have hS1:∀p p' A,(S p A).aC c (cA bs p')=S p' A:=fun p p' A=>by rw[hS];simp only;rw[aB.n9 _ _ _ h9c,cY]
 have hS2:∀p A B,(S p A).aC b9 (.cells [B])=S p B:=fun p A B=>by rw[hS];simp only;rw[cY]
 have hS3:∀p A,S p A b9=some (.cells [A]):=fun p A=>by rw[hS];exact aB.aO _ _ _
 have hS4:∀p A,dG (S p A) c bs p:=fun p A=>by rw[hS];exact dG.new.aC h9c
 have hS5:∀p A,S p A b3=some (.cells [.fslice []]):=fun p A=>by rw[hS];simp only;rw[aB.aM _ _ (c7 h93),aB.aM _ _ (c7 hcb),aB.aO]
 have hSD:∀p A B,aL ((S p A).aC b3 (.cells [B])) st:=fun p A B=>by rw[hS];exact((((aL.refl _).aC hb3).aC hcn).aC h9n).aC hb3
 rw[show((st.aC b3 (.cells [.fslice []])).aC c (cA bs p2)).aC b9 (.cells [.fslice [x.av]])=S p2 (.fslice [x.av]) by rw[hS]]
 have hat:=fun(i:Nat) (a:List Tm) (h:L[i]?=some a)=>(bD (av:=cG) AC h rfl:c9 prog 27 (.slice (L.map cG)) (.int .i64 (i:Int))=some (.pptr (cG a)))
 by_cases hL:L= []
 case pos=>
  have hl:=bU (show ¬((0:Int)<(L.length:Int)) by rw[hL];decide)
  simp only[hl,bP,aA,seval]
  refine w8 [(0,1),(1,1),(3,1),(2,0),(4,1),(5,2)] [0,1,3,4] (one b9 (.cells [.fslice [x.av]])) mixed (by decide +kernel) (by decide +kernel) (by decide +kernel) rfl (fY (hS3 _ _)) ?_
  simp only[qT,aA,seval,uZ]
  refine(J3 bs c (p2) q q2 (by omega) _ (by omega) (hS4 _ _)).mono ?_
  rintro _ _ ⟨p9,u1,u2,rfl,q',u3,rfl⟩
  rw[hS1]
  simp only[hS5,aK,aA,seval,uZ]
  refine⟨fY (hS3 _ _),?_⟩
  exact⟨⟨q',[x],u3,by first | omega | simp,by simp only[cG,aZ,aV,jC,iT,nG,k7,aZ,aV]⟩,hSD _ _ _⟩
 have hlp:0<L.length:=NS.2 hL
 have hl:=cK (show((0:Int)<(L.length:Int)) by omega)
 simp only[hl,bF,aA,seval]
 refine(mJ bs c p2 (by omega) 4 (by omega) (by omega) _ (hS4 _ _)).mono ?_
 rintro _ _ ⟨k,hk,rfl,rfl⟩
 rw[hS1]
 simp only[aA,seval]
 refine aP (fun h0=>?_) (fun h0=>?_)
 case refine_2=>
  simp only[aA,seval]
  refine w8 [(0,1),(1,1),(3,1),(2,0),(4,1),(5,2)] [0,1,3,4] (one b9 (.cells [.fslice [x.av]])) mixed (by decide +kernel) (by decide +kernel) (by decide +kernel) rfl (fY (hS3 _ _)) ?_
  simp only[qT,aA,seval,uZ]
  refine(J3 bs c (p2+1) q q2 (by omega) _ (by omega) (hS4 _ _)).mono ?_
  rintro _ _ ⟨p9,u1,u2,rfl,q',u3,rfl⟩
  rw[hS1]
  simp only[hS5,aK,aA,seval,uZ]
  refine⟨fY (hS3 _ _),?_⟩
  exact⟨⟨q',[x],u3,by first | omega | simp,by simp only[cG,aZ,aV,jC,iT,nG,k7,aZ,aV]⟩,hSD _ _ _⟩
 simp only[aE,aA,seval,uZ]
 refine(mJ bs c (p2+1) (by omega) L.length (by omega) (by omega) _ (hS4 _ _)).mono ?_
 rintro _ _ ⟨i,hi,rfl,rfl⟩
 rw[hS1]
 obtain⟨a,ha⟩:∃a,L[i]?=some a:=⟨_,eN hi⟩
 have GK:=hat i a ha
 have hal:=(hok.2 a (cD ha)).1
 simp only[GK,hS2,hS3,aK,aA,seval,uZ]
 refine w8 [(0,1),(1,1),(3,1),(2,0),(4,1),(5,2)] [0,1,3,4] (one b9 (.cells [.slice (a.map Tm.av)])) mixed (by decide +kernel) (by decide +kernel) (by decide +kernel) rfl (fY (hS3 _ _)) ?_
 simp only[qT,aA,seval,uZ]
 refine(J3 bs c (p2+1+1) q q2 (by omega) _ (by omega) (hS4 _ _)).mono ?_
 rintro _ _ ⟨p9,u1,u2,rfl,q',u3,rfl⟩
 rw[hS1]
 simp only[hS5,aK,aA,seval,uZ]
 refine⟨fY (hS3 _ _),?_⟩
 exact⟨⟨q',a,u3,by first | omega | simp,by simp only[cG,aZ,aV,jC,iT,nG,aZ,aV]⟩,hSD _ _ _⟩
abbrev BK:=zi aX (zi cJ (zi fA (zi bS (zi nM bQ))))
set_option maxHeartbeats 1000000 in
theorem aU1(V:List Int)(a:List Tm)(hal:a.length=V.length)(hva:∀x∈a,x.valid=true)(Q7:∀v∈V,0≤v∧v<26)(hvl:V.length≤26)(st:aB):aD prog 73 [.slice (V.map iv),cG a] st (fun r st'=>r=.str (CO V a)∧st'=st):=by
 have hzl:(V.zip a).length=V.length:=by rw[List.length_zip,hal,Nat.min_self]
 have hsz:∀i,(jV 59 (((V.zip a).take i).map fun p=>iZ p.1 p.2)).size≤100000:=fun i=>by
  have:=aLG (c:=59) (l:=((V.zip a).take i).map fun p=>iZ p.1 p.2) (B:=3842) fun x hx=>by
   obtain⟨p,hp,rfl⟩:=cI.1 hx
   exact(OK (hva _ (List.of_mem_zip (lB hp)).2)).1
  refine jP this (jP (pX _ (show _≤26 by rw[aE,dC];omega)) (by decide))
 have hm:maxLen=9223372036854775807:=by rfl
 refine wF [1000000] 2 func73 ntmps73 rfl rfl ?_
 intro _
 unfold CO
 by_cases hV:V= []
 · rw[aJ hV]
   have h0:=cK (show(V.length:Int)=0 by rw[hV];try rfl)
   simp only[h0,bF,aE,aA,seval,BK]
 rw[aF hV]
 have h0:=bU (show ¬(V.length:Int)=0 from fun e=>hV (I6.1 (by omega)))
 simp only[h0,bP,aE,aA,seval,BK]
 refine dV (σ:=Unit) [1000000] [0,3,4] (V.zip a) (fun _ _=>True) (fun i _=>[(5,.str (jV 59 (((V.zip a).take i).map fun p=>iZ p.1 p.2))),(6,.int .i64 (i:Int))]) (fun _ _=>st) (by decide +kernel) ⟨(),trivial,aN.mk (by simp only[jG,aV,jV,aA,↓aR,seval])⟩ (fun i x _ hx hlt bH hdr _=>?_) (fun _ hge _=>?_)
 case refine_2=>
  rw[dW,hzl]
  have hg:=bU (Int.lt_irrefl (V.length:Int))
  simp only[hg,bP,aE,aA,seval,BK]
 obtain⟨v,x⟩:=x
 obtain⟨hv,hxa⟩:=U0.1 hx
 simp only at hv hxa
 have gA:jV 59 (((V.zip a).take (i+1)).map fun p=>iZ p.1 p.2)=(if 0<i then jV 59 (((V.zip a).take i).map fun p=>iZ p.1 p.2)++⟨#[59]⟩ else jV 59 (((V.zip a).take i).map fun p=>iZ p.1 p.2))++iZ v x:=by
  rw[eA,hx]
  by_cases hi:0<i
  · rw[aJ hi,sK]
    exact a2K fun e=>by
     have:=fE List.length e
     rw[aE,dC,aW] at this
     omega
  · obtain rfl:i=0:=by omega
    rw[aF hi]
    exact(OI _).symm
 have hs:=hsz i
 have hvv:=Q7 v (cD hv)
 obtain⟨m,rfl⟩:=pV hvv.1
 have hxv:=hva x (cD hxa)
 have hxs:=(UO hxv).1
 have hcw:=fun st=>XY 1000 x st ⟨30,by simp only[Tm.valid,cB] at hxv;exact hxv.1⟩ (by have:=Tm.w6 hxv;omega) (by have:=Tm.w6 hxv;omega)
 rw[show iZ m x=(pM m++⟨#[61]⟩)++tx 1000 x from rfl,←vQ,←vQ] at gA
 have hwi:=bL (n:=(i:Int)+1)
 have hi:=cK (show(i:Int)<(V.length:Int) by omega)
 have QC:c9 prog 26 (.slice (V.map iv)) (.int .i64 (i:Int))=some (.pptr (iv m)):=bD (av:=iv) g7 hv rfl
 have GK:c9 prog 34 (.slice (a.map Tm.av)) (.int .i64 (i:Int))=some (.pptr x.av):=bD (av:=Tm.av) a8 hxa (aH x)
 generalize tx 1000 x=X at *
 generalize jV 59 (((V.zip a).take (i+1)).map fun p=>iZ p.1 p.2)=J' at *
 generalize jV 59 (((V.zip a).take i).map fun p=>iZ p.1 p.2)=J at *
 have hs0:J.size+(⟨#[59]⟩:ByteArray).size≤maxLen:=by show _+1≤_;omega
 have key:∀O:ByteArray,O.size≤100001→O.size+(pM m).size≤maxLen∧(O++pM m).size+(⟨#[61]⟩:ByteArray).size≤maxLen∧((O++pM m)++(⟨#[61]⟩:ByteArray)).size+X.size≤maxLen:=fun O hO=>by
  refine⟨?_,?_,?_⟩
  · show _+1≤_;omega
  · rw[cL];show _+1+1≤_;omega
  · rw[cL,cL];show _+1+1+_≤_;omega
 by_cases h0i:0<i
 case' pos=>
  have h0':=cK (show(0:Int)<(i:Int) by omega)
  rw[aJ h0i] at gA
  obtain⟨k1,k2,k3⟩:=key (J++⟨#[59]⟩) (by rw[cL];show _+1≤_;omega)
  simp only[hi,h0',hs0,↓reduceIte,bF,aE,aA,seval,BK]
 case' neg=>
  have h0':=bU (show ¬(0:Int)<(i:Int) by omega)
  rw[aF h0i] at gA
  obtain⟨k1,k2,k3⟩:=key J (by omega)
  simp only[hi,h0',bF,bP,aE,aA,seval,BK]
 all_goals
  refine wP [(0,1),(1,1),(2,1),(3,1),(8,1),(10,1),(4,2),(5,2),(6,1),(7,1),(9,2),(11,1),(12,2),(13,2),(14,1),(15,1)] [0,1,2,3,8,10,4,5,6,7,9,11,12,13,14,15] mixed ?_
  simp only[QC,aA,seval,BK]
  refine fK (XN m (by omega) _) ?_
  simp only[k1,k2,↓reduceIte,GK,aT,aH,aA,seval,BK]
  refine fK (hcw _) ?_
  simp only[k3,↓reduceIte,hwi,aA,seval]
  exact⟨(),aN.mk (by rw[gA];simp only[aA,seval])⟩
abbrev MD:=zi aX (zi bZ (zi cJ (zi fA (zi bS nM))))
theorem aVH(q a:List Tm)(st:aB):aD prog 18 [.slice (q.map Tm.av),cG a] st (fun r st'=>r=.str (v7 q a)∧st'=st):=by
 have hqv:=W7 q
 have tE:=F4 q
 have dJ:=XK a
 have htx:=fun(hf:jT q a=true)=>aU1 (aY q []) a (x7 hf).2.1 (x7 hf).2.2.1 (x7 hf).2.2.2.1 (x7 hf).2.2.2.2
 have hfq:jT q a=(gX q&&(decide (a.length=(aY q []).length)&&a.all Tm.valid)):=by unfold jT;rw[I2]
 unfold v7
 generalize jT q a=f at *
 refine wF [1000000] 2 func18 ntmps18 rfl rfl ?_
 intro _
 simp only[aA,seval,MD]
 refine(hqv _).to ?_
 simp only[aA,seval]
 refine(tE _).to ?_
 cases hq:gX q with
 | false=>
  rw[hq,fB] at hfq
  subst hfq
  rw[aF (by decide)]
  simp only[iW,aA,seval]
 | true=>
  rw[hq,dU] at hfq
  rw[aJ rfl]
  by_cases hl:a.length=(aY q []).length
  case neg=>
   rw[d6 hl,fB] at hfq
   subst hfq
   have hl':=bU (show ¬((aY q []).length:Int)=(a.length:Int) by omega)
   rw[aF (by decide)]
   simp only[hl',iW,fU,bP,eX,aE,aA,seval,MD]
  rw[eH hl,dU] at hfq
  have hl':=cK (show((aY q []).length:Int)=(a.length:Int) by omega)
  simp only[hl',fU,bF,eX,aE,aA,seval,MD]
  refine(dJ _).to ?_
  rw[←hfq]
  cases f with
  | false=>
   rw[aF (by decide)]
   simp only[iW,eX,aA,seval]
  | true=>
   rw[aJ rfl]
   simp only[fU,eX,aA,seval,MD]
   refine(htx rfl _).to ?_
   simp only[aA,seval]

def Told(st:aB)(m:Nat)(θ:Int→Tm)(st':aB):Prop:=∃τ:Sub,(∀n u,τ n=some u→u=θ n)∧st'=st.aC m (.map (mapOf τ))
abbrev HW:=zi aX (zi bZ (zi cJ (zi bS (zi bQ EP))))
theorem XE(θ:Int→Tm)(m:Nat):∀(t:Tm) (st:aB) (τ:Sub),t.small=true→(∀n u,τ n=some u→u=θ n)→st m=some (.map (mapOf τ)) →
 aD prog 75 [(t.aG θ).av,t.av,.map m] st (fun r st'=>r=.bool true∧Told st m θ st')
 | .mk k n s ts,st,τ,hsm,hτ,hm=>by
  obtain⟨hlen,mN⟩:=Tm.nF hsm
  have IH:=fun(x:Tm) (hx:x∈ts) st τ=>XE θ m x st τ (mN x hx)
  have hl:=aLN (P:=prog) (n:=n) hm IR y7 aP0
  have DN:st=st.aC m (.map (mapOf τ)):=by
   funext y
   simp only[aB.aC]
   split
   · rename_i e;rw[e,hm]
   · rfl
  rw[aU k n s ts]
  by_cases hk:k=1
  · rw[Tm.kI θ hk]
    subst hk
    refine wF [1000000] 3 func75 ntmps75 rfl rfl ?_
    intro _
    simp only[bF,cC,hl,aA,seval,HW]
    cases hτn:τ n with
    | none=>
     simp only[found,aT,aH,aA,↓aR,seval,HW]
     refine aPO hm IR y7 ?_
     simp only[aA,seval]
     refine⟨τ.set n (θ n),fun v u hv=>?_,rfl⟩
     simp only[Sub.set] at hv
     split at hv
     · rename_i e;cases hv;rw[e]
     · exact hτ v u hv
    | some u=>
     obtain rfl:=hτ n u hτn
     simp only[found,aT,aH,bT,cC,aA,↓aR,seval,HW]
     refine(FY (θ n) (θ n) _).to ?_
     rw[aOX]
     simp only[aA,seval]
     exact⟨τ,hτ,DN⟩
  · rw[Tm.i8 θ hk,aU]
    refine wF [1000000] 3 func75 ntmps75 rfl rfl ?_
    intro _
    simp only[bF,bP,eX,aE,hk,aA,seval,HW]
    refine dV (σ:=Sub×aB) [1000000] [2,3,4,59] ts (fun i p=>(∀n u,p.1 n=some u→u=θ n)∧p.2=st.aC m (.map (mapOf p.1))) (fun i p=>[(6,.bool false),(60,.int .i64 i)]) (fun _ p=>p.2) (by decide +kernel) ⟨(τ,st),⟨hτ,DN⟩,aN.mk (by simp only[aA,↓aR,seval])⟩ (fun i x p hx hlt bH hdr hinv=>?_) (fun p hge hinv=>?_)
    case refine_2=>
     obtain⟨τ1,s1⟩:=p
     obtain⟨i1,hs1⟩:=hinv
     simp only at i1 hs1
     subst hs1
     simp only[hge,aA,seval]
     exact⟨τ1,i1,rfl⟩
    obtain⟨τ1,s1⟩:=p
    obtain⟨i1,hs1⟩:=hinv
    simp only at i1 hs1
    subst hs1
    have hw:=bL (n:=(i:Int)+1)
    have gO:=cD hx
    have hx':(ts.map (Tm.aG θ))[i]?=some (x.aG θ):=by rw[mD,hx];try rfl
    have fR:=bD (av:=Tm.av) a8 hx (aH x)
    have qJ:=bD (av:=Tm.av) a8 hx' (aH _)
    simp only[bH,aA,seval]
    refine wX [(0,1),(1,1),(2,1),(3,1),(4,1),(5,1),(6,1),(7,1),(8,1),(9,1),(10,1),(11,0),(12,1)] [0,1,2,3,4,5,6,7,8,9,10,12] eR mixed rfl fN ?_
    simp only[aT,aH,fR,qJ,aA,seval,HW]
    refine(IH x gO (st.aC m (.map (mapOf τ1))) τ1 i1 (aB.aO _ _ _)).mono ?_
    rintro _ _ ⟨rfl,τ2,h2,rfl⟩
    rw[cY]
    simp only[hw,aA,seval]
    exact⟨fN,(τ2,_),⟨h2,rfl⟩,aN.mk (by simp only[aA,seval])⟩
termination_by t=>SizeOf.sizeOf t
decreasing_by have:=List.sizeOf_lt_of_mem hx;simp only[Tm.mk.sizeOf_spec];omega
abbrev TJ:=zi bZ (zi bQ EP)
theorem aTC(θ:Int→Tm)(t:Tm)(h1:(t.aG θ).valid=true)(h2:t.valid=true)(st:aB):aD prog 19 [(t.aG θ).av,t.av] st (fun r st'=>r=.bool true∧st'=st):=by
 refine aD.done ?_
 refine wF [1000000] 2 func19 ntmps19 rfl rfl ?_
 intro _
 have hva:=fun s=>FZ (t.aG θ) s
 have hvb:=fun s=>FZ t s
 rw[h1] at hva
 rw[h2] at hvb
 generalize hx:t.aG θ=x at *
 simp only[aT,aH,cC,aA,seval,TJ]
 refine(hva _).to ?_
 simp only[eX,aT,aH,aA,seval,TJ]
 refine(hvb _).to ?_
 simp only[eX,aT,aH,aA,seval,TJ]
 intro m hm
 have hc:=XE θ m t (st.aC m (.map (mapOf Sub.none))) Sub.none (Tm.y8 h2) (fun n u h=>by cases h) (aB.aO _ _ _)
 rw[hx] at hc
 refine hc.mono ?_
 rintro _ _ ⟨rfl,τ,_,rfl⟩
 simp only[aA,seval]
 exact⟨rfl,(aL.refl _).aC hm⟩
theorem aQY{q a G:List Tm}(h:kN q a=some G):jT q a=true∧G=q.map (Tm.aG (valOf (aY q []) a))∧G.all Tm.valid=true:=by
 unfold kN at h
 split at h
 · rename_i hh
   simp only[Option.some.injEq] at h
   exact⟨hh.1,h.symm,by rw[←h];exact hh.2⟩
 · cases h
abbrev qZ:=zi aX (zi bZ (zi cJ (zi yZ (zi bS (zi nM bQ)))))
set_option maxHeartbeats 4000000 in
theorem aSN(code:List Bt)(st:aB)(hP:st g9=some iP):aD prog 4 [.slice (code.map iC)] st (fun r st'=>r=.bool true∧st' g9=some iP):=by
 refine wF [1000000] 1 func4 ntmps4 rfl rfl ?_
 intro _
 simp only[aE,aA,seval,qZ]
 refine aP (fun h1=>?_) (fun h1=>?_)
 · simp only[hP,aA,seval]
 simp only[aA,seval]
 refine(aSL code _).mono ?_
 rintro _ s1 ⟨⟨q,a,hq,ha,rfl⟩,rfl⟩
 have hAG:=fun st=>(a5Z q a st).aLS
 have hSG:=aVF q a
 have hF:=fun st hP=>XD q a st hP
 have hSF:=aVH q a
 have hne:=fun h=>bU (aJT (q:=q) (a:=a) h)
 have hof:=fun G=>aQY (q:=q) (a:=a) (G:=G)
 generalize v7 q a=tt at *
 have hdd:decide (tt=tt)=true:=eH rfl
 have hPg:=fun G st=>YC G G st
 simp only[aA,↓aR,seval,qZ]
 refine(hAG _).to ?_
 simp only[aA,seval,qZ]
 refine(hSG _).to ?_
 simp only[aA,seval,qZ]
 refine(hF _ hP).to ?_
 cases hG:kN q a with
 | none=>
  simp only[Option.isSome_none,Option.getD_none]
  have hp:=fun st=>hPg [] st
  rw[show decide (([]:List Tm)= [])=true from rfl] at hp
  simp only[eX,fU,aA,seval,qZ]
  refine(hp _).to ?_
  simp only[fU,eX,aA,seval,qZ]
  refine(hSF _).to ?_
  simp only[fU,iW,eX,aA,seval,qZ]
  refine(hp _).to ?_
  simp only[eX,aA,seval,qZ]
  refine(hSF _).to ?_
  simp only[hP,aA,seval]
 | some G=>
  simp only[NY,B6]
  have hp:=fun st=>hPg G st
  rw[show decide (G=G)=true from eH rfl] at hp
  obtain⟨hf,hGe,hGv⟩:=hof G hG
  have hne:=hne hf
  have hqo:=(x7 hf).1
  have hlen:G.length=q.length:=by rw[hGe,aE]
  simp only[eX,fU,aA,seval,qZ]
  refine(hp _).to ?_
  simp only[fU,eX,aA,seval,qZ]
  refine(hSF _).to ?_
  simp only[fU,eX,aA,seval]
  refine dV (σ:=Unit) [1000000] [3,5,9] q (fun _ _=>True) (fun i _=>[(2,.bool false),(10,.int .i64 i)]) (fun _ _=>s1) (by decide +kernel) ⟨(),trivial,aN.mk (by simp only[aA,↓aR,seval])⟩ (fun i x _ hx hlt bH hdr _=>?_) (fun _ hge _=>?_)
  case refine_2=>
   have hg:=bU (Int.lt_irrefl (q.length:Int))
   simp only[hlen,hg,hne,bF,bP,iW,eX,hP,aE,aA,seval,qZ]
  have hxG:G[i]?=some (x.aG (valOf (aY q []) a)):=by rw[hGe,mD,hx];try rfl
  have hin:=aTC (valOf (aY q []) a) x (dQ.1 hGv _ (cD hxG)) ((D8 hqo).1 x (cD hx))
  have aZY:c9 prog 34 (.slice (G.map Tm.av)) (.int .i64 (i:Int))=some (.pptr (x.aG (valOf (aY q []) a)).av):=bD (av:=Tm.av) a8 hxG (aH _)
  have aZZ:c9 prog 34 (.slice (q.map Tm.av)) (.int .i64 (i:Int))=some (.pptr x.av):=bD (av:=Tm.av) a8 hx (aH _)
  have hwi:=bL (n:=(i:Int)+1)
  have hi:=cK (show(i:Int)<(q.length:Int) by omega)
  generalize x.aG (valOf (aY q []) a)=y at *
  simp only[hi,aE,hlen,aA,seval,qZ]
  refine wP [(0,1),(1,1),(2,1),(4,1),(5,1),(6,1),(3,2),(7,2),(8,2),(9,1)] [0,1,2,4,5,6,3,7,8,9] mixed ?_
  simp only[aZY,aZZ,aT,aH,aA,seval,qZ]
  refine fK (hin _) ?_
  simp only[fU,hwi,aA,seval]
  exact⟨(),aN.mk (by simp only[aA,seval])⟩
end Go.AW
