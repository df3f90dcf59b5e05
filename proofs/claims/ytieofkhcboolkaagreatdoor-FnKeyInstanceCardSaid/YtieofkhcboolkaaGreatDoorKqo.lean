import Derived.Test.YtieofkhcboolkaaGreatDoorKqm
import Derived.Test.YtieofkhcboolkaaGreatDoorKqi
import Derived.Test.YtieofkhcboolkaaGreatDoorKqh
import Derived.Test.YtieofkhcboolkaaGreatDoorKqj
import Derived.LaidMore
import Derived.LaidSub
import Derived.Lib.LaidTab
import Derived.Test.YtieofkhcboolkaaGreatDoorKqn
set_option linter.unusedSimpArgs false
set_option linter.unusedVariables false
set_option maxRecDepth 100000
namespace Go.AW
open Go.Proofs.Tryz
section
variable {H:Type} {enc:TypeId×Value→H} {w:World}
theorem Y3:prog.cellsOf 5=1:=by kernel_rfl
end
section
variable {H:Type} {enc:TypeId×Value→H} {w:World}
theorem UP{r:Reach}{b0:Nat}{t e:TypeId}{v:Value}(ht:prog.underlying t=some (.slice e))(h:Value.okWide prog w r b0 t v):gV v=false:=by
 cases v<;>first | rfl | (simp [Value.okWide,ht,Cell.okWide,Cell.ok] at h)
end
section
variable {H:Type} {enc:TypeId×Value→H} {w:World}
end
end Go.AW
namespace Go.AW
def n7(k:Nat)(o:AO):aA:=fun b=>if b=k then some o else none
theorem aFB(k:Nat)(o:AO):n7 k o k=some o:=by simp [n7]
theorem S0{k:Nat}{o:AO}{b:Nat}(h:b≠k):n7 k o b=none:=by simp [n7,h]
end Go.AW

namespace Go.AW
open Go.ChangeShapes Go.WideShapes Go.ChangeAt Go.RowKit
set_option maxRecDepth 100000
section
variable {H:Type} {enc:TypeId×Value→H} {P:Program} {w:World}
def Sep(h:aN)(s0:aA):Prop:=∀b off v,s0 b≠none→cellAt h b off=some v→∃n,v=.int .u64 n
def D0(h:aN)(s0:aA){α:Type}(av:α→AV):Prop:=∀(a:α) ds,VC h s0 (av a) ds→∃v,v∈ds∧∀n,v≠.int .u64 n
def tS(enc:TypeId×Value→H)(P:Program)(w:World)(s0:aA)(t n:Nat){α:Type}(av:α→AV):Prop:=
 ∀cs x,DataW.trod enc P w 0 (fun _=>true) true n t cs=some x→∃a:α,VC w.heap s0 (av a) cs
theorem FP{h:aN}{b:Nat}:∀ {l:List Value} {off:Nat},cN h b off l→∀v∈l,∃o,cellAt h b o=some v
 | [],_,_,v,hv=>by cases hv
 | x::l,off,hc,v,hv=>by
  rcases dS.1 hv with rfl | hv
  · exact⟨off,hc.1⟩
  · exact FP hc.2 v hv
theorem aEN{s0:aA}(hS:Sep w.heap s0){t e n k:Nat}{α:Type}{av:α→AV}(ht:P.underlying t=some (.slice e))(hk:P.cellsOf e=k)(oU:0<k)(hw:∀a,(av a).width=k)(hu:D0 w.heap s0 av)(hr:∀m,m<n→tS enc P w s0 e m av) :
 tS enc P w s0 t n (fun l:List α=>.slice (l.map av)):=by
 intro cs x h
 rcases DataW.trod_slice ht h with ⟨rfl,_⟩ | ⟨a,len,cap,elems,rest,m,hm,rfl,rfl,_,hl,sC,hlen,hel,hsp,_⟩
 · exact⟨[],by simp only[bF];unfold VC;exact .inl ⟨⟨_,rfl⟩,rfl⟩⟩
 obtain⟨hrl,yA⟩:=hsp rfl
 rw[hk] at hel yA
 have get:∀i,i<cap→∃ds y,w.cells? 0 (a.add (i*k)) k=some ds∧DataW.trod enc P w 0 (fun _=>true) true m e ds=some y:=by
  intro i hi
  have hb:∃y,(w.cells? 0 (a.add (i*k)) k).bind (DataW.trod enc P w 0 (fun _=>true) true m e)=some y:=by
   by_cases hi':i<len
   · exact⟨elems[i]'(by omega),by rw[hel i hi'];simp [show i<elems.length by omega]⟩
   · have:=yA (i - len) (by omega)
     rw[show len+(i - len)=i by omega] at this
     exact⟨rest[i - len]'(by omega),by rw[this];simp [show i - len<rest.length by omega]⟩
  obtain⟨y,hy⟩:=hb
  obtain⟨ds,h1,h2⟩:=Option.bind_eq_some_iff.1 hy
  exact⟨ds,y,h1,h2⟩
 by_cases hc0:cap=0
 · subst hc0
   obtain rfl:len=0:=by omega
   exact⟨[],by simp only[bF];unfold VC;exact .inl ⟨⟨_,rfl⟩,rfl⟩⟩
 obtain⟨ds0,y0,hd0,hy0⟩:=get 0 (by omega)
 have Q8:a.spot=none∧a.block<w.heap.size:=by
  obtain⟨_,hl0,hc⟩:=World.cells?_some hd0
  have:=hc 0 oU
  have h0:ds0[0]?=some (ds0[0]'(by omega)):=by simp [hl0,oU]
  rw[h0] at this
  have:=FO this
  obtain⟨b,off,sp⟩:=a
  simp only[Nat.zero_mul] at this
  cases sp with
  | none=>exact⟨rfl,by simpa [Addr.iN] using this.2.1⟩
  | some s=>exact absurd this.1 (by simp [Addr.add])
 obtain⟨b,off,sp⟩:=a
 simp only at Q8
 obtain⟨rfl,hbl⟩:=Q8
 have hb0:s0 b=none:=by
  cases hsb:s0 b with
  | none=>rfl
  | some o=>
   obtain⟨v,hv⟩:=hr m (by omega) ds0 y0 hy0
   obtain⟨u,hu1,hu2⟩:=hu v ds0 hv
   obtain⟨c1,_⟩:=FR (a:=(⟨b,off,none⟩:Addr).add (0*k)) (by simp [Addr.iN]) hd0
   obtain⟨o',ho'⟩:=FP c1 u hu1
   obtain⟨n',hn'⟩:=hS b o' u (by rw[hsb];simp) (by simpa [Addr.iN] using ho')
   exact absurd hn' (hu2 n')
 have val:∀i,i<len→∃v:α,VE w.heap s0 b (off+i*k) (av v):=by
  intro i hi
  obtain⟨ds,y,h1,h2⟩:=get i (by omega)
  obtain⟨v,hv⟩:=hr m (by omega) ds y h2
  obtain⟨c1,c2⟩:=FR (a:=(⟨b,off,none⟩:Addr).add (i*k)) (by simp [Addr.iN]) h1
  exact⟨v,ds,by simpa [Addr.iN] using c1,by rw[hw];exact c2,hv⟩
 have build:∀j,j≤len→∃l:List α,l.length=j∧∀(i:Nat) v,l[i]?=some v→VE w.heap s0 b (off+i*k) (av v):=by
  intro j
  induction j with
  | zero=>intro _;exact⟨[],rfl,by simp⟩
  | succ j ih=>
   intro hj
   obtain⟨l,h1,h2⟩:=ih (by omega)
   obtain⟨v,hv⟩:=val j (by omega)
   refine⟨l++ [v],by simp [h1],fun i u hi=>?_⟩
   rw[List.getElem?_append] at hi
   split at hi
   · exact h2 i u hi
   · rename_i hge
     have:i=j:=by
      have:=(fY.1 hi).1
      simp at this
      omega
     subst this
     simp [h1] at hi
     subst hi
     exact hv
 obtain⟨l,h1,h2⟩:=build len (dJ _)
 refine⟨l,?_⟩
 unfold VC
 refine .inr ⟨b,off,cap,by simp [h1],by simp [h1];exact hl,sC,hb0,hbl,aAA hw l,D3 (k:=k) (by intro e he;simp only[fN] at he;obtain⟨v,_,rfl⟩:=he;exact hw v) fun i e he=>?_⟩
 rw[q8] at he
 obtain⟨v,hv,rfl⟩:=Option.map_eq_some_iff.1 he
 exact h2 i v hv
theorem SH{s0:aA}{t:TypeId}{α:Type}{av:α→AV}{v:Value}{d:DataW H}{ps:List MemPlace}(hr:∀n,tS enc P w s0 t n av)(hag:∀a,(av a).isAgg=gV v)(h:DataW.Trod enc P w 0 (fun _=>true) true t v d ps) :
 ∃a:α,aE w.heap s0 (av a) v:=by
 obtain⟨n,hn⟩:=h
 obtain⟨a,ha⟩:=hr n _ _ hn
 refine⟨a,?_⟩
 have:=hag a
 cases hq:av a<;>rw[hq] at ha this<;>first | trivial | exact⟨this,ha⟩
theorem WE{W W':World}{s0 st':aA}(T:aX W.heap s0 W'.heap st')(s:c9 W W')(h0:∀b,s0 b≠none→W'.heap[b]?=W.heap[b]?):Below W.heap.size W W':=
 ⟨s.1,s.2.1,s.2.2,T.size,fun k hk=>by
  cases h:s0 k with
  | none=>exact(T.cQ k hk h).1
  | some o=>exact h0 k (by rw[h];simp)⟩
theorem aC7{kb:Nat}{cs:Array Value}{f:Func}{g:FuncId}{s:ChangeSpec}{W:World}{args:Array Value}{ds:List (DataW H)}{before:List MemPlace}{avs:List AV}{tb:TypeId}
 (hl:laidOutB P=true) (hts:(f.params.toList.all fun t=>P.readableRec t&&decide (t<P.types.size))=true) (hrt:f.resultTypes= #[tb]) (htb:P.underlying tb=some .bool) (hsv:s.vars= [])
 (hW:DataW.Whole enc P f.params.toList [] false W args.toList ds [] before) (hfn:s.fn H ds= { results:=[.lit (.bool true)],args:=ds }) (hT:∃t,W.heap[kb]?=some (.cells cs t (0,0))) (aCH:cF W.heap (n7 kb (.tab cs)) avs args.toList)
 (hc:aD P g avs (n7 kb (.tab cs)) (fun r st'=>r=.bool true∧st' kb=some (.tab cs))) :
 Calls P g args W fun e W'=>∃v,e=.returned v∧s.post enc P f false true false false W args v W':=by
 obtain⟨t0,ht0⟩:=hT
 have hS:bQ W.heap (n7 kb (.tab cs)):=fun b o h=>by
  unfold n7 at h
  split at h
  · rename_i hb
    subst hb
    cases h
    exact⟨(qZ.1 ht0).1,t0,ht0⟩
  · cases h
 have:=hc.2 W args.toList hS aCH
 simp only[lY] at this
 refine this.mono ?_
 rintro e W' ⟨v,r,st',rfl,hv,S',T,sm,rfl,h0'⟩
 refine⟨v,rfl,?_⟩
 have hB:=WE T sm fun b hb=>by
  have hb0:b=kb:=by
   by_cases h:b=kb
   · exact h
   · exact absurd (S0 h) hb
  subst hb0
  obtain⟨_,t1,h1⟩:=S' b _ h0'
  obtain⟨c',h2,h3⟩:=T.shape b cs t0 (0,0) ht0
  rw[h2] at h1
  cases h1
  rw[h2,ht0]
 rw[hv.pS]
 have hW':DataW.Whole enc P f.params.toList s.vars false W args.toList ds [] before:=by rw[hsv];exact hW
 obtain⟨p,q,hA,hV,rfl,hz,_⟩:=hW
 obtain⟨_,rfl⟩:=trodVars_none hV
 have hlt:∀x∈p,x.block<W.heap.size:=fun x hx=>hW'.lt x (by simp [hx])
 have Q6:∀(b:Nat) (sp:Nat→Bool) (hd:Bool),DataW.TrodAll enc P W' b sp hd f.resultTypes.toList ((Value.bool true).resultList f.resultTypes.size) (s.fn H (ds++ [])).results []:=fun _ _ _=>by
  rw[kF,hfn,hrt]
  exact trodAll_mk1 (shut_bool htb true)
 have kO:∀sp:Nat→Bool,(∀x∈p,sp x.block=true)→DataW.TrodAll enc P W' 0 sp true f.params.toList args.toList (s.fn H (ds++ [])).args p:=fun sp hsp=>by
  rw[kF,hfn]
  exact UG hl hts hA (fun x hx=>hB.same (hlt x hx)) hsp
 have RC:∀sp:Nat→Bool,DataW.TrodVars enc P W' sp s.vars (s.fn H (ds++ [])).vars []:=fun sp=>by
  rw[kF,hfn,hsv]
  exact rfl
 refine⟨ds,[],p++ [],[],p,[],hW',Q6 _ _ _,kO _ (fun x hx=>by simpa using hlt x hx),RC _,World.keptBut_mono (fun x hx=>⟨hx,by simpa using hx⟩) (hB.frame (·∈p++ [])),fun _=>?_⟩
 refine⟨ok_one hrt rfl (okWide_bool_mk htb true),_,_,([]++p)++ [],⟨[]++p,[],trodAll_append (kO _ (fun _ _=>rfl)) (Q6 _ _ _),RC _,rfl,?_,?_⟩,?_⟩
 · intro b off hp
   have hp':MemPlace.cell b off∈p:=by simpa using hp
   rw[hB.frozen (p:=⟨b,off,none⟩) (hlt _ hp')]
   exact hz b off (by simpa using hp')
 · intro ha;cases ha
 · intro x hx _
   simpa using hx
theorem aFC{kb:Nat}{P:Program}{W:World}{name:String}{k:IntKind}{zs:List Int}{rest:List (String×DataW Unit)}{t e:TypeId}{n:Nat}
 (hg:P.globalNamed name=some kb) (hty:(P.globals[kb]?).map (·.type)=some t) (ht:P.underlying t=some (.array n e)) (he:P.underlying e=some (.int k)) (hce:P.cellsOf e=1) (hct:P.cellsOf t=n) (hz:zs≠[])
 (hn:(((name,(Lib.tabData k zs:DataW Unit))::rest).all fun x=>x.2.handleName?.isNone)=true)
 (h:laidMetH P ((name,Lib.tabData k zs)::rest) W):∃t,W.heap[kb]?=some (.cells (zs.map fun z=>Value.int k z).toArray t (0,0)):=by
 replace h:=(laidMetH_iff.1 h).1
 rw[List.filter_eq_self.2 fun x hx=>dY.1 hn x hx] at h
 have hT:=Lib.tabIs_of_head hg hty ht he hce hct h
 obtain⟨ps,⟨g',t',cs,fuel,p,q,hg',_,RB,_,_,rfl⟩,_,hc⟩:=h
 obtain rfl:=m8 (hg.symm.trans hg')
 have hcs:cs=(zs.map fun z=>Value.int k z).toArray:=by
  unfold Lib.TabIs at hT
  rw[hT] at RB
  exact(m8 RB).symm
 have oU:0<cs.size:=by
  rw[hcs]
  cases zs with
  | nil=>exact absurd rfl hz
  | cons z zs=>simp
 obtain⟨⟨c,t1,hb⟩,_⟩:=hc kb 0 (by
  simp only[iY]
  exact .inl (.inl (by
   unfold MemPlace.row
   simp
   exact oU)))
 refine⟨t1,?_⟩
 unfold Lib.TabIs World.var? at hT
 rw[hg] at hT
 simp only[wM,hb] at hT
 rw[hb,m8 hT]
end
open Go.Proofs.Tryz
section
variable {H:Type} {enc:TypeId×Value→H} {w:World} {s0:aA}
theorem aDS{h:aN}:D0 h s0 dV:=fun a ds x=>by
 simp only[dV,VC] at x
 subst x
 exact⟨_,wK.2 rfl,fun n hn=>by simp at hn⟩
theorem aEM(n:Nat):tS enc prog w s0 5 n dV:=by
 intro cs x h
 obtain⟨k,rfl,_,hw⟩:=DataW.trod_int uU5 h
 simp only[Lit.wf,IntKind.min,IntKind.max,IntKind.signed,IntKind.bits,bV,bK] at hw
 refine⟨⟨k.toNat,?_⟩,?_⟩
 · simp at hw;omega
 · have:(((k.toNat:Nat)):Int)=k:=by simp at hw;omega
   simp only[dV,this,VC]
theorem SG(hS:Sep w.heap s0)(n:Nat):tS enc prog w s0 22 n (fun l:List Bt=>.slice (l.map dV)):=
 aEN hS aGF Y3 (by omega) xA aDS fun m _=>aEM m
end
theorem aET{kb:Nat}{h:aN}{zs:List Int}{t:TypeId}(ht:h[kb]?=some (.cells (zs.map fun z=>Value.int .u64 z).toArray t (0,0))):Sep h (n7 kb (.tab (zs.map fun z=>Value.int .u64 z).toArray)):=fun b off v hb hc=>by
 have hb0:b=kb:=by
  by_cases h:b=kb
  · exact h
  · exact absurd (S0 h) hb
 subst hb0
 simp only[cellAt,ht] at hc
 simp at hc
 obtain⟨z,_,rfl⟩:=hc
 exact⟨z,rfl⟩
end Go.AW


namespace Go.Proofs.YtieofkhcboolkaaGreatDoor
open Go.ChangeShapes Go.WideShapes Go.ChangeAt Go.RowKit Go.AW
theorem aEB{W:World}(h:laidMetH Tryz.prog [(SF,(Lib.tabData .u64 Lib.pow10Tab:DataW Unit))] W):∃t,W.heap[kR]?=some (.cells (Lib.pow10Tab.map fun z=>Value.int .u64 z).toArray t (0,0)):=
 aFC (t:=362) (e:=354) (n:=20) (by kernel_rfl) (by kernel_rfl) Tryz.underlying362 Tryz.underlying354 (by kernel_rfl) (by kernel_rfl) (by decide) (by decide +kernel) h
end Go.Proofs.YtieofkhcboolkaaGreatDoor

