import Derived.Test.YtimfffmcljmfgaaGreatDoorUzs
import Derived.Test.YtimfffmcljmfgaaGreatDoorUzm
import Derived.Test.YtimfffmcljmfgaaGreatDoorUzi
import Derived.Test.YtimfffmcljmfgaaGreatDoorUzk
import Derived.Test.YtimfffmcljmfgaaGreatDoorUzr
import Derived.LaidMore
import Derived.LaidSub
import Derived.Lib.LaidTab
import Derived.Test.YtimfffmcljmfgaaGreatDoorUzt
import Derived.Test.YtimfffmcljmfgaaGreatDoorUzp
import Derived.Test.YtimfffmcljmfgaaGreatDoorUzn
import Derived.Test.YtimfffmcljmfgaaGreatDoorUzq
set_option linter.unusedSimpArgs false
set_option linter.unusedVariables false
set_option maxRecDepth 100000
namespace Go.AW
open Go.Proofs.Tryz
section
variable {H:Type} {enc:TypeId×Value→H} {w:World}
theorem aYY:prog.cellsOf 5=1:=by kernel_rfl
end
section
variable {H:Type} {enc:TypeId×Value→H} {w:World}
theorem aTP{h:bP}{st:aB}{k:IntKind}{n:Int}:VC h st (.int k n) [.int k n]:=by simp only[VC]
theorem aYW:prog.cellsOf 3=1:=by kernel_rfl
theorem aYX:prog.cellsOf 9=1:=by kernel_rfl
theorem aBJ:prog.cellsOf 23=1:=by kernel_rfl
theorem L3:prog.cellsOf 90=4:=by kernel_rfl
theorem XO{r:Reach}{b0:Nat}{t e:TypeId}{v:Value}(ht:prog.underlying t=some (.slice e))(h:Value.okWide prog w r b0 t v):mB v=false:=by
 cases v<;>first | rfl | (simp [Value.okWide,ht,Cell.okWide,Cell.ok] at h)
end
section
variable {H:Type} {enc:TypeId×Value→H} {w:World}
theorem aBI:prog.cellsOf 92=5:=by kernel_rfl
theorem aTB{r:Reach}{b0:Nat}{v:Value}(h:Value.okWide prog w r b0 3 v):mB v=false:=by
 cases v<;>first | rfl | (simp [Value.okWide,aZ,Cell.okWide,Cell.ok] at h)
end
end Go.AW

namespace Go.AW
open Go.ChangeShapes Go.WideShapes Go.ChangeAt Go.RowKit
set_option maxRecDepth 100000
section
variable {H:Type} {enc:TypeId×Value→H} {P:Program} {w:World}
def Sep(h:bP)(s0:aB):Prop:=∀b off v,s0 b≠none→cellAt h b off=some v→∃n,v=.int .u64 n
def KW(h:bP)(s0:aB){α:Type}(av:α→AV):Prop:=∀(a:α) ds,VC h s0 (av a) ds→∃v,v∈ds∧∀n,v≠.int .u64 n
def vA(enc:TypeId×Value→H)(P:Program)(w:World)(s0:aB)(t n:Nat){α:Type}(av:α→AV):Prop:=
 ∀cs x,DataW.trod enc P w 0 (fun _=>true) true n t cs=some x→∃a:α,VC w.heap s0 (av a) cs
theorem aBG{h:bP}{b:Nat}:∀ {l:List Value} {off:Nat},fH h b off l→∀v∈l,∃o,cellAt h b o=some v
 | [],_,_,v,hv=>by cases hv
 | x::l,off,hc,v,hv=>by
  rcases c8.1 hv with rfl | hv
  · exact⟨off,hc.1⟩
  · exact aBG hc.2 v hv
theorem N3{s0:aB}(hS:Sep w.heap s0){t e n k:Nat}{α:Type}{av:α→AV}(ht:P.underlying t=some (.slice e))(hk:P.cellsOf e=k)(z6:0<k)(hw:∀a,(av a).width=k)(hu:KW w.heap s0 av)(hr:∀m,m<n→vA enc P w s0 e m av) :
 vA enc P w s0 t n (fun l:List α=>.slice (l.map av)):=by
 intro cs x h
 rcases DataW.trod_slice ht h with ⟨rfl,_⟩ | ⟨a,len,cap,elems,rest,m,hm,rfl,rfl,_,hl,E2,hlen,hel,hsp,_⟩
 · exact⟨[],by simp only[aU];unfold VC;exact .inl ⟨⟨_,rfl⟩,rfl⟩⟩
 obtain⟨hrl,xW⟩:=hsp rfl
 rw[hk] at hel xW
 have get:∀i,i<cap→∃ds y,w.cells? 0 (a.add (i*k)) k=some ds∧DataW.trod enc P w 0 (fun _=>true) true m e ds=some y:=by
  intro i hi
  have hb:∃y,(w.cells? 0 (a.add (i*k)) k).bind (DataW.trod enc P w 0 (fun _=>true) true m e)=some y:=by
   by_cases hi':i<len
   · exact⟨elems[i]'(by omega),by rw[hel i hi'];simp [show i<elems.length by omega]⟩
   · have:=xW (i - len) (by omega)
     rw[show len+(i - len)=i by omega] at this
     exact⟨rest[i - len]'(by omega),by rw[this];simp [show i - len<rest.length by omega]⟩
  obtain⟨y,hy⟩:=hb
  obtain⟨ds,h1,h2⟩:=Option.bind_eq_some_iff.1 hy
  exact⟨ds,y,h1,h2⟩
 by_cases hc0:cap=0
 · subst hc0
   obtain rfl:len=0:=by omega
   exact⟨[],by simp only[aU];unfold VC;exact .inl ⟨⟨_,rfl⟩,rfl⟩⟩
 obtain⟨ds0,y0,hd0,hy0⟩:=get 0 (by omega)
 have aN9:a.spot=none∧a.block<w.heap.size:=by
  obtain⟨_,hl0,hc⟩:=World.cells?_some hd0
  have:=hc 0 z6
  have h0:ds0[0]?=some (ds0[0]'(by omega)):=by simp [hl0,z6]
  rw[h0] at this
  have:=aBF this
  obtain⟨b,off,sp⟩:=a
  simp only[Nat.zero_mul] at this
  cases sp with
  | none=>exact⟨rfl,by simpa [Addr.oF] using this.2.1⟩
  | some s=>exact absurd this.1 (by simp [Addr.add])
 obtain⟨b,off,sp⟩:=a
 simp only at aN9
 obtain⟨rfl,hbl⟩:=aN9
 have hb0:s0 b=none:=by
  cases hsb:s0 b with
  | none=>rfl
  | some o=>
   obtain⟨v,hv⟩:=hr m (by omega) ds0 y0 hy0
   obtain⟨u,hu1,hu2⟩:=hu v ds0 hv
   obtain⟨c1,_⟩:=aBK (a:=(⟨b,off,none⟩:Addr).add (0*k)) (by simp [Addr.oF]) hd0
   obtain⟨o',ho'⟩:=aBG c1 u hu1
   obtain⟨n',hn'⟩:=hS b o' u (by rw[hsb];simp) (by simpa [Addr.oF] using ho')
   exact absurd hn' (hu2 n')
 have val:∀i,i<len→∃v:α,VE w.heap s0 b (off+i*k) (av v):=by
  intro i hi
  obtain⟨ds,y,h1,h2⟩:=get i (by omega)
  obtain⟨v,hv⟩:=hr m (by omega) ds y h2
  obtain⟨c1,c2⟩:=aBK (a:=(⟨b,off,none⟩:Addr).add (i*k)) (by simp [Addr.oF]) h1
  exact⟨v,ds,by simpa [Addr.oF] using c1,by rw[hw];exact c2,hv⟩
 have build:∀j,j≤len→∃l:List α,l.length=j∧∀(i:Nat) v,l[i]?=some v→VE w.heap s0 b (off+i*k) (av v):=by
  intro j
  induction j with
  | zero=>intro _;exact⟨[],rfl,by simp⟩
  | succ j ih=>
   intro hj
   obtain⟨l,h1,h2⟩:=ih (by omega)
   obtain⟨v,hv⟩:=val j (by omega)
   refine⟨l++ [v],by simp [h1],fun i u hi=>?_⟩
   rw[List.getElem?_append] at hi
   split at hi
   · exact h2 i u hi
   · rename_i hge
     have:i=j:=by
      have:=(fR.1 hi).1
      simp at this
      omega
     subst this
     simp [h1] at hi
     subst hi
     exact hv
 obtain⟨l,h1,h2⟩:=build len (dB _)
 refine⟨l,?_⟩
 unfold VC
 refine .inr ⟨b,off,cap,by simp [h1],by simp [h1];exact hl,E2,hb0,hbl,aMD hw l,YA (k:=k) (by intro e he;simp only[cU] at he;obtain⟨v,_,rfl⟩:=he;exact hw v) fun i e he=>?_⟩
 rw[nO] at he
 obtain⟨v,hv,rfl⟩:=Option.map_eq_some_iff.1 he
 exact h2 i v hv
theorem JF{s0:aB}{t:TypeId}{α:Type}{av:α→AV}{v:Value}{d:DataW H}{ps:List MemPlace}(hr:∀n,vA enc P w s0 t n av)(hag:∀a,(av a).isAgg=mB v)(h:DataW.Trod enc P w 0 (fun _=>true) true t v d ps) :
 ∃a:α,aT w.heap s0 (av a) v:=by
 obtain⟨n,hn⟩:=h
 obtain⟨a,ha⟩:=hr n _ _ hn
 refine⟨a,?_⟩
 have:=hag a
 cases hq:av a<;>rw[hq] at ha this<;>first | trivial | exact⟨this,ha⟩
theorem aUX{W W':World}{s0 st':aB}(T:cC W.heap s0 W'.heap st')(s:gE W W')(h0:∀b,s0 b≠none→W'.heap[b]?=W.heap[b]?):Below W.heap.size W W':=
 ⟨s.1,s.2.1,s.2.2,T.size,fun k hk=>by
  cases h:s0 k with
  | none=>exact(T.aV k hk h).1
  | some o=>exact h0 k (by rw[h];simp)⟩
theorem aOR{kb:Nat}{cs:Array Value}{f:Func}{g:FuncId}{s:ChangeSpec}{W:World}{args:Array Value}{ds:List (DataW H)}{before:List MemPlace}{avs:List AV}{tb:TypeId}
 (hl:laidOutB P=true) (hts:(f.params.toList.all fun t=>P.readableRec t&&decide (t<P.types.size))=true) (hrt:f.resultTypes= #[tb]) (htb:P.underlying tb=some .bool) (hsv:s.vars= [])
 (hW:DataW.Whole enc P f.params.toList [] false W args.toList ds [] before) (hfn:s.fn H ds= { results:=[.lit (.bool true)],args:=ds }) (hT:∃t,W.heap[kb]?=some (.cells cs t (0,0))) (a2X:dC W.heap (pN kb (.tab cs)) avs args.toList)
 (hc:aD P g avs (pN kb (.tab cs)) (fun r st'=>r=.bool true∧st' kb=some (.tab cs))) :
 Calls P g args W fun e W'=>∃v,e=.returned v∧s.post enc P f false true false false W args v W':=by
 obtain⟨t0,ht0⟩:=hT
 have hS:cX W.heap (pN kb (.tab cs)):=fun b o h=>by
  unfold pN at h
  split at h
  · rename_i hb
    subst hb
    cases h
    exact⟨(DK.1 ht0).1,t0,ht0⟩
  · cases h
 have:=hc.2 W args.toList hS a2X
 simp only[uX] at this
 refine this.mono ?_
 rintro e W' ⟨v,r,st',rfl,hv,S',T,sm,rfl,h0'⟩
 refine⟨v,rfl,?_⟩
 have hB:=aUX T sm fun b hb=>by
  have hb0:b=kb:=by
   by_cases h:b=kb
   · exact h
   · exact absurd (JO h) hb
  subst hb0
  obtain⟨_,t1,h1⟩:=S' b _ h0'
  obtain⟨c',h2,h3⟩:=T.shape b cs t0 (0,0) ht0
  rw[h2] at h1
  cases h1
  rw[h2,ht0]
 rw[hv.BR]
 have hW':DataW.Whole enc P f.params.toList s.vars false W args.toList ds [] before:=by rw[hsv];exact hW
 obtain⟨p,q,hA,hV,rfl,hz,_⟩:=hW
 obtain⟨_,rfl⟩:=trodVars_none hV
 have hlt:∀x∈p,x.block<W.heap.size:=fun x hx=>hW'.lt x (by simp [hx])
 have CH:∀(b:Nat) (sp:Nat→Bool) (hd:Bool),DataW.TrodAll enc P W' b sp hd f.resultTypes.toList ((Value.bool true).resultList f.resultTypes.size) (s.fn H (ds++ [])).results []:=fun _ _ _=>by
  rw[gI,hfn,hrt]
  exact trodAll_mk1 (shut_bool htb true)
 have sL:∀sp:Nat→Bool,(∀x∈p,sp x.block=true)→DataW.TrodAll enc P W' 0 sp true f.params.toList args.toList (s.fn H (ds++ [])).args p:=fun sp hsp=>by
  rw[gI,hfn]
  exact aSU hl hts hA (fun x hx=>hB.same (hlt x hx)) hsp
 have aOC:∀sp:Nat→Bool,DataW.TrodVars enc P W' sp s.vars (s.fn H (ds++ [])).vars []:=fun sp=>by
  rw[gI,hfn,hsv]
  exact rfl
 refine⟨ds,[],p++ [],[],p,[],hW',CH _ _ _,sL _ (fun x hx=>by simpa using hlt x hx),aOC _,World.keptBut_mono (fun x hx=>⟨hx,by simpa using hx⟩) (hB.frame (·∈p++ [])),fun _=>?_⟩
 refine⟨ok_one hrt rfl (okWide_bool_mk htb true),_,_,([]++p)++ [],⟨[]++p,[],trodAll_append (sL _ (fun _ _=>rfl)) (CH _ _ _),aOC _,rfl,?_,?_⟩,?_⟩
 · intro b off hp
   have hp':MemPlace.cell b off∈p:=by simpa using hp
   rw[hB.frozen (p:=⟨b,off,none⟩) (hlt _ hp')]
   exact hz b off (by simpa using hp')
 · intro ha;cases ha
 · intro x hx _
   simpa using hx
theorem a7H{kb:Nat}{P:Program}{W:World}{name:String}{k:IntKind}{zs:List Int}{rest:List (String×DataW Unit)}{t e:TypeId}{n:Nat}
 (hg:P.globalNamed name=some kb) (hty:(P.globals[kb]?).map (·.type)=some t) (ht:P.underlying t=some (.array n e)) (he:P.underlying e=some (.int k)) (hce:P.cellsOf e=1) (hct:P.cellsOf t=n) (hz:zs≠[])
 (hn:(((name,(Lib.tabData k zs:DataW Unit))::rest).all fun x=>x.2.handleName?.isNone)=true)
 (h:laidMetH P ((name,Lib.tabData k zs)::rest) W):∃t,W.heap[kb]?=some (.cells (zs.map fun z=>Value.int k z).toArray t (0,0)):=by
 replace h:=(laidMetH_iff.1 h).1
 rw[List.filter_eq_self.2 fun x hx=>eW.1 hn x hx] at h
 have hT:=Lib.tabIs_of_head hg hty ht he hce hct h
 obtain⟨ps,⟨g',t',cs,fuel,p,q,hg',_,aOB,_,_,rfl⟩,_,hc⟩:=h
 obtain rfl:=lL (hg.symm.trans hg')
 have hcs:cs=(zs.map fun z=>Value.int k z).toArray:=by
  unfold Lib.TabIs at hT
  rw[hT] at aOB
  exact(lL aOB).symm
 have z6:0<cs.size:=by
  rw[hcs]
  cases zs with
  | nil=>exact absurd rfl hz
  | cons z zs=>simp
 obtain⟨⟨c,t1,hb⟩,_⟩:=hc kb 0 (by
  simp only[fF]
  exact .inl (.inl (by
   unfold MemPlace.row
   simp
   exact z6)))
 refine⟨t1,?_⟩
 unfold Lib.TabIs World.var? at hT
 rw[hg] at hT
 simp only[KX,hb] at hT
 rw[hb,lL hT]
end
open Go.Proofs.Tryz
section
variable {H:Type} {enc:TypeId×Value→H} {w:World} {s0:aB}
theorem aO7{h:bP}:KW h s0 Tm.av:=fun a ds x=>by
 obtain⟨k,j,s,l⟩:=a
 rw[aY] at x
 unfold VC at x
 simp only[bD] at x
 obtain⟨c,r,rfl,x1,_⟩:=x
 simp only[VC] at x1
 exact⟨c,by simp,fun n hn=>by rw[hn] at x1;simp at x1⟩
theorem a42{h:bP}:KW h s0 bB:=fun a ds x=>by
 obtain⟨⟨k,j,s,l⟩,b⟩:=a
 rw[fU] at x
 unfold VC at x
 simp only[bD] at x
 obtain⟨c,r,rfl,x1,_⟩:=x
 simp only[VC] at x1
 exact⟨c,by simp,fun n hn=>by rw[hn] at x1;simp at x1⟩
theorem a43{h:bP}:KW h s0 iS:=fun a ds x=>by
 simp only[iS,VC] at x
 subst x
 exact⟨_,GM.2 rfl,fun n hn=>by simp at hn⟩
theorem aP4(hS:Sep w.heap s0):∀n,vA enc prog w s0 90 n Tm.av:=by
 intro n
 induction n using Nat.strongRecOn with
 | _ n ih=>
  intro cs x h
  obtain⟨xs,m,rfl,_,hl,hx,hf⟩:=DataW.trod_struct a8X h
  rw[L3] at hl
  match cs,hl with
  | [c0,c1,c2,c3],_=>
   obtain⟨y0,h0⟩:=FS hx hf 0 rfl
   obtain⟨y1,h1⟩:=FS hx hf 1 rfl
   obtain⟨y2,h2⟩:=FS hx hf 2 rfl
   obtain⟨y3,h3⟩:=FS hx hf 3 rfl
   replace h0:DataW.trod enc prog w 0 (fun _=>true) true m 3 ([c0,c1,c2,c3].take (prog.cellsOf 3))=some y0:=h0
   replace h1:DataW.trod enc prog w 0 (fun _=>true) true m 3 ([c1,c2,c3].take (prog.cellsOf 3))=some y1:=h1
   replace h2:DataW.trod enc prog w 0 (fun _=>true) true m 9 ([c2,c3].take (prog.cellsOf 9))=some y2:=h2
   replace h3:DataW.trod enc prog w 0 (fun _=>true) true m 23 ([c3].take (prog.cellsOf 23))=some y3:=h3
   rw[aYW] at h0 h1
   rw[aYX] at h2
   rw[aBJ] at h3
   obtain⟨k,e0,_⟩:=DataW.trod_int aZ h0
   obtain⟨j,e1,_⟩:=DataW.trod_int aZ h1
   obtain⟨s,e2,_,es⟩:=DataW.trod_string cF h2
   obtain⟨l,e3⟩:=N3 hS (n:=m) wM L3 (by omega) aK aO7 (fun m' hm=>ih m' (by omega)) _ _ h3
   obtain rfl:=(yQ e0).1
   obtain rfl:=(yQ e1).1
   obtain rfl:=(yQ e2).1
   refine⟨.mk k j s l,?_⟩
   rw[aY]
   unfold VC
   simp only[bD]
   exact⟨_,_,rfl,by simp only[VC],_,_,rfl,by simp only[VC],_,_,rfl,by simp only[VC];exact⟨trivial,es⟩,_,_,rfl,e3,rfl⟩
theorem aP5(hS:Sep w.heap s0)(n:Nat):vA enc prog w s0 23 n (fun l:List Tm=>.slice (l.map Tm.av)):=
 N3 hS wM L3 (by omega) aK aO7 fun m _=>aP4 hS m
theorem aP6(n:Nat):vA enc prog w s0 3 n (fun k:Int=>.int .i64 k):=by
 intro cs x h
 obtain⟨k,rfl,_⟩:=DataW.trod_int aZ h
 exact⟨k,aTP⟩
theorem a54(hS:Sep w.heap s0)(n:Nat):vA enc prog w s0 92 n bB:=by
 intro cs x h
 obtain⟨xs,m,rfl,_,hl,hx,hf⟩:=DataW.trod_struct a8Y h
 rw[aBI] at hl
 match cs,hl with
 | [c0,c1,c2,c3,c4],_=>
  obtain⟨y0,h0⟩:=FS hx hf 0 rfl
  obtain⟨y1,h1⟩:=FS hx hf 1 rfl
  replace h0:DataW.trod enc prog w 0 (fun _=>true) true m 90 ([c0,c1,c2,c3,c4].take (prog.cellsOf 90))=some y0:=h0
  replace h1:DataW.trod enc prog w 0 (fun _=>true) true m 23 ([c4].take (prog.cellsOf 23))=some y1:=h1
  rw[L3] at h0
  rw[aBJ] at h1
  obtain⟨⟨k,j,s,l⟩,e0⟩:=aP4 hS _ _ _ h0
  obtain⟨b,e1⟩:=aP5 hS _ _ _ h1
  refine⟨(.mk k j s l,b),?_⟩
  rw[fU]
  rw[aY] at e0
  unfold VC at e0
  unfold VC
  simp only[bD,List.cons.injEq] at e0 ⊢
  obtain⟨_,_,⟨rfl,rfl⟩,f0,_,_,⟨rfl,rfl⟩,f1,_,_,⟨rfl,rfl⟩,f2,_,_,⟨rfl,rfl⟩,f3,_⟩:=e0
  exact⟨_,_,⟨rfl,rfl⟩,f0,_,_,rfl,f1,_,_,rfl,f2,_,_,rfl,f3,_,_,rfl,e1,rfl⟩
theorem a55(hS:Sep w.heap s0)(n:Nat):vA enc prog w s0 22 n (fun l:List Cl=>.slice (l.map bB)):=
 N3 hS XG aBI (by omega) i8 a42 fun m _=>a54 hS m
theorem a56(n:Nat):vA enc prog w s0 5 n iS:=by
 intro cs x h
 obtain⟨k,rfl,_,hw⟩:=DataW.trod_int lO h
 simp only[Lit.wf,IntKind.min,IntKind.max,IntKind.signed,IntKind.bits,cK,bL] at hw
 refine⟨⟨k.toNat,?_⟩,?_⟩
 · simp at hw;omega
 · have:(((k.toNat:Nat)):Int)=k:=by simp at hw;omega
   simp only[iS,this,VC]
theorem a57(hS:Sep w.heap s0)(n:Nat):vA enc prog w s0 40 n (fun l:List Bt=>.slice (l.map iS)):=
 N3 hS wN aYY (by omega) LP a43 fun m _=>a56 m
end
theorem aQI{kb:Nat}{h:bP}{zs:List Int}{t:TypeId}(ht:h[kb]?=some (.cells (zs.map fun z=>Value.int .u64 z).toArray t (0,0))):Sep h (pN kb (.tab (zs.map fun z=>Value.int .u64 z).toArray)):=fun b off v hb hc=>by
 have hb0:b=kb:=by
  by_cases h:b=kb
  · exact h
  · exact absurd (JO h) hb
 subst hb0
 simp only[cellAt,ht] at hc
 simp at hc
 obtain⟨z,_,rfl⟩:=hc
 exact⟨z,rfl⟩
end Go.AW


namespace Go.Proofs.YtimfffmcljmfgaaGreatDoor
open Go.ChangeShapes Go.WideShapes Go.ChangeAt Go.RowKit Go.AW
theorem aPZ{W:World}(h:laidMetH Tryz.prog [(VL,(Lib.tabData .u64 Lib.pow10Tab:DataW Unit))] W):∃t,W.heap[j6]?=some (.cells (Lib.pow10Tab.map fun z=>Value.int .u64 z).toArray t (0,0)):=
 a7H (t:=391) (e:=371) (n:=20) (by kernel_rfl) (by kernel_rfl) Tryz.underlying391 Tryz.underlying371 (by kernel_rfl) (by kernel_rfl) (by decide) (by decide +kernel) h
end Go.Proofs.YtimfffmcljmfgaaGreatDoor

namespace Go.AW
open Go.Proofs.Tryz
theorem aZR(l:List Tm):iO Tm.same l l=true:=(BZ (fun x _ y=>Tm.AK x y)).2 rfl
abbrev a75:=zi tI_4 (zi zI_4 (zi cG (zi tI_31 (zi zI_31 (zi aO (zi bH (zi bJ (zi bZ (zi tI_59 (zi zI_59 (zi vU vI)))))))))))
theorem aU9(l l':List Tm)(st:aB):aD prog 81 [cI l,cI l'] st (fun r st'=>r=.bool (iO Tm.same l l')∧st'=st):=by
 refine wF [1000000] 2 func81 ntmps81 rfl rfl ?_
 intro _
 simp -implicitDefEqProofs only[cI,aA,seval,a75]
 refine(ZV l l' 133 _ fun x _ y s=>RA x y s).to ?_
 simp -implicitDefEqProofs only[aA,seval]
abbrev OI:=zi tI_3 (zi zI_3 (zi aZ (zi tI_4 (zi zI_4 (zi cG (zi tI_26 (zi zI_26 (zi nD (zi sG (zi sJ (zi uU (zi tI_59 (zi zI_59 (zi vU vI))))))))))))))
theorem aAX(L:List (List Tm))(st:aB):aD prog 30 [.slice (L.map cI),.slice (L.map cI)] st (fun r st'=>r=.bool true∧st'=st):=by
 refine wF [1000000] 2 func30 ntmps30 rfl rfl ?_
 simp only[d5,AV.fits,d9,aF]
 intro ⟨⟨hl,_⟩,_⟩
 simp -implicitDefEqProofs only[bX,aF,aA,seval,OI]
 refine eH (σ:=Unit) [1000000] [0,1] L (fun _ _=>True) (fun i _=>[(4,.bool false),(5,.int .i64 i)]) (fun _ _=>st) (by decide +kernel) ⟨(),trivial,aN.mk (by simp -implicitDefEqProofs only[aA,↓aX,seval])⟩ (fun i x _ hx hlt bQ hdr _=>?_) (fun _ hge _=>?_)
 case refine_2=>
  simp -implicitDefEqProofs only[hge,aF,aA,seval,OI]
 have hw:=bE (n:=(i:Int)+1)
 have hat:dM prog 26 (.slice (L.map cI)) (.int .i64 (i:Int))=some (.pptr (cI x)):=bO (av:=cI) nD hx rfl
 simp -implicitDefEqProofs only[bQ,aF,aA,seval,OI]
 refine wX [(0,1),(1,1),(2,1),(3,1),(4,1),(5,1),(6,1),(7,1),(8,0),(9,1)] [0,1,2,3,4,5,6,7,9] fE mixed rfl fZ ?_
 simp -implicitDefEqProofs only[hat,aA,seval,OI]
 refine(aU9 x x _).to ?_
 rw[aZR]
 simp -implicitDefEqProofs only[hw,aA,seval]
 refine⟨fZ,?_⟩
 exact⟨(),aN.mk (by simp -implicitDefEqProofs only[aA,seval])⟩

def yV(T:Tm→ByteArray)(t:Tm):Prop:=(∀st:aB,aD prog 213 [t.av] st (fun r st'=>r=.str (T t)∧st'=st))∧(T t).size≤32*t.nodes∧1≤(T t).size∧t.nodes≤1000
abbrev WX:=zi tI_3 (zi zI_3 (zi aZ (zi tI_9 (zi zI_9 (zi cF (zi tI_31 (zi zI_31 (zi aO (zi bH (zi bJ (zi bZ (zi tI_66 (zi zI_66 (zi bS (zi bT (zi bU (zi bV bR)))))))))))))))))
theorem aAK{T:Tm→ByteArray}(l:List Tm)(hT:∀t∈l,yV T t)(hn:aR Tm.nodes l≤10000)(hl:l.length≤10000)(st:aB):aD prog 280 [.slice (l.map Tm.av)] st (fun r st'=>r=.str (lW T l)∧st'=st):=by
 refine wF [1000000] 1 func280 ntmps280 rfl rfl ?_
 intro _
 simp -implicitDefEqProofs only[aA,seval]
 refine eH (σ:=Unit) [1000000] [0,2] l (fun i _=>True) (fun i _=>[(3,.str (lW T (l.take i))),(4,.int .i64 i)]) (fun _ _=>st) (by decide +kernel) ⟨(),trivial,aN.mk (by simp -implicitDefEqProofs only[j9,aA,↓aX,seval]<;>rfl)⟩ (fun i x _ hx hlt bQ hdr hinv=>?_) (fun _ hge hinv=>?_)
 case refine_2=>
  rw[eN]
  simp -implicitDefEqProofs only[hge,aF,aA,seval,WX]
 have hxm:=cJ hx
 obtain⟨c1,c2,c3,c4⟩:=hT x hxm
 have hw:=bE (n:=(i:Int)+1)
 have hat:=bO (av:=Tm.av) aO hx (aK x)
 have jH:=aUL (T:=T) hx
 have hsz:=LI (T:=T) (l:=l.take i) fun y hy=>(hT y (lS hy)).2.1
 have hsl:aR Tm.nodes (l.take i)≤aR Tm.nodes l:=aQ7 l i
 have hln:(l.take i).length≤10000:=by rw[dQ];omega
 have hm:maxLen=9223372036854775807:=by rfl
 have hs1:(lW T (l.take i)).size+(⟨#[44]⟩:ByteArray).size≤maxLen:=by show _+1≤_;omega
 have hs2:(lW T (l.take i)++(⟨#[44]⟩:ByteArray)).size+(T x).size≤maxLen:=by rw[dJ];show _+1+_≤_;omega
 have hs3:(lW T (l.take i)).size+(T x).size≤maxLen:=by omega
 by_cases h0:0<i
 · rw[aH h0] at jH
   have h0':((0:Int)<(i:Int))=True:=dF (by omega)
   simp -implicitDefEqProofs only[aF,hat,a7,aK,bQ,h0',hs1,↓reduceIte,bX,aA,seval,WX]
   refine(c1 _).to ?_
   simp -implicitDefEqProofs only[hs2,↓reduceIte,aA,seval]
   exact⟨(),aN.mk (by simp -implicitDefEqProofs only[hw,jH,↓reduceIte,aA,seval])⟩
 · rw[aE h0] at jH
   have h0':((0:Int)<(i:Int))=False:=cO (by omega)
   simp -implicitDefEqProofs only[aF,hat,a7,aK,bQ,h0',↓reduceIte,bX,b9,aA,seval,WX]
   refine(c1 _).to ?_
   simp -implicitDefEqProofs only[hs3,↓reduceIte,aA,seval]
   exact⟨(),aN.mk (by simp -implicitDefEqProofs only[hw,jH,↓reduceIte,aA,seval])⟩
abbrev JY:=zi tI_3 (zi zI_3 (zi aZ (zi tI_9 (zi zI_9 (zi cF (zi tI_66 (zi zI_66 (zi bS (zi bT (zi bU (zi bV bR)))))))))))
theorem aAL{T:Tm→ByteArray}(t:Tm)(hT:yV T t)(lv:Nat)(hlv:lv≤10)(st:aB):aD prog 334 [t.av,.int .i64 (lv:Int)] st (fun r st'=>r=.str (vK T t lv)∧st'=st):=by
 obtain⟨c1,c2,c3,c4⟩:=hT
 have hm:maxLen=9223372036854775807:=by rfl
 have hs1:(⟨#[40]⟩:ByteArray).size+(T t).size≤maxLen:=by show 1+_≤_;omega
 have hs2:((⟨#[40]⟩:ByteArray)++T t).size+(⟨#[41]⟩:ByteArray).size≤maxLen:=by rw[dJ];show 1+_+1≤_;omega
 have hi:=aAM t
 obtain⟨k,n,s,ts⟩:=t
 rw[show vK T (.mk k n s ts) lv=if(xY (.mk k n s ts)&&decide (lv<dU s))=true then(⟨#[40]⟩++T (.mk k n s ts))++⟨#[41]⟩ else T (.mk k n s ts) from rfl]
 generalize hTT:T (.mk k n s ts)=u at *
 simp only[aY] at hi c1 ⊢
 refine wF [1000000] 2 func334 ntmps334 rfl rfl ?_
 intro _
 simp -implicitDefEqProofs only[aA,seval,JY]
 refine(hi _).to ?_
 cases hk:xY (.mk k n s ts) with
 | false=>
  rw[iF,aE (by decide)]
  simp -implicitDefEqProofs only[aA,seval,JY]
  refine(c1 _).to ?_
  simp -implicitDefEqProofs only[aA,seval]
 | true=>
  rw[fP]
  simp -implicitDefEqProofs only[aA,seval,JY]
  refine(xD s _).to ?_
  by_cases h:lv<dU s
  · rw[g8 h,aH rfl]
    have h':((lv:Int)<(dU s:Int))=True:=dF (by omega)
    simp -implicitDefEqProofs only[h',↓reduceIte,bX,aA,seval,JY]
    refine(c1 _).to ?_
    simp -implicitDefEqProofs only[hs1,hs2,↓reduceIte,aA,seval]
  · rw[gG h,aE (by decide)]
    have h':((lv:Int)<(dU s:Int))=False:=cO (by omega)
    simp -implicitDefEqProofs only[h',↓reduceIte,b9,aA,seval,JY]
    refine(c1 _).to ?_
    simp -implicitDefEqProofs only[↓reduceIte,aA,seval]
abbrev WW:=zi tI_3 (zi zI_3 (zi aZ (zi tI_9 (zi zI_9 (zi cF (zi tI_66 (zi zI_66 (zi bS (zi bT (zi bU (zi bV bR)))))))))))
theorem aW3{T:Tm→ByteArray}(t:Tm)(hT:yV T t)(lv:Nat)(hlv:lv≤10)(st:aB):aD prog 277 [t.av,.int .i64 (lv:Int)] st (fun r st'=>r=.str (CK T t lv)∧st'=st):=by
 have hb:=aAL t hT lv hlv
 obtain⟨c1,c2,c3,c4⟩:=hT
 have hm:maxLen=9223372036854775807:=by rfl
 have hs1:(⟨#[40]⟩:ByteArray).size+(T t).size≤maxLen:=by show 1+_≤_;omega
 have hs2:((⟨#[40]⟩:ByteArray)++T t).size+(⟨#[41]⟩:ByteArray).size≤maxLen:=by rw[dJ];show 1+_+1≤_;omega
 have hi:=aAN t
 unfold CK
 refine wF [1000000] 2 func277 ntmps277 rfl rfl ?_
 intro _
 simp -implicitDefEqProofs only[a7,aK,cM,↓reduceIte,aA,seval,WW]
 refine(hi _).to ?_
 cases hk:FU t with
 | false=>
  rw[aE (by decide)]
  simp -implicitDefEqProofs only[a7,aK,↓reduceIte,aA,seval,WW]
  refine(hb _).to ?_
  simp -implicitDefEqProofs only[↓reduceIte,aA,seval]
 | true=>
  rw[aH rfl]
  simp -implicitDefEqProofs only[a7,aK,↓reduceIte,aA,seval,WW]
  refine(c1 _).to ?_
  simp -implicitDefEqProofs only[↓reduceIte,hs1,hs2,aA,seval]
abbrev aR9:=zi tI_3 (zi zI_3 (zi aZ (zi tI_4 (zi zI_4 (zi cG (zi tI_9 (zi zI_9 (zi cF (zi tI_66 (zi zI_66 (zi bS (zi bT (zi bU (zi bV bR))))))))))))))
theorem aW9{T:Tm→ByteArray}(t:Tm)(hT:yV T t)(lv:Nat)(hlv:lv≤10)(st:aB):aD prog 279 [t.av,.int .i64 (lv:Int)] st (fun r st'=>r=.str (C4 T t lv)∧st'=st):=by
 have hb:=aAL t hT lv hlv
 have hbs:=Q4 (T:=T) (t:=t) lv
 obtain⟨c1,c2,c3,c4⟩:=hT
 have hm:maxLen=9223372036854775807:=by rfl
 unfold C4
 generalize vK T t lv=u at *
 have hs1:(⟨#[40]⟩:ByteArray).size+u.size≤maxLen:=by show 1+_≤_;omega
 have hs2:((⟨#[40]⟩:ByteArray)++u).size+(⟨#[41]⟩:ByteArray).size≤maxLen:=by rw[dJ];show 1+_+1≤_;omega
 have hi:=aAN t
 have hpl:=aW6 u (by omega)
 refine wF [1000000] 2 func279 ntmps279 rfl rfl ?_
 intro _
 simp -implicitDefEqProofs only[a7,aK,cM,↓reduceIte,aA,seval,aR9]
 refine(hb _).to ?_
 simp -implicitDefEqProofs only[a7,aK,↓reduceIte,aA,seval,aR9]
 refine(hi _).to ?_
 cases hk:FU t with
 | true=>
  rw[yN,aH rfl]
  simp -implicitDefEqProofs only[↓reduceIte,hs1,hs2,aA,seval]
 | false=>
  rw[rT]
  simp -implicitDefEqProofs only[↓reduceIte,aA,seval]
  refine(hpl _).to ?_
  cases hq:NY (sb u) with
  | true=>
   rw[aE (by decide)]
   simp -implicitDefEqProofs only[↓reduceIte,aA,seval]
  | false=>
   rw[aH (by decide)]
   simp -implicitDefEqProofs only[↓reduceIte,hs1,hs2,aA,seval]
theorem YX{st:aB}{b q:Nat}{l:List AV}{o:AO}(hb:l≠[]→st b=none)(h:st q=some o):a8 st b l q=some o:=by
 cases l with
 | nil=>exact h
 | cons x l=>exact(aB.aJ _ _ (by rintro rfl;have:=hb (by simp);rw[h] at this;cases this)).trans h
abbrev DB:=zi tI_9 (zi zI_9 (zi cF (zi tI_31 (zi zI_31 (zi aO (zi bH (zi bJ (zi bZ (zi tI_66 (zi zI_66 (zi bS (zi bT (zi bU (zi bV bR))))))))))))))
set_option maxHeartbeats 1000000 in
theorem aW4{T:Tm→ByteArray}(n:Nat)(t:Tm)(hn:t.nodes≤n+1)(hws:Ws t)(S0:t.nodes≤1000)(hT:∀x,Ws x→x.nodes<t.nodes→yV T x)(hp:sR t=true)(st:aB):aD prog 275 [t.av] st (fun r st'=>r=.str (IY T (spine n t))∧st'=st):=by
 obtain⟨q1,q2,q3⟩:=V0 n t hws
 obtain⟨e1,e2⟩:=aQZ n t hn
 have eA:=aQY n t
 have hnp:=sQ (spine n t).2
 have hne:1≤(spine n t).1.length:=by
  cases n with
  | zero=>obtain⟨m,x,y,rfl⟩:=FN hp;simp only[Tm.iI,aR] at hn;have:=sQ x;omega
  | succ m=>unfold spine;rw[aH hp];simp
 generalize spine n t=p at *
 obtain⟨its,tl⟩:=p
 simp only at q1 q2 q3 e1 e2 eA hnp hne
 have hTi:∀x∈its,yV T x:=fun x hx=>hT x (q1 x hx) (by have:=aO0 hx;omega)
 have hTt:yV T tl:=hT tl q2 (by omega)
 have sL:=aAK its hTi (by omega) (by omega)
 have bA3:=LI (T:=T) (l:=its) fun x hx=>(hTi x hx).2.1
 obtain⟨c1,c2,c3,c4⟩:=hTt
 have hm:maxLen=9223372036854775807:=by rfl
 have hs1:(⟨#[91]⟩:ByteArray).size+(lW T its).size≤maxLen:=by show 1+_≤_;omega
 have hs2:((⟨#[91]⟩:ByteArray)++lW T its).size+(⟨#[93]⟩:ByteArray).size≤maxLen:=by rw[dJ];show 1+_+1≤_;omega
 have hs3:((⟨#[91]⟩:ByteArray)++lW T its).size+(⟨#[124]⟩:ByteArray).size≤maxLen:=by rw[dJ];show 1+_+1≤_;omega
 have hs4:(((⟨#[91]⟩:ByteArray)++lW T its)++(⟨#[124]⟩:ByteArray)).size+(T tl).size≤maxLen:=by rw[dJ,dJ];show 1+_+1+_≤_;omega
 have hs5:((((⟨#[91]⟩:ByteArray)++lW T its)++(⟨#[124]⟩:ByteArray))++T tl).size+(⟨#[93]⟩:ByteArray).size≤maxLen:=by rw[dJ,dJ,dJ];show 1+_+1+_+1≤_;omega
 refine aD.sF ?_
 refine wF [1000000,1] 1 func275 ntmps275 rfl rfl ?_
 intro _
 simp -implicitDefEqProofs only[cM,↓reduceIte,aA,seval,DB]
 intro b1 hb1
 have hD:=fun(o:AO)=>(aL.refl st).aC (o:=o) hb1
 refine tE (σ:=Unit) [1000000,1] [1,2] its 4 3 (fun i _=>(its.take i).map Tm.av) (fun _ _=>True) (fun i _=>[]) (fun i _=>st.aC b1 (.cells (yE i t).av.cells)) (fun i _ _ e he=>by simp only[cU] at he;obtain⟨x,_,rfl⟩:=he;exact⟨cM _,aK _⟩) (by decide +kernel) ⟨(),0,trivial,fun h=>absurd rfl h,aN.mk (by simp -implicitDefEqProofs only[kB,j9,aU,↓reduceIte,aA,seval])⟩ (fun i x s b hx hlt bQ hdr hinv hb=>?_) (fun s b hge hinv=>?_)
 case refine_1=>
  obtain⟨g1,g2⟩:=eA i x hx
  have hst:=aQX i t
  generalize yE i t=u at *
  have hpu:=LU u
  rw[g1] at hpu
  obtain⟨m,y,z,rfl⟩:=FN g1
  rw[FA.1] at g2
  rw[FA.2] at hst
  subst g2
  have hcs:(Tm.mk 3 m ⟨#[46]⟩ [y,z]).av.cells= [.int .i64 3,.int .i64 m,.str ⟨#[46]⟩,.slice [y.av,z.av]]:=by rw[aY];try rfl
  rw[hcs] at hb ⊢
  have hlk:a8 (st.aC b1 (.cells [.int .i64 3,.int .i64 m,.str ⟨#[46]⟩,.slice [y.av,z.av]])) b ((its.take i).map Tm.av) b1=some (.cells [.int .i64 3,.int .i64 m,.str ⟨#[46]⟩,.slice [y.av,z.av]]):=YX hb (aB.aP _ _ _)
  have hi0:=bO (av:=Tm.av) (l:=[y,z]) (i:=0) aO rfl (aK y)
  have hi1:=bO (av:=Tm.av) (l:=[y,z]) (i:=1) aO rfl (aK z)
  rw[show((0:Nat):Int)=0 from rfl] at hi0
  rw[show((1:Nat):Int)=1 from rfl] at hi1
  have dA:((its.take i).map Tm.av).length=i:=by simp only[aF,dQ];omega
  have htk:(its.take i).map Tm.av++ [y.av]=(its.take (i+1)).map Tm.av:=by rw[fS,hx];simp
  rw[hst]
  simp only[aY,aW,aU] at hlk hpu hi0 hi1 hb ⊢
  have hLw:∀e∈(its.take i).map Tm.av,e.width=4:=eD _
  generalize (its.take i).map Tm.av=L at *
  simp -implicitDefEqProofs only[↓reduceIte,hlk,aA,seval,DB]
  refine(hpu _).to ?_
  simp -implicitDefEqProofs only[a7,aK,cM,↓reduceIte,hlk,hi0,aA,seval,DB]
  refine fG aO bH bJ rfl rfl (gA (aK _) (cB _)) (fun e he=>hLw e he) hb (by simp only[dA,aQ,bA];omega) (by simp only[dA,aQ,bA];omega) (fun b' hb'=>?_)
  rw[htk] at hb' ⊢
  have a2E:=YX (l:=(its.take (i+1)).map Tm.av) hb' (aB.aP st b1 (.cells [.int .i64 3,.int .i64 m,.str ⟨#[46]⟩,.slice [y.av,z.av]]))
  have hnb:(its.take (i+1)).map Tm.av≠[]→b1≠b':=fun h=>by rintro rfl;have:=hb' h;rw[aB.aP] at this;cases this
  have hup:=fun o=>pV (st:=st.aC b1 (.cells [.int .i64 3,.int .i64 m,.str ⟨#[46]⟩,.slice [y.av,z.av]])) (o:=o) hnb
  simp -implicitDefEqProofs only[aG,a7,aK,cB,bY,↓reduceIte,a2E,hi1,hup,c7,aA,seval,DB]
  exact⟨(),b',fun h=>by have:=hb' h;rw[aB.aJ _ _ (c9 (hnb h))] at this ⊢;exact this,aN.mk (by simp -implicitDefEqProofs only[↓reduceIte,aA,seval])⟩
 rw[eN,←e1]
 have hpt:=LU tl
 rw[e2] at hpt
 have hnt:=aWS tl
 simp -implicitDefEqProofs only[jP,H1,mI,aU,bY,fB (bY _),eX (a7 _),↓reduceIte,aA,seval,DB]
 refine(hpt _).to ?_
 simp -implicitDefEqProofs only[bY,fB (bY _),eX (a7 _),↓reduceIte,aA,seval,DB]
 refine(hnt _).to ?_
 unfold IY
 cases hnk:NP tl with
 | true=>
  rw[aH rfl]
  simp -implicitDefEqProofs only[↓reduceIte,aA,seval]
  refine(sL _).to ?_
  simp -implicitDefEqProofs only[↓reduceIte,hs1,hs2,aA,seval]
  exact hD _
 | false=>
  rw[aE (by decide)]
  simp -implicitDefEqProofs only[↓reduceIte,aA,seval]
  refine wP [(0,1),(1,2),(2,1),(3,1),(4,2),(5,2),(6,1),(7,1),(8,1)] [0,1,2,3,4,5,6,7,8] mixed ?_
  simp -implicitDefEqProofs only[↓reduceIte,aA,seval]
  refine iE (sL _) ?_
  simp -implicitDefEqProofs only[bY,fB (bY _),eX (a7 _),↓reduceIte,hs1,hs3,aA,seval,DB]
  refine iE (c1 _) ?_
  simp -implicitDefEqProofs only[↓reduceIte,hs4,hs5,aA,seval]
  exact hD _
abbrev uT:=zi tI_3 (zi zI_3 (zi aZ (zi tI_9 (zi zI_9 (zi cF (zi tI_31 (zi zI_31 (zi aO (zi bH (zi bJ (zi bZ (zi tI_66 (zi zI_66 (zi bS (zi bT (zi bU (zi bV bR)))))))))))))))))
set_option maxHeartbeats 1000000 in
theorem aXB:∀(n:Nat) (t:Tm) (st:aB),Ws t→t.nodes≤n→t.nodes≤1000→aD prog 213 [t.av] st (fun r st'=>r=.str (tx n t)∧st'=st):=by
 intro n
 induction n with
 | zero=>intro t st _ h;have:=sQ t;omega
 | succ n IH=>
 intro t st hws hn S0
 have hsz:=PI (n+1) t hws
 have hT:∀x,Ws x→x.nodes<t.nodes→yV (tx n) x:=fun x hx hlt=>⟨fun st=>IH x st hx (by omega) (by omega),PI n x hx,a8R hx (by have:=sQ x;omega),by omega⟩
 have hpt:=LU t
 have hit:=aAM t
 have a2D:=aW4 (T:=tx n) n t hn hws S0 hT
 have hm:maxLen=9223372036854775807:=by rfl
 unfold tx at hsz ⊢
 refine wF [1000000] 1 func213 ntmps213 rfl rfl ?_
 intro _
 simp -implicitDefEqProofs only[a7,aK,cM,↓reduceIte,aA,seval,uT]
 refine(hpt _).to ?_
 cases hp:sR t with
 | true=>
  rw[aH rfl]
  simp -implicitDefEqProofs only[a7,aK,↓reduceIte,aA,seval,uT]
  refine(a2D hp _).to ?_
  simp -implicitDefEqProofs only[↓reduceIte,aA,seval]
 | false=>
  rw[hp] at hsz
  rw[aE (by decide)] at hsz ⊢
  simp -implicitDefEqProofs only[a7,aK,↓reduceIte,aA,seval,uT]
  refine(hit _).to ?_
  cases hi:xY t with
  | true=>
   rw[hi] at hsz
   rw[aH rfl] at hsz ⊢
   obtain⟨m,s,x,y,rfl,hs⟩:=UM hi
   have hk:=hws.own.2
   have hxl:x.nodes<(Tm.mk 3 m s [x,y]).nodes:=by simp only[Tm.iI,aR];have:=sQ y;omega
   have hyl:y.nodes<(Tm.mk 3 m s [x,y]).nodes:=by simp only[Tm.iI,aR];have:=sQ x;omega
   have hx:=hT x (hk x (by simp)) hxl
   have hy:=hT y (hk y (by simp)) hyl
   rw[FA.1,FA.2,show(Tm.mk 3 m s [x,y]).s=s from rfl] at hsz ⊢
   have h6:s.size≤6:=hws.size.1
   have hl3:dU s≤3:=by unfold dU;cases (decide (s=⟨#[61]⟩)||decide (s=⟨#[92,61]⟩)||decide (s=⟨#[61,61]⟩)||decide (s=⟨#[60]⟩)||decide (s=⟨#[62]⟩)||decide (s=⟨#[61,60]⟩)||decide (s=⟨#[62,61]⟩)||decide (s=⟨#[61,58,61]⟩)||decide (s=⟨#[105,115]⟩))<;>cases (decide (s=⟨#[43]⟩)||decide (s=⟨#[45]⟩))<;>cases (decide (s=⟨#[42]⟩)||decide (s=⟨#[47,47]⟩)||decide (s=⟨#[109,111,100]⟩))<;>decide
   have hll:lvl (dU s)≤10:=by unfold lvl;split<;>omega
   have cl:=aW3 x hx (lvl (dU s)) hll
   have cr:=aW9 y hy (dU s - 1) (by omega)
   have csp:=aXA s (by omega)
   have clv:=xD s
   rw[dJ,dJ] at hsz
   generalize hA:CK (tx n) x (lvl (dU s))=A at *
   generalize hB:C4 (tx n) y (dU s - 1)=B at *
   generalize sV s=C at *
   have hs1:A.size+C.size≤maxLen:=by omega
   have hs2:(A++C).size+B.size≤maxLen:=by rw[dJ];omega
   have hi0:=bO (av:=Tm.av) (l:=[x,y]) (i:=0) aO rfl (aK x)
   have hi1:=bO (av:=Tm.av) (l:=[x,y]) (i:=1) aO rfl (aK y)
   rw[show((0:Nat):Int)=0 from rfl] at hi0
   rw[show((1:Nat):Int)=1 from rfl] at hi1
   simp only[aY,aW,aU] at hi0 hi1 ⊢
   generalize hL:dU s=L at *
   obtain⟨L1,hL1⟩:∃L1,L1=L - 1:=⟨_,rfl⟩
   have hw:=oS (x:=(L:Int) - 1) (m:=L1) (by omega) (by omega)
   rw[←hL1] at cr
   by_cases h3:L=3
   case' pos=>
    have h3':((L:Int)=3)=True:=dF (by omega)
    have hlv:lvl L=2:=by unfold lvl;rw[aH h3]
   case' neg=>
    have h3':((L:Int)=3)=False:=cO (by omega)
    have hlv:lvl L=L:=by unfold lvl;rw[aE h3]
   all_goals
    rw[hlv] at cl
    simp -implicitDefEqProofs only[↓reduceIte,aA,seval,uT]
    refine(clv _).to ?_
    simp -implicitDefEqProofs only[↓reduceIte,h3',bX,b9,aA,seval]
    refine wP [(0,1),(4,1),(6,1),(10,1),(14,1),(15,1),(1,2),(2,1),(3,2),(5,2),(7,2),(8,2),(9,1),(11,2),(12,1),(13,2),(16,2),(17,1),(18,1)] [0,4,6,10,14,15,1,2,3,5,7,8,9,11,12,13,16,17,18] mixed ?_
    simp -implicitDefEqProofs only[a7,aK,↓reduceIte,hi0,hw,aA,seval,uT]
    refine iE (cl _) ?_
    simp -implicitDefEqProofs only[↓reduceIte,aA,seval,uT]
    refine iE (csp _) ?_
    simp -implicitDefEqProofs only[a7,aK,↓reduceIte,hi1,hs1,aA,seval,uT]
    refine iE (cr _) ?_
    simp -implicitDefEqProofs only[↓reduceIte,hs2,aA,seval]
  | false=>
   rw[hi] at hsz
   rw[aE (by decide)] at hsz ⊢
   cases ha:QV t with
   | true=>
    rw[ha] at hsz
    rw[aH rfl] at hsz ⊢
    obtain⟨k,m,s,ts⟩:=t
    rw[QU,cK,bL,bL] at ha
    obtain⟨rfl,h0⟩:=ha
    have h0':((0:Int)<(ts.length:Int))=True:=dF (by omega)
    simp only[Tm.s,Tm.ts] at hsz ⊢
    simp only[Tm.iI] at hn S0 hT hsz
    have hk:=hws.own.2
    have h4:ts.length≤4:=by rcases I8 hws.own.1 with h | h | h<;>omega
    have sL:=aAK (T:=tx n) ts (fun x hx=>hT x (hk x hx) (by have:=aO0 hx;omega)) (by omega) (by omega)
    rw[dJ,dJ,dJ] at hsz
    generalize lW (tx n) ts=A at *
    have bBJ:s.size+A.size≤100000:=by omega
    have hs1:s.size+(⟨#[40]⟩:ByteArray).size≤maxLen:=by show _+1≤_;omega
    have hs2:(s++(⟨#[40]⟩:ByteArray)).size+A.size≤maxLen:=by rw[dJ];show _+1+_≤_;omega
    have hs3:((s++(⟨#[40]⟩:ByteArray))++A).size+(⟨#[41]⟩:ByteArray).size≤maxLen:=by rw[dJ,dJ];show _+1+_+1≤_;omega
    simp only[aY]
    simp -implicitDefEqProofs only[↓reduceIte,h0',aF,bX,aA,seval,uT]
    refine wP [(0,1),(3,1),(1,2),(2,1),(4,2),(5,2),(6,1),(7,1),(8,1)] [0,3,1,2,4,5,6,7,8] mixed ?_
    simp -implicitDefEqProofs only[↓reduceIte,hs1,aA,seval,uT]
    refine iE (sL _) ?_
    simp -implicitDefEqProofs only[↓reduceIte,hs2,hs3,aA,seval]
   | false=>
    rw[aE (by decide)]
    have hl:=aW1 t hws (fun h=>by
     obtain⟨k,m,s,ts⟩:=t
     rw[QU,show k=3 from h] at ha
     simp only[bX,fP,cP] at ha
     exact List.length_eq_zero_iff.1 (by show ts.length=0;omega))
    generalize FB t=A at *
    obtain⟨k,m,s,ts⟩:=t
    rw[QU] at ha
    simp only[aY] at hl ⊢
    by_cases hk:k=3
    case pos=>
     rw[hk] at ha hl ⊢
     simp only[bX,fP,cP] at ha
     have h0':((0:Int)<(ts.length:Int))=False:=cO (by omega)
     simp -implicitDefEqProofs only[↓reduceIte,h0',aF,bX,b9,aA,seval,uT]
     refine(hl _).to ?_
     simp -implicitDefEqProofs only[↓reduceIte,aA,seval]
    case neg=>
     have hk':=cO hk
     simp -implicitDefEqProofs only[↓reduceIte,hk',b9,aA,seval,uT]
     refine(hl _).to ?_
     simp -implicitDefEqProofs only[↓reduceIte,aA,seval]
end Go.AW
namespace Go.AW
def rR(t:Tm):ByteArray:=tx 130 t
def vJ(T:Tm→ByteArray)(h:ByteArray):List Tm→ByteArray
 | []=>h
 | x::xs=>xs.foldl (fun o y=>(o++⟨#[44]⟩)++T y) ((h++⟨#[58,45]⟩)++T x)
def SB(c:Cl):ByteArray:=vJ rR (rR c.1) c.2++⟨#[46]⟩
def fmtC(c:Cl):ByteArray:=if mG c then SB c else⟨#[]⟩
def JE(l:List UInt8):lU:=fun a=>rd l (4*l.length+4) 30 a 3
def uC(l:List UInt8):Nat→Nat→List Tm→Option (List Tm×Nat)
 | 0,_,_=>none
 | m+1,a,acc=>match JE l a with
  | none=>none
  | some (t,e)=>if cV l e 44 then uC l m (e+1) (acc++ [t]) else some (acc++ [t],e)
def t7(l:List UInt8):Option (Cl×Nat):=
 match JE l 0 with
 | none=>none
 | some (h,e)=>if(cV l e 58&&cV l (e+1) 45)=true then match uC l 7 (e+2) [] with
  | none=>none
  | some (b,e2)=>some ((h,b),e2)
  else some ((h,[]),e)
def pK(l:List UInt8):Option Cl:=match t7 l with
 | none=>none
 | some (c,e)=>if l.length≤1000∧e+1=l.length∧cV l e 46=true∧sb (fmtC c)=l then some c else none
def oJ(c:Nat):List UInt8→List UInt8→List (List UInt8)
 | [],acc=>[acc]
 | x::l,acc=>if x.toNat=c then acc::oJ c l [] else oJ c l (acc++ [x])
def CL:List (List UInt8)→List Cl→Option (List Cl)
 | [],acc=>some acc
 | l::ls,acc=>match pK l with
  | none=>none
  | some c=>CL ls (acc++ [c])
def CU(l:List UInt8):Option (List Cl):=
 let ls:=oJ 10 l []
 if 21<ls.length∨ls.getLast?≠some [] then none else CL ls.dropLast []
def nT(l:List UInt8):Option (List Tm):=match uC l 7 0 [] with
 | none=>none
 | some (g,e)=>if l.length≤1000∧e=l.length∧nH g=true then some g else none
theorem aUZ{T:Tm→ByteArray}{h:ByteArray}{l:List Tm}{i:Nat}{x:Tm}(hx:l[i]?=some x):vJ T h (l.take (i+1))=(if i=0 then vJ T h (l.take i)++⟨#[58,45]⟩ else vJ T h (l.take i)++⟨#[44]⟩)++T x:=by
 rw[fS,hx]
 cases l with
 | nil=>simp at hx
 | cons y l=>
  cases i with
  | zero=>simp at hx;subst hx;rfl
  | succ i=>
   rw[aE (by omega),tK]
   simp only[vJ,DS,fQ,List.foldl_append,BD,List.foldl_nil]
theorem ZN{T:Tm→ByteArray}{h:ByteArray}{l:List Tm}{m:Nat}(hT:∀x∈l,(T x).size≤m):(vJ T h l).size≤h.size+l.length*(m+2):=by
 have hg:∀(xs:List Tm) (o:ByteArray),(∀x∈xs,(T x).size≤m)→(xs.foldl (fun o y=>(o++⟨#[44]⟩)++T y) o).size≤o.size+xs.length*(m+2):=by
  intro xs
  induction xs with
  | nil=>intro o _;simp
  | cons x xs ih=>
   intro o hx
   refine lF (ih _ fun y hy=>hx y (by simp [hy])) ?_
   rw[dJ,dJ]
   have:=hx x (by simp)
   simp only[aQ,pS]
   show o.size+1+_+_≤_
   omega
 cases l with
 | nil=>simp [vJ]
 | cons x l=>
  refine lF (hg l _ fun y hy=>hT y (by simp [hy])) ?_
  rw[dJ,dJ]
  have:=hT x (by simp)
  simp only[aQ,pS]
  show h.size+2+_+_≤_
  omega
theorem aS6{t:Tm}(h:t.valid=true):Ws t∧t.nodes≤120:=by
 simp only[Tm.valid,cK,bL] at h
 exact⟨⟨_,h.1⟩,h.2⟩
theorem a0Z{t:Tm}(h:t.goal=true):t.valid=true:=by
 obtain⟨k,n,s,ts⟩:=t
 simp only[Tm.goal,cK] at h
 exact h.1
theorem aY4{c:Cl}(h:mG c=true):(Ws c.1∧c.1.nodes≤120)∧c.2.length≤6∧∀x∈c.2,Ws x∧x.nodes≤120:=by
 simp only[mG,cK,bL,eW] at h
 exact⟨aS6 h.1.1,h.2.1,fun x hx=>aS6 (a0Z (h.2.2 x hx))⟩
theorem MV{l:List UInt8}(hl:l.length≤1000):∀(m a:Nat) (acc ts:List Tm) (e:Nat),a≤l.length→(∀x∈acc,Dn x)→uC l m a acc=some (ts,e)→a<e∧e≤l.length∧(∀x∈ts,Dn x)∧ts.length≤acc.length+m:=by
 intro m
 induction m with
 | zero=>intro a acc ts e _ _ h;cases h
 | succ m ih=>
  intro a acc ts e ha o9 h
  unfold uC at h
  split at h
  · cases h
  rename_i t e1 h1
  obtain⟨h2,h3,h4⟩:=CZ hl _ _ _ a t e1 ha h1
  have H7:∀x∈acc++ [t],Dn x:=by intro x hx;rw[fF] at hx;rcases hx with hx | hx;exact o9 x hx;rw[GM] at hx;subst hx;exact h4
  split at h
  · rename_i h5
    have h6:=pE h5
    obtain⟨g1,g2,g3,g4⟩:=ih (e1+1) _ ts e (by omega) H7 h
    rw[dL,P3] at g4
    exact⟨by omega,g2,g3,by omega⟩
  · cases h
    exact⟨h2,h3,H7,by rw[dL,P3];omega⟩
abbrev xF (c:Cl):Prop:=Dn c.1∧c.2.length≤7∧∀x∈c.2,Dn x
theorem L6{l:List UInt8}(hl:l.length≤1000){c:Cl}{e:Nat}(h:t7 l=some (c,e)):0<e∧e≤l.length∧xF c:=by
 unfold t7 at h
 split at h
 · cases h
 rename_i t e1 h1
 obtain⟨h2,h3,h4⟩:=CZ hl _ _ _ 0 t e1 (kA _) h1
 split at h
 · rename_i h5
   rw[cK] at h5
   have h6:=pE h5.2
   split at h
   · cases h
   rename_i b e2 h7
   obtain⟨g1,g2,g3,g4⟩:=MV hl _ _ _ _ _ (by omega) (by simp) h7
   cases h
   exact⟨by omega,g2,h4,by rw[bA] at g4;show b.length≤7;omega,g3⟩
 · cases h
   exact⟨h2,h3,h4,by show 0≤7;omega,by intro x hx;cases hx⟩
theorem aPW{l:List UInt8}{c:Cl}(h:pK l=some c):xF c∧mG c=true:=by
 unfold pK at h
 split at h
 · cases h
 rename_i c' e h1
 split at h
 · rename_i h2
   cases h
   refine⟨(L6 h2.1 h1).2.2,?_⟩
   have h3:=h2.2.2.2
   unfold fmtC at h3
   split at h3
   · assumption
   · have:=jG List.length h3
     simp at this
     omega
 · cases h
theorem aB1(c:Nat):∀(l acc:List UInt8),oJ c l acc≠[]
 | [],acc=>by simp [oJ]
 | x::l,acc=>by unfold oJ;split<;>simp [aB1 c l]
theorem SF(c:Nat):∀(l acc:List UInt8),(oJ c l acc).length≤l.length+1
 | [],acc=>by simp [oJ]
 | x::l,acc=>by unfold oJ;split;have:=SF c l [];simp only[aQ];omega;have:=SF c l (acc++ [x]);simp only[aQ];omega
end Go.AW
namespace Go.AW
open Go.Proofs.Tryz
theorem aBD{t:Tm}(h:Ws t∧t.nodes≤120)(st:aB):aD prog 213 [t.av] st (fun r st'=>r=.str (rR t)∧st'=st):=aXB 130 t st h.1 (by omega) (by omega)
theorem PJ{t:Tm}(h:Ws t∧t.nodes≤120):(rR t).size≤3840:=by have:=PI 130 t h.1;unfold rR;omega
abbrev OV:=zi tI_3 (zi zI_3 (zi aZ (zi tI_9 (zi zI_9 (zi cF (zi tI_31 (zi zI_31 (zi aO (zi bH (zi bJ (zi bZ (zi tI_66 (zi zI_66 (zi bS (zi bT (zi bU (zi bV (zi bR (zi tI_84 (zi zI_84 (zi kG (zi kH kD))))))))))))))))))))))
set_option maxHeartbeats 1000000 in
theorem aXG(c:Cl)(hc:(Ws c.1∧c.1.nodes≤120)∧c.2.length≤6∧∀x∈c.2,Ws x∧x.nodes≤120)(st:aB):aD prog 370 [bB c] st (fun r st'=>r=.str (SB c)∧st'=st):=by
 obtain⟨⟨k,n,s,ks⟩,ts⟩:=c
 obtain⟨hh,hl,hb⟩:=hc
 simp only at hh hl hb
 have hhd:=fun st=>aBD hh st
 have hhs:=PJ hh
 unfold SB
 simp only
 generalize rR (.mk k n s ks)=H at *
 simp only[aY] at hhd
 simp only[fU]
 have hm:maxLen=9223372036854775807:=by rfl
 refine wF [1000000] 1 func370 ntmps370 rfl rfl ?_
 intro _
 simp -implicitDefEqProofs only[aA,seval,OV]
 refine(hhd _).to ?_
 simp -implicitDefEqProofs only[aA,seval]
 refine eH (σ:=Unit) [1000000] [1,2] ts (fun i _=>True) (fun i _=>[(3,.str (vJ rR H (ts.take i))),(4,.int .i64 i)]) (fun _ _=>st) (by decide +kernel) ⟨(),trivial,aN.mk (by simp -implicitDefEqProofs only[j9,aA,↓aX,seval]<;>rfl)⟩ (fun i x _ hx hlt bQ hdr hinv=>?_) (fun _ hge hinv=>?_)
 case refine_2=>
  rw[eN]
  have hsz:=ZN (T:=rR) (h:=H) (l:=ts) (m:=3840) fun x hx=>PJ (hb x hx)
  have hs:(vJ rR H ts).size+(⟨#[46]⟩:ByteArray).size≤maxLen:=by
   have:ts.length*(3840+2)≤6*3842:=rZ _ hl
   show _+1≤_;omega
  simp -implicitDefEqProofs only[aF,hge,hs,↓reduceIte,aA,seval,OV]
 have hxm:=cJ hx
 have c1:=fun st=>aBD (hb x hxm) st
 have c2:=PJ (hb x hxm)
 have hw:=bE (n:=(i:Int)+1)
 have hat:=bO (av:=Tm.av) aO hx (aK x)
 have jH:=aUZ (T:=rR) (h:=H) hx
 have hsz:=ZN (T:=rR) (h:=H) (l:=ts.take i) (m:=3840) fun y hy=>PJ (hb y (lS hy))
 have hln:(ts.take i).length*(3840+2)≤6*3842:=rZ _ (by rw[dQ];omega)
 generalize vJ rR H (ts.take i)=B at *
 generalize rR x=X at *
 have hs1:B.size+(⟨#[44]⟩:ByteArray).size≤maxLen:=by show _+1≤_;omega
 have hs2:(B++(⟨#[44]⟩:ByteArray)).size+X.size≤maxLen:=by rw[dJ];show _+1+_≤_;omega
 have hs3:B.size+(⟨#[58,45]⟩:ByteArray).size≤maxLen:=by show _+2≤_;omega
 have hs4:(B++(⟨#[58,45]⟩:ByteArray)).size+X.size≤maxLen:=by rw[dJ];show _+2+_≤_;omega
 by_cases h0:i=0
 · rw[aH h0] at jH
   have h0':((i:Int)=0)=True:=dF (by omega)
   simp -implicitDefEqProofs only[aF,hat,a7,aK,bQ,h0',hs3,↓reduceIte,bX,aA,seval,OV]
   refine(c1 _).to ?_
   simp -implicitDefEqProofs only[hs4,↓reduceIte,aA,seval]
   exact⟨(),aN.mk (by simp -implicitDefEqProofs only[hw,jH,↓reduceIte,aA,seval])⟩
 · rw[aE h0] at jH
   have h0':((i:Int)=0)=False:=cO (by omega)
   simp -implicitDefEqProofs only[aF,hat,a7,aK,bQ,h0',hs1,↓reduceIte,bX,b9,aA,seval,OV]
   refine(c1 _).to ?_
   simp -implicitDefEqProofs only[hs2,↓reduceIte,aA,seval]
   exact⟨(),aN.mk (by simp -implicitDefEqProofs only[hw,jH,↓reduceIte,aA,seval])⟩
abbrev W1:=zi tI_4 (zi zI_4 (zi cG (zi tI_9 (zi zI_9 (zi cF (zi tI_84 (zi zI_84 (zi kG (zi kH kD)))))))))
theorem Q8(c:Cl)(st:aB):aD prog 324 [bB c] st (fun r st'=>r=.str (fmtC c)∧st'=st):=by
 have hv:=aA3 c
 unfold fmtC
 cases h:mG c with
 | true=>
  rw[h] at hv
  have ht:=aXG c (aY4 h)
  rw[aH rfl]
  obtain⟨⟨k,n,s,ks⟩,ts⟩:=c
  simp only[fU] at hv ht ⊢
  refine wF [1000000] 1 func324 ntmps324 rfl rfl ?_
  intro _
  simp -implicitDefEqProofs only[aA,seval,W1]
  refine(hv _).to ?_
  simp -implicitDefEqProofs only[aA,seval,W1]
  refine(ht _).to ?_
  simp -implicitDefEqProofs only[aA,seval]
 | false=>
  rw[h] at hv
  rw[aE (by decide)]
  obtain⟨⟨k,n,s,ks⟩,ts⟩:=c
  simp only[fU] at hv ⊢
  refine wF [1000000] 1 func324 ntmps324 rfl rfl ?_
  intro _
  simp -implicitDefEqProofs only[aA,seval,W1]
  refine(hv _).to ?_
  simp -implicitDefEqProofs only[aA,seval]
theorem aAZ{s:ByteArray}(hs:s.size≤1000)(a:Nat)(ha:a≤s.size)(st:aB):aD prog 322 [.str s,.int .i64 (a:Int),.int .i64 30,.int .i64 3] st (fun r st'=>mX (JE (sb s) a) r∧st'=st):=
 aW8 hs (4*(sb s).length+4) 30 a 3 st ha (by omega) (by omega) (by rw[cQ];omega)
def tH(o:Option (List Tm×Nat))(r:AV):Prop:=match o with | some (ts,e)=>r=.tup [.slice (ts.map Tm.av),.int .i64 (e:Int)] | none=>r=.tup [.slice [],.int .i64 (-1)]
abbrev WZ:=zi tI_3 (zi zI_3 (zi aZ (zi tI_4 (zi zI_4 (zi cG (zi tI_5 (zi zI_5 (zi lO (zi tI_8 (zi zI_8 (zi zP (zi zQ (zi zR (zi zS (zi yZ (zi tI_9 (zi zI_9 (zi cF (zi tI_31 (zi zI_31 (zi aO (zi bH (zi bJ (zi bZ (zi tI_44 (zi zI_44 (zi aCA (zi aB8 (zi aCC (zi aSZ (zi tI_66 (zi zI_66 (zi bS (zi bT (zi bU (zi bV bR))))))))))))))))))))))))))))))))))))
set_option maxHeartbeats 1000000 in
theorem aAP{s:ByteArray}(hs:s.size≤1000)(a:Nat)(ha:a≤s.size)(st:aB):aD prog 268 [.str s,.int .i64 (a:Int)] st (fun r st'=>tH (uC (sb s) 7 a []) r∧st'=st):=by
 generalize hT:uC (sb s) 7 a []=T
 refine aD.drop (Q:=tH T) (aD.fin ?_)
 refine wF [1000000] 2 func268 ntmps268 rfl rfl ?_
 intro _
 simp -implicitDefEqProofs only[aA,seval,WZ]
 refine iN (σ:=Nat×List Tm×Nat×Nat) [1000000] [0] (fun x=>uC (sb s) x.2.2.1 x.1 x.2.1=T∧x.1≤s.size∧x.2.1.length+x.2.2.1=7∧(x.2.1.map Tm.av≠[]→st x.2.2.2=none)) (fun x=>[(1,.int .i64 (x.1:Int)),(4,.fslice []),(5,.int .i64 0),(6,bM 4 x.2.2.2 (x.2.1.map Tm.av))]) (fun x=>a8 st x.2.2.2 (x.2.1.map Tm.av)) (fun x=>x.2.2.1) (by decide +kernel) ⟨(a,[],7,0),⟨hT,ha,rfl,by simp⟩,aN.mk (by simp -implicitDefEqProofs only[aU,kB,aA,seval])⟩ ?_
 rintro⟨i,acc,m,b⟩ ⟨ht,hi,hlen,hb⟩
 simp only at ht hi hlen hb ⊢
 have fin:∀(l:List Tm) (b':Nat) (r':AV),(l.map Tm.av≠[]→st b'=none)→tH T (r'.fin b' (l.map Tm.av))→∃b2 l2 s0,a8 st b' (l.map Tm.av)=a8 s0 b2 l2∧(l2≠[]→s0 b2=none)∧(∀e∈l2,e.cH=false)∧iR l2∧aL s0 st∧tH T (r'.fin b2 l2):=fun l b' r' h1 h2=>⟨b',_,st,rfl,h1,jJ _,⟨4,eD _⟩,aL.refl _,h2⟩
 have hTn:T=none→∀(b':Nat) (l:List AV),tH T ((AV.tup [.fslice [],.int .i64 (-1)]).fin b' l):=by
  rintro rfl b' l
  simp only[tH,kS,eT,o7,aW,aU]
 have hln:(acc.map Tm.av).length=acc.length:=aF _
 have hal:=vE (P:=prog) (b:=b) (w:=4) (l:=acc.map Tm.av) bZ
 rw[hln] at hal
 by_cases h6:acc.length≤6
 case neg=>
  have h6':((acc.length:Int)≤6)=False:=cO (by omega)
  obtain rfl:m=0:=by omega
  simp -implicitDefEqProofs only[hal,h6',b9,aA,seval]
  exact fin _ _ _ hb (hTn ht.symm _ _)
 have h6':((acc.length:Int)≤6)=True:=dF (by omega)
 obtain⟨m,rfl⟩:∃m',m=m'+1:=⟨m - 1,by omega⟩
 simp only[uC] at ht
 simp -implicitDefEqProofs only[hal,h6',bX,aA,seval]
 refine(aAZ hs i hi _).mono ?_
 rintro r _ ⟨hr,rfl⟩
 cases hRi:JE (sb s) i with
 | none=>
  rw[hRi] at ht hr
  obtain⟨k,hk,rfl⟩:=hr
  have hk0:((-1 - (k:Int))<0)=True:=dF (by omega)
  simp -implicitDefEqProofs only[aK,cB,cM,hk0,lY,bX,aA,↓aX,seval,WZ]
  exact fin _ _ _ hb (hTn ht.symm _ _)
 | some p=>
  obtain⟨t,e⟩:=p
  rw[hRi] at ht hr
  simp only at ht
  obtain⟨g1,g2,g3⟩:=CZ (by rw[cQ];exact hs) _ _ _ i t e (by rw[cQ];exact hi) hRi
  rw[cQ] at g2
  simp only[mX] at hr
  subst hr
  have he0:((e:Int)<0)=False:=cO (by omega)
  simp -implicitDefEqProofs only[a7,aK,cB,cM,he0,oU,rQ,b9,aA,↓aX,seval,WZ]
  refine fG aO bH bJ rfl rfl (gA (aK _) (cB _)) (eD _) hb (by simp only[aF,aQ,bA];omega) (by simp only[aF,aQ,bA];omega) (fun b' hb'=>?_)
  rw[show acc.map Tm.av++ [t.av]=(acc++ [t]).map Tm.av by simp] at hb' ⊢
  have hw1:=bE (n:=(e:Int)+1)
  simp -implicitDefEqProofs only[aA,seval]
  refine(lM s e 44 _).to ?_
  cases h3:cV (sb s) e 44 with
  | true=>
   have h4:=pE h3
   rw[cQ] at h4
   rw[h3,aH rfl] at ht
   simp -implicitDefEqProofs only[hw1,aA,seval]
   refine⟨(e+1,acc++ [t],m,b'),by simp only;omega,⟨ht,by simp only;omega,by simp only[dL,aQ,bA];omega,hb'⟩,aN.mk (by simp -implicitDefEqProofs only[aA,seval]<;>rfl)⟩
  | false=>
   rw[h3,aE (by decide)] at ht
   simp -implicitDefEqProofs only[vD,oU,rQ,aA,seval]
   refine fin _ _ _ hb' ?_
   subst ht
   simp only[tH,kS,eT,mI,aW,aU]
abbrev cl0:Cl:=(J4,[])
def BA(o:Option Cl):AV:=match o with | some c=>.tup [bB c,.bool true] | none=>.tup [bB cl0,.bool false]
theorem sD:(AV.tup [.agg [.int .i64 0,.int .i64 0,.str ⟨#[]⟩,.fslice [],.fslice []],.bool false]).soft=BA none:=by simp only[BA,fU,eG,eJ,d7,uP,mR,nX,aW,aU]
theorem SC(c:Cl):(AV.tup [bB c,.bool true]).soft=BA (some c):=by
 obtain⟨⟨k,n,s,ks⟩,ts⟩:=c
 simp only[BA,fU,eG,eJ,d7,uP,mR,fV,aW,aU]
theorem yB{l:List UInt8}{c:Cl}{e:Nat}(h:t7 l=some (c,e))(h1:¬(l.length≤1000∧e+1=l.length∧cV l e 46=true∧sb (fmtC c)=l)):pK l=none:=by
 unfold pK
 rw[h]
 simp only
 rw[aE h1]
theorem VB{l:List UInt8}{c:Cl}{e:Nat}(h:t7 l=some (c,e))(h1:l.length≤1000∧e+1=l.length∧cV l e 46=true∧sb (fmtC c)=l):pK l=some c:=by
 unfold pK
 rw[h]
 simp only
 rw[aH h1]
theorem VV{a b:ByteArray}(h:sb a=sb b):a=b:=by rw[←ZH a,←ZH b,h]
abbrev j7:=zi tI_3 (zi zI_3 (zi aZ (zi tI_4 (zi zI_4 (zi cG (zi tI_5 (zi zI_5 (zi lO (zi tI_8 (zi zI_8 (zi zP (zi zQ (zi zR (zi zS (zi yZ (zi tI_9 (zi zI_9 (zi cF (zi tI_31 (zi zI_31 (zi aO (zi bH (zi bJ (zi bZ (zi tI_46 (zi zI_46 (zi dK (zi fM (zi fJ (zi fX (zi tI_58 (zi zI_58 (zi a0D (zi aUT (zi tI_66 (zi zI_66 (zi bS (zi bT (zi bU (zi bV (zi bR (zi tI_84 (zi zI_84 (zi kG (zi kH kD)))))))))))))))))))))))))))))))))))))))))))))
set_option maxHeartbeats 2000000 in
theorem aVR(s:ByteArray)(st:aB):aD prog 266 [.str s] st (fun r st'=>r=BA (pK (sb s))∧st'=st):=by
 refine aD.done ?_
 refine wF [1000000,6] 1 func266 ntmps266 rfl rfl ?_
 intro _
 simp -implicitDefEqProofs only[aA,seval,j7]
 intro b2 hb2
 have hD:=fun(o:AO)=>(aL.refl st).aC (o:=o) hb2
 by_cases hs:s.size≤1000
 case neg=>
  have hs':((1000:Int)<(s.size:Int))=True:=dF (by omega)
  have hP:pK (sb s)=none:=by
   unfold pK
   split
   · rfl
   · rw[aE fun h=>hs (by rw[←cQ];exact h.1)]
  rw[hP]
  simp -implicitDefEqProofs only[aG,hs',bX,aA,seval,j7]
  exact⟨sD,hD _⟩
 have hs':((1000:Int)<(s.size:Int))=False:=cO (by omega)
 have h0:=fun st=>aAZ hs 0 (kA _) st
 rw[show((0:Nat):Int)=0 from rfl] at h0
 simp -implicitDefEqProofs only[hs',b9,aA,seval]
 refine(h0 _).mono ?_
 rintro r _ ⟨hr,rfl⟩
 cases hRi:JE (sb s) 0 with
 | none=>
  have hP:pK (sb s)=none:=by unfold pK t7;rw[hRi]
  rw[hP]
  rw[hRi] at hr
  obtain⟨k,hk,rfl⟩:=hr
  have hk0:((-1 - (k:Int))<0)=True:=dF (by omega)
  simp -implicitDefEqProofs only[aG,aK,cB,cM,hk0,lY,bX,aA,↓aX,seval,j7]
  exact⟨sD,hD _⟩
 | some p=>
  obtain⟨⟨hk,hn,hsn,hts⟩,e⟩:=p
  rw[hRi] at hr
  simp only[mX,aY] at hr
  subst hr
  obtain⟨g1,g2,g3⟩:=CZ (by rw[cQ];exact hs) _ _ _ 0 _ e (kA _) hRi
  rw[cQ] at g2
  have he0:((e:Int)<0)=False:=cO (by omega)
  obtain⟨f1,hf1⟩:∃f1,f1=e+1:=⟨_,rfl⟩
  obtain⟨f2,hf2⟩:∃f2,f2=e+2:=⟨_,rfl⟩
  have hw1:=oS (x:=(e:Int)+1) (m:=f1) (by omega) (by omega)
  have hw2:=oS (x:=(e:Int)+2) (m:=f2) (by omega) (by omega)
  simp -implicitDefEqProofs only[aG,he0,b9,aA,↓aX,seval,j7]
  intro b6 h6
  have hbb:b6≠b2:=fun h=>by rw[h,aB.aP] at h6;cases h6
  have h6':st b6=none:=by rwa [aB.aJ _ _ hbb] at h6
  have hE:∀o1 o2 o3,aL (((st.aC b2 o1).aC b6 o2).aC b2 o3) st:=fun o1 o2 o3=>((hD _).aC h6').aC hb2
  refine(lM s e 58 _).to ?_
  by_cases hbd:(cV (sb s) e 58&&cV (sb s) (e+1) 45)=true
  case neg=>
   obtain⟨b,hb⟩:∃b:List Tm,b= []:=⟨_,rfl⟩
   have hcl:t7 (sb s)=some ((.mk hk hn hsn hts,b),e):=by
    unfold t7
    rw[hRi,hb]
    simp only
    rw[aE hbd]
   obtain⟨e2,he2⟩:∃e2,e2=e:=⟨_,rfl⟩
   rw[←he2] at hcl
   cases h58:cV (sb s) e 58 with
   | false=>
    simp -implicitDefEqProofs only[aA,seval,j7]
    rw[←he2]
    have hdn:=(L6 (by rw[cQ];exact hs) hcl).2.2
    have hwl:=bE (n:=(s.size:Int) - 1)
    by_cases he:e2+1=s.size
    case neg=>
     rw[yB hcl (fun h=>he (by rw[cQ] at h;exact h.2.1))]
     have he':((e2:Int)=(s.size:Int) - 1)=False:=cO (by omega)
     simp -implicitDefEqProofs only[aG,hwl,he',hbb.symm,b9,aA,seval,j7]
     exact⟨sD,hE _ _ _⟩
    have he':((e2:Int)=(s.size:Int) - 1)=True:=dF (by omega)
    simp -implicitDefEqProofs only[hwl,he',bX,aA,seval]
    refine(lM s e2 46 _).to ?_
    cases hd:cV (sb s) e2 46 with
    | false=>
     rw[yB hcl (fun h=>by rw[hd] at h;exact absurd h.2.2.1 (by decide))]
     simp -implicitDefEqProofs only[aG,hbb.symm,aA,seval,j7]
     exact⟨sD,hE _ _ _⟩
    | true=>
     simp -implicitDefEqProofs only[aA,seval,j7]
     refine(aD.qP (by rw[show iL [AV.agg [.int .i64 hk,.int .i64 hn,.str hsn,.slice (hts.map Tm.av),.fslice []]]= [bB (.mk hk hn hsn hts,b)] by simp only[iL,fU,hb,eG,d7,mR,fV,nX,aW,aU]];exact Q8 (.mk hk hn hsn hts,b) _):aD prog 324 _ _ _).to ?_
     by_cases hf:fmtC (.mk hk hn hsn hts,b)=s
     case neg=>
      rw[yB hcl (fun h=>hf (VV h.2.2.2))]
      have hf':=cO hf
      simp -implicitDefEqProofs only[aG,hf',hbb.symm,b9,aA,seval,j7]
      exact⟨sD,hE _ _ _⟩
     rw[VB hcl ⟨by rw[cQ];exact hs,by rw[cQ];exact he,hd,by rw[hf]⟩]
     have hf':=dF hf
     simp -implicitDefEqProofs only[hf',bX,aA,seval,j7]
     refine(aD.qP (by rw[show iL [AV.agg [.int .i64 hk,.int .i64 hn,.str hsn,.slice (hts.map Tm.av),.fslice []]]= [bB (.mk hk hn hsn hts,b)] by simp only[iL,fU,hb,eG,d7,mR,fV,nX,aW,aU]];exact RJ (.mk hk hn hsn hts,b) hdn.1.2 (by have:=hdn.2.1;omega) (fun x hx=>(hdn.2.2 x hx).2) _):aD prog 248 _ _ _).to ?_
     rw[fU]
     simp -implicitDefEqProofs only[aG,hbb.symm,aA,seval,j7]
     rw[←fU]
     exact⟨SC _,hE _ _ _⟩
   | true=>
    simp -implicitDefEqProofs only[hw1,aA,seval]
    refine(lM s f1 45 _).to ?_
    rw[h58,fP,←hf1] at hbd
    rw[show cV (sb s) f1 45=false by simpa using hbd]
    simp -implicitDefEqProofs only[aA,seval,j7]
    rw[←he2]
    have hdn:=(L6 (by rw[cQ];exact hs) hcl).2.2
    have hwl:=bE (n:=(s.size:Int) - 1)
    by_cases he:e2+1=s.size
    case neg=>
     rw[yB hcl (fun h=>he (by rw[cQ] at h;exact h.2.1))]
     have he':((e2:Int)=(s.size:Int) - 1)=False:=cO (by omega)
     simp -implicitDefEqProofs only[aG,hwl,he',hbb.symm,b9,aA,seval,j7]
     exact⟨sD,hE _ _ _⟩
    have he':((e2:Int)=(s.size:Int) - 1)=True:=dF (by omega)
    simp -implicitDefEqProofs only[hwl,he',bX,aA,seval]
    refine(lM s e2 46 _).to ?_
    cases hd:cV (sb s) e2 46 with
    | false=>
     rw[yB hcl (fun h=>by rw[hd] at h;exact absurd h.2.2.1 (by decide))]
     simp -implicitDefEqProofs only[aG,hbb.symm,aA,seval,j7]
     exact⟨sD,hE _ _ _⟩
    | true=>
     simp -implicitDefEqProofs only[aA,seval,j7]
     refine(aD.qP (by rw[show iL [AV.agg [.int .i64 hk,.int .i64 hn,.str hsn,.slice (hts.map Tm.av),.fslice []]]= [bB (.mk hk hn hsn hts,b)] by simp only[iL,fU,hb,eG,d7,mR,fV,nX,aW,aU]];exact Q8 (.mk hk hn hsn hts,b) _):aD prog 324 _ _ _).to ?_
     by_cases hf:fmtC (.mk hk hn hsn hts,b)=s
     case neg=>
      rw[yB hcl (fun h=>hf (VV h.2.2.2))]
      have hf':=cO hf
      simp -implicitDefEqProofs only[aG,hf',hbb.symm,b9,aA,seval,j7]
      exact⟨sD,hE _ _ _⟩
     rw[VB hcl ⟨by rw[cQ];exact hs,by rw[cQ];exact he,hd,by rw[hf]⟩]
     have hf':=dF hf
     simp -implicitDefEqProofs only[hf',bX,aA,seval,j7]
     refine(aD.qP (by rw[show iL [AV.agg [.int .i64 hk,.int .i64 hn,.str hsn,.slice (hts.map Tm.av),.fslice []]]= [bB (.mk hk hn hsn hts,b)] by simp only[iL,fU,hb,eG,d7,mR,fV,nX,aW,aU]];exact RJ (.mk hk hn hsn hts,b) hdn.1.2 (by have:=hdn.2.1;omega) (fun x hx=>(hdn.2.2 x hx).2) _):aD prog 248 _ _ _).to ?_
     rw[fU]
     simp -implicitDefEqProofs only[aG,hbb.symm,aA,seval,j7]
     rw[←fU]
     exact⟨SC _,hE _ _ _⟩
  rw[cK,←hf1] at hbd
  have a1Z:=pE hbd.2
  rw[cQ] at a1Z
  rw[hbd.1]
  simp -implicitDefEqProofs only[hw1,aA,seval]
  refine(lM s f1 45 _).to ?_
  rw[hbd.2]
  simp -implicitDefEqProofs only[hw2,aA,seval]
  refine(aAP hs f2 (by omega) _).mono ?_
  rintro r _ ⟨hr,rfl⟩
  cases hG:uC (sb s) 7 f2 [] with
  | none=>
   have hP:pK (sb s)=none:=by
    unfold pK t7
    rw[hRi]
    simp only
    rw[aH (by rw[←hf1,hbd.1,hbd.2];try rfl),←hf2,hG]
   rw[hP]
   rw[hG] at hr
   simp only[tH] at hr
   subst hr
   have hwl:=bE (n:=(s.size:Int) - 1)
   have he':((-1:Int)=(s.size:Int) - 1)=False:=cO (by omega)
   simp -implicitDefEqProofs only[aG,hwl,he',hbb.symm,b9,aA,seval,j7]
   exact⟨sD,hE _ _ _⟩
  | some p=>
   obtain⟨b,e2⟩:=p
   rw[hG] at hr
   simp only[tH] at hr
   subst hr
   have hcl:t7 (sb s)=some ((.mk hk hn hsn hts,b),e2):=by
    unfold t7
    rw[hRi]
    simp only
    rw[aH (by rw[←hf1,hbd.1,hbd.2];try rfl),←hf2,hG]
   have hg2:=MV (by rw[cQ];exact hs) _ _ _ _ _ (by rw[cQ];omega) (by simp) hG
   rw[cQ] at hg2
   simp -implicitDefEqProofs only[aG,aA,seval,j7]
   have hdn:=(L6 (by rw[cQ];exact hs) hcl).2.2
   have hwl:=bE (n:=(s.size:Int) - 1)
   by_cases he:e2+1=s.size
   case neg=>
    rw[yB hcl (fun h=>he (by rw[cQ] at h;exact h.2.1))]
    have he':((e2:Int)=(s.size:Int) - 1)=False:=cO (by omega)
    simp -implicitDefEqProofs only[aG,hwl,he',hbb.symm,b9,aA,seval,j7]
    exact⟨sD,hE _ _ _⟩
   have he':((e2:Int)=(s.size:Int) - 1)=True:=dF (by omega)
   simp -implicitDefEqProofs only[hwl,he',bX,aA,seval]
   refine(lM s e2 46 _).to ?_
   cases hd:cV (sb s) e2 46 with
   | false=>
    rw[yB hcl (fun h=>by rw[hd] at h;exact absurd h.2.2.1 (by decide))]
    simp -implicitDefEqProofs only[aG,hbb.symm,aA,seval,j7]
    exact⟨sD,hE _ _ _⟩
   | true=>
    simp -implicitDefEqProofs only[aA,seval,j7]
    refine(aD.qP (by rw[show iL [AV.agg [.int .i64 hk,.int .i64 hn,.str hsn,.slice (hts.map Tm.av),.slice (b.map Tm.av)]]= [bB (.mk hk hn hsn hts,b)] by simp only[iL,fU,AV.soft]];exact Q8 (.mk hk hn hsn hts,b) _):aD prog 324 _ _ _).to ?_
    by_cases hf:fmtC (.mk hk hn hsn hts,b)=s
    case neg=>
     rw[yB hcl (fun h=>hf (VV h.2.2.2))]
     have hf':=cO hf
     simp -implicitDefEqProofs only[aG,hf',hbb.symm,b9,aA,seval,j7]
     exact⟨sD,hE _ _ _⟩
    rw[VB hcl ⟨by rw[cQ];exact hs,by rw[cQ];exact he,hd,by rw[hf]⟩]
    have hf':=dF hf
    simp -implicitDefEqProofs only[hf',bX,aA,seval,j7]
    refine(aD.qP (by rw[show iL [AV.agg [.int .i64 hk,.int .i64 hn,.str hsn,.slice (hts.map Tm.av),.slice (b.map Tm.av)]]= [bB (.mk hk hn hsn hts,b)] by simp only[iL,fU,AV.soft]];exact RJ (.mk hk hn hsn hts,b) hdn.1.2 (by have:=hdn.2.1;omega) (fun x hx=>(hdn.2.2 x hx).2) _):aD prog 248 _ _ _).to ?_
    rw[fU]
    simp -implicitDefEqProofs only[aG,hbb.symm,aA,seval,j7]
    rw[←fU]
    exact⟨SC _,hE _ _ _⟩
abbrev A1:=zi tI_3 (zi zI_3 (zi aZ (zi tI_31 (zi zI_31 (zi aO (zi bH (zi bJ (zi bZ (zi tI_66 (zi zI_66 (zi bS (zi bT (zi bU (zi bV (zi bR (zi tI_84 (zi zI_84 (zi kG (zi kH kD)))))))))))))))))))
theorem aXC(k n:Int)(s:ByteArray)(ks ts:List Tm)(h1:(Tm.mk k n s ks).small=true)(h2:ts.length≤1048576)(h3:∀x∈ts,x.small=true)(st:aB):aD prog 248 [bB (.mk k n s ks,ts)] st (fun r st'=>∃b,r=.agg [.int .i64 k,.int .i64 n,.str s,.slice (ks.map Tm.av),bM 4 b (ts.map Tm.av)]∧st'=a8 st b (ts.map Tm.av)∧(ts.map Tm.av≠[]→st b=none)):=by
 have hhd:=fun st=>BS (.mk k n s ks) st h1
 simp only[aY] at hhd
 have IH:=fun(x:Tm) (hx:x∈ts) st=>BS x st (h3 x hx)
 have hlen:ts.length≤1048576:=h2
 refine aD.nB ?_
 simp only[fU]
 refine wF [] 1 func248 ntmps248 rfl rfl ?_
 simp only[d5,AV.fits,d9,aF]
 intro ⟨_,_,_,_,hl,_⟩
 simp -implicitDefEqProofs only[aA,seval,A1]
 intro b2 hb2
 refine(hhd _).to ?_
 simp -implicitDefEqProofs only[aG,aA,seval,A1]
 intro c hc
 have hne:c≠b2:=by rintro rfl;rw[aB.aP] at hc;cases hc
 have hn2:st c=none:=by rw[aB.aJ st _ hne] at hc;exact hc
 have oL:b2≠c:=c9 hne
 refine eH (σ:=Nat) [] [1,2,3] ts (fun i b=>(((ts.take i).map (fun y=>y)).map Tm.av≠[]→(aB.aC (st.aC b2 (.cells [AV.int .i64 0,AV.int .i64 0,AV.str ⟨#[]⟩,AV.fslice [],AV.fslice []])) c (.cells ([AV.int .i64 k,AV.int .i64 n,AV.str s,AV.slice (ks.map Tm.av)]++ [bM 4 b (((ts.take i).map (fun y=>y)).map Tm.av)]))) b=none)) (fun i b=>[(4,.int .i64 i)]) (fun i b=>f9 (st.aC b2 (.cells [AV.int .i64 0,AV.int .i64 0,AV.str ⟨#[]⟩,AV.fslice [],AV.fslice []])) c b [AV.int .i64 k,AV.int .i64 n,AV.str s,AV.slice (ks.map Tm.av)] (((ts.take i).map (fun y=>y)).map Tm.av)) (by decide +kernel)
  ⟨0,fun h=>absurd rfl h,aN.mk (by simp -implicitDefEqProofs only[aA,↓aX,seval])⟩ (fun i x b hx hlt bQ hdr hinv=>?_) (fun b hge hinv=>?_)
 case refine_1=>
  have hw:=bE (n:=(i:Int)+1)
  have dA:(((ts.take i).map (fun y=>y)).map Tm.av).length=i:=by simp only[aF,dQ];omega
  have htk:(ts.take (i+1)).map (fun y=>y)=(ts.take i).map (fun y=>y)++ [(fun y=>y) x]:=by rw[fS,hx];simp
  have hbo:=fA hinv
  simp -implicitDefEqProofs only[aF,bQ,aA,seval,A1]
  refine wP [(0,1),(2,1),(4,1),(1,2),(3,2),(5,1),(6,2),(7,2),(8,1),(9,0),(10,1),(11,0)] [0,2,4,1,3,5,6,7,8,10] mixed ?_
  simp -implicitDefEqProofs only[bO (av:=Tm.av) aO hx (aK x),a7,aK,hbo,mE,iJ,aA,seval,A1]
  refine iE (IH x (cJ hx) _) ?_
  simp -implicitDefEqProofs only[a7,aK,cM,iJ,aA,seval,A1]
  refine fG aO bH bJ rfl rfl (gA (aK _) (cB _)) (eD _) hinv (by simp only[dA,aQ,bA];omega) (by simp only[dA,aQ,bA];omega) (fun b' hb'=>?_)
  rw[show(((ts.take i).map (fun y=>y)).map Tm.av)++ [((fun y=>y) x).av]=((ts.take (i+1)).map (fun y=>y)).map Tm.av by rw[htk];simp] at hb' ⊢
  obtain⟨g1,g2,g3⟩:=pG hb'
  simp only[fQ,eS] at g1 g3
  simp -implicitDefEqProofs only[g3,m9,eP,aG,g1,hw,aG,aA,seval,A1]
  exact⟨b',g2,aN.mk (by simp -implicitDefEqProofs only[aA,seval])⟩
 have hbo:=fA hinv
 rw[eN] at hinv hbo ⊢
 simp -implicitDefEqProofs only[aF,hge,aA,seval,A1]
 simp -implicitDefEqProofs only[hbo,aG,aA,seval,A1]
 have hS:(st.aC b2 (.cells [AV.int .i64 0,AV.int .i64 0,AV.str ⟨#[]⟩,AV.fslice [],AV.fslice []])) b2≠none:=by rw[aB.aP];simp
 have h1:=iA hinv hS oL
 rw[aB.aP] at h1
 simp -implicitDefEqProofs only[h1,eP,aA,seval]
 obtain⟨h2,h3⟩:=lB (o:=.cells [AV.int .i64 k,AV.int .i64 n,AV.str s,AV.slice (ks.map Tm.av),bM 4 b ((ts.map fun y=>y).map Tm.av)]) hinv hS oL
 simp only[fQ,eS] at h2 h3
 rw[h2]
 have D:∀o o' o'',aL (((st.aC b2 o).aC c o').aC b2 o'') st:=fun o o' o''=>(((aL.refl _).aC hb2).aC hn2).aC hb2
 simp only[List.map_id'] at h3 ⊢
 exact⟨_,SN (D _ _ _),b,rfl,rfl,fun h=>(D _ _ _ b).1 (h3 h)⟩
abbrev oR:=zi tI_3 (zi zI_3 (zi aZ (zi tI_9 (zi zI_9 (zi cF (zi tI_31 (zi zI_31 (zi aO (zi bH (zi bJ (zi bZ (zi tI_40 (zi zI_40 (zi qZ (zi xI (zi xK (zi wN (zi tI_66 (zi zI_66 (zi bS (zi bT (zi bU (zi bV (zi bR (zi tI_84 (zi zI_84 (zi kG (zi kH (zi kD (zi tI_116 (zi zI_116 (zi tI_147 (zi zI_147 (zi jO (zi nC (zi nE n8))))))))))))))))))))))))))))))))))))
set_option maxHeartbeats 2000000 in
theorem aXE(bs:List Bt)(c p:Nat)(cl:Cl)(hcl:xF cl)(st:aB)(hp:p+6000≤1099511627776)(hR:dS st c bs p) :
 aD prog 214 [.ptr c 0,bB cl] st (Dr bs c p 6000 st (fun r=>∃cl':Cl,r=bB cl')):=by
 obtain⟨⟨k,n,s,ks⟩,ts⟩:=cl
 obtain⟨d1,d2,d3⟩:=hcl
 simp only at d1 d2 d3
 have hcp:=fun st=>aXC k n s ks ts d1.2 (by omega) (fun x hx=>(d3 x hx).2) st
 simp only[fU] at hcp ⊢
 refine aD.nB (aD.fin ?_)
 refine wF [1000000,5] 2 func214 ntmps214 rfl rfl ?_
 intro _
 simp -implicitDefEqProofs only[aA,seval,oR]
 intro b4 h4
 have h4c:=hR.ne h4
 have hR':=fun o=>hR.aC (o:=o) h4c
 refine(hcp _).mono ?_
 rintro _ _ ⟨b,rfl,rfl,hb⟩
 simp -implicitDefEqProofs only[eP,aG,aA,↓aX,seval,oR]
 intro b5 h5
 obtain⟨hn5,hb5⟩:=D4 h5
 have h54:b5≠b4:=by rintro rfl;rw[aB.aP] at hn5;cases hn5
 have TX:st b5=none:=by rw[aB.aJ _ _ h54] at hn5;exact hn5
 have h5c:b5≠c:=hR.ne TX
 have hW4:∀q,((st.aC b4 (.cells [.int .i64 0,.int .i64 0,.str ⟨#[]⟩,.fslice [],.fslice []])).aC c (cE bs q)) b4=some (.cells [.int .i64 0,.int .i64 0,.str ⟨#[]⟩,.fslice [],.fslice []]):=fun q=>by rw[aB.aJ _ _ h4c,aB.aP]
 have hdr:∀q Z Y,aL ((((st.aC b4 (.cells [.int .i64 0,.int .i64 0,.str ⟨#[]⟩,.fslice [],.fslice []])).aC c (cE bs q)).aC b5 Z).aC b4 Y) (st.aC c (cE bs q)):=fun q Z Y x=>by
  by_cases e4:x=b4<;>by_cases ec:x=c<;>by_cases e5:x=b5<;>simp_all [aB.aC]
 have e0:(a8 (st.aC b4 (.cells [.int .i64 0,.int .i64 0,.str ⟨#[]⟩,.fslice [],.fslice []])) b (ts.map Tm.av)).aC b5 (.cells [.int .i64 k,.int .i64 n,.str s,.slice (ks.map Tm.av),bM 4 b (ts.map Tm.av)])=f9 (st.aC b4 (.cells [.int .i64 0,.int .i64 0,.str ⟨#[]⟩,.fslice [],.fslice []])) b5 b [.int .i64 k,.int .i64 n,.str s,.slice (ks.map Tm.av)] (ts.map Tm.av):=by
  rw[pV hb5];try rfl
 have i0:ts.map Tm.av≠[]→((st.aC b4 (.cells [.int .i64 0,.int .i64 0,.str ⟨#[]⟩,.fslice [],.fslice []])).aC b5 (.cells ([.int .i64 k,.int .i64 n,.str s,.slice (ks.map Tm.av)]++ [bM 4 b (ts.map Tm.av)]))) b=none:=fun h=>by
  rw[aB.aJ _ _ (c9 (hb5 h))];exact hb h
 have hUc:(st.aC b4 (.cells [.int .i64 0,.int .i64 0,.str ⟨#[]⟩,.fslice [],.fslice []])) c≠none:=by rw[hR' _];simp
 rw[e0]
 have hRk:dS (f9 (st.aC b4 (.cells [.int .i64 0,.int .i64 0,.str ⟨#[]⟩,.fslice [],.fslice []])) b5 b [.int .i64 k,.int .i64 n,.str s,.slice (ks.map Tm.av)] (ts.map Tm.av)) c bs p:=by
  unfold dS
  rw[iA i0 hUc h5c.symm]
  exact hR' _
 refine(oG bs c p (by omega) 40 (by omega) (by omega) _ hRk).mono ?_
 rintro _ _ ⟨j,hj,rfl,rfl⟩
 obtain⟨e1,i1⟩:=rI (o:=cE bs (p+1)) i0 hUc h5c.symm
 rw[e1]
 have hWc:∀q,((st.aC b4 (.cells [.int .i64 0,.int .i64 0,.str ⟨#[]⟩,.fslice [],.fslice []])).aC c (cE bs q)) c≠none:=fun q=>by rw[aB.aP];simp
 have hRq:∀q (hd l:List AV),(l≠[]→(((st.aC b4 (.cells [.int .i64 0,.int .i64 0,.str ⟨#[]⟩,.fslice [],.fslice []])).aC c (cE bs q)).aC b5 (.cells (hd++ [bM 4 b l]))) b=none)→dS (f9 ((st.aC b4 (.cells [.int .i64 0,.int .i64 0,.str ⟨#[]⟩,.fslice [],.fslice []])).aC c (cE bs q)) b5 b hd l) c bs q:=fun q hd l hi=>by
  unfold dS
  rw[iA hi (hWc q) h5c.symm,aB.aP]
  try rfl
 clear e0 i0 hRk e1
 simp -implicitDefEqProofs only[aA,seval]
 refine aS (fun h0=>?_) (fun h0=>?_)
 · simp -implicitDefEqProofs only[aA,seval]
   refine(aAI bs c (p+1) _ (by omega) (hRq _ _ _ i1)).mono ?_
   rintro _ _ ⟨p1,q1,q2,rfl,t1,ht1,rfl⟩
   obtain⟨e1,i1⟩:=rI (o:=cE bs p1) i1 (hWc _) h5c.symm
   rw[c7] at e1 i1
   rw[e1]
   simp -implicitDefEqProofs only[aA,seval]
   refine(RE bs c p1 t1 ht1.2 _ (by omega) (hRq _ _ _ i1)).mono ?_
   rintro _ _ ⟨p2,r1,r2,rfl,⟨k',n',s',ks'⟩,rfl⟩
   obtain⟨e1,i1⟩:=rI (o:=cE bs p2) i1 (hWc _) h5c.symm
   rw[c7] at e1 i1
   rw[e1]
   have hbo:=fA i1
   obtain⟨e2,i1⟩:=IU (hd':=[.int .i64 k',.int .i64 n',.str s',.slice (ks'.map Tm.av)]) i1
   simp only[fQ,eS] at e2
   rw[aY]
   simp -implicitDefEqProofs only[aG,hbo,aA,seval,oR]
   rw[e2]
   have hbo:=fA i1
   have h4o:=iA i1 (x:=b4) (by rw[hW4];simp) h54.symm
   rw[hW4] at h4o
   simp -implicitDefEqProofs only[h4o,eP,aA,seval]
   obtain⟨g5,g6⟩:=lB (o:=.cells [.int .i64 (k'),.int .i64 (n'),.str (s'),.slice ((ks').map Tm.av),bM 4 b ((ts).map Tm.av)]) i1 (show((st.aC b4 (.cells [.int .i64 0,.int .i64 0,.str ⟨#[]⟩,.fslice [],.fslice []])).aC c (cE bs (p2))) b4≠none by rw[hW4];simp) h54.symm
   refine⟨b,_,_,g5,g6,jJ _,⟨4,eD _⟩,st.aC c (cE bs (p2)),hdr _ _ _,p2,by omega,by omega,rfl,(.mk (k') (n') (s') (ks'),ts),?_⟩
   simp only[gJ,aW,aU,eT,jP,jB,jE,fU]
 simp -implicitDefEqProofs only[aA,seval]
 refine aS (fun h0=>?_) (fun h0=>?_)
 · have hbo:=fA i1
   simp -implicitDefEqProofs only[aA,seval]
   refine GD [(0,1),(1,1),(2,1),(3,1),(4,0),(5,0),(6,1),(7,0),(8,1),(9,2)] [0,1,2,3,6,8] (fE.aC b5 (.cells [.int .i64 k,.int .i64 n,.str s,.slice (ks.map Tm.av),bM 4 b (ts.map Tm.av)])) mixed (by decide +kernel) (by decide +kernel) (by decide +kernel) rfl (gH hbo) ?_
   simp -implicitDefEqProofs only[mE,aA,seval,oR]
   refine(aAI bs c (p+1) _ (by omega) (hRq _ _ _ i1)).mono ?_
   rintro _ _ ⟨p1,q1,q2,rfl,t1,ht1,rfl⟩
   obtain⟨e1,i1⟩:=rI (o:=cE bs p1) i1 (hWc _) h5c.symm
   rw[c7] at e1 i1
   rw[e1]
   have hbo:=fA i1
   simp -implicitDefEqProofs only[aA,seval]
   refine⟨gH hbo,?_⟩
   refine(RE bs c p1 t1 ht1.2 _ (by omega) (hRq _ _ _ i1)).mono ?_
   rintro _ _ ⟨p2,r1,r2,rfl,t2,rfl⟩
   obtain⟨e1,i1⟩:=rI (o:=cE bs p2) i1 (hWc _) h5c.symm
   rw[c7] at e1 i1
   rw[e1]
   have hbo:=fA i1
   simp -implicitDefEqProofs only[a7,aK,cM,aA,seval,oR]
   refine⟨gH hbo,?_⟩
   refine fG aO bH bJ rfl rfl (gA (aK _) (cB _)) (eD _) i1 (by simp only[aF,aQ,bA];omega) (by simp only[aF,aQ,bA];omega) (fun b' hb'=>?_)
   rw[show ts.map Tm.av++ [t2.av]=(ts++ [t2]).map Tm.av by simp] at hb' ⊢
   obtain⟨g1,g2,g3⟩:=pG hb'
   simp only[fQ,eS] at g1 g3
   simp -implicitDefEqProofs only[aG,eP,m9,aA,seval,oR]
   refine⟨gH g3,?_⟩
   simp -implicitDefEqProofs only[g3,g1,aG,eP,aA,seval,oR]
   have hbo:=fA g2
   have h4o:=iA g2 (x:=b4) (by rw[hW4];simp) h54.symm
   rw[hW4] at h4o
   simp -implicitDefEqProofs only[h4o,aA,seval]
   obtain⟨g5,g6⟩:=lB (o:=.cells [.int .i64 (k),.int .i64 (n),.str (s),.slice ((ks).map Tm.av),bM 4 b' ((ts++ [t2]).map Tm.av)]) g2 (show((st.aC b4 (.cells [.int .i64 0,.int .i64 0,.str ⟨#[]⟩,.fslice [],.fslice []])).aC c (cE bs (p2))) b4≠none by rw[hW4];simp) h54.symm
   refine⟨b',_,_,g5,g6,jJ _,⟨4,eD _⟩,st.aC c (cE bs (p2)),hdr _ _ _,p2,by omega,by omega,rfl,(.mk (k) (n) (s) (ks),ts++ [t2]),?_⟩
   simp only[gJ,aW,aU,eT,jP,jB,jE,fU]
 simp -implicitDefEqProofs only[aA,seval]
 refine aS (fun h0=>?_) (fun h0=>?_)
 · simp -implicitDefEqProofs only[aA,seval]
   refine iN (σ:=Nat×List Tm) [1000000,5] [0,4,5,9] (fun x=>(x.2.map Tm.av≠[]→(aB.aC ((st.aC b4 (.cells [.int .i64 0,.int .i64 0,.str ⟨#[]⟩,.fslice [],.fslice []])).aC c (cE bs (p+1))) b5 (.cells ([.int .i64 k,.int .i64 n,.str s,.slice (ks.map Tm.av)]++ [bM 4 x.1 (x.2.map Tm.av)]))) x.1=none)) (fun _=>[]) (fun x=>f9 ((st.aC b4 (.cells [.int .i64 0,.int .i64 0,.str ⟨#[]⟩,.fslice [],.fslice []])).aC c (cE bs (p+1))) b5 x.1 [.int .i64 k,.int .i64 n,.str s,.slice (ks.map Tm.av)] (x.2.map Tm.av)) (fun x=>7 - x.2.length) (by decide +kernel) ⟨(b,ts),i1,aN.mk (by simp -implicitDefEqProofs only[aA,seval])⟩ ?_
   rintro⟨b,acc⟩ i1
   simp only at i1
   have hbo:=fA i1
   have haL:=vE (w:=4) (b:=b) (l:=acc.map Tm.av) bZ
   simp -implicitDefEqProofs only[hbo,mE,haL,aF,aA,seval,oR]
   refine aS (fun h1=>?_) (fun h1=>?_)
   · simp only[bL] at h1
     have dA:(acc.map Tm.av).length≤6:=by rw[aF];omega
     simp -implicitDefEqProofs only[aA,seval]
     refine GD [(0,1),(1,1),(2,0),(3,1),(4,0),(5,1),(6,2)] [0,1,3,5] (fE.aC b5 (.cells [.int .i64 k,.int .i64 n,.str s,.slice (ks.map Tm.av),bM 4 b (acc.map Tm.av)])) mixed (by decide +kernel) (by decide +kernel) (by decide +kernel) rfl (gH hbo) ?_
     simp -implicitDefEqProofs only[mE,aA,seval,oR]
     refine(tX ⟨#[116,114,117,101]⟩ [] (by simp) _).to ?_
     simp -implicitDefEqProofs only[a7,aK,cM,aA,seval,oR]
     refine⟨gH hbo,?_⟩
     refine fG aO bH bJ rfl rfl (gA (aK _) (cB _)) (eD _) i1 (by simp only[aQ,bA];omega) (by simp only[aQ,bA];omega) (fun b' hb'=>?_)
     rw[show acc.map Tm.av++ [(Tm.mk 3 0 ⟨#[116,114,117,101]⟩ []).av]=(acc++ [Tm.mk 3 0 ⟨#[116,114,117,101]⟩ []]).map Tm.av by simp] at hb' ⊢
     obtain⟨g1,g2,g3⟩:=pG hb'
     simp only[fQ,eS] at g1 g3
     simp -implicitDefEqProofs only[aG,eP,m9,aA,seval,oR]
     refine⟨gH g3,?_⟩
     simp -implicitDefEqProofs only[g3,g1,aA,seval]
     refine⟨(b',acc++ [Tm.mk 3 0 ⟨#[116,114,117,101]⟩ []]),by simp only[dL,aQ,bA];omega,g2,aN.mk (by simp -implicitDefEqProofs only[aA,seval])⟩
   · simp -implicitDefEqProofs only[aG,hbo,eP,aA,seval,oR]
     have hbo:=fA i1
     have h4o:=iA i1 (x:=b4) (by rw[hW4];simp) h54.symm
     rw[hW4] at h4o
     simp -implicitDefEqProofs only[h4o,aA,seval]
     obtain⟨g5,g6⟩:=lB (o:=.cells [.int .i64 (k),.int .i64 (n),.str (s),.slice ((ks).map Tm.av),bM 4 b ((acc).map Tm.av)]) i1 (show((st.aC b4 (.cells [.int .i64 0,.int .i64 0,.str ⟨#[]⟩,.fslice [],.fslice []])).aC c (cE bs (p+1))) b4≠none by rw[hW4];simp) h54.symm
     refine⟨b,_,_,g5,g6,jJ _,⟨4,eD _⟩,st.aC c (cE bs (p+1)),hdr _ _ _,p+1,by omega,by omega,rfl,(.mk (k) (n) (s) (ks),acc),?_⟩
     simp only[gJ,aW,aU,eT,jP,jB,jE,fU]
 simp -implicitDefEqProofs only[aA,seval]
 refine aS (fun h0=>?_) (fun h0=>?_)
 · simp -implicitDefEqProofs only[aA,seval,oR]
   refine(HI [⟨#[116,114,117,101]⟩,⟨#[105,115]⟩,⟨#[61]⟩,⟨#[109,111,100]⟩,⟨#[113]⟩] (by simp) (by simp) bs c (p+1) (by omega) _ (hRq _ _ _ i1)).mono ?_
   rintro _ _ ⟨y,_,rfl,rfl⟩
   obtain⟨e1,i1⟩:=rI (o:=cE bs (p+1+1)) i1 (hWc _) h5c.symm
   rw[c7] at e1 i1
   rw[e1]
   have hbo:=fA i1
   obtain⟨e2,i1⟩:=IU (hd':=[.int .i64 k,.int .i64 n,.str y,.slice (ks.map Tm.av)]) i1
   simp only[fQ,eS] at e2
   simp -implicitDefEqProofs only[aG,hbo,aA,seval,oR]
   rw[e2]
   have hbo:=fA i1
   have h4o:=iA i1 (x:=b4) (by rw[hW4];simp) h54.symm
   rw[hW4] at h4o
   simp -implicitDefEqProofs only[h4o,eP,aA,seval]
   obtain⟨g5,g6⟩:=lB (o:=.cells [.int .i64 (k),.int .i64 (n),.str (y),.slice ((ks).map Tm.av),bM 4 b ((ts).map Tm.av)]) i1 (show((st.aC b4 (.cells [.int .i64 0,.int .i64 0,.str ⟨#[]⟩,.fslice [],.fslice []])).aC c (cE bs (p+1+1))) b4≠none by rw[hW4];simp) h54.symm
   refine⟨b,_,_,g5,g6,jJ _,⟨4,eD _⟩,st.aC c (cE bs (p+1+1)),hdr _ _ _,p+1+1,by omega,by omega,rfl,(.mk (k) (n) (y) (ks),ts),?_⟩
   simp only[gJ,aW,aU,eT,jP,jB,jE,fU]
 · simp -implicitDefEqProofs only[aA,seval,oR]
   have hbo:=fA i1
   have h4o:=iA i1 (x:=b4) (by rw[hW4];simp) h54.symm
   rw[hW4] at h4o
   simp -implicitDefEqProofs only[aG,hbo,h4o,eP,aA,seval,oR]
   obtain⟨g5,g6⟩:=lB (o:=.cells [.int .i64 (k),.int .i64 (n),.str (s),.slice ((ks).map Tm.av),bM 4 b ((ts).map Tm.av)]) i1 (show((st.aC b4 (.cells [.int .i64 0,.int .i64 0,.str ⟨#[]⟩,.fslice [],.fslice []])).aC c (cE bs (p+1))) b4≠none by rw[hW4];simp) h54.symm
   refine⟨b,_,_,g5,g6,jJ _,⟨4,eD _⟩,st.aC c (cE bs (p+1)),hdr _ _ _,p+1,by omega,by omega,rfl,(.mk (k) (n) (s) (ks),ts),?_⟩
   simp only[gJ,aW,aU,eT,jP,jB,jE,fU]
end Go.AW
namespace Go.AW
def PH:List ByteArray:=[⟨#[97,112,112,40,91,93,44,65,44,65,41,46,10,97,112,112,40,91,65,124,66,93,44,67,44,91,65,124,68,93,41,58,45,97,112,112,40,66,44,67,44,68,41,46,10]⟩,
 ⟨#[109,101,109,40,65,44,91,65,124,66,93,41,46,10,109,101,109,40,65,44,91,66,124,67,93,41,58,45,109,101,109,40,65,44,67,41,46,10]⟩,
 ⟨#[112,40,49,41,46,10,112,40,50,41,46,10,112,40,51,41,46,10,113,40,65,41,58,45,112,40,65,41,44,65,62,49,44,33,46,10,114,40,65,44,66,41,58,45,112,40,65,41,44,112,40,66,41,46,10]⟩,
 ⟨#[108,101,110,40,91,93,44,48,41,46,10,108,101,110,40,91,65,124,66,93,44,67,41,58,45,108,101,110,40,66,44,68,41,44,67,32,105,115,32,68,43,49,46,10]⟩,
 ⟨#[109,97,120,40,65,44,66,44,65,41,58,45,65,62,61,66,44,33,46,10,109,97,120,40,65,44,66,44,66,41,46,10]⟩,
 ⟨#[101,40,97,44,98,41,46,10,101,40,98,44,99,41,46,10,101,40,99,44,100,41,46,10,116,40,65,44,66,41,58,45,101,40,65,44,66,41,46,10,116,40,65,44,66,41,58,45,101,40,65,44,67,41,44,116,40,67,44,66,41,46,10]⟩,
 ⟨#[108,111,111,112,58,45,108,111,111,112,46,10,111,107,46,10]⟩,
 ⟨#[102,97,99,40,48,44,49,41,58,45,33,46,10,102,97,99,40,65,44,66,41,58,45,65,62,48,44,67,32,105,115,32,65,45,49,44,102,97,99,40,67,44,68,41,44,66,32,105,115,32,65,42,68,46,10]⟩,
 ⟨#[115,40,65,41,58,45,65,61,102,40,66,41,44,97,114,103,40,49,44,65,44,66,41,44,66,61,49,46,10,115,40,65,41,58,45,118,97,114,40,65,41,44,65,61,110,111,110,101,46,10]⟩,
 ⟨#[114,101,118,40,91,93,44,65,44,65,41,46,10,114,101,118,40,91,65,124,66,93,44,67,44,68,41,58,45,114,101,118,40,66,44,91,65,124,67,93,44,68,41,46,10]⟩,
 ⟨#[98,97,100,40,65,41,58,45,66,32,105,115,32,65,43,102,111,111,44,67,61,66,46,10,98,105,103,40,65,41,58,45,65,32,105,115,32,57,57,57,43,49,46,10,117,110,40,65,41,58,45,110,111,115,117,99,104,40,65,41,46,10]⟩]
def XF:List ByteArray:=[⟨#[97,112,112,40,65,44,66,44,91,49,44,50,93,41]⟩,
 ⟨#[97,112,112,40,91,49,93,44,91,50,93,44,65,41]⟩,
 ⟨#[109,101,109,40,65,44,91,97,44,98,44,99,93,41]⟩,
 ⟨#[113,40,65,41]⟩,
 ⟨#[114,40,65,44,66,41,44,65,62,66]⟩,
 ⟨#[108,101,110,40,91,97,44,98,44,99,93,44,65,41]⟩,
 ⟨#[109,97,120,40,51,44,50,44,65,41]⟩,
 ⟨#[109,97,120,40,65,44,50,44,51,41]⟩,
 ⟨#[116,40,97,44,65,41]⟩,
 ⟨#[108,111,111,112]⟩,
 ⟨#[111,107,44,33]⟩,
 ⟨#[102,97,99,40,52,44,65,41]⟩,
 ⟨#[115,40,65,41]⟩,
 ⟨#[114,101,118,40,91,49,44,50,44,51,93,44,91,93,44,65,41]⟩,
 ⟨#[98,97,100,40,65,41]⟩,
 ⟨#[98,105,103,40,65,41]⟩,
 ⟨#[117,110,40,65,41]⟩,
 ⟨#[112,40,65,41,44,33,44,112,40,66,41]⟩,
 ⟨#[65,61,102,40,66,44,67,41,44,97,114,103,40,49,44,65,44,68,41]⟩,
 ⟨#[109,101,109,40,65,44,91,49,44,50,93,41,44,109,101,109,40,66,44,91,65,44,51,93,41]⟩,
 ⟨#[65,32,105,115,32,51,47,47,48]⟩,
 ⟨#[116,114,117,101]⟩,
 ⟨#[109,101,109,40,65,44,66,41]⟩,
 ⟨#[112,40,65,41,44,65,92,61,50]⟩]
def F8:List (List ByteArray):=[[⟨#[97,112,112,40,65,44,66,44,91,49,44,50,93,41]⟩,⟨#[97,112,112,40,91,49,93,44,91,50,124,65,93,44,66,41]⟩,⟨#[97,112,112,40,65,44,91,49,93,44,65,41]⟩],
 [⟨#[109,101,109,40,65,44,91,97,44,98,44,99,93,41]⟩,⟨#[109,101,109,40,65,44,91,49,44,50,93,41,44,109,101,109,40,66,44,91,65,44,51,93,41]⟩,⟨#[109,101,109,40,65,44,66,41]⟩],
 [⟨#[113,40,65,41]⟩,⟨#[114,40,65,44,66,41,44,65,62,66]⟩,⟨#[112,40,65,41,44,33,44,112,40,66,41]⟩,⟨#[114,40,65,44,65,41]⟩],
 [⟨#[108,101,110,40,91,97,44,98,44,99,93,44,65,41]⟩,⟨#[108,101,110,40,65,44,50,41]⟩],
 [⟨#[109,97,120,40,51,44,50,44,65,41]⟩,⟨#[109,97,120,40,65,44,50,44,51,41]⟩,⟨#[109,97,120,40,49,44,50,44,65,41]⟩],
 [⟨#[116,40,97,44,65,41]⟩,⟨#[116,40,65,44,100,41]⟩,⟨#[101,40,65,44,66,41]⟩],
 [⟨#[108,111,111,112]⟩,⟨#[111,107,44,33]⟩,⟨#[111,107,44,108,111,111,112]⟩],
 [⟨#[102,97,99,40,52,44,65,41]⟩,⟨#[102,97,99,40,48,44,65,41]⟩,⟨#[102,97,99,40,55,44,65,41]⟩],
 [⟨#[115,40,65,41]⟩,⟨#[115,40,66,41,44,66,61,102,40,49,41]⟩],
 [⟨#[114,101,118,40,91,49,44,50,44,51,93,44,91,93,44,65,41]⟩,⟨#[114,101,118,40,65,44,91,93,44,91,49,93,41]⟩],
 [⟨#[98,97,100,40,65,41]⟩,⟨#[98,105,103,40,65,41]⟩,⟨#[117,110,40,65,41]⟩]]
def VA(s:ByteArray):Bool:=decide (s.size≤200)&&match CU (sb s) with | some l=>decide (2≤l.length)&&decide (l.length≤20) | none=>false
theorem a8Q:PH.all VA=true:=by decide +kernel
theorem a8O:F8.all (fun l=>decide (1≤l.length)&&l.all (fun s=>decide (s.size≤1000)))=true:=by decide +kernel
theorem a8P(y:List ByteArray)(h:y∈F8):y.length≤4:=by
 have h2:(F8.all fun l=>decide (l.length≤4))=true:=by decide +kernel
 simpa using eW.1 h2 y h
end Go.AW
namespace Go.AW
open Go.Proofs.Tryz
def mP(p:List UInt8):AV:=.str (ba p)
theorem aPX(l:List (List UInt8)):∀e∈l.map mP,e.width=1:=by intro e h;simp only[cU] at h;obtain⟨t,_,rfl⟩:=h;rfl
theorem a5J(l:List (List UInt8)):∀e∈l.map mP,e.cH=false:=by intro e h;simp only[cU] at h;obtain⟨t,_,rfl⟩:=h;rfl
abbrev JZ:=zi tI_3 (zi zI_3 (zi aZ (zi tI_5 (zi zI_5 (zi lO (zi tI_9 (zi zI_9 (zi cF (zi tI_147 (zi zI_147 (zi jO (zi nC (zi nE n8)))))))))))))
set_option maxHeartbeats 1000000 in
theorem aWK(s:ByteArray)(c:Nat)(hs:s.size≤1048576)(st:aB):aD prog 265 [.str s,.int .u8 (c:Int)] st (fun r st'=>r=.slice ((oJ c (sb s) []).map mP)∧st'=st):=by
 generalize hT:oJ c (sb s) []=T
 refine aD.sF (aD.fin ?_)
 refine wF [1000000] 2 func265 ntmps265 rfl rfl ?_
 intro _
 simp -implicitDefEqProofs only[aA,seval,JZ]
 refine iN (σ:=List (List UInt8)×Nat×Nat×Nat) [1000000] [0,1,4] (fun x=>((x.2.2.1≤s.size∧x.2.1≤x.2.2.1∧x.1++oJ c ((sb s).drop x.2.2.1) (((sb s).drop x.2.1).take (x.2.2.1 - x.2.1))=T)∨(x.2.2.1=s.size+1∧x.2.1≤s.size+1∧x.1=T))∧x.1.length≤x.2.2.1∧(x.1.map mP≠[]→st x.2.2.2=none)) (fun x=>[(5,bM 1 x.2.2.2 (x.1.map mP)),(6,.int .i64 (x.2.1:Int)),(7,.int .i64 (x.2.2.1:Int))]) (fun x=>a8 st x.2.2.2 (x.1.map mP)) (fun x=>s.size+1 - x.2.2.1) (by decide +kernel) ⟨([],0,0,0),⟨Or.inl ⟨kA _,dB _,hT⟩,kA _,by simp⟩,aN.mk (by simp -implicitDefEqProofs only[aU,kB,aA,↓aX,seval])⟩ ?_
 rintro⟨out,f,i,b⟩ ⟨ht,hlen,hb⟩
 simp only at ht hlen hb ⊢
 by_cases hi:i≤s.size
 case neg=>
  obtain⟨h1,h2,rfl⟩:i=s.size+1∧f≤s.size+1∧out=T:=by
   rcases ht with h | h
   · exact absurd h.1 hi
   · exact h
  have hi':((i:Int)≤(s.size:Int))=False:=cO (by omega)
  simp -implicitDefEqProofs only[hi',b9,aA,seval,JZ]
  exact⟨b,_,st,rfl,hb,a5J _,⟨1,aPX _⟩,by rw[jE],aL.refl _⟩
 obtain⟨-,hfi,ht⟩:i≤s.size∧f≤i∧out++oJ c ((sb s).drop i) (((sb s).drop f).take (i - f))=T:=by
  rcases ht with h | h
  · exact h
  · omega
 have hi':((i:Int)≤(s.size:Int))=True:=dF (by omega)
 have hw:=bE (n:=(i:Int)+1)
 have hsl:=fun(φ:AF) (y z:Operand) (h:φ.eval y=.int .i64 (f:Int)) (h':φ.eval z=.int .i64 (i:Int))=>JM (s:=s) h h' hfi hi
 rw[HC] at hsl
 generalize hp:((sb s).drop f).take (i - f)=p at *
 have M3:∀(K:AV→aB→Prop),(∀b',((out++ [p]).map mP≠[]→st b'=none)→K (bM 1 b' ((out++ [p]).map mP)) (a8 st b' ((out++ [p]).map mP)))→kY prog 147 (a8 st b (out.map mP)) (bM 1 b (out.map mP)) (.fslice [.str (ba p)]) K:=by
  intro K hK
  refine fG jO nC nE rfl rfl (gA rfl rfl) (aPX _) hb (by simp only[aF,aQ,bA];omega) (by simp only[aF,aQ,bA];omega) (fun b' hb'=>?_)
  rw[show out.map mP++ [AV.str (ba p)]=(out++ [p]).map mP by simp [mP]] at hb' ⊢
  exact hK b' hb'
 by_cases hie:i=s.size
 case pos=>
  have NA:((i:Int)=(s.size:Int))=True:=dF (by omega)
  rw[BC (by rw[cQ];omega)] at ht
  simp only[oJ] at ht
  simp -implicitDefEqProofs only[hi',NA,hsl,bX,aA,seval,JZ]
  refine M3 _ fun b' hb'=>?_
  simp -implicitDefEqProofs only[hw,aA,seval]
  refine⟨(out++ [p],i+1,i+1,b'),by simp only;omega,⟨Or.inr ⟨by simp only;omega,by simp only;omega,ht⟩,by simp only[dL,aQ,bA];omega,hb'⟩,aN.mk (by simp -implicitDefEqProofs only[aA,seval]<;>exact⟨rfl,rfl⟩)⟩
 have NA:((i:Int)=(s.size:Int))=False:=cO (by omega)
 obtain⟨x,hx⟩:=xC (s:=s) (n:=i) (by omega)
 have hix:=uK (P:=prog) (t:=9) cF hx
 obtain⟨hx1,hx2⟩:=fR.1 hx
 rw[pQ hx1,hx2] at ht
 unfold oJ at ht
 by_cases hxc:x.toNat=c
 · rw[aH hxc] at ht
   have UH:((x.toNat:Int)=(c:Int))=True:=dF (by omega)
   simp -implicitDefEqProofs only[hi',NA,hsl,hix,UH,bX,b9,aA,seval,JZ]
   refine M3 _ fun b' hb'=>?_
   simp -implicitDefEqProofs only[hw,aA,seval]
   refine⟨(out++ [p],i+1,i+1,b'),by simp only;omega,⟨Or.inl ⟨by simp only;omega,dB _,by rw[←ht];simp⟩,by simp only[dL,aQ,bA];omega,hb'⟩,aN.mk (by simp -implicitDefEqProofs only[aA,seval]<;>exact⟨rfl,rfl⟩)⟩
 · rw[aE hxc] at ht
   have UH:((x.toNat:Int)=(c:Int))=False:=cO (by omega)
   have hp':((sb s).drop f).take (i+1 - f)=p++ [x]:=by
    rw[show i+1 - f=(i - f)+1 by omega,fS,hp,P1,show f+(i - f)=i by omega,hx];try rfl
   simp -implicitDefEqProofs only[hi',NA,hw,hix,UH,bX,b9,aA,seval,JZ]
   refine⟨(out,f,i+1,b),by simp only;omega,⟨Or.inl ⟨by simp only;omega,by simp only;omega,by simp only;rw[hp'];exact ht⟩,by simp only;omega,hb⟩,aN.mk (by simp -implicitDefEqProofs only[aA,seval]<;>rfl)⟩
def GU(o:Option (List Cl))(r:AV):Prop:=match o with | some l=>r=.tup [.slice (l.map bB),.bool true] | none=>r=.tup [.slice [],.bool false]
theorem aBO:∀(ls:List (List UInt8)) (acc r:List Cl),(∀c∈acc,xF c∧mG c=true)→CL ls acc=some r→(∀c∈r,xF c∧mG c=true)∧r.length=acc.length+ls.length
 | [],acc,r,h,h1=>by cases h1;exact⟨h,rfl⟩
 | l::ls,acc,r,h,h1=>by
  unfold CL at h1
  split at h1
  · cases h1
  rename_i c h2
  have:=aBO ls (acc++ [c]) r (by intro x hx;rw[fF,GM] at hx;rcases hx with hx | rfl;exact h x hx;exact aPW h2) h1
  refine⟨this.1,?_⟩
  rw[this.2]
  simp only[dL,aQ,bA]
  omega
abbrev AZ:=zi tI_3 (zi zI_3 (zi aZ (zi tI_4 (zi zI_4 (zi cG (zi tI_5 (zi zI_5 (zi lO (zi tI_8 (zi zI_8 (zi zP (zi zQ (zi zR (zi zS (zi yZ (zi tI_9 (zi zI_9 (zi cF (zi tI_10 (zi zI_10 (zi a8S (zi tI_29 (zi zI_29 (zi fN (zi iT (zi iU (zi jK (zi tI_84 (zi zI_84 (zi kG (zi kH (zi kD (zi tI_147 (zi zI_147 (zi jO (zi nC (zi nE n8)))))))))))))))))))))))))))))))))))))
set_option maxHeartbeats 1000000 in
theorem aVS(s:ByteArray)(hs:s.size≤100000)(st:aB):aD prog 205 [.str s] st (fun r st'=>GU (CU (sb s)) r∧st'=st):=by
 generalize hP:CU (sb s)=T
 unfold CU at hP
 simp only at hP
 have uG:=fun st=>aWK s 10 (by omega) st
 rw[show((10:Nat):Int)=10 from rfl] at uG
 have hne:=aB1 10 (sb s) []
 have hcl:=SF 10 (sb s) []
 rw[cQ] at hcl
 generalize oJ 10 (sb s) []=L at *
 obtain⟨m,hm⟩:∃m,L.length=m+1:=⟨L.length - 1,by have:=List.length_pos_iff.2 hne;omega⟩
 obtain⟨y,hy⟩:∃y,L[m]?=some y:=⟨_,dZ (by omega)⟩
 have hgl:L.getLast?=some y:=by rw[XX,hm];exact hy
 rw[hgl] at hP
 refine aD.drop (Q:=GU T) (aD.fin ?_)
 have vZ:T=none→∀(b:Nat) (l:List Cl) (s0:aB),(l.map bB≠[]→s0 b=none)→aL s0 st→∃b2 l2 s1,a8 s0 b (l.map bB)=a8 s1 b2 l2∧(l2≠[]→s1 b2=none)∧(∀e∈l2,e.cH=false)∧iR l2∧aL s1 st∧GU T ((AV.tup [.fslice [],.bool false]).fin b2 l2):=by
  rintro rfl b l s0 hb hD
  exact⟨b,_,s0,rfl,hb,L5 _,⟨5,BU _⟩,hD,by simp only[GU,kS,q7,o7,aW,aU]⟩
 refine wF [1000000] 1 func205 ntmps205 rfl rfl ?_
 intro _
 simp -implicitDefEqProofs only[aA,seval,AZ]
 refine(uG _).to ?_
 have hat:=bO (av:=mP) jO hy rfl
 have hw0:=oS (x:=(L.length:Int) - 1) (m:=m) (by omega) (by omega)
 by_cases h21:21<L.length
 case pos=>
  rw[aH (Or.inl h21)] at hP
  have MX:((21:Int)<(L.length:Int))=True:=dF (by omega)
  simp -implicitDefEqProofs only[aF,MX,bX,aA,seval,AZ]
  exact vZ hP.symm 0 [] st (by simp) (aL.refl _)
 have MX:((21:Int)<(L.length:Int))=False:=cO (by omega)
 by_cases hye:y= []
 case neg=>
  rw[aH (Or.inr (by simpa using hye))] at hP
  have UI:(ba y=⟨#[]⟩)=False:=cO fun h=>hye (by have:=jG sb h;exact this)
  simp -implicitDefEqProofs only[aF,MX,hw0,hat,mP,UI,b9,aA,seval,AZ]
  exact vZ hP.symm 0 [] st (by simp) (aL.refl _)
 rw[aE (by rintro(h | h);exact h21 h;exact h (by rw[hye]))] at hP
 have UI:(ba y=⟨#[]⟩)=True:=dF (by rw[hye])
 simp -implicitDefEqProofs only[aF,MX,hw0,hat,mP,UI,bX,b9,aA,seval,AZ]
 refine iN (σ:=Nat×List Cl×Nat) [1000000] [5] (fun x=>x.1≤m∧CL (L.dropLast.drop x.1) x.2.1=T∧x.2.1.length=x.1∧(∀c∈x.2.1,xF c)∧(x.2.1.map bB≠[]→st x.2.2=none)) (fun x=>[(2,.fslice []),(3,.bool false),(4,bM 5 x.2.2 (x.2.1.map bB)),(6,.int .i64 (x.1:Int))]) (fun x=>a8 st x.2.2 (x.2.1.map bB)) (fun x=>m - x.1) (by decide +kernel) ⟨(0,[],0),⟨kA _,hP,rfl,by simp,by simp⟩,aN.mk (by simp -implicitDefEqProofs only[aU,kB,aA,↓aX,seval])⟩ ?_
 rintro⟨i,acc,b⟩ ⟨hi,ht,hlen,hdn,hb⟩
 simp only at hi ht hlen hdn hb ⊢
 have hdl:L.dropLast.length=m:=by rw[List.length_dropLast,hm];try rfl
 have hw1:=bE (n:=(i:Int)+1)
 by_cases him:i<m
 case neg=>
  have TR:((i:Int)+1<(L.length:Int))=False:=cO (by omega)
  rw[BC (by omega)] at ht
  simp only[CL] at ht
  simp -implicitDefEqProofs only[aF,TR,hw1,vD,oU,rQ,b9,aA,seval,AZ]
  exact⟨b,_,st,rfl,hb,L5 _,⟨5,BU _⟩,aL.refl _,by rw[←ht];simp only[GU,kS,q7,mI,aW,aU]⟩
 have TR:((i:Int)+1<(L.length:Int))=True:=dF (by omega)
 obtain⟨z,hz⟩:∃z,L[i]?=some z:=⟨_,dZ (by omega)⟩
 have hz2:L.dropLast[i]?=some z:=by rw[List.getElem?_dropLast,aH (by omega)];exact hz
 obtain⟨hz3,hz4⟩:=fR.1 hz2
 rw[pQ hz3,hz4] at ht
 unfold CL at ht
 have a1A:=bO (av:=mP) jO hz rfl
 have hpc:=aVR (ba z)
 rw[show sb (ba z)=z from rfl] at hpc
 simp -implicitDefEqProofs only[aF,TR,hw1,a1A,mP,bX,aA,seval,AZ]
 refine(hpc _).to ?_
 cases hc:pK z with
 | none=>
  rw[hc] at ht
  simp -implicitDefEqProofs only[BA,fU,aA,↓aX,seval,AZ]
  exact vZ ht.symm b acc st hb (aL.refl _)
 | some c=>
  rw[hc] at ht
  simp only at ht
  have hcd:=(aPW hc).1
  have hca:=vM c
  have hcw:=i8 c
  have hcj:=L4 c
  have hcs:=R9 c
  have hcc:=aBN c
  simp -implicitDefEqProofs only[BA,hca,hcw,hcj,hcs,aA,↓aX,seval,AZ]
  refine fG fN iT iU rfl rfl (gA hcw hcs) (BU _) hb (by simp only[aF,aQ,bA];omega) (by simp only[aF,aQ,bA];omega) (fun b' hb'=>?_)
  rw[show acc.map bB++ [bB c]=(acc++ [c]).map bB by simp] at hb' ⊢
  simp -implicitDefEqProofs only[hw1,aA,seval]
  refine⟨(i+1,acc++ [c],b'),by simp only;omega,⟨by simp only;omega,ht,by simp only[dL,aQ,bA];omega,?_,hb'⟩,aN.mk (by simp -implicitDefEqProofs only[aA,seval]<;>rfl)⟩
  intro x hx
  rw[fF,GM] at hx
  rcases hx with hx | rfl
  · exact hdn x hx
  · exact hcd
def GV(o:Option (List Tm)):AV:=match o with | some l=>.tup [.slice (l.map Tm.av),.bool true] | none=>.tup [.slice [],.bool false]
theorem a5I{l:List UInt8}{q:List Tm}(h:nT l=some q):nH q=true∧∀t∈q,Dn t:=by
 unfold nT at h
 split at h
 · cases h
 rename_i g e h1
 split at h
 · rename_i h2
   cases h
   exact⟨h2.2.2,(MV h2.1 7 0 [] _ _ (kA _) (by simp) h1).2.2.1⟩
 · cases h
abbrev wK:=zi tI_3 (zi zI_3 (zi aZ (zi tI_4 (zi zI_4 (zi cG (zi tI_9 (zi zI_9 (zi cF (zi tI_31 (zi zI_31 (zi aO (zi bH (zi bJ (zi bZ (zi tI_66 (zi zI_66 (zi bS (zi bT (zi bU (zi bV bR))))))))))))))))))))
set_option maxHeartbeats 1000000 in
theorem ZX(s:ByteArray)(st:aB):aD prog 207 [.str s] st (fun r st'=>r=GV (nT (sb s))∧st'=st):=by
 refine aD.sF (aD.fin ?_)
 have vZ:nT (sb s)=none→∃b l s0,st=a8 s0 b l∧(l≠[]→s0 b=none)∧(∀e∈l,e.cH=false)∧iR l∧(AV.tup [.fslice [],.bool false]).fin b l=GV (nT (sb s))∧aL s0 st:=fun h=>by
  rw[h]
  exact⟨0,[],st,rfl,by simp,by simp,⟨4,by simp⟩,by simp only[GV,kS,q7,o7,aW,aU],aL.refl _⟩
 refine wF [1000000] 1 func207 ntmps207 rfl rfl ?_
 intro _
 by_cases hs:s.size≤1000
 case neg=>
  have hs':((1000:Int)<(s.size:Int))=True:=dF (by omega)
  have hP:nT (sb s)=none:=by
   unfold nT
   split
   · rfl
   · rw[aE fun h=>hs (by rw[←cQ];exact h.1)]
  simp -implicitDefEqProofs only[hs',bX,aA,seval,wK]
  exact vZ hP
 have hs':((1000:Int)<(s.size:Int))=False:=cO (by omega)
 have h0:=fun st=>aAP hs 0 (kA _) st
 rw[show((0:Nat):Int)=0 from rfl] at h0
 simp -implicitDefEqProofs only[hs',b9,aA,seval,wK]
 refine(h0 _).mono ?_
 rintro r st ⟨hr,rfl⟩
 cases hG:uC (sb s) 7 0 [] with
 | none=>
  have hP:nT (sb s)=none:=by unfold nT;rw[hG]
  rw[hG] at hr
  simp only[tH] at hr
  subst hr
  have he:((-1:Int)=(s.size:Int))=False:=cO (by omega)
  simp -implicitDefEqProofs only[he,b9,aA,seval,wK]
  exact vZ hP
 | some p=>
  obtain⟨g,e⟩:=p
  rw[hG] at hr
  simp only[tH] at hr
  subst hr
  have hg:=MV (by rw[cQ];exact hs) 7 0 [] _ _ (kA _) (by simp) hG
  rw[cQ] at hg
  simp -implicitDefEqProofs only[aA,seval,wK]
  by_cases he:e=s.size
  case neg=>
   have hP:nT (sb s)=none:=by
    unfold nT
    rw[hG]
    simp only
    rw[aE fun h=>he (by rw[←cQ];exact h.2.1)]
   have he':((e:Int)=(s.size:Int))=False:=cO (by omega)
   simp -implicitDefEqProofs only[he',b9,aA,seval,wK]
   exact vZ hP
  have he':((e:Int)=(s.size:Int))=True:=dF (by omega)
  simp -implicitDefEqProofs only[he',bX,aA,seval]
  refine(aA5 g _).to ?_
  cases hq:nH g with
  | false=>
   have hP:nT (sb s)=none:=by
    unfold nT
    rw[hG]
    simp only
    rw[aE fun h=>by rw[hq] at h;exact absurd h.2.2 (by decide)]
   simp -implicitDefEqProofs only[aA,seval,wK]
   exact vZ hP
  | true=>
   have hP:nT (sb s)=some g:=by
    unfold nT
    rw[hG]
    simp only
    rw[aH ⟨by rw[cQ];exact hs,by rw[cQ];exact he,hq⟩]
   have hg6:g.length≤6:=by
    simp only[nH,cK,bL] at hq
    exact hq.1
   simp -implicitDefEqProofs only[aA,seval,wK]
   refine eH (σ:=Nat) [1000000] [2,3,4] g (fun i b=>((g.take i).map Tm.av≠[]→st b=none)) (fun i b=>[(6,bM 4 b ((g.take i).map Tm.av)),(7,.int .i64 i)]) (fun i b=>a8 st b ((g.take i).map Tm.av)) (by decide +kernel) ⟨0,fun h=>absurd rfl h,aN.mk (by simp -implicitDefEqProofs only[kB,aA,↓aX,seval])⟩ (fun i x b hx hlt bQ hdr hinv=>?_) (fun b hge hinv=>?_)
   case refine_1=>
    have hw:=bE (n:=(i:Int)+1)
    have dA:((g.take i).map Tm.av).length=i:=by simp only[aF,dQ];omega
    have htk:(g.take i).map Tm.av++ [x.av]=(g.take (i+1)).map Tm.av:=by rw[fS,hx];simp
    have hat:=bO (av:=Tm.av) aO hx (aK x)
    simp -implicitDefEqProofs only[bQ,aF,hat,a7,aK,aA,seval,wK]
    refine(BS x _ (hg.2.2.1 x (cJ hx)).2).to ?_
    simp -implicitDefEqProofs only[a7,aK,cM,aA,seval,wK]
    refine fG aO bH bJ rfl rfl (gA (aK _) (cB _)) (eD _) hinv (by simp only[dA,aQ,bA];omega) (by simp only[dA,aQ,bA];omega) (fun b' hb'=>?_)
    rw[htk] at hb' ⊢
    simp -implicitDefEqProofs only[hw,aA,seval]
    exact⟨b',hb',aN.mk (by simp -implicitDefEqProofs only[aA,seval])⟩
   rw[eN] at hinv ⊢
   simp -implicitDefEqProofs only[aF,hge,vD,oU,rQ,aA,seval,wK]
   rw[hP]
   exact⟨b,_,st,rfl,hinv,jJ _,⟨4,eD _⟩,by simp only[GV,kS,q7,mI,aW,aU],aL.refl _⟩
end Go.AW
