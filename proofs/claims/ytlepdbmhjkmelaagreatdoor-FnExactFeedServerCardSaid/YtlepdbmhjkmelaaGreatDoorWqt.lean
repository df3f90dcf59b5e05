import Derived.Test.YtlepdbmhjkmelaaGreatDoorWqs
import Derived.Test.YtlepdbmhjkmelaaGreatDoorWqg
import Derived.ProofKit
import Derived.Test.YtlepdbmhjkmelaaGreatDoorWqi
import Derived.Test.YtlepdbmhjkmelaaGreatDoorWqj
import Derived.Test.YtlepdbmhjkmelaaGreatDoorWql
set_option linter.unusedSimpArgs false
set_option linter.unusedVariables false
set_option maxRecDepth 100000
namespace Go.AW
open Go.Proofs.Tryz
abbrev pG:=zi aX (zi cB (zi U8 (zi iQ tA)))
set_option maxHeartbeats 1000000 in
theorem aTQ(s:Sv)(k:Int)(x:List Bt)(st:aA):aD prog 3 [fJ s,.int .i64 k,cE x] st (fun r _=>r=.bool true):=by
 refine wF [1000000] 3 func3 ntmps3 rfl rfl ?_
 simp only[cV,AV.fits,dE,aE]
 intro _
 simp only[TV,aE,aB,seval,pG]
 refine aQ (fun h0=>?_) (fun h0=>?_)
 · simp only[aB,seval]
 simp only[cL] at h0
 have hx:x.length≤1048576:=by omega
 simp only[vS,vR,aB,seval,pG]
 refine(aWS s _ st (by omega) (by omega)).to ?_
 simp only[aB,seval]
 refine aQ (fun h1=>?_) (fun h1=>?_)
 · simp only[aB,seval]
 simp only[cL,gV] at h1
 have ha:pD s.cs≤1048576:=by omega
 have hm1:=QI s.cs
 have hz:s.cs.length+aH fH s.cs≤1048576:=ha
 have hm2:=a1I (k:=k) ha hx
 have hsp:=fun st=>aWD s k x st ha hx
 have him:=fun st=>a6E s k x st ha hx
 have hto:=fun st=>a6O s st ha
 have htb:=fun st=>aMP x st hx
 generalize hG:wS s k x=G at *
 simp only[vS,vR,aB,seval,pG]
 refine((hto _).made).to ?_
 simp only[aB,seval]
 refine((htb _).made).to ?_
 simp only[aB,seval]
 refine(hsp _).to ?_
 simp only[vS,MS,TV,vR,aB,↓aW,seval,pG]
 refine(hto _).mono ?_
 rintro o0 s1 ⟨b0,n0,f0,O0,k0⟩
 obtain⟨hw0,_,hs0,hj0,ha0⟩:=aS.fits O0 (vS s) (MS s)
 rw[vR] at ha0
 simp only[hw0,hs0,hj0,aB,↓aW,seval,pG]
 refine(htb _).mono ?_
 rintro o2 s2 ⟨b2,n2,f2,O2,k2⟩
 have d02:xV b0 b2:=O0.apart f2
 have O0':=O0.beside k2 d02
 obtain⟨hc2,hs2,ha2,hw2,hj2⟩:=aS.sS O2
 simp only[hw0,ha0,aB,seval,pG]
 refine(aD.a7Z (fun st=>him st) (Seen.own O0' (Seen.same (Seen.own O2 .nil)))).mono ?_
 rintro og s3 ⟨bg,ng,fg,Og,kg⟩
 have d0g:xV b0 bg:=O0'.apart fg
 have d2g:xV b2 bg:=O2.apart fg
 have V0:=O0'.beside kg d0g
 have O2':=O2.beside kg d2g
 obtain⟨hwg,_,hsg,hjg,hag⟩:=aS.fits Og (vS G) (MS G)
 rw[vR] at hag
 simp only[vS,vR,hwg,hsg,hjg,hag,aB,↓aW,seval,pG]
 refine(aD.BQ (fun st=>J8 G st) (Seen.own Og (Seen.same .nil)) rfl).to ?_
 simp only[aB,seval]
 refine yD mixed (by decide +kernel) (by decide +kernel) ?_
 simp only[vS,vR,hw0,ha0,aB,seval,pG]
 refine iD ((hto _).made) ?_
 simp only[aB,seval]
 refine iD (aD.BQ (fun st=>J8 s st) (Seen.own V0 (Seen.same .nil)) rfl) ?_
 simp only[aB,seval]
 refine((htb _).made).to ?_
 simp only[aB,seval]
 refine(aD.BQ (fun st=>XQ x st) (Seen.own O2' (Seen.same .nil)) rfl).to ?_
 simp only[hw0,ha0,aB,seval,pG]
 refine(YW s 1 o0 b0 s3 V0 n0 (by omega) (by omega)).mono ?_
 rintro _ s4 ⟨rfl,-,k4⟩
 have Og4:=Og.beside k4 d0g.symm
 have O24:=O2'.beside k4 d02.symm
 simp only[aB,seval]
 refine(YT x _ o2 b2 s4 O24 n2 (by omega) (by omega)).mono ?_
 rintro _ s5 ⟨rfl,-,k5⟩
 have Og5:=Og4.beside k5 d2g.symm
 have a3O:¬(1+(aH fY s.cs:Int)+(x.length:Int)<0):=by omega
 simp only[a3O,dW,vS,vR,hwg,hag,aB,seval,pG]
 refine(aD.BQ (fun st=>J8 G st) (Seen.own Og5 (Seen.same .nil)) rfl).to ?_
 simp only[fX,hwg,hag,aB,seval,pG]
 refine(YW G 1 og bg s5 Og5 ng (by omega) (by omega)).mono ?_
 rintro _ s6 ⟨rfl,Og6,k6⟩
 have n6:¬(1+(aH fY G.cs:Int)<0):=by omega
 simp only[hwg,hag,aB,seval,pG]
 refine(aD.BQ (fun st=>XX G 1 st (by omega) (by omega)) (Seen.own Og6 (Seen.same .nil)) rfl).to ?_
 simp only[dU,vS,vR,n6,dW,aB,seval,pG]
 refine((hto _).made).to ?_
 simp only[aB,seval]
 refine((htb _).made).to ?_
 simp only[aB,seval]
 refine((him _).made).to ?_
 simp only[vS,MS,TV,vR,aB,↓aW,seval,pG]
 refine(J8 G _).to ?_
 simp only[fX,hwg,hag,aB,seval,pG]
 refine(aD.BQ (fun st=>XX G 1 st (by omega) (by omega)) (Seen.own Og6 (Seen.same .nil)) rfl).to ?_
 simp only[dU,n6,dW,aB,seval]
end Go.AW
namespace Go.AW
open Go.ChangeShapes Go.WideShapes Go.ChangeAt Go.RowKit
abbrev qD:aA:=fun _=>none
section
variable {H:Type} {enc:TypeId×Value→H} {P:Program} {w:World}
def Reads(enc:TypeId×Value→H)(P:Program)(w:World)(t n:Nat){α:Type}(av:α→AV):Prop:=
 ∀cs x,DataW.trod enc P w 0 (fun _=>true) true n t cs=some x→∃a:α,VC w.heap qD (av a) cs
theorem WG{h:bE}{st:aA}{b k:Nat}:∀ {es:List AV} {off:Nat},(∀e∈es,e.width=k)→(∀(i:Nat) e,es[i]?=some e→VE h st b (off+i*k) e)→cW h st b off es
 | [],_,_,_=>by simp [cW]
 | e::es,off,hw,h=>by
  simp only[cW]
  refine⟨by simpa [VE] using h 0 e rfl,WG (fun x hx=>hw x (by simp [hx])) fun i x hx=>?_⟩
  have:=h (i+1) x (by simpa using hx)
  rw[hw e (by simp),zU,←Nat.a8P k i] 
  exact this
where Nat.a8P (k i:Nat):(i+1)*k=k+i*k:=by rw[v8];omega
theorem ZE{a:Addr}{v:Value}(h:w.cell? a=some v):a.spot=none∧a.block<w.heap.size∧cellAt w.heap a.block a.off=some v:=by
 unfold World.cell? at h
 split at h
 · rename_i c t fr hb
   split at h
   · cases h
   · rename_i hs
     refine⟨by simpa using hs,(FM.1 hb).1,by simp [cellAt,hb,h]⟩
 · cases h
theorem aW6{a:Addr}{n:Nat}{cs:List Value}(hs:a.spot=none)(h:w.cells? 0 a n=some cs):fE w.heap a.block a.off cs∧cs.length=n:=by
 obtain⟨_,hl,hc⟩:=World.cells?_some h
 refine⟨?_,hl⟩
 have:∀(l:List Value) (k:Nat),(∀i,i<l.length→w.cell? (a.add (k+i))=l[i]?)→fE w.heap a.block (a.off+k) l:=by
  intro l
  induction l with
  | nil=>intro _ _;trivial
  | cons v l ih=>
   intro k hk
   refine⟨?_,?_⟩
   · have:=(ZE (hk 0 (by simp))).2.2
     obtain⟨b,off,sp⟩:=a
     simp only at hs
     subst hs
     simpa [Addr.pR] using this
   · have:=ih (k+1) (fun i hi=>by have:=hk (i+1) (by simp;omega);rw[show k+1+i=k+(i+1) by omega];simpa using this)
     simpa [zU] using this
 simpa using this cs 0 (fun i hi=>by simpa using hc i (by omega))
theorem EP{t e n k:Nat}{α:Type}{av:α→AV}(ht:P.underlying t=some (.slice e))(hk:P.cellsOf e=k)(DX:0<k)(hw:∀a,(av a).width=k)(hr:∀m,m<n→Reads enc P w e m av) :
 Reads enc P w t n (fun l:List α=>.slice (l.map av)):=by
 intro cs x h
 rcases DataW.trod_slice ht h with ⟨rfl,_⟩ | ⟨a,len,cap,elems,rest,m,hm,rfl,rfl,_,hl,DQ,hlen,hel,hsp,_⟩
 · exact⟨[],by simp only[bS];unfold VC;exact .inl ⟨⟨_,rfl⟩,rfl⟩⟩
 obtain⟨hrl,DY⟩:=hsp rfl
 rw[hk] at hel DY
 have get:∀i,i<cap→∃ds y,w.cells? 0 (a.add (i*k)) k=some ds∧DataW.trod enc P w 0 (fun _=>true) true m e ds=some y:=by
  intro i hi
  have hb:∃y,(w.cells? 0 (a.add (i*k)) k).bind (DataW.trod enc P w 0 (fun _=>true) true m e)=some y:=by
   by_cases hi':i<len
   · exact⟨elems[i]'(by omega),by rw[hel i hi'];simp [show i<elems.length by omega]⟩
   · have:=DY (i - len) (by omega)
     rw[show len+(i - len)=i by omega] at this
     exact⟨rest[i - len]'(by omega),by rw[this];simp [show i - len<rest.length by omega]⟩
  obtain⟨y,hy⟩:=hb
  obtain⟨ds,h1,h2⟩:=Option.bind_eq_some_iff.1 hy
  exact⟨ds,y,h1,h2⟩
 by_cases hc0:cap=0
 · subst hc0
   obtain rfl:len=0:=by omega
   exact⟨[],by simp only[bS];unfold VC;exact .inl ⟨⟨_,rfl⟩,rfl⟩⟩
 obtain⟨ds0,_,hd0,_⟩:=get 0 (by omega)
 have aLL:a.spot=none∧a.block<w.heap.size:=by
  obtain⟨_,hl0,hc⟩:=World.cells?_some hd0
  have:=hc 0 DX
  have h0:ds0[0]?=some (ds0[0]'(by omega)):=by simp [hl0,DX]
  rw[h0] at this
  have:=ZE this
  obtain⟨b,off,sp⟩:=a
  simp only[Nat.zero_mul] at this
  cases sp with
  | none=>exact⟨rfl,by simpa [Addr.pR] using this.2.1⟩
  | some s=>exact absurd this.1 (by simp [Addr.add])
 obtain⟨b,off,sp⟩:=a
 simp only at aLL
 obtain⟨rfl,hbl⟩:=aLL
 have val:∀i,i<len→∃v:α,VE w.heap qD b (off+i*k) (av v):=by
  intro i hi
  obtain⟨ds,y,h1,h2⟩:=get i (by omega)
  obtain⟨v,hv⟩:=hr m (by omega) ds y h2
  obtain⟨c1,c2⟩:=aW6 (a:=(⟨b,off,none⟩:Addr).add (i*k)) (by simp [Addr.pR]) h1
  exact⟨v,ds,by simpa [Addr.pR] using c1,by rw[hw];exact c2,hv⟩
 have build:∀j,j≤len→∃l:List α,l.length=j∧∀(i:Nat) v,l[i]?=some v→VE w.heap qD b (off+i*k) (av v):=by
  intro j
  induction j with
  | zero=>intro _;exact⟨[],rfl,by simp⟩
  | succ j ih=>
   intro hj
   obtain⟨l,h1,h2⟩:=ih (by omega)
   obtain⟨v,hv⟩:=val j (by omega)
   refine⟨l++ [v],by simp [h1],fun i u hi=>?_⟩
   rw[List.getElem?_append] at hi
   split at hi
   · exact h2 i u hi
   · rename_i hge
     have:i=j:=by
      have:=(fC.1 hi).1
      simp at this
      omega
     subst this
     simp [h1] at hi
     subst hi
     exact hv
 obtain⟨l,h1,h2⟩:=build len (cZ _)
 refine⟨l,?_⟩
 unfold VC
 refine .inr ⟨b,off,cap,by simp [h1],by simp [h1];exact hl,DQ,rfl,hbl,aYQ hw l,WG (k:=k) (by intro e he;simp only[cF] at he;obtain⟨v,_,rfl⟩:=he;exact hw v) fun i e he=>?_⟩
 rw[kD] at he
 obtain⟨v,hv,rfl⟩:=Option.map_eq_some_iff.1 he
 exact h2 i v hv
theorem jR{fs:Array Field}{n:Nat}{cs:List Value}{xs:List (DataW H×List MemPlace)}(hx:xs.length=fs.size)
 (hf:∀(i:Nat) (f:Field),fs[i]?=some f→DataW.trod enc P w 0 (fun _=>true) true n f.type ((cs.drop f.offset).take (P.cellsOf f.type))=xs[i]?) (i:Nat) {f:Field} (h:fs[i]?=some f) :
 ∃y,DataW.trod enc P w 0 (fun _=>true) true n f.type ((cs.drop f.offset).take (P.cellsOf f.type))=some y:=by
 have hi:i<xs.length:=by rw[hx];exact(FM.1 h).1
 exact⟨xs[i],by rw[hf i f h];simp [hi]⟩
theorem TK{t:TypeId}{α:Type}{av:α→AV}{v:Value}{d:DataW H}{ps:List MemPlace}(hr:∀n,Reads enc P w t n av)(hag:∀a,(av a).isAgg=jS v)(h:DataW.Trod enc P w 0 (fun _=>true) true t v d ps) :
 ∃a:α,aR w.heap qD (av a) v:=by
 obtain⟨n,hn⟩:=h
 obtain⟨a,ha⟩:=hr n _ _ hn
 refine⟨a,?_⟩
 have:=hag a
 cases hq:av a<;>rw[hq] at ha this<;>first | trivial | exact⟨this,ha⟩
theorem aQI(hl:laidOutB P=true){W W':World}{sp:Nat→Bool}:∀ {ts:List TypeId} {vs:List Value} {ds:List (DataW H)} {ps:List MemPlace},(ts.all fun t=>P.readableRec t&&decide (t<P.types.size))=true →
 DataW.TrodAll enc P W 0 (fun _=>true) true ts vs ds ps→(∀x∈ps,W.sameAt W' x)→(∀x∈ps,sp x.block=true)→DataW.TrodAll enc P W' 0 sp true ts vs ds ps
 | [],vs,ds,ps,_,h,_,_=>by
  cases vs<;>cases ds<;>simp [DataW.TrodAll] at h ⊢
  exact h
 | t::ts,vs,ds,ps,ht,h,h1,h2=>by
  obtain⟨v,vs',d,ds',p,q,rfl,rfl,rfl,hd,DY⟩:=trodAll_cons h
  simp only[jK,cY,bM] at ht
  refine⟨p,q,Go.WideElems.Trod_stays hl ht.1.1 ht.1.2 hd (fun x hx=>h1 x (by simp [hx])) (fun x hx=>h2 x (by simp [hx])),aQI hl ht.2 DY (fun x hx=>h1 x (by simp [hx])) (fun x hx=>h2 x (by simp [hx])),rfl⟩
theorem aS7{W W':World}{st':aA}(T:bT W.heap qD W'.heap st')(s:fO W W'):Below W.heap.size W W':=
 ⟨s.1,s.2.1,s.2.2,T.size,fun k hk=>(T.aU k hk rfl).1⟩
theorem a42{f:Func}{g:FuncId}{s:ChangeSpec}{W:World}{args:Array Value}{ds:List (DataW H)}{before:List MemPlace}{avs:List AV}{tb:TypeId}
 (hl:laidOutB P=true) (hts:(f.params.toList.all fun t=>P.readableRec t&&decide (t<P.types.size))=true) (hrt:f.resultTypes= #[tb]) (htb:P.underlying tb=some .bool) (hsv:s.vars= [])
 (hW:DataW.Whole enc P f.params.toList [] false W args.toList ds [] before) (hfn:s.fn H ds= { results:=[.lit (.bool true)],args:=ds }) (a3X:cT W.heap qD avs args.toList)
 (hc:aD P g avs qD (fun r _=>r=.bool true)) :
 Calls P g args W fun e W'=>∃v,e=.returned v∧s.post enc P f false true false false W args v W':=by
 have hS:cK W.heap qD:=fun b o h=>by cases h
 have:=hc.2 W args.toList hS a3X
 simp only[rR] at this
 refine this.mono ?_
 rintro e W' ⟨v,r,st',rfl,hv,_,T,sm,rfl⟩
 refine⟨v,rfl,?_⟩
 have hB:=aS7 T sm
 rw[hv.AE]
 have hW':DataW.Whole enc P f.params.toList s.vars false W args.toList ds [] before:=by rw[hsv];exact hW
 obtain⟨p,q,hA,hV,rfl,hz,_⟩:=hW
 obtain⟨_,rfl⟩:=trodVars_none hV
 have hlt:∀x∈p,x.block<W.heap.size:=fun x hx=>hW'.lt x (by simp [hx])
 have BB:∀(b:Nat) (sp:Nat→Bool) (hd:Bool),DataW.TrodAll enc P W' b sp hd f.resultTypes.toList ((Value.bool true).resultList f.resultTypes.size) (s.fn H (ds++ [])).results []:=fun _ _ _=>by
  rw[eU,hfn,hrt]
  exact trodAll_mk1 (shut_bool htb true)
 have yO:∀sp:Nat→Bool,(∀x∈p,sp x.block=true)→DataW.TrodAll enc P W' 0 sp true f.params.toList args.toList (s.fn H (ds++ [])).args p:=fun sp hsp=>by
  rw[eU,hfn]
  exact aQI hl hts hA (fun x hx=>hB.same (hlt x hx)) hsp
 have aLN:∀sp:Nat→Bool,DataW.TrodVars enc P W' sp s.vars (s.fn H (ds++ [])).vars []:=fun sp=>by
  rw[eU,hfn,hsv]
  exact rfl
 refine⟨ds,[],p++ [],[],p,[],hW',BB _ _ _,yO _ (fun x hx=>by simpa using hlt x hx),aLN _,World.keptBut_mono (fun x hx=>⟨hx,by simpa using hx⟩) (hB.frame (·∈p++ [])),fun _=>?_⟩
 refine⟨ok_one hrt rfl (okWide_bool_mk htb true),_,_,([]++p)++ [],⟨[]++p,[],trodAll_append (yO _ (fun _ _=>rfl)) (BB _ _ _),aLN _,rfl,?_,?_⟩,?_⟩
 · intro b off hp
   have hp':MemPlace.cell b off∈p:=by simpa using hp
   rw[hB.frozen (p:=⟨b,off,none⟩) (hlt _ hp')]
   exact hz b off (by simpa using hp')
 · intro ha;cases ha
 · intro x hx _
   simpa using hx
end
end Go.AW

namespace Go.AW
open Go.Proofs.Tryz
section
variable {H:Type} {enc:TypeId×Value→H} {w:World}
theorem WD{h:bE}{st:aA}{k:IntKind}{n:Int}:VC h st (.int k n) [.int k n]:=by simp only[VC]
theorem KH:prog.cellsOf 3=1:=by kernel_rfl
theorem ZM:prog.cellsOf 9=1:=by kernel_rfl
theorem QE:prog.cellsOf 64=1:=by kernel_rfl
theorem KI:prog.cellsOf 121=4:=by kernel_rfl
theorem aNH:∀n,Reads enc prog w 121 n Tm.av:=by
 intro n
 induction n using Nat.strongRecOn with
 | _ n ih=>
  intro cs x h
  obtain⟨xs,m,rfl,_,hl,hx,hf⟩:=DataW.trod_struct a91 h
  rw[KI] at hl
  match cs,hl with
  | [c0,c1,c2,c3],_=>
   obtain⟨y0,h0⟩:=jR hx hf 0 rfl
   obtain⟨y1,h1⟩:=jR hx hf 1 rfl
   obtain⟨y2,h2⟩:=jR hx hf 2 rfl
   obtain⟨y3,h3⟩:=jR hx hf 3 rfl
   replace h0:DataW.trod enc prog w 0 (fun _=>true) true m 3 ([c0,c1,c2,c3].take (prog.cellsOf 3))=some y0:=h0
   replace h1:DataW.trod enc prog w 0 (fun _=>true) true m 3 ([c1,c2,c3].take (prog.cellsOf 3))=some y1:=h1
   replace h2:DataW.trod enc prog w 0 (fun _=>true) true m 9 ([c2,c3].take (prog.cellsOf 9))=some y2:=h2
   replace h3:DataW.trod enc prog w 0 (fun _=>true) true m 64 ([c3].take (prog.cellsOf 64))=some y3:=h3
   rw[KH] at h0 h1
   rw[ZM] at h2
   rw[QE] at h3
   obtain⟨k,e0,_⟩:=DataW.trod_int qI h0
   obtain⟨j,e1,_⟩:=DataW.trod_int qI h1
   obtain⟨s,e2,_,es⟩:=DataW.trod_string B0 h2
   obtain⟨l,e3⟩:=EP (n:=m) aQM KI (by omega) aT (fun m' hm=>ih m' (by omega)) _ _ h3
   obtain rfl:=(pK e0).1
   obtain rfl:=(pK e1).1
   obtain rfl:=(pK e2).1
   refine⟨.mk k j s l,?_⟩
   rw[bD]
   unfold VC
   simp only[aY]
   exact⟨_,_,rfl,by simp only[VC],_,_,rfl,by simp only[VC],_,_,rfl,by simp only[VC];exact⟨trivial,es⟩,_,_,rfl,e3,rfl⟩
theorem aNI(n:Nat):Reads enc prog w 64 n (fun l:List Tm=>.slice (l.map Tm.av)):=
 EP aQM KI (by omega) aT fun m _=>aNH m
theorem bAV{r:Reach}{b0:Nat}{t:TypeId}{fs:Array Field}{v:Value}(ht:prog.underlying t=some (.struct fs))(h:Value.okWide prog w r b0 t v):jS v=true:=by
 simp only[Value.okWide,ht] at h
 obtain⟨cs,rfl,_⟩:=h
 rfl
theorem bAX{r:Reach}{b0:Nat}{t e:TypeId}{v:Value}(ht:prog.underlying t=some (.slice e))(h:Value.okWide prog w r b0 t v):jS v=false:=by
 cases v<;>first | rfl | (simp [Value.okWide,ht,Cell.okWide,Cell.ok] at h)
end
section
variable {H:Type} {enc:TypeId×Value→H} {w:World}
theorem ZG:prog.cellsOf 123=5:=by kernel_rfl
theorem EO(n:Nat):Reads enc prog w 3 n (fun k:Int=>.int .i64 k):=by
 intro cs x h
 obtain⟨k,rfl,_⟩:=DataW.trod_int qI h
 exact⟨k,WD⟩
theorem a7F(n:Nat):Reads enc prog w 123 n aG:=by
 intro cs x h
 obtain⟨xs,m,rfl,_,hl,hx,hf⟩:=DataW.trod_struct a92 h
 rw[ZG] at hl
 match cs,hl with
 | [c0,c1,c2,c3,c4],_=>
  obtain⟨y0,h0⟩:=jR hx hf 0 rfl
  obtain⟨y1,h1⟩:=jR hx hf 1 rfl
  replace h0:DataW.trod enc prog w 0 (fun _=>true) true m 121 ([c0,c1,c2,c3,c4].take (prog.cellsOf 121))=some y0:=h0
  replace h1:DataW.trod enc prog w 0 (fun _=>true) true m 64 ([c4].take (prog.cellsOf 64))=some y1:=h1
  rw[KI] at h0
  rw[QE] at h1
  obtain⟨⟨k,j,s,l⟩,e0⟩:=aNH _ _ _ h0
  obtain⟨b,e1⟩:=aNI _ _ _ h1
  refine⟨(.mk k j s l,b),?_⟩
  rw[mQ]
  rw[bD] at e0
  unfold VC at e0
  unfold VC
  simp only[aY,List.cons.injEq] at e0 ⊢
  obtain⟨_,_,⟨rfl,rfl⟩,f0,_,_,⟨rfl,rfl⟩,f1,_,_,⟨rfl,rfl⟩,f2,_,_,⟨rfl,rfl⟩,f3,_⟩:=e0
  exact⟨_,_,⟨rfl,rfl⟩,f0,_,_,rfl,f1,_,_,rfl,f2,_,_,rfl,f3,_,_,rfl,e1,rfl⟩
theorem aNF(n:Nat):Reads enc prog w 63 n (fun l:List Cl=>.slice (l.map aG)):=
 EP bAA ZG (by omega) fQ fun m _=>a7F m
theorem bAW{r:Reach}{b0:Nat}{v:Value}(h:Value.okWide prog w r b0 3 v):jS v=false:=by
 cases v<;>first | rfl | (simp [Value.okWide,qI,Cell.okWide,Cell.ok] at h)
end
section
variable {H:Type} {enc:TypeId×Value→H} {w:World}
theorem aW5:prog.cellsOf 5=1:=by kernel_rfl
theorem a7J(n:Nat):Reads enc prog w 5 n bX:=by
 intro cs x h
 obtain⟨k,rfl,_,hw⟩:=DataW.trod_int VL h
 simp only[Lit.wf,IntKind.min,IntKind.max,IntKind.signed,IntKind.bits,cY,bM] at hw
 refine⟨⟨k.toNat,?_⟩,?_⟩
 · simp at hw;omega
 · have:(((k.toNat:Nat)):Int)=k:=by simp at hw;omega
   simp only[bX,this,VC]
theorem aNJ(n:Nat):Reads enc prog w 25 n (fun l:List Bt=>.slice (l.map bX)):=
 EP I1 aW5 (by omega) PR fun m _=>a7J m
end
section
variable {H:Type} {enc:TypeId×Value→H} {w:World}
theorem ZF:prog.cellsOf 4=1:=by kernel_rfl
theorem ZK:prog.cellsOf 118=2:=by kernel_rfl
theorem aW4:prog.cellsOf 62=1:=by kernel_rfl
theorem aW2:prog.cellsOf 25=1:=by kernel_rfl
theorem ZJ:prog.cellsOf 61=2:=by kernel_rfl
theorem ZH:prog.cellsOf 63=1:=by kernel_rfl
theorem ZL:prog.cellsOf 66=6:=by kernel_rfl
theorem ZI:prog.cellsOf 68=13:=by kernel_rfl
theorem aW3:prog.cellsOf 22=1:=by kernel_rfl
theorem mO{h:bE}{st:aA}{a:AV}{es:List AV}{c:Value}{cs:List Value}(x:VC h st a [c])(y:aY h st es cs):aY h st (a::es) (c::cs):=by
 unfold aY;exact⟨c,cs,rfl,x,y⟩
theorem FZ{h:bE}{st:aA}:aY h st [] []:=by unfold aY;rfl
theorem O5{h:bE}{st:aA}:∀ {es bs:List AV} {cs ds:List Value},aY h st es cs→aY h st bs ds→aY h st (es++bs) (cs++ds)
 | [],bs,cs,ds,x,y=>by unfold aY at x;subst x;exact y
 | a::es,bs,cs,ds,x,y=>by
  unfold aY at x
  obtain⟨c,r,rfl,x1,x2⟩:=x
  exact mO x1 (O5 x2 y)
theorem FY{h:bE}{st:aA}{es:List AV}{cs:List Value}:VC h st (.agg es) cs↔aY h st es cs:=by unfold VC;exact Iff.rfl
theorem TJ{n:Nat}{c:Value}{x:DataW H×List MemPlace}(h:DataW.trod enc prog w 0 (fun _=>true) true n 4 [c]=some x):∃b,VC w.heap qD (.bool b) [c]:=by
 obtain⟨b,e,_⟩:=DataW.trod_bool uU4 h
 exact⟨b,by simp only[VC];exact e⟩
theorem a7H(n:Nat):Reads enc prog w 118 n bJ:=by
 intro cs x h
 obtain⟨xs,m,rfl,_,hl,hx,hf⟩:=DataW.trod_struct a90 h
 rw[ZK] at hl
 match cs,hl with
 | [c0,c1],_=>
  obtain⟨y0,h0⟩:=jR hx hf 0 rfl
  obtain⟨y1,h1⟩:=jR hx hf 1 rfl
  replace h0:DataW.trod enc prog w 0 (fun _=>true) true m 3 ([c0,c1].take (prog.cellsOf 3))=some y0:=h0
  replace h1:DataW.trod enc prog w 0 (fun _=>true) true m 9 ([c1].take (prog.cellsOf 9))=some y1:=h1
  rw[KH] at h0
  rw[ZM] at h1
  obtain⟨k,e0,_⟩:=DataW.trod_int qI h0
  obtain⟨s,e1,_,es⟩:=DataW.trod_string B0 h1
  obtain rfl:=(pK e0).1
  obtain rfl:=(pK e1).1
  exact⟨(k,s),FY.2 (mO WD (mO (by simp only[VC];exact⟨trivial,es⟩) FZ))⟩
theorem aNG(n:Nat):Reads enc prog w 62 n bO:=
 EP a99 ZK (by omega) nX fun m _=>a7H m
theorem a7K{n:Nat}{cs:List Value}{x:DataW H×List MemPlace}(h:DataW.trod enc prog w 0 (fun _=>true) true n 61 cs=some x):∃r b,aY w.heap qD [cE r,.bool b] cs:=by
 obtain⟨xs,m,rfl,_,hl,hx,hf⟩:=DataW.trod_struct a98 h
 rw[ZJ] at hl
 match cs,hl with
 | [c0,c1],_=>
  obtain⟨y0,h0⟩:=jR hx hf 0 rfl
  obtain⟨y1,h1⟩:=jR hx hf 1 rfl
  replace h0:DataW.trod enc prog w 0 (fun _=>true) true m 25 ([c0,c1].take (prog.cellsOf 25))=some y0:=h0
  replace h1:DataW.trod enc prog w 0 (fun _=>true) true m 4 ([c1].take (prog.cellsOf 4))=some y1:=h1
  rw[aW2] at h0
  rw[ZF] at h1
  obtain⟨r,e0⟩:=aNJ _ _ _ h0
  obtain⟨b,e1⟩:=TJ h1
  exact⟨r,b,mO e0 (mO e1 FZ)⟩
theorem a7L{n:Nat}{cs:List Value}{x:DataW H×List MemPlace}(h:DataW.trod enc prog w 0 (fun _=>true) true n 66 cs=some x):∃s,VC w.heap qD (gU s) cs:=by
 obtain⟨xs,m,rfl,_,hl,hx,hf⟩:=DataW.trod_struct bAB h
 rw[ZL] at hl
 match cs,hl with
 | [c0,c1,c2,c3,c4,c5],_=>
  obtain⟨y0,h0⟩:=jR hx hf 0 rfl
  obtain⟨y1,h1⟩:=jR hx hf 1 rfl
  obtain⟨y2,h2⟩:=jR hx hf 2 rfl
  obtain⟨y3,h3⟩:=jR hx hf 3 rfl
  obtain⟨y4,h4⟩:=jR hx hf 4 rfl
  obtain⟨y5,h5⟩:=jR hx hf 5 rfl
  replace h0:DataW.trod enc prog w 0 (fun _=>true) true m 63 ([c0,c1,c2,c3,c4,c5].take (prog.cellsOf 63))=some y0:=h0
  replace h1:DataW.trod enc prog w 0 (fun _=>true) true m 64 ([c1,c2,c3,c4,c5].take (prog.cellsOf 64))=some y1:=h1
  replace h2:DataW.trod enc prog w 0 (fun _=>true) true m 3 ([c2,c3,c4,c5].take (prog.cellsOf 3))=some y2:=h2
  replace h3:DataW.trod enc prog w 0 (fun _=>true) true m 3 ([c3,c4,c5].take (prog.cellsOf 3))=some y3:=h3
  replace h4:DataW.trod enc prog w 0 (fun _=>true) true m 3 ([c4,c5].take (prog.cellsOf 3))=some y4:=h4
  replace h5:DataW.trod enc prog w 0 (fun _=>true) true m 3 ([c5].take (prog.cellsOf 3))=some y5:=h5
  rw[ZH] at h0
  rw[QE] at h1
  rw[KH] at h2 h3 h4 h5
  obtain⟨p,e0⟩:=aNF _ _ _ h0
  obtain⟨q,e1⟩:=aNI _ _ _ h1
  obtain⟨k2,e2⟩:=EO _ _ _ h2
  obtain⟨k3,e3⟩:=EO _ _ _ h3
  obtain⟨k4,e4⟩:=EO _ _ _ h4
  obtain⟨k5,e5⟩:=EO _ _ _ h5
  exact⟨⟨p,q,k2,k3,k4,k5⟩,FY.2 (mO e0 (mO e1 (mO e2 (mO e3 (mO e4 (mO e5 FZ))))))⟩
theorem a7G(n:Nat):Reads enc prog w 68 n bP:=by
 intro cs x h
 obtain⟨xs,m,rfl,_,hl,hx,hf⟩:=DataW.trod_struct bAC h
 rw[ZI] at hl
 match cs,hl with
 | [c0,c1,c2,c3,c4,c5,c6,c7,c8,c9,c10,c11,c12],_=>
  obtain⟨y0,h0⟩:=jR hx hf 0 rfl
  obtain⟨y1,h1⟩:=jR hx hf 1 rfl
  obtain⟨y2,h2⟩:=jR hx hf 2 rfl
  obtain⟨y3,h3⟩:=jR hx hf 3 rfl
  obtain⟨y4,h4⟩:=jR hx hf 4 rfl
  obtain⟨y5,h5⟩:=jR hx hf 5 rfl
  obtain⟨y6,h6⟩:=jR hx hf 6 rfl
  replace h0:DataW.trod enc prog w 0 (fun _=>true) true m 61 ([c0,c1,c2,c3,c4,c5,c6,c7,c8,c9,c10,c11,c12].take (prog.cellsOf 61))=some y0:=h0
  replace h1:DataW.trod enc prog w 0 (fun _=>true) true m 62 ([c2,c3,c4,c5,c6,c7,c8,c9,c10,c11,c12].take (prog.cellsOf 62))=some y1:=h1
  replace h2:DataW.trod enc prog w 0 (fun _=>true) true m 63 ([c3,c4,c5,c6,c7,c8,c9,c10,c11,c12].take (prog.cellsOf 63))=some y2:=h2
  replace h3:DataW.trod enc prog w 0 (fun _=>true) true m 4 ([c4,c5,c6,c7,c8,c9,c10,c11,c12].take (prog.cellsOf 4))=some y3:=h3
  replace h4:DataW.trod enc prog w 0 (fun _=>true) true m 66 ([c5,c6,c7,c8,c9,c10,c11,c12].take (prog.cellsOf 66))=some y4:=h4
  replace h5:DataW.trod enc prog w 0 (fun _=>true) true m 4 ([c11,c12].take (prog.cellsOf 4))=some y5:=h5
  replace h6:DataW.trod enc prog w 0 (fun _=>true) true m 62 ([c12].take (prog.cellsOf 62))=some y6:=h6
  rw[ZJ] at h0
  rw[aW4] at h1 h6
  rw[ZH] at h2
  rw[ZF] at h3 h5
  rw[ZL] at h4
  obtain⟨r,b,e0⟩:=a7K h0
  obtain⟨wt,e1⟩:=aNG _ _ _ h1
  obtain⟨pr,e2⟩:=aNF _ _ _ h2
  obtain⟨ac,e3⟩:=TJ h3
  obtain⟨ss,e4⟩:=a7L h4
  obtain⟨td,e5⟩:=TJ h5
  obtain⟨ou,e6⟩:=aNG _ _ _ h6
  refine⟨⟨r,b,wt,pr,ac,ss,td,ou⟩,FY.2 ?_⟩
  have e4':=FY.1 e4
  exact O5 e0 (mO e1 (mO e2 (mO e3 (O5 e4' (mO e5 (mO e6 FZ))))))
theorem a7I(n:Nat):Reads enc prog w 24 n fJ:=by
 intro cs x h
 obtain⟨xs,m,rfl,_,hl,hx,hf⟩:=DataW.trod_struct a94 h
 rw[show prog.cellsOf 24=2 by kernel_rfl] at hl
 match cs,hl with
 | [c0,c1],_=>
  obtain⟨y0,h0⟩:=jR hx hf 0 rfl
  obtain⟨y1,h1⟩:=jR hx hf 1 rfl
  replace h0:DataW.trod enc prog w 0 (fun _=>true) true m 22 ([c0,c1].take (prog.cellsOf 22))=some y0:=h0
  replace h1:DataW.trod enc prog w 0 (fun _=>true) true m 3 ([c1].take (prog.cellsOf 3))=some y1:=h1
  rw[aW3] at h0
  rw[KH] at h1
  obtain⟨l,e0⟩:=(EP (av:=bP) a93 ZI (by omega) kR fun m _=>a7G m) _ _ h0
  obtain⟨k,e1⟩:=EO _ _ _ h1
  exact⟨⟨l,k⟩,FY.2 (mO e0 (mO e1 FZ))⟩
end
end Go.AW
