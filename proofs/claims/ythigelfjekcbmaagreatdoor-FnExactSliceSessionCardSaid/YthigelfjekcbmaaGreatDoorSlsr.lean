/- What a law is handed, read as data; the law's row from a contract. -/
import Derived.Test.YthigelfjekcbmaaGreatDoorSlsg
import Derived.ProofKit
import Derived.Test.YthigelfjekcbmaaGreatDoorSlsi
import Derived.Test.YthigelfjekcbmaaGreatDoorSlsk
import Derived.Test.YthigelfjekcbmaaGreatDoorSlsm
import Derived.Test.YthigelfjekcbmaaGreatDoorSlsq
set_option linter.unusedSimpArgs false
set_option linter.unusedVariables false
set_option maxRecDepth 100000
namespace Go.AW
open Go.ChangeShapes Go.WideShapes Go.ChangeAt Go.RowKit
abbrev pJ:aA:=fun _=>none
section
variable {H:Type} {enc:TypeId×Value→H} {P:Program} {w:World}
def Reads(enc:TypeId×Value→H)(P:Program)(w:World)(t n:Nat){α:Type}(av:α→AV):Prop:=
 ∀cs x,DataW.trod enc P w 0 (fun _=>true) true n t cs=some x→∃a:α,VC w.heap pJ (av a) cs
theorem PR{h:a9}{st:aA}{b k:Nat}:∀ {es:List AV} {off:Nat},(∀e∈es,e.width=k)→(∀(i:Nat) e,es[i]?=some e→VE h st b (off+i*k) e)→cX h st b off es
 | [],_,_,_=>by simp [cX]
 | e::es,off,hw,h=>by
  simp only[cX]
  refine⟨by simpa [VE] using h 0 e rfl,PR (fun x hx=>hw x (by simp [hx])) fun i x hx=>?_⟩
  have:=h (i+1) x (by simpa using hx)
  rw[hw e (by simp),yH,←Nat.aUZ k i] 
  exact this
where Nat.aUZ (k i:Nat):(i+1)*k=k+i*k:=by rw[sS];omega
theorem SG{a:Addr}{v:Value}(h:w.cell? a=some v):a.spot=none∧a.block<w.heap.size∧cellAt w.heap a.block a.off=some v:=by
 unfold World.cell? at h
 split at h
 · rename_i c t fr hb
   split at h
   · cases h
   · rename_i hs
     refine⟨by simpa using hs,(E3.1 hb).1,by simp [cellAt,hb,h]⟩
 · cases h
theorem aNT{a:Addr}{n:Nat}{cs:List Value}(hs:a.spot=none)(h:w.cells? 0 a n=some cs):eL w.heap a.block a.off cs∧cs.length=n:=by
 obtain⟨_,hl,hc⟩:=World.cells?_some h
 refine⟨?_,hl⟩
 have:∀(l:List Value) (k:Nat),(∀i,i<l.length→w.cell? (a.add (k+i))=l[i]?)→eL w.heap a.block (a.off+k) l:=by
  intro l
  induction l with
  | nil=>intro _ _;trivial
  | cons v l ih=>
   intro k hk
   refine⟨?_,?_⟩
   · have:=(SG (hk 0 (by simp))).2.2
     obtain⟨b,off,sp⟩:=a
     simp only at hs
     subst hs
     simpa [Addr.mX] using this
   · have:=ih (k+1) (fun i hi=>by have:=hk (i+1) (by simp;omega);rw[show k+1+i=k+(i+1) by omega];simpa using this)
     simpa [yH] using this
 simpa using this cs 0 (fun i hi=>by simpa using hc i (by omega))
theorem NP{t e n k:Nat}{α:Type}{av:α→AV}(ht:P.underlying t=some (.slice e))(hk:P.cellsOf e=k)(HD:0<k)(hw:∀a,(av a).width=k)(hr:∀m,m<n→Reads enc P w e m av) :
 Reads enc P w t n (fun l:List α=>.slice (l.map av)):=by
 intro cs x h
 rcases DataW.trod_slice ht h with ⟨rfl,_⟩ | ⟨a,len,cap,elems,rest,m,hm,rfl,rfl,_,hl,z6,hlen,hel,hsp,_⟩
 · exact⟨[],by simp only[bL];unfold VC;exact .inl ⟨⟨_,rfl⟩,rfl⟩⟩
 obtain⟨hrl,AC⟩:=hsp rfl
 rw[hk] at hel AC
 have get:∀i,i<cap→∃ds y,w.cells? 0 (a.add (i*k)) k=some ds∧DataW.trod enc P w 0 (fun _=>true) true m e ds=some y:=by
  intro i hi
  have hb:∃y,(w.cells? 0 (a.add (i*k)) k).bind (DataW.trod enc P w 0 (fun _=>true) true m e)=some y:=by
   by_cases hi':i<len
   · exact⟨elems[i]'(by omega),by rw[hel i hi'];simp [show i<elems.length by omega]⟩
   · have:=AC (i - len) (by omega)
     rw[show len+(i - len)=i by omega] at this
     exact⟨rest[i - len]'(by omega),by rw[this];simp [show i - len<rest.length by omega]⟩
  obtain⟨y,hy⟩:=hb
  obtain⟨ds,h1,h2⟩:=Option.bind_eq_some_iff.1 hy
  exact⟨ds,y,h1,h2⟩
 by_cases hc0:cap=0
 · subst hc0
   obtain rfl:len=0:=by omega
   exact⟨[],by simp only[bL];unfold VC;exact .inl ⟨⟨_,rfl⟩,rfl⟩⟩
 obtain⟨ds0,_,hd0,_⟩:=get 0 (by omega)
 have aE2:a.spot=none∧a.block<w.heap.size:=by
  obtain⟨_,hl0,hc⟩:=World.cells?_some hd0
  have:=hc 0 HD
  have h0:ds0[0]?=some (ds0[0]'(by omega)):=by simp [hl0,HD]
  rw[h0] at this
  have:=SG this
  obtain⟨b,off,sp⟩:=a
  simp only[Nat.zero_mul] at this
  cases sp with
  | none=>exact⟨rfl,by simpa [Addr.mX] using this.2.1⟩
  | some s=>exact absurd this.1 (by simp [Addr.add])
 obtain⟨b,off,sp⟩:=a
 simp only at aE2
 obtain⟨rfl,hbl⟩:=aE2
 have val:∀i,i<len→∃v:α,VE w.heap pJ b (off+i*k) (av v):=by
  intro i hi
  obtain⟨ds,y,h1,h2⟩:=get i (by omega)
  obtain⟨v,hv⟩:=hr m (by omega) ds y h2
  obtain⟨c1,c2⟩:=aNT (a:=(⟨b,off,none⟩:Addr).add (i*k)) (by simp [Addr.mX]) h1
  exact⟨v,ds,by simpa [Addr.mX] using c1,by rw[hw];exact c2,hv⟩
 have build:∀j,j≤len→∃l:List α,l.length=j∧∀(i:Nat) v,l[i]?=some v→VE w.heap pJ b (off+i*k) (av v):=by
  intro j
  induction j with
  | zero=>intro _;exact⟨[],rfl,by simp⟩
  | succ j ih=>
   intro hj
   obtain⟨l,h1,h2⟩:=ih (by omega)
   obtain⟨v,hv⟩:=val j (by omega)
   refine⟨l++ [v],by simp [h1],fun i u hi=>?_⟩
   rw[List.getElem?_append] at hi
   split at hi
   · exact h2 i u hi
   · rename_i hge
     have:i=j:=by
      have:=(eS.1 hi).1
      simp at this
      omega
     subst this
     simp [h1] at hi
     subst hi
     exact hv
 obtain⟨l,h1,h2⟩:=build len (cT _)
 refine⟨l,?_⟩
 unfold VC
 refine .inr ⟨b,off,cap,by simp [h1],by simp [h1];exact hl,z6,rfl,hbl,aOU hw l,PR (k:=k) (by intro e he;simp only[cE] at he;obtain⟨v,_,rfl⟩:=he;exact hw v) fun i e he=>?_⟩
 rw[lS] at he
 obtain⟨v,hv,rfl⟩:=Option.map_eq_some_iff.1 he
 exact h2 i v hv
theorem pM{fs:Array Field}{n:Nat}{cs:List Value}{xs:List (DataW H×List MemPlace)}(hx:xs.length=fs.size)
 (hf:∀(i:Nat) (f:Field),fs[i]?=some f→DataW.trod enc P w 0 (fun _=>true) true n f.type ((cs.drop f.offset).take (P.cellsOf f.type))=xs[i]?) (i:Nat) {f:Field} (h:fs[i]?=some f) :
 ∃y,DataW.trod enc P w 0 (fun _=>true) true n f.type ((cs.drop f.offset).take (P.cellsOf f.type))=some y:=by
 have hi:i<xs.length:=by rw[hx];exact(E3.1 h).1
 exact⟨xs[i],by rw[hf i f h];simp [hi]⟩
theorem aGG{t:TypeId}{α:Type}{av:α→AV}{v:Value}{d:DataW H}{ps:List MemPlace}(hr:∀n,Reads enc P w t n av)(hag:∀a,(av a).isAgg=jH v)(h:DataW.Trod enc P w 0 (fun _=>true) true t v d ps) :
 ∃a:α,aN w.heap pJ (av a) v:=by
 obtain⟨n,hn⟩:=h
 obtain⟨a,ha⟩:=hr n _ _ hn
 refine⟨a,?_⟩
 have:=hag a
 cases hq:av a<;>rw[hq] at ha this<;>first | trivial | exact⟨this,ha⟩
theorem aIP(hl:laidOutB P=true){W W':World}{sp:Nat→Bool}:∀ {ts:List TypeId} {vs:List Value} {ds:List (DataW H)} {ps:List MemPlace},(ts.all fun t=>P.readableRec t&&decide (t<P.types.size))=true →
 DataW.TrodAll enc P W 0 (fun _=>true) true ts vs ds ps→(∀x∈ps,W.sameAt W' x)→(∀x∈ps,sp x.block=true)→DataW.TrodAll enc P W' 0 sp true ts vs ds ps
 | [],vs,ds,ps,_,h,_,_=>by
  cases vs<;>cases ds<;>simp [DataW.TrodAll] at h ⊢
  exact h
 | t::ts,vs,ds,ps,ht,h,h1,h2=>by
  obtain⟨v,vs',d,ds',p,q,rfl,rfl,rfl,hd,AC⟩:=trodAll_cons h
  simp only[iW,cL,bM] at ht
  refine⟨p,q,Go.WideElems.Trod_stays hl ht.1.1 ht.1.2 hd (fun x hx=>h1 x (by simp [hx])) (fun x hx=>h2 x (by simp [hx])),aIP hl ht.2 AC (fun x hx=>h1 x (by simp [hx])) (fun x hx=>h2 x (by simp [hx])),rfl⟩
theorem aKP{W W':World}{st':aA}(T:bZ W.heap pJ W'.heap st')(s:eT W W'):Below W.heap.size W W':=
 ⟨s.1,s.2.1,s.2.2,T.size,fun k hk=>(T.aU k hk rfl).1⟩
theorem aSB{f:Func}{g:FuncId}{s:ChangeSpec}{W:World}{args:Array Value}{ds:List (DataW H)}{before:List MemPlace}{avs:List AV}{tb:TypeId}
 (hl:laidOutB P=true) (hts:(f.params.toList.all fun t=>P.readableRec t&&decide (t<P.types.size))=true) (hrt:f.resultTypes= #[tb]) (htb:P.underlying tb=some .bool) (hsv:s.vars= [])
 (hW:DataW.Whole enc P f.params.toList [] false W args.toList ds [] before) (hfn:s.fn H ds= { results:=[.lit (.bool true)],args:=ds }) (aRC:cK W.heap pJ avs args.toList)
 (hc:aD P g avs pJ (fun r _=>r=.bool true)) :
 Calls P g args W fun e W'=>∃v,e=.returned v∧s.post enc P f false true false false W args v W':=by
 have hS:cH W.heap pJ:=fun b o h=>by cases h
 have:=hc.2 W args.toList hS aRC
 simp only[uH] at this
 refine this.mono ?_
 rintro e W' ⟨v,r,st',rfl,hv,_,T,sm,rfl⟩
 refine⟨v,rfl,?_⟩
 have hB:=aKP T sm
 rw[hv.wR]
 have hW':DataW.Whole enc P f.params.toList s.vars false W args.toList ds [] before:=by rw[hsv];exact hW
 obtain⟨p,q,hA,hV,rfl,hz,_⟩:=hW
 obtain⟨_,rfl⟩:=trodVars_none hV
 have hlt:∀x∈p,x.block<W.heap.size:=fun x hx=>hW'.lt x (by simp [hx])
 have xE:∀(b:Nat) (sp:Nat→Bool) (hd:Bool),DataW.TrodAll enc P W' b sp hd f.resultTypes.toList ((Value.bool true).resultList f.resultTypes.size) (s.fn H (ds++ [])).results []:=fun _ _ _=>by
  rw[fN,hfn,hrt]
  exact trodAll_mk1 (shut_bool htb true)
 have w4:∀sp:Nat→Bool,(∀x∈p,sp x.block=true)→DataW.TrodAll enc P W' 0 sp true f.params.toList args.toList (s.fn H (ds++ [])).args p:=fun sp hsp=>by
  rw[fN,hfn]
  exact aIP hl hts hA (fun x hx=>hB.same (hlt x hx)) hsp
 have aE4:∀sp:Nat→Bool,DataW.TrodVars enc P W' sp s.vars (s.fn H (ds++ [])).vars []:=fun sp=>by
  rw[fN,hfn,hsv]
  exact rfl
 refine⟨ds,[],p++ [],[],p,[],hW',xE _ _ _,w4 _ (fun x hx=>by simpa using hlt x hx),aE4 _,World.keptBut_mono (fun x hx=>⟨hx,by simpa using hx⟩) (hB.frame (·∈p++ [])),fun _=>?_⟩
 refine⟨ok_one hrt rfl (okWide_bool_mk htb true),_,_,([]++p)++ [],⟨[]++p,[],trodAll_append (w4 _ (fun _ _=>rfl)) (xE _ _ _),aE4 _,rfl,?_,?_⟩,?_⟩
 · intro b off hp
   have hp':MemPlace.cell b off∈p:=by simpa using hp
   rw[hB.frozen (p:=⟨b,off,none⟩) (hlt _ hp')]
   exact hz b off (by simpa using hp')
 · intro ha;cases ha
 · intro x hx _
   simpa using hx
end
end Go.AW

namespace Go.AW
open Go.Proofs.Tryz
section
variable {H:Type} {enc:TypeId×Value→H} {w:World}
theorem aJC{h:a9}{st:aA}{k:IntKind}{n:Int}:VC h st (.int k n) [.int k n]:=by simp only[VC]
theorem SI:prog.cellsOf 3=1:=by kernel_rfl
theorem aNS:prog.cellsOf 9=1:=by kernel_rfl
theorem K8:prog.cellsOf 23=1:=by kernel_rfl
theorem F0:prog.cellsOf 118=4:=by kernel_rfl
theorem aGE:∀n,Reads enc prog w 118 n Tm.av:=by
 intro n
 induction n using Nat.strongRecOn with
 | _ n ih=>
  intro cs x h
  obtain⟨xs,m,rfl,_,hl,hx,hf⟩:=DataW.trod_struct aVX h
  rw[F0] at hl
  match cs,hl with
  | [c0,c1,c2,c3],_=>
   obtain⟨y0,h0⟩:=pM hx hf 0 rfl
   obtain⟨y1,h1⟩:=pM hx hf 1 rfl
   obtain⟨y2,h2⟩:=pM hx hf 2 rfl
   obtain⟨y3,h3⟩:=pM hx hf 3 rfl
   replace h0:DataW.trod enc prog w 0 (fun _=>true) true m 3 ([c0,c1,c2,c3].take (prog.cellsOf 3))=some y0:=h0
   replace h1:DataW.trod enc prog w 0 (fun _=>true) true m 3 ([c1,c2,c3].take (prog.cellsOf 3))=some y1:=h1
   replace h2:DataW.trod enc prog w 0 (fun _=>true) true m 9 ([c2,c3].take (prog.cellsOf 9))=some y2:=h2
   replace h3:DataW.trod enc prog w 0 (fun _=>true) true m 23 ([c3].take (prog.cellsOf 23))=some y3:=h3
   rw[SI] at h0 h1
   rw[aNS] at h2
   rw[K8] at h3
   obtain⟨k,e0,_⟩:=DataW.trod_int aY h0
   obtain⟨j,e1,_⟩:=DataW.trod_int aY h1
   obtain⟨s,e2,_,es⟩:=DataW.trod_string d4 h2
   obtain⟨l,e3⟩:=NP (n:=m) pU F0 (by omega) aO (fun m' hm=>ih m' (by omega)) _ _ h3
   obtain rfl:=(sR e0).1
   obtain rfl:=(sR e1).1
   obtain rfl:=(sR e2).1
   refine⟨.mk k j s l,?_⟩
   rw[aX]
   unfold VC
   simp only[aV]
   exact⟨_,_,rfl,by simp only[VC],_,_,rfl,by simp only[VC],_,_,rfl,by simp only[VC];exact⟨trivial,es⟩,_,_,rfl,e3,rfl⟩
theorem aGF(n:Nat):Reads enc prog w 23 n (fun l:List Tm=>.slice (l.map Tm.av)):=
 NP pU F0 (by omega) aO fun m _=>aGE m
theorem aWI{r:Reach}{b0:Nat}{t:TypeId}{fs:Array Field}{v:Value}(ht:prog.underlying t=some (.struct fs))(h:Value.okWide prog w r b0 t v):jH v=true:=by
 simp only[Value.okWide,ht] at h
 obtain⟨cs,rfl,_⟩:=h
 rfl
end
section
variable {H:Type} {enc:TypeId×Value→H} {w:World}
theorem SH:prog.cellsOf 120=5:=by kernel_rfl
theorem D3(n:Nat):Reads enc prog w 3 n (fun k:Int=>.int .i64 k):=by
 intro cs x h
 obtain⟨k,rfl,_⟩:=DataW.trod_int aY h
 exact⟨k,aJC⟩
theorem aTY(n:Nat):Reads enc prog w 120 n bB:=by
 intro cs x h
 obtain⟨xs,m,rfl,_,hl,hx,hf⟩:=DataW.trod_struct aVY h
 rw[SH] at hl
 match cs,hl with
 | [c0,c1,c2,c3,c4],_=>
  obtain⟨y0,h0⟩:=pM hx hf 0 rfl
  obtain⟨y1,h1⟩:=pM hx hf 1 rfl
  replace h0:DataW.trod enc prog w 0 (fun _=>true) true m 118 ([c0,c1,c2,c3,c4].take (prog.cellsOf 118))=some y0:=h0
  replace h1:DataW.trod enc prog w 0 (fun _=>true) true m 23 ([c4].take (prog.cellsOf 23))=some y1:=h1
  rw[F0] at h0
  rw[K8] at h1
  obtain⟨⟨k,j,s,l⟩,e0⟩:=aGE _ _ _ h0
  obtain⟨b,e1⟩:=aGF _ _ _ h1
  refine⟨(.mk k j s l,b),?_⟩
  rw[k9]
  rw[aX] at e0
  unfold VC at e0
  unfold VC
  simp only[aV,List.cons.injEq] at e0 ⊢
  obtain⟨_,_,⟨rfl,rfl⟩,f0,_,_,⟨rfl,rfl⟩,f1,_,_,⟨rfl,rfl⟩,f2,_,_,⟨rfl,rfl⟩,f3,_⟩:=e0
  exact⟨_,_,⟨rfl,rfl⟩,f0,_,_,rfl,f1,_,_,rfl,f2,_,_,rfl,f3,_,_,rfl,e1,rfl⟩
theorem aTZ(n:Nat):Reads enc prog w 22 n (fun l:List Cl=>.slice (l.map bB)):=
 NP EU SH (by omega) fQ fun m _=>aTY m
theorem aWJ{r:Reach}{b0:Nat}{v:Value}(h:Value.okWide prog w r b0 3 v):jH v=false:=by
 cases v<;>first | rfl | (simp [Value.okWide,aY,Cell.okWide,Cell.ok] at h)
end
section
variable {H:Type} {enc:TypeId×Value→H} {w:World}
end
section
variable {H:Type} {enc:TypeId×Value→H} {w:World}
theorem aNQ:prog.cellsOf 22=1:=by kernel_rfl
theorem aNR:prog.cellsOf 25=6:=by kernel_rfl
theorem yN{h:a9}{st:aA}{a:AV}{es:List AV}{c:Value}{cs:List Value}(x:VC h st a [c])(y:aV h st es cs):aV h st (a::es) (c::cs):=by
 unfold aV;exact⟨c,cs,rfl,x,y⟩
theorem aJD{h:a9}{st:aA}:aV h st [] []:=by unfold aV;rfl
theorem aJB{h:a9}{st:aA}{es:List AV}{cs:List Value}:VC h st (.agg es) cs↔aV h st es cs:=by unfold VC;exact Iff.rfl
theorem aT0{n:Nat}{cs:List Value}{x:DataW H×List MemPlace}(h:DataW.trod enc prog w 0 (fun _=>true) true n 25 cs=some x):∃s,VC w.heap pJ (dE s) cs:=by
 obtain⟨xs,m,rfl,_,hl,hx,hf⟩:=DataW.trod_struct aVZ h
 rw[aNR] at hl
 match cs,hl with
 | [c0,c1,c2,c3,c4,c5],_=>
  obtain⟨y0,h0⟩:=pM hx hf 0 rfl
  obtain⟨y1,h1⟩:=pM hx hf 1 rfl
  obtain⟨y2,h2⟩:=pM hx hf 2 rfl
  obtain⟨y3,h3⟩:=pM hx hf 3 rfl
  obtain⟨y4,h4⟩:=pM hx hf 4 rfl
  obtain⟨y5,h5⟩:=pM hx hf 5 rfl
  replace h0:DataW.trod enc prog w 0 (fun _=>true) true m 22 ([c0,c1,c2,c3,c4,c5].take (prog.cellsOf 22))=some y0:=h0
  replace h1:DataW.trod enc prog w 0 (fun _=>true) true m 23 ([c1,c2,c3,c4,c5].take (prog.cellsOf 23))=some y1:=h1
  replace h2:DataW.trod enc prog w 0 (fun _=>true) true m 3 ([c2,c3,c4,c5].take (prog.cellsOf 3))=some y2:=h2
  replace h3:DataW.trod enc prog w 0 (fun _=>true) true m 3 ([c3,c4,c5].take (prog.cellsOf 3))=some y3:=h3
  replace h4:DataW.trod enc prog w 0 (fun _=>true) true m 3 ([c4,c5].take (prog.cellsOf 3))=some y4:=h4
  replace h5:DataW.trod enc prog w 0 (fun _=>true) true m 3 ([c5].take (prog.cellsOf 3))=some y5:=h5
  rw[aNQ] at h0
  rw[K8] at h1
  rw[SI] at h2 h3 h4 h5
  obtain⟨p,e0⟩:=aTZ _ _ _ h0
  obtain⟨q,e1⟩:=aGF _ _ _ h1
  obtain⟨k2,e2⟩:=D3 _ _ _ h2
  obtain⟨k3,e3⟩:=D3 _ _ _ h3
  obtain⟨k4,e4⟩:=D3 _ _ _ h4
  obtain⟨k5,e5⟩:=D3 _ _ _ h5
  exact⟨⟨p,q,k2,k3,k4,k5⟩,aJB.2 (yN e0 (yN e1 (yN e2 (yN e3 (yN e4 (yN e5 aJD))))))⟩
end
end Go.AW
