/- Loops whose frame is kept, lists that are walked, lists that grow. -/
import Derived.Test.YtieofkhcboolkaaGreatDoorKqe
set_option linter.unusedSimpArgs false
set_option linter.unusedVariables false
set_option maxRecDepth 100000
namespace Go.AW
def fS(φ:AF):List Nat→List (Nat×AV)→List (Nat×AV)
 | [],l=>l
 | d::ds,l=>(d,φ d)::fS φ ds l
theorem LR{φ:AF}{l:List (Nat×AV)}:fS φ [] l=l:=rfl
theorem LS{φ:AF}{d:Nat}{ds:List Nat}{l:List (Nat×AV)}:fS φ (d::ds) l=(d,φ d)::fS φ ds l:=rfl
theorem fW{P:Program}{N:Nat}{c:Code}{Q:Exit→AF→aA→Prop}{φ:AF}{st:aA}{α σ:Type}(mt:List Nat)(cQ:List Nat)(l:List α)(inv:Nat→σ→Prop)(ch:Nat→σ→List (Nat×AV))(so:Nat→σ→aA)
 (hok:codeOk N c=true)
 (h0:∃s,inv 0 s∧aL φ st (fS φ cQ (ch 0 s)) (so 0 s))
 (h1:∀i x s,l[i]?=some x→i<l.length→((i:Int)<(l.length:Int))→l.drop i=x::l.drop (i+1)→inv i s→dD P N mt c (jT (fun φ' st'=>∃s',inv (i+1) s'∧aL φ' st' (fS φ cQ (ch (i+1) s')) (so (i+1) s')) Q) (nQ (fS φ cQ (ch i s))) (so i s))
 (h2:∀s,¬((l.length:Int)<(l.length:Int))→inv l.length s→dD P N mt c (jT (fun _ _=>False) Q) (nQ (fS φ cQ (ch l.length s))) (so l.length s)):dT P N (.loop c) Q φ st:=by
 have iA:∀(k:AF→aA→Prop) (i:Nat) (s:σ),(∀φ' st',(∃s',inv (i+1) s'∧aL φ' st' (fS φ cQ (ch (i+1) s')) (so (i+1) s'))→k φ' st') →
  dT P N c (jT (fun φ' st'=>∃s',inv (i+1) s'∧aL φ' st' (fS φ cQ (ch (i+1) s')) (so (i+1) s')) Q) (fC (fS φ cQ (ch i s))) (so i s) →
  dT P N c (jT k Q) (fC (fS φ cQ (ch i s))) (so i s):=by
  intro k i s hk hr a w R
  refine wp_mono (hr a w R) ?_
  rintro e a' w' ⟨φ',st',R',T,sm,q⟩
  refine⟨φ',st',R',T,sm,?_⟩
  cases e with
  | normal=>exact hk _ _ q
  | _=>exact q
 refine AZ (α:=Nat×σ) (fun p=>p.1≤l.length∧inv p.1 p.2) (fun p=>fC (fS φ cQ (ch p.1 p.2))) (fun p=>so p.1 p.2) (fun p=>l.length - p.1) ?_ ?_
 · obtain⟨s,hs,hl⟩:=h0
   exact⟨(0,s),⟨i7 _,hs⟩,hl⟩
 · rintro⟨i,s⟩ ⟨hi,hs⟩
   simp only at hi hs ⊢
   rcases iZ i l.length with hlt | hge
   · refine iA _ i s ?_ (uD mt hok (h1 i l[i] s (eA hlt) hlt (by omega) (q7 hlt) hs))
     rintro φ' st' ⟨s',h1',h2'⟩
     exact⟨(i+1,s'),by simp only;omega,⟨by simp only;omega,h1'⟩,h2'⟩
   · obtain rfl:i=l.length:=by omega
     intro a w R
     refine wp_mono (uD mt hok (h2 s (by omega) hs) a w R) ?_
     rintro e a' w' ⟨φ',st',R',T,sm,q⟩
     refine⟨φ',st',R',T,sm,?_⟩
     cases e with
     | normal=>exact q.elim
     | _=>exact q
theorem fH{P:Program}{N:Nat}{c:Code}{Q:Exit→AF→aA→Prop}{φ:AF}{st:aA}{σ:Type}(mt:List Nat)(cQ:List Nat)(inv:σ→Prop)(ch:σ→List (Nat×AV))(so:σ→aA)(μ:σ→Nat)
 (hok:codeOk N c=true)
 (h0:∃s,inv s∧aL φ st (fS φ cQ (ch s)) (so s))
 (h1:∀s,inv s→dD P N mt c (jT (fun φ' st'=>∃s',μ s'<μ s∧inv s'∧aL φ' st' (fS φ cQ (ch s')) (so s')) Q) (nQ (fS φ cQ (ch s))) (so s)):dT P N (.loop c) Q φ st:=
 pG mt inv (fun s=>fS φ cQ (ch s)) so μ hok h0 h1
theorem aW{b:Bool}{p q:Prop}(h1:b=true→p)(h2:b=false→q):(b=true→p)∧(b=false→q):=⟨h1,h2⟩
theorem LY{P:Program}{t:TypeId}{s:ByteArray}:l9 P t (.str s)=match P.underlying t with | some .string=>some (.int .i64 s.size) | _=>none:=rfl
theorem LX{P:Program}{t:TypeId}{es:List AV}:l9 P t (.slice es)=match P.underlying t with | some (.slice _)=>some (.int .i64 es.length) | _=>none:=rfl
theorem LU{P:Program}{t:TypeId}{es:List AV}:l9 P t (.fslice es)=match P.underlying t with | some (.slice _)=>some (.int .i64 es.length) | _=>none:=rfl
theorem LW{P:Program}{t:TypeId}{b o n w:Nat}:l9 P t (.mslice b o n w)=match P.underlying t with | some (.slice _)=>some (.int .i64 n) | _=>none:=rfl
def aT(w b:Nat):List AV→AV
 | []=>.fslice []
 | x::l=>.mslice b 0 (x::l).length w
def aY(st:aA)(b:Nat):List AV→aA
 | []=>st
 | x::l=>st.aC b (.cells ((x::l).flatMap AV.cells))
theorem kJ{w b:Nat}:aT w b []=.fslice []:=rfl
theorem pQ{st:aA}{b:Nat}:aY st b []=st:=rfl
theorem lE{w b:Nat}{l:List AV}(h:l≠[]):aT w b l=.mslice b 0 l.length w:=by cases l<;>first | exact absurd rfl h | rfl
theorem oF{st:aA}{b:Nat}{l:List AV}(h:l≠[]):aY st b l=st.aC b (.cells (l.flatMap AV.cells)):=by cases l<;>first | exact absurd rfl h | rfl
theorem pP{st:aA}{b x:Nat}{l:List AV}(h:x≠b):aY st b l x=st x:=by cases l<;>first | rfl | exact aA.aV _ _ h
theorem AS{st:aA}{b x:Nat}{l:List AV}(h:aY st b l x=none):st x=none∧(l≠[]→x≠b):=by
 cases l with
 | nil=>exact⟨h,fun h=>absurd rfl h⟩
 | cons y l=>
  simp only[aY,aA.aC] at h
  split at h
  · cases h
  · rename_i hn;exact⟨h,fun _=>hn⟩
theorem rP{w b:Nat}{l:List AV}:(aT w b l).bP=false:=by cases l<;>rfl
theorem iM{w b:Nat}{l:List AV}:(aT w b l).isAgg=false:=by cases l<;>rfl
theorem jN{w b:Nat}{l:List AV}:(aT w b l).cells= [aT w b l]:=by cases l<;>rfl
theorem c5{w b:Nat}{l:List AV}:(aT w b l).storable=true:=by cases l<;>rfl
theorem t7{P:Program}{t e:TypeId}{w b:Nat}{l:List AV}(h:P.underlying t=some (.slice e)):l9 P t (aT w b l)=some (.int .i64 (l.length:Int)):=by
 cases l<;>simp [aT,l9,h]
theorem eH{P:Program}{t:TypeId}{ag:Bool}{w bytes:Nat}{zs:List AV}{st:aA}{b:Nat}{l xs:List AV}{x:AV}{K:AV→aA→Prop}
 (hI:eI P t=some (ag,w)) (hB:eB P t=some bytes) (hZ:eZ P t=some zs) (hz:zs.length=w) (hx:wT x=some xs) (eK:uC w xs) (hw:∀e∈l,e.width=w) (hb:l≠[]→st b=none)
 (h1:(l.length+xs.length)*bytes≤140737488355328) (h2:l.length+xs.length≤9223372036854775807)
 (hK:∀b',(l++xs≠[]→st b'=none)→K (aT w b' (l++xs)) (aY st b' (l++xs))):iL P t (aY st b l) (aT w b l) x K:=by
 unfold iL
 rw[hI,hB,hZ,hx]
 refine⟨hz,eK,?_⟩
 cases l with
 | nil=>
  show _∧_∧_∧_∧_
  refine⟨by simpa using h1,by simpa using h2,by simp,?_,?_⟩
  · rintro rfl
    have:=hK b (by simp)
    simpa [aT,aY] using this
  · intro hne b' hb'
    have:=hK b' (fun _=>hb')
    rw[dB,lE hne,oF hne] at this
    simpa [aY] using this
 | cons y l=>
  have hb:=hb (by simp)
  show w=w∧_∧_∧_
  refine⟨rfl,h1,h2,?_⟩
  have hfl:((y::l).flatMap AV.cells).length=(y::l).length*w:=mJ hw
  simp only[aY,aA.aP]
  refine⟨by rw[hfl];exact dJ _,?_,?_⟩
  · have:=hK b (fun _=>hb)
    rw[lE (by simp),oF (by simp),wG,dI] at this
    rw[bM,←hfl,fZ]
    exact this
  · intro b' hb'
    have hne:b'≠b:=by rintro rfl;rw[aA.aP] at hb';cases hb'
    rw[aA.aV _ _ hne] at hb'
    have:=hK b' (fun _=>hb')
    rw[lE (by simp),oF (by simp),wG,dI] at this
    rw[aA.pV _ _ _ hb,←hfl,fZ]
    exact this
def AV.fin(b:Nat)(l:List AV)(r:AV):AV:=if l.isEmpty=true then r.soft else(r.fz b l).soft
theorem eG{w b:Nat}{l:List AV}:(aT w b l).fin b l=.slice l:=by cases l<;>simp [aT,AV.fin,AV.fz,AV.soft]
theorem o6:∀cs:List AV,dX cs=cs.map AV.soft
 | []=>rfl
 | c::cs=>by simp [dX,o6 cs]
theorem xU{b:Nat}{l:List AV}:∀cs:List AV,j7 b l cs=cs.map (AV.fz b l)
 | []=>rfl
 | c::cs=>by simp [j7,xU cs]
theorem eC{b:Nat}{l:List AV}{cs:List AV}:(AV.agg cs).fin b l=.agg (cs.map (AV.fin b l)):=by
 unfold AV.fin
 split
 · simp [AV.soft,o6]
 · simp [AV.fz,AV.soft,o6,xU]
theorem mI{b:Nat}{l:List AV}{cs:List AV}:(AV.tup cs).fin b l=.tup (cs.map (AV.fin b l)):=by
 unfold AV.fin
 split
 · simp [AV.soft,o6]
 · simp [AV.fz,AV.soft,o6,xU]
theorem dQ{b:Nat}{l:List AV}{k:IntKind}{n:Int}:(AV.int k n).fin b l=.int k n:=by unfold AV.fin;split<;>rfl
theorem QI{b:Nat}{l:List AV}{n:Bool}:(AV.bool n).fin b l=.bool n:=by unfold AV.fin;split<;>rfl
theorem d7{b:Nat}{l:List AV}{s:ByteArray}:(AV.str s).fin b l=.str s:=by unfold AV.fin;split<;>rfl
theorem j5{b:Nat}{l:List AV}{s:List AV}:(AV.slice s).fin b l=.slice s:=by unfold AV.fin;split<;>rfl
theorem r7{b:Nat}{l:List AV}{s:List AV}:(AV.fslice s).fin b l=.slice s:=by unfold AV.fin;split<;>rfl
theorem BV{b:Nat}{l:List AV}{e:AV}:(AV.pptr e).fin b l=.pptr e:=by unfold AV.fin;split<;>rfl
theorem aBD{b c o:Nat}{l:List AV}:(AV.ptr c o).fin b l=.ptr c o:=by unfold AV.fin;split<;>rfl
theorem aD.fin{P:Program}{g:FuncId}{args:List AV}{st:aA}{Q:AV→aA→Prop}
 (x:aD P g args st (fun r st'=>∃b l s0,st'=aY s0 b l∧(l≠[]→s0 b=none)∧(∀e∈l,e.bP=false)∧eW l∧Q (r.fin b l) s0)):aD P g args st Q:=
 x.iA fun r st' ⟨b,l,s0,h1,h0,h2,h3,h4⟩=>by
  cases l with
  | nil=>
   exact⟨r.fin b [],st',(aH.refl _).lX,fun h v S y=>y.soft,by have e:st'=s0:=h1;rw[e];exact h4⟩
  | cons e l=>
   have hb:=h0 (by simp)
   subst h1
   have h1:aY s0 b (e::l) b=some (.cells ((e::l).flatMap AV.cells)):=by simp only[aY,aA.aP]
   have e1:(aY s0 b (e::l)).erase b=s0:=by simp only[aY];exact aA.pV _ _ _ hb
   refine⟨r.fin b (e::l),s0,?_,fun h v S y=>?_,h4⟩
   · have:=(eP (aY s0 b (e::l)) b).lX
     rwa [e1] at this
   · have:=y.fz S h1 h2 h3
     rw[e1] at this
     exact this.soft
mutual
def AV.jW:AV→Bool
 | .slice _=>false
 | .fslice es=>es.isEmpty
 | .pptr _=>false
 | .agg cs=>iT cs
 | .tup vs=>iT vs
 | .func _ cs=>iT cs
 | _=>true
def iT:List AV→Bool
 | []=>true
 | a::as=>a.jW&&iT as
end
def AO.jW:AO→Prop
 | .cells cs=>iT cs=true
 | .map f=>∀n a,f n=some a→a.jW=true
 | .tab _=>True
section
variable {h:aN} {st st':aA}
end
def aA.frame(st s0 s1:aA):aA:=fun b=>match s0 b,st b with
 | none,some o=>some o
 | _,_=>s1 b
def g7:aA:=fun _=>none
mutual
def bZ(st:aA):AV→AV→List Nat→Prop
 | .int k n,o,bs=>o=.int k n∧bs= []
 | .bool b,o,bs=>o=.bool b∧bs= []
 | .str s,o,bs=>o=.str s∧bs= []
 | .agg cs,o,bs=>∃os,o=.agg os∧b8 st cs os bs
 | .slice es,o,bs=>(es= []∧o=.fslice []∧bs= [])∨∃b bs' os w,o=.mslice b 0 es.length w∧bs=b::bs'∧st b=some (.cells (os.flatMap AV.cells))∧b8 st es os bs'∧(∀e∈es,e.width=w)
 | _,_,_=>False
def b8(st:aA):List AV→List AV→List Nat→Prop
 | [],os,bs=>os= []∧bs= []
 | a::as,os,bs=>∃o os' b1 b2,os=o::os'∧bs=b1++b2∧bZ st a o b1∧b8 st as os' b2
end
theorem b8.length{st:aA}:∀ {as os:List AV} {bs:List Nat},b8 st as os bs→os.length=as.length
 | [],os,bs,x=>by simp only[b8] at x;simp [x.1]
 | a::as,os,bs,x=>by
  simp only[b8] at x
  obtain⟨o,os',b1,b2,rfl,rfl,_,x2⟩:=x
  simp [b8.length x2]
theorem bZ.shape{st:aA}:∀ {a o:AV} {bs:List Nat},bZ st a o bs→o.isAgg=a.isAgg∧o.width=a.width∧o.bP=false∧(∀cs,a=.agg cs→∃os,o=.agg os)
 | .int k n,o,bs,x=>by simp only[bZ] at x;rw[x.1];exact⟨rfl,rfl,rfl,by simp⟩
 | .bool b,o,bs,x=>by simp only[bZ] at x;rw[x.1];exact⟨rfl,rfl,rfl,by simp⟩
 | .str s,o,bs,x=>by simp only[bZ] at x;rw[x.1];exact⟨rfl,rfl,rfl,by simp⟩
 | .agg cs,o,bs,x=>by
  simp only[bZ] at x
  obtain⟨os,rfl,x⟩:=x
  exact⟨rfl,x.length,rfl,fun _ _=>⟨os,rfl⟩⟩
 | .slice es,o,bs,x=>by
  simp only[bZ] at x
  rcases x with ⟨_,rfl,_⟩ | ⟨b,bs',os,w,rfl,_⟩<;>exact⟨rfl,rfl,rfl,by simp⟩
 | .junk,_,_,x=>x.elim
 | .undef,_,_,x=>x.elim
 | .tup _,_,_,x=>x.elim
 | .fslice _,_,_,x=>x.elim
 | .mslice _ _ _ _,_,_,x=>x.elim
 | .nilptr,_,_,x=>x.elim
 | .ptr _ _,_,_,x=>x.elim
 | .pptr _,_,_,x=>x.elim
 | .nilmap,_,_,x=>x.elim
 | .map _,_,_,x=>x.elim
 | .func _ _,_,_,x=>x.elim
 | .raw _,_,_,x=>x.elim
 | .eslice,_,_,x=>x.elim
section
variable {st st':aA}
mutual
theorem bZ.cQ:∀(a o:AV) (bs:List Nat),(∀b∈bs,st' b=st b)→bZ st a o bs→bZ st' a o bs
 | .int k n,o,bs,_,x=>x
 | .bool b,o,bs,_,x=>x
 | .str s,o,bs,_,x=>x
 | .agg cs,o,bs,h,x=>by
  simp only[bZ] at x ⊢
  obtain⟨os,e,x⟩:=x
  exact⟨os,e,b8.cQ cs os bs h x⟩
 | .slice es,o,bs,h,x=>by
  simp only[bZ] at x ⊢
  rcases x with x | ⟨b,bs',os,w,e1,rfl,e2,x,e3⟩
  · exact .inl x
  · exact .inr ⟨b,bs',os,w,e1,rfl,(h b (by simp)).trans e2,b8.cQ es os bs' (fun q hq=>h q (by simp [hq])) x,e3⟩
 | .junk,_,_,_,x=>x
 | .undef,_,_,_,x=>x
 | .tup _,_,_,_,x=>x
 | .fslice _,_,_,_,x=>x
 | .mslice _ _ _ _,_,_,_,x=>x
 | .nilptr,_,_,_,x=>x
 | .ptr _ _,_,_,_,x=>x
 | .pptr _,_,_,_,x=>x
 | .nilmap,_,_,_,x=>x
 | .map _,_,_,_,x=>x
 | .func _ _,_,_,_,x=>x
 | .raw _,_,_,_,x=>x
 | .eslice,_,_,_,x=>x
theorem b8.cQ:∀(as os:List AV) (bs:List Nat),(∀b∈bs,st' b=st b)→b8 st as os bs→b8 st' as os bs
 | [],os,bs,_,x=>x
 | a::as,os,bs,h,x=>by
  simp only[b8] at x ⊢
  obtain⟨o,os',b1,b2,e1,rfl,x1,x2⟩:=x
  exact⟨o,os',b1,b2,e1,rfl,bZ.cQ a o b1 (fun q hq=>h q (by simp [hq])) x1,b8.cQ as os' b2 (fun q hq=>h q (by simp [hq])) x2⟩
end
mutual
theorem bZ.jW:∀(a o:AV) (bs:List Nat),bZ st a o bs→o.jW=true∧o.cells.all AV.storable=o.cells.all AV.storable∧∀b∈bs,∃cs,st b=some (.cells cs)∧iT cs=true
 | .int k n,o,bs,x=>by simp only[bZ] at x;rw[x.1,x.2];exact⟨rfl,rfl,by simp⟩
 | .bool b,o,bs,x=>by simp only[bZ] at x;rw[x.1,x.2];exact⟨rfl,rfl,by simp⟩
 | .str s,o,bs,x=>by simp only[bZ] at x;rw[x.1,x.2];exact⟨rfl,rfl,by simp⟩
 | .agg cs,o,bs,x=>by
  simp only[bZ] at x
  obtain⟨os,rfl,x⟩:=x
  obtain⟨h1,h2⟩:=b8.jW cs os bs x
  exact⟨by simpa [AV.jW] using h1.1,rfl,h2⟩
 | .slice es,o,bs,x=>by
  simp only[bZ] at x
  rcases x with ⟨_,rfl,rfl⟩ | ⟨b,bs',os,w,rfl,rfl,e2,x,e3⟩
  · exact⟨rfl,rfl,by simp⟩
  · obtain⟨h1,h2⟩:=b8.jW es os bs' x
    refine⟨rfl,rfl,fun q hq=>?_⟩
    rcases dS.1 hq with rfl | hq
    · exact⟨_,e2,h1.2⟩
    · exact h2 q hq
 | .junk,_,_,x=>x.elim
 | .undef,_,_,x=>x.elim
 | .tup _,_,_,x=>x.elim
 | .fslice _,_,_,x=>x.elim
 | .mslice _ _ _ _,_,_,x=>x.elim
 | .nilptr,_,_,x=>x.elim
 | .ptr _ _,_,_,x=>x.elim
 | .pptr _,_,_,x=>x.elim
 | .nilmap,_,_,x=>x.elim
 | .map _,_,_,x=>x.elim
 | .func _ _,_,_,x=>x.elim
 | .raw _,_,_,x=>x.elim
 | .eslice,_,_,x=>x.elim
theorem b8.jW:∀(as os:List AV) (bs:List Nat),b8 st as os bs→(iT os=true∧iT (os.flatMap AV.cells)=true)∧∀b∈bs,∃cs,st b=some (.cells cs)∧iT cs=true
 | [],os,bs,x=>by simp only[b8] at x;rw[x.1,x.2];exact⟨⟨rfl,rfl⟩,by simp⟩
 | a::as,os,bs,x=>by
  simp only[b8] at x
  obtain⟨o,os',b1,b2,rfl,rfl,x1,x2⟩:=x
  obtain⟨h1,_,h2⟩:=bZ.jW a o b1 x1
  obtain⟨⟨h3,h4⟩,h5⟩:=b8.jW as os' b2 x2
  have xW:∀(p q:List AV),iT p=true→iT q=true→iT (p++q)=true:=by
   intro p q hp hq
   induction p with
   | nil=>exact hq
   | cons c p ih=>simp only[iT,bV,dM] at hp ⊢;exact⟨hp.1,ih hp.2⟩
  have hc:iT o.cells=true:=by cases o<;>first | (simpa [AV.cells,iT] using h1) | (simpa [AV.cells,AV.jW] using h1)
  refine⟨⟨by simp [iT,h1,h3],by rw[wH];exact xW _ _ hc h4⟩,fun q hq=>?_⟩
  rcases iY.1 hq with hq | hq
  · exact h2 q hq
  · exact h5 q hq
end
end
section
variable {h:aN} {st s0:aA}
mutual
theorem bZ.view(S:bQ h st)(D:aH st s0):∀(a o:AV) (bs:List Nat) (cs:List Value),bZ st a o bs→(∀b∈bs,s0 b=none)→VC h st o cs→VC h s0 a cs
 | .int k n,o,bs,cs,x,_,y=>by simp only[bZ] at x;rw[x.1] at y;exact y
 | .bool b,o,bs,cs,x,_,y=>by simp only[bZ] at x;rw[x.1] at y;exact y
 | .str s,o,bs,cs,x,_,y=>by simp only[bZ] at x;rw[x.1] at y;exact y
 | .agg as,o,bs,cs,x,hb,y=>by
  simp only[bZ] at x
  obtain⟨os,rfl,x⟩:=x
  simp only[VC] at y ⊢
  exact b8.UN S D as os bs cs x hb y
 | .slice es,o,bs,cs,x,hb,y=>by
  simp only[bZ] at x
  rcases x with ⟨rfl,rfl,rfl⟩ | ⟨b,bs',os,w,rfl,rfl,e2,x,e3⟩
  · unfold VC at y ⊢
    rcases y with y | ⟨b,off,e,_⟩
    · exact .inl y
    · exact .inl ⟨⟨_,e⟩,rfl⟩
  · simp only[VC] at y
    obtain⟨cap,e,l1,l2,_⟩:=y
    obtain⟨hlt,c,t,q1,q2,vs,q3,q4⟩:=S b _ e2
    have hsh:=b8.SP x
    unfold VC
    refine .inr ⟨b,0,cap,e,l1,l2,hb b (by simp),hlt,⟨w,e3⟩,b8.UO S D b es os bs' 0 x (fun q hq=>hb q (by simp [hq])) (wO (fun q hq=>hsh q hq) q3 q4)⟩
 | .junk,_,_,_,x,_,_=>x.elim
 | .undef,_,_,_,x,_,_=>x.elim
 | .tup _,_,_,_,x,_,_=>x.elim
 | .fslice _,_,_,_,x,_,_=>x.elim
 | .mslice _ _ _ _,_,_,_,x,_,_=>x.elim
 | .nilptr,_,_,_,x,_,_=>x.elim
 | .ptr _ _,_,_,_,x,_,_=>x.elim
 | .pptr _,_,_,_,x,_,_=>x.elim
 | .nilmap,_,_,_,x,_,_=>x.elim
 | .map _,_,_,_,x,_,_=>x.elim
 | .func _ _,_,_,_,x,_,_=>x.elim
 | .raw _,_,_,_,x,_,_=>x.elim
 | .eslice,_,_,_,x,_,_=>x.elim
theorem b8.UN(S:bQ h st)(D:aH st s0):∀(as os:List AV) (bs:List Nat) (cs:List Value),b8 st as os bs→(∀b∈bs,s0 b=none)→aJ h st os cs→aJ h s0 as cs
 | [],os,bs,cs,x,_,y=>by simp only[b8] at x;rw[x.1] at y;exact y
 | a::as,os,bs,cs,x,hb,y=>by
  simp only[b8] at x
  obtain⟨o,os',b1,b2,rfl,rfl,x1,x2⟩:=x
  simp only[aJ] at y ⊢
  obtain⟨c,r,e,y1,y2⟩:=y
  exact⟨c,r,e,bZ.view S D a o b1 [c] x1 (fun q hq=>hb q (by simp [hq])) y1,b8.UN S D as os' b2 r x2 (fun q hq=>hb q (by simp [hq])) y2⟩
theorem b8.UO(S:bQ h st)(D:aH st s0)(b:Nat):∀(as os:List AV) (bs:List Nat) (off:Nat),b8 st as os bs→(∀b∈bs,s0 b=none)→bY h st b off os→bY h s0 b off as
 | [],os,bs,off,x,_,y=>by simp only[bY]
 | a::as,os,bs,off,x,hb,y=>by
  simp only[b8] at x
  obtain⟨o,os',b1,b2,rfl,rfl,x1,x2⟩:=x
  simp only[bY] at y ⊢
  obtain⟨⟨cs,y1,y2,y3⟩,y4⟩:=y
  have hw:=(bZ.shape x1).2.1
  rw[hw] at y2 y4
  exact⟨⟨cs,y1,y2,bZ.view S D a o b1 cs x1 (fun q hq=>hb q (by simp [hq])) y3⟩,b8.UO S D b as os' b2 _ x2 (fun q hq=>hb q (by simp [hq])) y4⟩
theorem b8.SP:∀ {as os:List AV} {bs:List Nat},b8 st as os bs→∀o∈os,o.bP=false
 | [],os,bs,x=>by simp only[b8] at x;rw[x.1];simp
 | a::as,os,bs,x=>by
  simp only[b8] at x
  obtain⟨o,os',b1,b2,rfl,rfl,x1,x2⟩:=x
  intro q hq
  rcases dS.1 hq with rfl | hq
  · exact(bZ.shape x1).2.2.1
  · exact b8.SP x2 q hq
end
theorem bZ.aGN(S:bQ h st)(D:aH st s0){a o:AV}{bs:List Nat}{v:Value}(x:bZ st a o bs)(hb:∀b∈bs,s0 b=none)(y:aE h st o v):aE h s0 a v:=by
 have hs:=x.shape
 have key:o.isAgg=gV v∧VC h st o v.cells.toList:=by
  cases o<;>first | exact y | simp [AV.bP] at hs
 have z:a.isAgg=gV v∧VC h s0 a v.cells.toList:=⟨hs.1.symm.trans key.1,bZ.view S D _ _ _ _ x hb key.2⟩
 cases ha:a<;>rw[ha] at z<;>first | trivial | exact z
end
def Made(st:aA)(a r:AV)(st':aA):Prop:=∃bs:List Nat,bs.Nodup∧(∀b∈bs,st b=none)∧bZ st' a r bs∧∀b,b∉bs→st' b=st b
theorem aD.made{P:Program}{g:FuncId}{args:List AV}{st:aA}{a:AV}(x:aD P g args st (Made st a)):aD P g args st (fun r st'=>r=a∧st'=st):=
 x.iA fun r st' ⟨bs,_,h2,h3,h4⟩=>by
  have D:aH st' st:=fun b=>⟨fun e=>by
   by_cases hb:b∈bs
   · exact h2 b hb
   · rw[←h4 b hb];exact e,fun o e=>by
   by_cases hb:b∈bs
   · rw[h2 b hb] at e;cases e
   · rw[h4 b hb];exact e⟩
  exact⟨a,st,D.lX,fun h v S y=>h3.aGN S D h2 y,rfl,rfl⟩
theorem B4{P:Program}{t:TypeId}{ag:Bool}{b len w i:Nat}(hI:eI P t=some (ag,w))(hi:i<len):gZ P t (.mslice b 0 len w) (.int .i64 (i:Int))=some (.ptr b (i*w)):=by
 simp only[gZ,hI,jZ,eX]
 rw[aU ⟨by omega,by omega,trivial⟩]
theorem bZ.EK{st:aA}:∀ {cs os:List AV} {bs:List Nat},b8 st cs os bs→(∀c∈cs,c.isAgg=false)→os.all AV.storable=true∧os.flatMap AV.cells=os
 | [],os,bs,x,_=>by simp only[b8] at x;rw[x.1];simp
 | a::as,os,bs,x,h=>by
  simp only[b8] at x
  obtain⟨o,os',b1,b2,rfl,rfl,x1,x2⟩:=x
  have ih:=bZ.EK x2 (fun c hc=>h c (by simp [hc]))
  have ha:=h a (by simp)
  have ho:o.storable=true∧o.cells= [o]:=by
   cases a<;>simp only[bZ] at x1<;>try exact x1.elim
   case int=>rw[x1.1];exact⟨rfl,rfl⟩
   case bool=>rw[x1.1];exact⟨rfl,rfl⟩
   case str=>rw[x1.1];exact⟨rfl,rfl⟩
   case agg=>simp [AV.isAgg] at ha
   case slice=>rcases x1 with ⟨_,rfl,_⟩ | ⟨b,bs',os,w,rfl,_⟩<;>exact⟨rfl,rfl⟩
  rw[iX,ho.1,ih.1,wH,ih.2,ho.2]
  exact⟨rfl,rfl⟩
theorem b8.snoc{st st':aA}{a o:AV}{b2:List Nat}:∀ {as os:List AV} {b1:List Nat},b8 st as os b1→(∀b∈b1,st' b=st b)→bZ st' a o b2→b8 st' (as++ [a]) (os++ [o]) (b1++b2)
 | [],os,b1,x,_,y=>by
  simp only[b8] at x
  rw[x.1,x.2]
  simp only[dB,b8]
  exact⟨o,[],b2,[],rfl,by simp,y,rfl,rfl⟩
 | c::as,os,b1,x,h,y=>by
  simp only[b8] at x
  obtain⟨o1,os',b3,b4,rfl,rfl,x1,x2⟩:=x
  simp only[dM,b8]
  exact⟨o1,os'++ [o],b3,b4++b2,rfl,by simp,bZ.cQ _ _ _ (fun q hq=>h q (by simp [hq])) x1,b8.snoc x2 (fun q hq=>h q (by simp [hq])) y⟩
def UU(st:aA)(ds:List Nat)(a r:AV)(st':aA):Prop:=∃bs:List Nat,bs.Nodup∧(∀b∈bs,st b=none)∧(∀d∈ds,st d=none∧d∉bs)∧bZ st' a r bs∧∀b,b∉bs→b∉ds→st' b=st b
theorem aD.aDI{P:Program}{g:FuncId}{args:List AV}{st:aA}{a:AV}(x:aD P g args st (fun r st'=>∃ds,UU st ds a r st')):aD P g args st (Made st a):=
 x.iA fun r st' ⟨ds,bs,h1,h2,hd,h3,h4⟩=>by
  refine⟨r,fun q=>if q∈ds then none else st' q,?_,?_,bs,h1,h2,?_,fun b hb=>?_⟩
  · have D:aH st' (fun q=>if q∈ds then none else st' q):=fun q=>by
     by_cases hq:q∈ds
     · simp only[hq,fD];exact⟨fun _=>trivial,fun o h=>by cases h⟩
     · simp only[hq,cP];exact⟨id,fun o h=>h⟩
    exact D.lX
  · have D:aH st' (fun q=>if q∈ds then none else st' q):=fun q=>by
     by_cases hq:q∈ds
     · simp only[hq,fD];exact⟨fun _=>trivial,fun o h=>by cases h⟩
     · simp only[hq,cP];exact⟨id,fun o h=>h⟩
    exact D.iA r
  · exact bZ.cQ _ _ _ (fun q hq=>aS fun h=>(hd q h).2 hq) h3
  · by_cases hq:b∈ds
    · simp only[hq,fD];exact(hd b hq).1.symm
    · simp only[hq,cP];exact h4 b hb hq
def rO(b:Nat):List AV→List Nat
 | []=>[]
 | _::_=>[b]
def AV.flat:AV→Bool
 | .int _ _ | .bool _ | .str _=>true
 | _=>false
theorem aD.oN{P:Program}{g:FuncId}{args:List AV}{st:aA}{r:AV}(x:aD P g args st (fun r' st'=>r'=r∧aH st' st)):aD P g args st (fun r' st'=>r'=r∧st'=st):=
 (x.mono fun _ _ h=>⟨h.2,h.1⟩).drop
theorem U7{P:Program}{t:TypeId}{st:aA}{s x:AV}{K K':AV→aA→Prop}(h:∀r s,K r s→K' r s)(e:iL P t st s x K):iL P t st s x K':=by
 unfold iL at *
 split at e
 case h_2=>exact e.elim
 refine⟨e.1,e.2.1,?_⟩
 have e:=e.2.2
 split at e
 · exact⟨e.1,e.2.1,e.2.2.1,fun q=>h _ _ (e.2.2.2.1 q),fun q b hb=>h _ _ (e.2.2.2.2 q b hb)⟩
 · refine⟨e.1,e.2.1,e.2.2.1,?_⟩
   have e:=e.2.2.2
   split at e
   · exact⟨e.1,h _ _ e.2.1,fun b hb=>h _ _ (e.2.2 b hb)⟩
   · exact e.elim
 · exact e.elim
theorem U6{P:Program}{t t':TypeId}{st:aA}{s x:AV}{K K':AV→aA→Prop}(h:∀r s,K r s→K' r s)(e:pN P t t' st s x K):pN P t t' st s x K':=by
 unfold pN at *
 split at e
 case h_2=>exact e.elim
 refine⟨e.1,e.2.1,e.2.2.1,e.2.2.2.1,?_⟩
 have e:=e.2.2.2.2
 split at e
 · exact⟨e.1,e.2.1,e.2.2.1,fun q=>h _ _ (e.2.2.2.1 q),fun q b hb=>h _ _ (e.2.2.2.2 q b hb)⟩
 · refine⟨e.1,e.2.1,e.2.2.1,?_⟩
   have e:=e.2.2.2
   split at e
   · exact⟨e.1,h _ _ e.2.1,fun b hb=>h _ _ (e.2.2 b hb)⟩
   · exact e.elim
 · exact e.elim
theorem rN{P:Program}{mt:List Nat}{φ:AF}{st:aA}{o:Oper}{K K':AV→aA→Prop}(h:∀r s,K r s→K' r s)(e:cW P mt φ st o K):cW P mt φ st o K':=by
 unfold cW at *
 split at e
 · split at e
   · exact e.mono h
   · exact e.elim
 · split at e
   · split at e
     · rename_i ht;rw[aU ht];exact U7 h e
     · rename_i ht;rw[aS ht];exact U6 h e
   · exact e.elim
 · split at e
   · unfold tV at *
     split at e
     · split at e
       · exact h _ _ e
       · exact e.elim
     · exact e.elim
   · exact e.elim
 · split at e
   · unfold nA at *
     split at e
     · obtain⟨e1,e2,e3,e4,e5⟩:=e
       refine⟨e1,e2,e3,e4,?_⟩
       split at e5
       · exact⟨e5.1,h _ _ e5.2⟩
       · exact e5.elim
     · exact h _ _ e
     · exact e.elim
   · exact e.elim
 · split at e
   · rename_i hm
     rw[aU hm]
     exact⟨e.1,fun b hb=>h _ _ (e.2 b hb)⟩
   · rename_i hm
     rw[aS hm]
     split at e
     · exact h _ _ e
     · exact e.elim
 · split at e
   · exact fun b hb=>h _ _ (e b hb)
   · exact e.elim
 · split at e
   · split at e
     · exact⟨e.1,e.2.1,e.2.2.1,h _ _ e.2.2.2⟩
     · exact e.elim
   · exact e.elim
 · exact fun b hb=>h _ _ (e b hb)
 · unfold tW at *
   split at e
   · exact⟨e.1,e.2.1,e.2.2.1,e.2.2.2.1,e.2.2.2.2.1,e.2.2.2.2.2.1,fun b hb=>h _ _ (e.2.2.2.2.2.2 b hb)⟩
   · exact e.elim
 · unfold tX at *
   split at e
   · split at e
     · exact⟨e.1,h _ _ e.2⟩
     · exact e.elim
   · exact e.elim
 · split at e
   · exact h _ _ e
   · exact e.elim
def fA(P:Program)(ops:Array Oper)(o:Oper)(φ:AF)(st:aA)(K:AV→aA→Prop):Prop:=match eF ops φ o with
 | some true=>cW P [] φ st o K
 | some false=>K .undef st
 | none=>False
theorem oE{P:Program}{ops:Array Oper}{o:Oper}{φ:AF}{st:aA}{K K':AV→aA→Prop}(h:∀r s,K r s→K' r s)(e:fA P ops o φ st K):fA P ops o φ st K':=by
 unfold fA at *
 split at e
 · exact rN h e
 · exact h _ _ e
 · exact e.elim
section
variable {P:Program}
theorem VA{ops:Array Oper}{oi oj:Oper}(φ:AF)(v:AV)(h:∀d,oj.dst=some d→d∉oi.looksAt ops):eF ops (φ.put oj.dst v) oi=eF ops φ oi:=by
 unfold eF
 cases hg:oi.guard with
 | none=>rfl
 | some gw=>
  obtain⟨g,want⟩:=gw
  cases ht:(ops[g]?).bind (·.dst) with
  | none=>simp only[ht]
  | some t=>
   simp only[ht]
   have:(φ.put oj.dst v) t=φ t:=by
    have:=yO (φ:=φ) (dst:=oj.dst) (v:=v) (x:=.tmp t) (fun d hd hxd=>h d hd (by
     cases hxd
     simp [Oper.looksAt,hg,ht]))
    exact this
   rw[this]
theorem AR{ops:Array Oper}{oi oj:Oper}(φ:AF)(v:AV){st:aA}{K:AV→aA→Prop}(h:∀d,oj.dst=some d→d∉oi.looksAt ops):fA P ops oi (φ.put oj.dst v) st K↔fA P ops oi φ st K:=by
 have h1:cW P [] (φ.put oj.dst v) st oi K=cW P [] φ st oi K:=
  EE fun x hx=>yO fun d hd hxd=>h d hd (by
   subst hxd
   exact List.mem_append_left _ (List.mem_filterMap.2 ⟨.tmp d,by simpa using hx,rfl⟩))
 unfold fA
 rw[h1,VA φ v h]
theorem QM(n j:Nat):(Array.replicate n false).getD j false=false:=by
 rcases iZ j n with h | h<;>simp [h]
def wS(P:Program)(ops:Array Oper)(K:AF→aA→Prop):Nat→Array Bool→AF→aA→Prop
 | 0,listed,φ,st=>Region.ready .any ops listed= []∧K φ st
 | f+1,listed,φ,st=>(Region.ready .any ops listed= []→K φ st)∧∀i∈Region.ready .any ops listed,∃o,ops[i]?=some o∧fA P ops o φ st (fun r st'=>wS P ops K f (listed.setIfInBounds i true) (φ.put o.dst r) st')
theorem VG{N:Nat}{ops:Array Oper}(hN:∀(j d:Nat),(ops[j]?).bind (·.dst)=some d→d<N){o:Oper}{i:Nat}{a:Act}{w:World}{φ:AF}{st:aA}{G:AV→aA→Prop}{K:Act→World→Prop}{Q:Exit→Act→World→Prop}(hi:ops[i]?=some o)
 (R:Rel N a w φ st) (hd:kL N o=true) (y:fA P ops o φ st G) (h:∀a' w' r st',Rel N a' w' (φ.put o.dst r) st'→aX w.heap st w'.heap st'→c9 w w'→G r st'→K a' w'):wpOp P ops Q i K a w:=by
 unfold fA at y
 unfold wpOp
 simp only[hi]
 split at y
 · rename_i hg
   rw[aU (oC R hN hg)]
   refine .inl (wY R.frame R.store y fun v w' ⟨r',st',x1,x2,x3,x4,x5⟩=>?_)
   exact h _ _ r' st' (R.put hd x3 x2 x1) x3 x4 x5
 · rename_i hg
   rw[aS (by rw[oC R hN hg];simp)]
   exact h _ _ .undef st (R.put (r:=.undef) hd (aX.refl _ _) R.store ⟨rfl,rfl⟩) (aX.refl _ _) (c9.refl _) y
 · exact y.elim
theorem AJ{N:Nat}{ops:Array Oper}(hN:∀(j d:Nat),(ops[j]?).bind (·.dst)=some d→d<N)(hD:∀o∈ops.toList,kL N o=true){K:AF→aA→Prop}{Q:Exit→Act→World→Prop}{w0:World}{st0:aA}
 (hK:∀φ st a w,K φ st→Rel N a w φ st→aX w0.heap st0 w.heap st→c9 w0 w→Q .normal a w) :
 ∀(f:Nat) (listed:Array Bool) (φ:AF) (st:aA) (a:Act) (w:World),wS P ops K f listed φ st→Rel N a w φ st→aX w0.heap st0 w.heap st→c9 w0 w→wpAny P .any ops Q f listed a w
 | 0,listed,φ,st,a,w,h,R,T,s=>⟨h.1,hK φ st a w h.2 R T s⟩
 | f+1,listed,φ,st,a,w,h,R,T,s=>by
  refine⟨fun h0=>hK φ st a w (h.1 h0) R T s,fun i hi=>?_⟩
  obtain⟨o,ho,y⟩:=h.2 i hi
  exact VG hN ho R (hD o (jL.2 (tF ho))) y fun a' w' r st' R' T' s' g=>AJ hN hD hK f _ _ _ a' w' g R' (T.trans T') (s.trans s')
def D9(P:Program)(ops:Array Oper)(o:Oper)(r:AV)(φ:AF):Prop:=∀st,fP P st ops o r φ
theorem aHA{ops:Array Oper}{o:Oper}{r:AV}{φ:AF}(h:D9 P ops o r φ){st:aA}{K:AV→aA→Prop}(k:K r st):fA P ops o φ st K:=by
 unfold fA
 rcases h st with ⟨hg,hs⟩ | ⟨hg,rfl⟩
 · rw[hg];exact rN (fun r' s' ⟨e1,e2⟩=>by rw[e1,e2];exact k) hs
 · rw[hg];exact k
theorem EG{ops:Array Oper}{o:Oper}{r:AV}{φ:AF}{st:aA}(h:fP P st ops o r φ){K:AV→aA→Prop}(k:K r st):fA P ops o φ st K:=by
 unfold fA
 rcases h with ⟨hg,hs⟩ | ⟨hg,rfl⟩
 · rw[hg];exact rN (fun r' s' ⟨e1,e2⟩=>by rw[e1,e2];exact k) hs
 · rw[hg];exact k
def rD(P:Program)(ops:Array Oper)(S:List Nat)(K:AF→aA→Prop):Nat→Array Bool→AF→aA→Prop
 | 0,listed,φ,st=>Region.ready .any ops listed= []∧K φ st
 | f+1,listed,φ,st=>(Region.ready .any ops listed= []→K φ st)∧∀i∈Region.ready .any ops listed,∃o,ops[i]?=some o ∧
  ((S.contains i=true∧∃r,fP P st ops o r φ∧rD P ops S K f (listed.setIfInBounds i true) (φ.put o.dst r) st) ∨
   (S.contains i=false∧fA P ops o φ st (fun r st'=>rD P ops S K f (listed.setIfInBounds i true) (φ.put o.dst r) st')))
theorem AK{ops:Array Oper}{S:List Nat}{K:AF→aA→Prop}:∀(f:Nat) (listed:Array Bool) (φ:AF) (st:aA),rD P ops S K f listed φ st→wS P ops K f listed φ st
 | 0,_,_,_,h=>h
 | f+1,listed,φ,st,h=>by
  refine⟨h.1,fun i hi=>?_⟩
  obtain⟨o,ho,h2⟩:=h.2 i hi
  refine⟨o,ho,?_⟩
  rcases h2 with ⟨_,r,y,k⟩ | ⟨_,k⟩
  · exact EG y (AK f _ _ _ k)
  · exact oE (fun r s q=>AK f _ _ _ q) k
def n9(ops:Array Oper)(listed:Array Bool):Prop:=∀j o,ops[j]?=some o→listed.getD j false=true→∀e∈o.after,Region.binds .any e=true→listed.getD e.on false=true
theorem n9.set{ops:Array Oper}{listed:Array Bool}{i:Nat}(h:n9 ops listed)(hr:i∈Region.ready .any ops listed):n9 ops (listed.setIfInBounds i true):=by
 intro j o ho hl e he hb
 by_cases hji:i=j
 · subst hji
   obtain⟨_,o',ho',cX⟩:=mem_ready.1 hr
   rw[ho'] at ho;cases ho
   exact getD_set_true (cX e he hb)
 · rw[getD_set_ne false hji] at hl
   exact getD_set_true (h j o ho hl e he hb)
def mG(ops:Array Oper):Nat→Nat→Nat→Bool
 | 0,_,_=>false
 | f+1,j,i=>match ops[j]? with
  | some o=>o.after.any fun e=>Region.binds .any e&&(e.on == i||mG ops f e.on i)
  | none=>false
theorem xJ{ops:Array Oper}{listed:Array Bool}{i:Nat}(h:n9 ops listed)(hi:listed.getD i false=false):∀(f j:Nat) (o:Oper),ops[j]?=some o→mG ops f j i=true→¬ ∀e∈o.after,Region.binds .any e=true→listed.getD e.on false=true
 | 0,j,o,_,hd=>by simp [mG] at hd
 | f+1,j,o,ho,hd=>by
  intro cX
  simp only[mG,ho] at hd
  obtain⟨e,he,h2⟩:=Array.any_eq_true'.1 hd
  simp only[bV,pI,beq_iff_eq] at h2
  obtain⟨hb,h3⟩:=h2
  have hl:=cX e he hb
  rcases h3 with h3 | h3
  · rw[h3,hi] at hl;cases hl
  · cases hk:ops[e.on]? with
    | none=>cases f<;>simp [mG,hk] at h3
    | some o2=>exact xJ h hi f e.on o2 hk h3 (h e.on o2 hk hl)
def dU(st s:aA):Prop:=∀b o,st b=some o→s b=some o
theorem dU.refl(st:aA):dU st st:=fun _ _ h=>h
theorem dU.trans{a b c:aA}(x:dU a b)(y:dU b c):dU a c:=fun q o h=>y q o (x q o h)
def w5(o:Oper):Bool:=match o.op with
 | .alloc _=>true
 | _=>false
theorem VF{ops:Array Oper}{o:Oper}{φ:AF}{st:aA}{K:AV→aA→Prop}(ho:w5 o=true)(e:fA P ops o φ st K):fA P ops o φ st (fun r st'=>dU st st'∧K r st'):=by
 obtain⟨dst,op,type,pos,after,guard⟩:=o
 cases op<;>simp only[w5,fJ] at ho
 unfold fA at e ⊢
 split at e
 · simp only[cW] at e ⊢
   split at e
   · intro b hb
     refine⟨fun q o hq=>?_,e b hb⟩
     rw[aA.aV _ _ (by rintro rfl;rw[hb] at hq;cases hq)]
     exact hq
   · cases e
 · exact⟨dU.refl _,e⟩
 · cases e
theorem AL{ops:Array Oper}{S:List Nat}{i:Nat}{oi:Oper}{v:AV}{K:AF→aA→Prop}(hi:ops[i]?=some oi)(hS:S.contains i=true) :
 ∀(f:Nat) (listed:Array Bool) (φ:AF) (st:aA),n9 ops listed →
  (∀j oj,ops[j]?=some oj→j≠i→listed.getD j true=false→(∀e∈oj.after,Region.binds .any e=true→e.on≠i)→oi.apart ops oj=true) →
  i∈Region.ready .any ops listed→((∀s,fP P s ops oi v φ)∨(fP P st ops oi v φ∧∀j oj,ops[j]?=some oj→listed.getD j true=false→S.contains j=false→∃g,mG ops g j i=true)∨((∀s,dU st s→fP P s ops oi v φ)∧∀j oj,ops[j]?=some oj→listed.getD j true=false→S.contains j=false→(∃g,mG ops g j i=true)∨w5 oj=true)) →
  rD P ops S K f (listed.setIfInBounds i true) (φ.put oi.dst v) st→rD P ops S K (f+1) listed φ st:=by
 intro f
 induction f with
 | zero=>
  intro listed φ st hcl _ hr hy H
  have hy0:fP P st ops oi v φ:=by
   rcases hy with h | h | h
   · exact h st
   · exact h.1
   · exact h.1 st (dU.refl st)
  refine⟨fun h=>(by rw[h] at hr;cases hr),fun j hj=>?_⟩
  by_cases hji:j=i
  · subst hji;exact⟨oi,hi,.inl ⟨hS,v,hy0,H⟩⟩
  · have:=ready_mono hj hji
    rw[H.1] at this
    cases this
 | succ f ih=>
  intro listed φ st hcl oR hr hy H
  have hy0:fP P st ops oi v φ:=by
   rcases hy with h | h | h
   · exact h st
   · exact h.1
   · exact h.1 st (dU.refl st)
  refine⟨fun h=>(by rw[h] at hr;cases hr),fun j hj=>?_⟩
  by_cases hji:j=i
  · subst hji;exact⟨oi,hi,.inl ⟨hS,v,hy0,H⟩⟩
  · obtain⟨oj,hoj,h1⟩:=H.2 j (ready_mono hj hji)
    obtain⟨lM,oj',uY,cX⟩:=mem_ready.1 hj
    have:oj'=oj:=m8 (uY.symm.trans hoj)
    subst this
    have hun:=(mem_ready.1 hr).1
    have p7:∀e∈oj'.after,Region.binds .any e=true→e.on≠i:=fun e he hb heq=>by
     have h1:=cX e he hb
     rw[heq,getD_both hun] at h1
     cases h1
    obtain⟨a1,a2,a3⟩:=Oper.apart_spec (oR j oj' hoj hji lM p7)
    have oS:∀k ok,ops[k]?=some ok→k≠i→(listed.setIfInBounds j true).getD k true=false →
     (∀e∈ok.after,Region.binds .any e=true→e.on≠i)→oi.apart ops ok=true:=fun k ok hk hki hun hno=>by
     refine oR k ok hk hki ?_ hno
     by_cases hjk:j=k
     · subst hjk;exact lM
     · rw[getD_set_ne true hjk] at hun;exact hun
    have CE:∀k,(listed.setIfInBounds j true).getD k true=false→listed.getD k true=false:=fun k hk=>by
     by_cases hjk:j=k
     · subst hjk;exact lM
     · rw[getD_set_ne true hjk] at hk;exact hk
    refine⟨oj',hoj,?_⟩
    rcases h1 with ⟨hSj,r,yj,h2⟩ | ⟨hSj,h2⟩
    · refine .inl ⟨hSj,r,(lD φ v a1).1 yj,ih (listed.setIfInBounds j true) (φ.put oj'.dst r) st (hcl.set hj) oS (ready_mono hr (cV hji)) ?_ ?_⟩
      · rcases hy with h | h | h
        · exact .inl fun s=>(lD φ r a3).2 (h s)
        · exact .inr (.inl ⟨(lD φ r a3).2 h.1,fun k ok hk hl hs=>h.2 k ok hk (CE k hl) hs⟩)
        · exact .inr (.inr ⟨fun s hs=>(lD φ r a3).2 (h.1 s hs),fun k ok hk hl hs=>h.2 k ok hk (CE k hl) hs⟩)
      · rw[tG _ _ hji,←put_comm φ v r a2]
        exact h2
    · rcases hy with hf | ⟨_,hd⟩ | ⟨hx,hd⟩
      · refine .inr ⟨hSj,oE (fun r st' h3=>?_) ((AR φ v a1).1 h2)⟩
        refine ih (listed.setIfInBounds j true) (φ.put oj'.dst r) st' (hcl.set hj) oS (ready_mono hr (cV hji)) (.inl fun s=>(lD φ r a3).2 (hf s)) ?_
        rw[tG _ _ hji,←put_comm φ v r a2]
        exact h3
      · obtain⟨g,hg⟩:=hd j oj' hoj lM hSj
        exact absurd cX (xJ hcl (getD_both hun) g j oj' hoj hg)
      · rcases hd j oj' hoj lM hSj with ⟨g,hg⟩ | hal
        · exact absurd cX (xJ hcl (getD_both hun) g j oj' hoj hg)
        · refine .inr ⟨hSj,oE (fun r st' h3=>?_) (VF hal ((AR φ v a1).1 h2))⟩
          refine ih (listed.setIfInBounds j true) (φ.put oj'.dst r) st' (hcl.set hj) oS (ready_mono hr (cV hji)) (.inr (.inr ⟨fun s hs=>(lD φ r a3).2 (hx s (h3.1.trans hs)),fun k ok hk hl hs=>hd k ok hk (CE k hl) hs⟩)) ?_
          rw[tG _ _ hji,←put_comm φ v r a2]
          exact h3.2
def SV(ops:Array Oper)(S:List Nat)(listed:Array Bool)(i:Nat):Bool:=(List.range ops.size).all fun j=>listed.getD j true||S.contains j||mG ops ops.size j i
def SU(ops:Array Oper)(S:List Nat)(listed:Array Bool)(i:Nat):Bool:=(List.range ops.size).all fun j=>listed.getD j true||S.contains j||mG ops ops.size j i||((ops[j]?).map w5).getD false
def SE(ops:Array Oper)(i:Nat):Bool:=((ops[i]?).map iB).getD false
def lR(ops:Array Oper)(S:List Nat):List (Nat×Nat)→Array Bool→Bool
 | [],listed=>(Region.ready .any ops listed).isEmpty
 | (i,0)::r,listed=>decide (Region.ready .any ops listed= [i])&& !S.contains i&&lR ops S r (listed.setIfInBounds i true)
 | (i,1)::r,listed=>(Region.ready .any ops listed).contains i&&Region.free .any ops listed i&&S.contains i&&lR ops S r (listed.setIfInBounds i true)
 | (i,_)::r,listed=>(Region.ready .any ops listed).contains i&&Region.free .any ops listed i&&S.contains i&&(SV ops S listed i||(SE ops i&&SU ops S listed i))&&lR ops S r (listed.setIfInBounds i true)
def rK(P:Program)(ops:Array Oper)(K:AF→aA→Prop):List (Nat×Nat)→AF→aA→Prop
 | [],φ,st=>K φ st
 | (i,0)::r,φ,st=>∃o,ops[i]?=some o∧fA P ops o φ st (fun v st'=>rK P ops K r (φ.put o.dst v) st')
 | (i,1)::r,φ,st=>∃o,ops[i]?=some o∧∃v,D9 P ops o v φ∧rK P ops K r (φ.put o.dst v) st
 | (i,_)::r,φ,st=>∃o,ops[i]?=some o∧∃v,fP P st ops o v φ∧rK P ops K r (φ.put o.dst v) st
theorem aDG{t:TypeId}{ok:Bool}{x i r:AV}{st s:aA}(hs:dU st s)(h:mA P st t ok x i=some r):mA P s t ok x i=some r:=by
 unfold mA at *
 split at h
 · rename_i b n
   cases hb:st b with
   | none=>rw[hb] at h;cases h
   | some o=>rw[hs b o hb,←hb];exact h
 · cases h
theorem aDD{t:TypeId}{x r:AV}{st s:aA}(hs:dU st s)(h:d6 P st t x=some r):d6 P s t x=some r:=by
 unfold d6 at *
 split at h
 · exact h
 · rename_i b o
   cases hb:st b with
   | none=>rw[hb] at h;split at h<;>simp_all
   | some o=>rw[hs b o hb,←hb];exact h
 · cases h
theorem EF{φ:AF}{o:Oper}{r:AV}{st s:aA}(hs:dU st s)(h:gD P φ st o=some r):gD P φ s o=some r:=by
 obtain⟨dst,op,type,pos,after,guard⟩:=o
 cases op
 case makeFunc fn a b=>cases fn<;>exact h
 case call c=>
  obtain⟨callee,args,ats⟩:=c
  cases callee
  case builtin b=>cases b<;>exact h
  all_goals exact h
 case load=>exact aDD hs h
 case lookup=>exact aDG hs h
 all_goals exact h
theorem VL{ops:Array Oper}{o:Oper}{v:AV}{φ:AF}{st s:aA}(hp:iB o=true)(hs:dU st s)(h:fP P st ops o v φ):fP P s ops o v φ:=by
 rcases h with ⟨h1,h2⟩ | h
 · refine .inl ⟨h1,?_⟩
   rw[nF hp] at h2 ⊢
   cases hv:gD P φ st o with
   | none=>rw[hv] at h2;cases h2
   | some r=>
    rw[hv] at h2
    rw[EF hs hv]
    exact⟨h2.1,rfl⟩
 · exact .inr h
theorem tY{ops:Array Oper}{S:List Nat}{K:AF→aA→Prop}:∀(p:List (Nat×Nat)) (listed:Array Bool) (φ:AF) (st:aA),n9 ops listed→lR ops S p listed=true→rK P ops K p φ st→rD P ops S K p.length listed φ st
 | [],listed,φ,st,_,hB,h=>⟨by simpa [lR] using hB,h⟩
 | (i,0)::r,listed,φ,st,hcl,hB,h=>by
  simp only[lR,bV,bK,k8] at hB
  obtain⟨o,ho,h'⟩:=h
  have hr:i∈Region.ready .any ops listed:=by rw[hB.1.1];simp
  refine⟨fun h0=>(by rw[hB.1.1] at h0;cases h0),fun j hj=>?_⟩
  rw[hB.1.1] at hj
  obtain rfl:j=i:=by simpa using hj
  exact⟨o,ho,.inr ⟨hB.1.2,oE (fun v st' q=>tY r _ _ _ (hcl.set hr) hB.2 q) h'⟩⟩
 | (i,1)::r,listed,φ,st,hcl,hB,h=>by
  simp only[lR,bV] at hB
  obtain⟨⟨⟨hr,hf⟩,hS⟩,hB'⟩:=hB
  obtain⟨o,ho,v,hv,h'⟩:=h
  have hr':i∈Region.ready .any ops listed:=by simpa using hr
  exact AL ho hS _ listed φ st hcl (Region.free_spec ho hf) hr' (.inl hv) (tY r _ _ _ (hcl.set hr') hB' h')
 | (i,k+2)::r,listed,φ,st,hcl,hB,h=>by
  simp only[lR,bV] at hB
  obtain⟨⟨⟨⟨hr,hf⟩,hS⟩,hd⟩,hB'⟩:=hB
  obtain⟨o,ho,v,hv,h'⟩:=h
  have hr':i∈Region.ready .any ops listed:=by simpa using hr
  rw[pI] at hd
  rcases hd with hd | hd
  · refine AL ho hS _ listed φ st hcl (Region.free_spec ho hf) hr' (.inr (.inl ⟨hv,fun j oj hj hl hs=>⟨ops.size,?_⟩⟩)) (tY r _ _ _ (hcl.set hr') hB' h')
    simp only[SV,dY,rA] at hd
    have:=hd j (qZ.1 hj).1
    simpa only[hl,hs,k7] using this
  · rw[bV] at hd
    obtain⟨hp,hd⟩:=hd
    simp only[SE,ho,l6,tP] at hp
    refine AL ho hS _ listed φ st hcl (Region.free_spec ho hf) hr' (.inr (.inr ⟨fun s hs=>VL hp hs hv,fun j oj hj hl hs=>?_⟩)) (tY r _ _ _ (hcl.set hr') hB' h')
    simp only[SU,dY,rA] at hd
    have:=hd j (qZ.1 hj).1
    simp only[hl,hs,k7,hj,l6,tP,pI] at this
    exact this.imp (fun h=>⟨ops.size,h⟩) id
theorem VW{N:Nat}{id:Nat}{ops:Array Oper}{Q:Exit→AF→aA→Prop}{φ:AF}{st:aA}(p:List (Nat×Nat))(S:List Nat)(hm:P.follows .mixedOrders=true)(hok:lQ N ops=true)(hl:p.length=ops.size)(hB:lR ops S p (Array.replicate ops.size false)=true)
 (h:rK P ops (Q .normal) p φ st):dT P N (.region id ops true) Q φ st:=by
 intro a w R
 refine wp_region_any hm ?_
 have R0:Rel N a { w with drawn:=w.drawn+1 } φ st:=⟨R.size,R.defers,R.frame,R.store⟩
 have:=AK _ _ _ _ (tY p _ φ st (fun j o _ hl=>(by rw[QM] at hl;cases hl)) hB h)
 rw[hl] at this
 exact AJ (vB hok) (sP hok) (w0:=w) (st0:=st) (fun φ' st' a' w' k R' T s=>⟨φ',st',R',T,s,k⟩) _ _ _ _ _ _ this R0 (aX.refl _ _) ⟨rfl,rfl,rfl⟩
theorem aDF{t:TypeId}{ok:Bool}{x i r:AV}(h:mA P g7 t ok x i=some r)(st:aA):mA P st t ok x i=some r:=by
 unfold mA at *
 split at h
 · simp only[g7] at h;cases h
 · cases h
theorem aDC{t:TypeId}{x r:AV}(h:d6 P g7 t x=some r)(st:aA):d6 P st t x=some r:=by
 unfold d6 at *
 split at h
 · exact h
 · split at h
   · rename_i h1;simp only[g7] at h1;cases h1
   · cases h
 · cases h
theorem VH{φ:AF}{o:Oper}{r:AV}(h:gD P φ g7 o=some r)(st:aA):gD P φ st o=some r:=by
 obtain⟨dst,op,type,pos,after,guard⟩:=o
 cases op
 case makeFunc fn a b=>cases fn<;>exact h
 case call c=>
  obtain⟨callee,args,ats⟩:=c
  cases callee
  case builtin b=>cases b<;>exact h
  all_goals exact h
 case load=>exact aDC h st
 case lookup=>exact aDF h st
 all_goals exact h
def eY(P:Program)(ops:Array Oper)(K:AF→aA→Prop):List (Nat×Nat)→AF→aA→Prop
 | [],φ,st=>K φ st
 | (i,0)::r,φ,st=>match ops[i]? with
  | none=>False
  | some o=>aM P [] ops [o] (fun φ' st'=>eY P ops K r φ' st') φ st
 | (i,1)::r,φ,st=>match ops[i]? with
  | none=>False
  | some o=>if iB o=true then aM P [] ops [o] (fun φ' _=>eY P ops K r φ' st) φ g7 else
   match o.guard,o.op with
   | none,.call { callee:=.value f,args,.. }=>∃v,(∀s,lG P (φ.eval f) (args.toList.map φ.eval) s (fun r' s'=>r'=v∧s'=s))∧eY P ops K r (φ.put o.dst v) st
   | _,_=>False
 | (i,_)::r,φ,st=>match ops[i]? with
  | none=>False
  | some o=>if iB o=true then aM P [] ops [o] (fun φ' _=>eY P ops K r φ' st) φ st else
   match o.guard,o.op with
   | none,.call { callee:=.value f,args,.. }=>∃v,lG P (φ.eval f) (args.toList.map φ.eval) st (fun r' s'=>r'=v∧s'=st)∧eY P ops K r (φ.put o.dst v) st
   | _,_=>False
theorem nD{ops:Array Oper}{K:AF→aA→Prop}:∀(p:List (Nat×Nat)) (φ:AF) (st:aA),eY P ops K p φ st→rK P ops K p φ st
 | [],_,_,h=>h
 | (i,0)::r,φ,st,h=>by
  simp only[eY] at h
  split at h
  · exact h.elim
  · rename_i o ho
    refine⟨o,ho,?_⟩
    simp only[aM] at h
    unfold fA
    split at h
    · rename_i hg
      rw[hg]
      exact rN (fun v s q=>nD r _ _ q) h
    · rename_i hg
      rw[hg]
      exact nD r _ _ h
    · exact h.elim
 | (i,1)::r,φ,st,h=>by
  simp only[eY] at h
  split at h
  · exact h.elim
  · rename_i o ho
    split at h
    · rename_i hp
      simp only[aM] at h
      split at h
      · rename_i hg
        rw[nF hp] at h
        split at h
        · rename_i v hv
          exact⟨o,ho,v,fun s=>.inl ⟨hg,by rw[nF hp,VH hv s];exact⟨rfl,rfl⟩⟩,nD r _ _ h⟩
        · exact h.elim
      · rename_i hg
        exact⟨o,ho,.undef,fun s=>.inr ⟨hg,rfl⟩,nD r _ _ h⟩
      · exact h.elim
    · split at h
      · rename_i f args ats hg hop
        obtain⟨v,h1,h2⟩:=h
        refine⟨o,ho,v,fun s=>.inl ⟨by simp only[eF,hg],?_⟩,nD r _ _ h2⟩
        simp only[cW,hop]
        exact h1 s
      · exact h.elim
 | (i,k+2)::r,φ,st,h=>by
  simp only[eY] at h
  split at h
  · exact h.elim
  · rename_i o ho
    split at h
    · rename_i hp
      simp only[aM] at h
      split at h
      · rename_i hg
        rw[nF hp] at h
        split at h
        · rename_i v hv
          exact⟨o,ho,v,.inl ⟨hg,by rw[nF hp,hv];exact⟨rfl,rfl⟩⟩,nD r _ _ h⟩
        · exact h.elim
      · rename_i hg
        exact⟨o,ho,.undef,.inr ⟨hg,rfl⟩,nD r _ _ h⟩
      · exact h.elim
    · split at h
      · rename_i f args ats hg hop
        obtain⟨v,h1,h2⟩:=h
        refine⟨o,ho,v,.inl ⟨by simp only[eF,hg],?_⟩,nD r _ _ h2⟩
        simp only[cW,hop]
        exact h1
      · exact h.elim
end
def CY(P:Program)(ops:Array Oper)(K:AF→aA→Prop)(r:List (Nat×Nat))(φ:AF)(st:aA):Prop:=eY P ops K r φ st
def vD(P:Program)(ops:Array Oper)(K:AF→aA→Prop)(r:List (Nat×Nat))(st:aA)(φ:AF)(_:aA):Prop:=eY P ops K r φ st
def vC(P:Program)(ops:Array Oper)(K:AF→aA→Prop)(r:List (Nat×Nat))(φ:AF)(dst:Option Tmp)(st:aA)(v:AV):Prop:=eY P ops K r (φ.put dst v) st
def FM(P:Program)(f:AV)(args:List AV)(K:AV→Prop):Prop:=∃v,(∀s,lG P f args s (fun r' s'=>r'=v∧s'=s))∧K v
def sU(P:Program)(ops:Array Oper)(K:AF→aA→Prop)(r:List (Nat×Nat))(φ:AF)(st:aA):Nat→Option Oper→Prop
 | 0,some o=>aM P [] ops [o] (CY P ops K r) φ st
 | 1,some o=>if iB o=true then aM P [] ops [o] (vD P ops K r st) φ g7 else
  match o.guard,o.op with
  | none,.call { callee:=.value f,args,.. }=>FM P (φ.eval f) (args.toList.map φ.eval) (vC P ops K r φ o.dst st)
  | _,_=>False
 | _,some o=>if iB o=true then aM P [] ops [o] (vD P ops K r st) φ st else
  match o.guard,o.op with
  | none,.call { callee:=.value f,args,.. }=>oK P (φ.eval f) (args.toList.map φ.eval) st (vC P ops K r φ o.dst st)
  | _,_=>False
 | _,none=>False
theorem MQ{P:Program}{ops:Array Oper}{K:AF→aA→Prop}{φ:AF}{st:aA}:eY P ops K [] φ st=K φ st:=rfl
theorem MR{P:Program}{l:List Oper}{K:AF→aA→Prop}{φ:AF}{st:aA}{i b:Nat}{r:List (Nat×Nat)}:eY P l.toArray K ((i,b)::r) φ st=sU P l.toArray K r φ st b l[i]?:=by
 match b with
 | 0=>simp only[eY,pM];cases l[i]?<;>rfl
 | 1=>simp only[eY,pM];cases l[i]?<;>rfl
 | b+2=>simp only[eY,pM];cases l[i]?<;>rfl
theorem MV{P:Program}{ops:Array Oper}{K:AF→aA→Prop}{φ:AF}{st:aA}{r:List (Nat×Nat)}{o:Oper}:sU P ops K r φ st 0 (some o)=aM P [] ops [o] (CY P ops K r) φ st:=rfl
theorem MW{P:Program}{ops:Array Oper}{K:AF→aA→Prop}{φ:AF}{st:aA}{r:List (Nat×Nat)}{o:Oper}:sU P ops K r φ st 1 (some o)=if iB o=true then aM P [] ops [o] (vD P ops K r st) φ g7 else
      match o.guard,o.op with
      | none,.call { callee:=.value f,args,.. }=>FM P (φ.eval f) (args.toList.map φ.eval) (vC P ops K r φ o.dst st)
      | _,_=>False:=rfl
theorem MX{P:Program}{ops:Array Oper}{K:AF→aA→Prop}{φ:AF}{st:aA}{r:List (Nat×Nat)}{o:Oper}:sU P ops K r φ st 2 (some o)=if iB o=true then aM P [] ops [o] (vD P ops K r st) φ st else
      match o.guard,o.op with
      | none,.call { callee:=.value f,args,.. }=>oK P (φ.eval f) (args.toList.map φ.eval) st (vC P ops K r φ o.dst st)
      | _,_=>False:=rfl
theorem MU{P:Program}{ops:Array Oper}{K:AF→aA→Prop}{φ:AF}{st:aA}{r:List (Nat×Nat)}:CY P ops K r φ st=eY P ops K r φ st:=rfl
theorem MT{P:Program}{ops:Array Oper}{K:AF→aA→Prop}{φ:AF}{st s:aA}{r:List (Nat×Nat)}:vD P ops K r st φ s=eY P ops K r φ st:=rfl
theorem MS{P:Program}{ops:Array Oper}{K:AF→aA→Prop}{φ:AF}{st:aA}{r:List (Nat×Nat)}{dst:Option Tmp}{v:AV}:vC P ops K r φ dst st v=eY P ops K r (φ.put dst v) st:=rfl
@[congr] theorem aHJ {P:Program} {ops:Array Oper} {K:AF→aA→Prop} {p:List (Nat×Nat)} {φ φ':AF} {st st':aA} (h1:φ=φ') (h2:st=st'):eY P ops K p φ st=eY P ops K p φ' st':=by rw[h1,h2]
@[congr] theorem aHU {P:Program} {ops:Array Oper} {K:AF→aA→Prop} {p:List (Nat×Nat)} {φ φ':AF} {st st':aA} {b:Nat} {o o':Option Oper} (h1:φ=φ') (h2:st=st') (h3:o=o'):sU P ops K p φ st b o=sU P ops K p φ' st' b o':=by rw[h1,h2,h3]
theorem zx5{P:Program}{N:Nat}{id:Nat}{l:List Oper}{Q:Exit→AF→aA→Prop}{φ:AF}{st:aA}(p:List (Nat×Nat))(S:List Nat)(hm:P.follows .mixedOrders=true)(hok:lQ N l.toArray=true)(hl:p.length=l.length)(hB:lR l.toArray S p (Array.replicate l.length false)=true)
 (h:eY P l.toArray (Q .normal) p φ st):dT P N (.region id l.toArray true) Q φ st:=
 VW p S hm hok (by simpa using hl) (by simpa using hB) (nD p φ st h)
theorem VO{P:Program}{t:TypeId}{ag:Bool}{w bytes:Nat}{zs:List AV}{s:aA}{b:Nat}{l xs:List AV}{x:AV}{K:AV→aA→Prop}
 (hI:eI P t=some (ag,w)) (hB:eB P t=some bytes) (hZ:eZ P t=some zs) (hz:zs.length=w) (hx:wT x=some xs) (eK:uC w xs) (hw:∀e∈l,e.width=w) (hb:l≠[]→s b=some (.cells (l.flatMap AV.cells)))
 (h1:(l.length+xs.length)*bytes≤140737488355328) (h2:l.length+xs.length≤9223372036854775807)
 (hK:∀b' s',(l++xs≠[]→s' b'=some (.cells ((l++xs).flatMap AV.cells)))→(l++xs≠[]→b'=b∧l≠[]∨s b'=none)→(∀q,(l++xs≠[]→q≠b')→(l≠[]→q≠b)→s' q=s q)→(l≠[]→b'≠b→s' b=none)→K (aT w b' (l++xs)) s'):iL P t s (aT w b l) x K:=by
 unfold iL
 rw[hI,hB,hZ,hx]
 refine⟨hz,eK,?_⟩
 cases l with
 | nil=>
  show _∧_∧_∧_∧_
  refine⟨by simpa using h1,by simpa using h2,by simp,?_,?_⟩
  · rintro rfl
    have:=hK b s (by simp) (by simp) (fun _ _ _=>rfl) (by simp)
    simpa [aT] using this
  · intro hne b' hb'
    have:=hK b' (s.aC b' (.cells (xs.flatMap AV.cells))) (fun _=>by rw[aA.aP];simp) (fun _=>.inr hb') (fun q h _=>aA.aV _ _ (h (by simpa using hne))) (by simp)
    rw[dB,lE hne] at this
    simpa using this
 | cons y l=>
  have hb:=hb (by simp)
  show w=w∧_∧_∧_
  refine⟨rfl,h1,h2,?_⟩
  have hfl:((y::l).flatMap AV.cells).length=(y::l).length*w:=mJ hw
  rw[hb]
  refine⟨by rw[hfl];exact dJ _,?_,?_⟩
  · have:=hK b (s.aC b (.cells ((y::l++xs).flatMap AV.cells))) (fun _=>aA.aP _ _ _) (fun _=>.inl ⟨rfl,by simp⟩) (fun q h _=>aA.aV _ _ (h (by simp))) (fun _ h=>absurd rfl h)
    rw[lE (by simp),wG,dI] at this
    rw[←hfl,fZ]
    exact this
  · intro b' hb'
    have hne:b'≠b:=by rintro rfl;rw[hb] at hb';cases hb'
    have:=hK b' ((s.erase b).aC b' (.cells ((y::l++xs).flatMap AV.cells))) (fun _=>aA.aP _ _ _) (fun _=>.inr hb') (fun q h h'=>by
     rw[aA.aV _ _ (h (by simp))]
     simp only[aA.erase,h' (by simp),cP]) (fun _ _=>by rw[aA.aV _ _ (cV hne)];exact aA.GB _ _)
    rw[lE (by simp),wG,dI] at this
    rw[←hfl,fZ]
    exact this
def mW(es:List AV)(st:aA)(i:Nat)(os:List AV)(bs:List Nat)(b:Nat)(s:aA):Prop:=
 os.length=i∧b8 s (es.take i) os bs∧bs.Nodup∧(∀q∈bs,st q=none)∧(os≠[]→st b=none∧b∉bs∧s b=some (.cells (os.flatMap AV.cells)))∧∀q,q∉bs→(os≠[]→q≠b)→s q=st q
theorem mW.start{es:List AV}{st:aA}{b:Nat}:mW es st 0 [] [] b st:=⟨rfl,by simp [b8],List.nodup_nil,by simp,by simp,fun _ _ _=>rfl⟩
theorem CM{b x:Nat}{l:List AV}:x∈rO b l↔x=b∧l≠[]:=by cases l<;>simp [rO]
theorem mW.done{es:List AV}{st:aA}{n w:Nat}{os:List AV}{bs:List Nat}{b:Nat}{s:aA}(h:mW es st n os bs b s)(hl:es.length=n)(hw:∀e∈es,e.width=w):Made st (.slice es) (aT w b os) s:=by
 obtain⟨h1,h2,h3,h4,h5,h6⟩:=h
 rw[kH (by omega)] at h2
 refine⟨rO b os++bs,?_,fun q hq=>?_,?_,fun q hq=>?_⟩
 · rw[List.nodup_append]
   refine⟨by cases os<;>simp [rO],h3,fun x hx y hy e=>?_⟩
   obtain⟨rfl,hne⟩:=CM.1 hx
   exact(h5 hne).2.1 (e▸hy)
 · rcases iY.1 hq with hq | hq
   · obtain⟨rfl,hne⟩:=CM.1 hq
     exact(h5 hne).1
   · exact h4 q hq
 · cases os with
   | nil=>
    have:es= []:=by simpa using h2.length.symm
    subst this
    simp only[b8] at h2
    simp only[bZ,aT,rO,h2.2]
    exact .inl ⟨trivial,trivial,rfl⟩
   | cons o os=>
    simp only[bZ,aT,rO]
    refine .inr ⟨b,bs,o::os,w,by rw[h2.length],rfl,(h5 (by simp)).2.2,h2,hw⟩
 · simp only[iY,CM,not_or,not_and] at hq
   exact h6 q hq.2 (fun hne e=>hq.1 e hne)
theorem b8.UQ{st:aA}{w:Nat}:∀ {as os:List AV} {bs:List Nat},b8 st as os bs→(∀e∈as,e.width=w)→∀o∈os,o.width=w
 | [],os,bs,x,_=>by simp only[b8] at x;rw[x.1];simp
 | a::as,os,bs,x,h=>by
  simp only[b8] at x
  obtain⟨o,os',b1,b2,rfl,rfl,x1,x2⟩:=x
  intro q hq
  rcases dS.1 hq with rfl | hq
  · rw[(bZ.shape x1).2.1,h a (by simp)]
  · exact b8.UQ x2 (fun e he=>h e (by simp [he])) q hq
theorem bZ.Y2{st:aA}{e r:AV}{bs:List Nat}{w:Nat}(m3:bZ st e r bs)(hwe:e.width=w)(hst:e.cells.all AV.storable=true):r.width=w∧r.cells.length=w∧r.cells.all AV.storable=true:=by
 refine⟨(bZ.shape m3).2.1.trans hwe,by rw[uJ,(bZ.shape m3).2.1,hwe],?_⟩
 cases e<;>simp only[bZ] at m3<;>try exact m3.elim
 case int=>rw[m3.1];try rfl
 case bool=>rw[m3.1];try rfl
 case str=>rw[m3.1];try rfl
 case slice=>rcases m3 with ⟨_,rfl,_⟩ | ⟨_,_,_,_,rfl,_⟩<;>rfl
 case agg cs=>
  obtain⟨q,rfl,m3⟩:=m3
  refine(bZ.EK m3 fun c hc=>?_).1
  have hst:cs.all AV.storable=true:=hst
  have:=dY.1 hst c hc
  cases c<;>first | rfl | (simp [AV.storable] at this)
theorem mW.step{es:List AV}{st:aA}{i:Nat}{os:List AV}{bs bx:List Nat}{b x b':Nat}{s s2 s':aA}{o:AO}{e r:AV}(h:mW es st i os bs b s)(hx:s x=none)(he:es[i]?=some e)
 (m1:bx.Nodup) (m2:∀q∈bx,(s.aC x o) q=none) (m3:bZ s2 e r bx) (m4:∀q,q∉bx→s2 q=(s.aC x o) q)
 (k1:s' b'=some (.cells ((os++ [r]).flatMap AV.cells))) (k2:b'=b∧os≠[]∨s2 b'=none) (k3:∀q,q≠b'→(os≠[]→q≠b)→s' q=s2 q) (k4:os≠[]→b'≠b→s' b=none) :
 mW es st (i+1) (os++ [r]) (bs++bx) b' (s'.erase x):=by
 obtain⟨h1,h2,h3,h4,h5,h6⟩:=h
 have aCL:=b8.jW _ _ _ h2
 have hi:i<es.length:=(fY.1 he).1
 have sE:∀q∈bs,s q≠none:=fun q hq=>by obtain⟨cs,e1,_⟩:=aCL.2 q hq;rw[e1];simp
 have aCS:x∉bs:=fun hq=>sE x hq hx
 have hxb:os≠[]→x≠b:=fun hne e=>by have:=(h5 hne).2.2;rw[←e,hx] at this;cases this
 have CG:x∉bx:=fun hq=>by have:=m2 x hq;rw[aA.aP] at this;cases this
 have hbx:∀q∈bx,s q=none:=fun q hq=>by
  have:=m2 q hq
  have hne:q≠x:=fun e=>CG (e▸hq)
  rwa [aA.aV _ _ hne] at this
 have QW:∀q∈bs,q∉bx:=fun q hq hq'=>sE q hq (hbx q hq')
 have QS:os≠[]→b∉bx:=fun hne hq=>by have:=hbx b hq;rw[(h5 hne).2.2] at this;cases this
 have aCJ:s2 x=some o:=by rw[m4 x CG,aA.aP]
 have hs2:∀q,q∉bx→q≠x→s2 q=s q:=fun q h1 h2=>by rw[m4 q h1,aA.aV _ _ h2]
 have B2:b'≠x:=by
  rcases k2 with ⟨rfl,hne⟩ | hn
  · exact cV (hxb hne)
  · rintro rfl;rw[aCJ] at hn;cases hn
 have xX:b'∉bx:=by
  rcases k2 with ⟨rfl,hne⟩ | hn
  · exact QS hne
  · intro hq
    obtain⟨cs,e1,_⟩:=(bZ.jW _ _ _ m3).2.2 b' hq
    rw[e1] at hn;cases hn
 have B1:b'∉bs:=by
  rcases k2 with ⟨rfl,hne⟩ | hn
  · exact(h5 hne).2.1
  · intro hq
    rw[hs2 b' xX B2] at hn
    exact sE b' hq hn
 have aCM:st b'=none:=by
  rcases k2 with ⟨rfl,hne⟩ | hn
  · exact(h5 hne).1
  · rw[hs2 b' xX B2] at hn
    by_cases hbb:os≠[]∧b'=b
    · rw[hbb.2];exact(h5 hbb.1).1
    · rw[←h6 b' B1 (fun hne e=>hbb ⟨hne,e⟩)];exact hn
 have aBR:os≠[]→∀q∈bs,q≠b:=fun hne q hq e=>(h5 hne).2.1 (e▸hq)
 have aB7:∀q∈bs,(s'.erase x) q=s q:=fun q hq=>by
  have hqx:q≠x:=fun e=>aCS (e▸hq)
  simp only[aA.erase,hqx,cP]
  rw[k3 q (fun e=>B1 (e▸hq)) (fun hne=>aBR hne q hq),hs2 q (QW q hq) hqx]
 have aB8:∀q∈bx,(s'.erase x) q=s2 q:=fun q hq=>by
  have hqx:q≠x:=fun e=>CG (e▸hq)
  simp only[aA.erase,hqx,cP]
  exact k3 q (fun e=>xX (e▸hq)) (fun hne e=>QS hne (e▸hq))
 refine⟨by simp [h1],?_,List.nodup_append.2 ⟨h3,m1,fun a ha c hc e=>QW a ha (e▸hc)⟩,fun q hq=>?_,fun _=>⟨aCM,?_,?_⟩,fun q hq hqb=>?_⟩
 · rw[gW,he]
   exact b8.snoc h2 aB7 (bZ.cQ _ _ _ aB8 m3)
 · rcases iY.1 hq with hq | hq
   · exact h4 q hq
   · by_cases hbb:os≠[]∧q=b
     · rw[hbb.2];exact(h5 hbb.1).1
     · by_cases hqs:q∈bs
       · exact h4 q hqs
       · rw[←h6 q hqs (fun hne e=>hbb ⟨hne,e⟩)];exact hbx q hq
 · intro hq
   rcases iY.1 hq with hq | hq
   · exact B1 hq
   · exact xX hq
 · simp only[aA.erase,B2,cP]
   exact k1
 · simp only[iY,not_or] at hq
   have Q5:=hqb (by simp)
   by_cases hqx:q=x
   · subst hqx
     simp only[aA.erase,fD]
     rw[←h6 q hq.1 hxb,hx]
   · simp only[aA.erase,hqx,cP]
     by_cases hbb:os≠[]∧q=b
     · rw[hbb.2,k4 hbb.1 (fun e=>Q5 (hbb.2.trans e.symm)),(h5 hbb.1).1]
     · rw[k3 q Q5 (fun hne e=>hbb ⟨hne,e⟩),hs2 q hq.2 hqx]
       exact h6 q hq.1 (fun hne e=>hbb ⟨hne,e⟩)
theorem aD.done{P:Program}{g:FuncId}{args:List AV}{st:aA}{r:AV}(x:aD P g args st (fun r' st'=>r'.soft=r∧aH st' st)):aD P g args st (fun r' st'=>r'=r∧st'=st):=
 aD.oN (aD.soft x)
theorem aD.mH{P:Program}{g:FuncId}{args:List AV}{st:aA}{Q:AV→aA→Prop}(x:aD P g args st (fun r st'=>∃s2,aH st' s2∧Q r s2)):aD P g args st Q:=
 x.iA fun r _ ⟨s2,D,q⟩=>⟨r,s2,D.lX,D.iA r,q⟩
theorem iJ{cs:List AV}:(AV.agg cs).soft=.agg (cs.map AV.soft):=by simp only[AV.soft,o6]
theorem kU{cs:List AV}:(AV.tup cs).soft=.tup (cs.map AV.soft):=by simp only[AV.soft,o6]
theorem gR{k:IntKind}{n:Int}:(AV.int k n).soft=.int k n:=rfl
theorem yS{b:Bool}:(AV.bool b).soft=.bool b:=rfl
theorem iK{s:ByteArray}:(AV.str s).soft=.str s:=rfl
theorem qO{es:List AV}:(AV.slice es).soft=.slice es:=rfl
theorem jJ{es:List AV}:(AV.fslice es).soft=.slice es:=rfl
def oO(b:Nat)(l:List AV):List (Nat×AV)→List (Nat×AV)
 | []=>[]
 | p::r=>(p.1,p.2.fin b l)::oO b l r
theorem KE{b:Nat}{l:List AV}:oO b l []= []:=rfl
theorem KF{b d:Nat}{l:List AV}{v:AV}{r:List (Nat×AV)}:oO b l ((d,v)::r)=(d,v.fin b l)::oO b l r:=rfl
theorem aBC{b:Nat}{l:List AV}:AV.junk.fin b l=.junk:=by unfold AV.fin;split<;>rfl
theorem nO{w b:Nat}{l:List AV}:(aT w b l).fin b l=.slice l:=eG
theorem aDA{st:aA}(b:Nat)(l:List AV)(hb:l≠[]→st b=none)(hj:∀e∈l,e.bP=false)(hE:eW l)(L:List (Nat×AV)):c7 (fC L) (aY st b l) (fC (oO b l L)) st:=by
 have key:∀L d,fC (oO b l L) d=(fC L d).fin b l:=by
  intro L
  induction L with
  | nil=>intro d;exact aBC.symm
  | cons p r ih=>
   obtain⟨e,v⟩:=p
   intro d
   show((fC (oO b l r)).aC e (v.fin b l)) d=(((fC r).aC e v) d).fin b l
   simp only[AF.aC]
   split
   · rfl
   · exact ih d
 intro h tmps S F
 cases l with
 | nil=>exact⟨S,aX.refl _ _,fun d=>by rw[key];exact(F d).soft⟩
 | cons y l=>
  have hst:(aY st b (y::l)) b=some (.cells ((y::l).flatMap AV.cells)):=aA.aP _ _ _
  have he:(aY st b (y::l)).erase b=st:=aA.pV st b _ (hb (by simp))
  have L1:c7 (fC L) (aY st b (y::l)) (fun d=>(fC L d).fz b (y::l)) st:=by
   have:=c7.freeze (φ:=fC L) hst hj hE
   rwa [he] at this
  obtain⟨a1,a2,a3⟩:=L1 h tmps S F
  exact⟨a1,a2,fun d=>by rw[key];exact(a3 d).soft⟩
theorem zY{P:Program}{N:Nat}{c:Code}{Q:Exit→AF→aA→Prop}{φ:AF}{st:aA}{α σ:Type}(mt:List Nat)(cQ:List Nat)(l:List α)(w d:Nat)(acc:Nat→σ→List AV)(inv:Nat→σ→Prop)(ch:Nat→σ→List (Nat×AV))(so:Nat→σ→aA)
 (hw:∀i s,inv i s→∀e∈acc i s,e.bP=false∧e.width=w)
 (hok:codeOk N c=true)
 (h0:∃s b,inv 0 s∧(acc 0 s≠[]→so 0 s b=none)∧aL φ st (fS φ cQ ((d,aT w b (acc 0 s))::ch 0 s)) (aY (so 0 s) b (acc 0 s)))
 (h1:∀i x s b,l[i]?=some x→i<l.length→((i:Int)<(l.length:Int))→l.drop i=x::l.drop (i+1)→inv i s→(acc i s≠[]→so i s b=none) →
  dD P N mt c (jT (fun φ' st'=>∃s' b',inv (i+1) s'∧(acc (i+1) s'≠[]→so (i+1) s' b'=none)∧aL φ' st' (fS φ cQ ((d,aT w b' (acc (i+1) s'))::ch (i+1) s')) (aY (so (i+1) s') b' (acc (i+1) s'))) Q) (nQ (fS φ cQ ((d,aT w b (acc i s))::ch i s))) (aY (so i s) b (acc i s)))
 (h2:∀s b,¬((l.length:Int)<(l.length:Int))→inv l.length s→dD P N mt c (jT (fun _ _=>False) Q) (nQ (oO b (acc l.length s) (fS φ cQ ((d,aT w b (acc l.length s))::ch l.length s)))) (so l.length s)):dT P N (.loop c) Q φ st:=by
 have iA:∀(k:AF→aA→Prop) (φ0:AF) (st0:aA) (k':AF→aA→Prop),(∀φ' st',k' φ' st'→k φ' st') →
  dT P N c (jT k' Q) φ0 st0→dT P N c (jT k Q) φ0 st0:=by
  intro k φ0 st0 k' hk hr a w R
  refine wp_mono (hr a w R) ?_
  rintro e a' w' ⟨φ',st',R',T,sm,q⟩
  refine⟨φ',st',R',T,sm,?_⟩
  cases e with
  | normal=>exact hk _ _ q
  | _=>exact q
 refine AZ (α:=Nat×σ×Nat) (fun p=>p.1≤l.length∧inv p.1 p.2.1∧(acc p.1 p.2.1≠[]→so p.1 p.2.1 p.2.2=none)) (fun p=>fC (fS φ cQ ((d,aT w p.2.2 (acc p.1 p.2.1))::ch p.1 p.2.1))) (fun p=>aY (so p.1 p.2.1) p.2.2 (acc p.1 p.2.1)) (fun p=>l.length - p.1) ?_ ?_
 · obtain⟨s,b,hs,hb,hl⟩:=h0
   exact⟨(0,s,b),⟨i7 _,hs,hb⟩,hl⟩
 · rintro⟨i,s,b⟩ ⟨hi,hs,hb⟩
   simp only at hi hs hb ⊢
   rcases iZ i l.length with hlt | hge
   · refine iA _ _ _ _ ?_ (uD mt hok (h1 i l[i] s b (eA hlt) hlt (by omega) (q7 hlt) hs hb))
     rintro φ' st' ⟨s',b',h1',h2',h3'⟩
     exact⟨(i+1,s',b'),by simp only;omega,⟨by simp only;omega,h1',h2'⟩,h3'⟩
   · obtain rfl:i=l.length:=by omega
     refine dT.less (aDA b (acc l.length s) hb (fun e he=>(hw _ s hs e he).1) ⟨w,fun e he=>(hw _ s hs e he).2⟩ _) ?_
     refine iA _ _ _ _ ?_ (uD mt hok (h2 s b (by omega) hs))
     exact fun _ _ h=>h.elim
section
variable {P:Program}
def BT(ops:Array Oper)(S:List Nat)(j:Nat):Bool:=S.all fun i=>mG ops ops.size j i
def rE(P:Program)(ops:Array Oper)(S:List Nat)(s0:aA)(K:AF→aA→Prop):Nat→Array Bool→AF→aA→Prop
 | 0,listed,φ,st=>Region.ready .any ops listed= []∧K φ st
 | f+1,listed,φ,st=>(Region.ready .any ops listed= []→K φ st)∧∀i∈Region.ready .any ops listed,∃o,ops[i]?=some o ∧
  ((S.contains i=true∧∃r,fP P st ops o r φ∧rE P ops S s0 K f (listed.setIfInBounds i true) (φ.put o.dst r) st) ∨
   (S.contains i=false∧fA P ops o φ st (fun r st'=>(BT ops S i=true∨dU s0 st')∧rE P ops S s0 K f (listed.setIfInBounds i true) (φ.put o.dst r) st')))
theorem AM{ops:Array Oper}{S:List Nat}{s0:aA}{K:AF→aA→Prop}:∀(f:Nat) (listed:Array Bool) (φ:AF) (st:aA),rE P ops S s0 K f listed φ st→wS P ops K f listed φ st
 | 0,_,_,_,h=>h
 | f+1,listed,φ,st,h=>by
  refine⟨h.1,fun i hi=>?_⟩
  obtain⟨o,ho,h2⟩:=h.2 i hi
  refine⟨o,ho,?_⟩
  rcases h2 with ⟨_,r,y,k⟩ | ⟨_,k⟩
  · exact EG y (AM f _ _ _ k)
  · exact oE (fun r s q=>AM f _ _ _ q.2) k
theorem U5{ops:Array Oper}{S:List Nat}{s0:aA}{i:Nat}{oi:Oper}{v:AV}{K:AF→aA→Prop}(hi:ops[i]?=some oi)(hS:S.contains i=true) :
 ∀(f:Nat) (listed:Array Bool) (φ:AF) (st:aA),n9 ops listed →
  (∀j oj,ops[j]?=some oj→j≠i→listed.getD j true=false→(∀e∈oj.after,Region.binds .any e=true→e.on≠i)→oi.apart ops oj=true) →
  i∈Region.ready .any ops listed→(∀s,dU s0 s→fP P s ops oi v φ)→dU s0 st →
  rE P ops S s0 K f (listed.setIfInBounds i true) (φ.put oi.dst v) st→rE P ops S s0 K (f+1) listed φ st:=by
 intro f
 induction f with
 | zero=>
  intro listed φ st hcl _ hr hy hx H
  refine⟨fun h=>(by rw[h] at hr;cases hr),fun j hj=>?_⟩
  by_cases hji:j=i
  · subst hji;exact⟨oi,hi,.inl ⟨hS,v,hy st hx,H⟩⟩
  · have:=ready_mono hj hji
    rw[H.1] at this
    cases this
 | succ f ih=>
  intro listed φ st hcl oR hr hy hx H
  refine⟨fun h=>(by rw[h] at hr;cases hr),fun j hj=>?_⟩
  by_cases hji:j=i
  · subst hji;exact⟨oi,hi,.inl ⟨hS,v,hy st hx,H⟩⟩
  · obtain⟨oj,hoj,h1⟩:=H.2 j (ready_mono hj hji)
    obtain⟨lM,oj',uY,cX⟩:=mem_ready.1 hj
    have:oj'=oj:=m8 (uY.symm.trans hoj)
    subst this
    have hun:=(mem_ready.1 hr).1
    have p7:∀e∈oj'.after,Region.binds .any e=true→e.on≠i:=fun e he hb heq=>by
     have h1:=cX e he hb
     rw[heq,getD_both hun] at h1
     cases h1
    obtain⟨a1,a2,a3⟩:=Oper.apart_spec (oR j oj' hoj hji lM p7)
    have oS:∀k ok,ops[k]?=some ok→k≠i→(listed.setIfInBounds j true).getD k true=false →
     (∀e∈ok.after,Region.binds .any e=true→e.on≠i)→oi.apart ops ok=true:=fun k ok hk hki hun hno=>by
     refine oR k ok hk hki ?_ hno
     by_cases hjk:j=k
     · subst hjk;exact lM
     · rw[getD_set_ne true hjk] at hun;exact hun
    refine⟨oj',hoj,?_⟩
    rcases h1 with ⟨hSj,r,yj,h2⟩ | ⟨hSj,h2⟩
    · refine .inl ⟨hSj,r,(lD φ v a1).1 yj,ih (listed.setIfInBounds j true) (φ.put oj'.dst r) st (hcl.set hj) oS (ready_mono hr (cV hji)) (fun s hs=>(lD φ r a3).2 (hy s hs)) hx ?_⟩
      rw[tG _ _ hji,←put_comm φ v r a2]
      exact h2
    · refine .inr ⟨hSj,oE (fun r st' h3=>?_) ((AR φ v a1).1 h2)⟩
      refine⟨h3.1,?_⟩
      have hx':dU s0 st':=by
       rcases h3.1 with he | he
       · exfalso
         unfold BT at he
         have hd:=dY.1 he i (by simpa using hS)
         exact xJ hcl (getD_both hun) _ j oj' hoj hd cX
       · exact he
      refine ih (listed.setIfInBounds j true) (φ.put oj'.dst r) st' (hcl.set hj) oS (ready_mono hr (cV hji)) (fun s hs=>(lD φ r a3).2 (hy s hs)) hx' ?_
      rw[tG _ _ hji,←put_comm φ v r a2]
      exact h3.2
def lS(ops:Array Oper)(S:List Nat):List (Nat×Nat)→Array Bool→Bool
 | [],listed=>(Region.ready .any ops listed).isEmpty
 | (i,0)::r,listed=>decide (Region.ready .any ops listed= [i])&& !S.contains i&&lS ops S r (listed.setIfInBounds i true)
 | (i,1)::r,listed=>(Region.ready .any ops listed).contains i&&Region.free .any ops listed i&&S.contains i&&lS ops S r (listed.setIfInBounds i true)
 | (i,_)::r,listed=>decide (Region.ready .any ops listed= [i])&& !S.contains i&&BT ops S i&&lS ops S r (listed.setIfInBounds i true)
def rL(P:Program)(ops:Array Oper)(s0:aA)(K:AF→aA→Prop):List (Nat×Nat)→AF→aA→Prop
 | [],φ,st=>K φ st
 | (i,0)::r,φ,st=>∃o,ops[i]?=some o∧fA P ops o φ st (fun v st'=>dU s0 st'∧rL P ops s0 K r (φ.put o.dst v) st')
 | (i,1)::r,φ,st=>∃o,ops[i]?=some o∧∃v,(∀s,dU s0 s→fP P s ops o v φ)∧rL P ops s0 K r (φ.put o.dst v) st
 | (i,_)::r,φ,st=>∃o,ops[i]?=some o∧fA P ops o φ st (fun v st'=>rL P ops s0 K r (φ.put o.dst v) st')
def sJ:List (Nat×Nat)→Bool
 | []=>true
 | (_,0)::r=>sJ r
 | (_,1)::r=>sJ r
 | (_,_)::r=>r.all fun p=>p.2 != 1
theorem wW{ops:Array Oper}{S:List Nat}{s0:aA}{K:AF→aA→Prop}:∀(p:List (Nat×Nat)) (listed:Array Bool) (φ:AF) (st:aA),n9 ops listed→lS ops S p listed=true→(sJ p=true∧dU s0 st∨(p.all fun q=>q.2 != 1)=true)→rL P ops s0 K p φ st→rE P ops S s0 K p.length listed φ st
 | [],listed,φ,st,_,hB,hx,h=>⟨by simpa [lS] using hB,h⟩
 | (i,0)::r,listed,φ,st,hcl,hB,hx,h=>by
  simp only[lS,bV,bK,k8] at hB
  obtain⟨o,ho,h'⟩:=h
  have hr:i∈Region.ready .any ops listed:=by rw[hB.1.1];simp
  refine⟨fun h0=>(by rw[hB.1.1] at h0;cases h0),fun j hj=>?_⟩
  rw[hB.1.1] at hj
  obtain rfl:j=i:=by simpa using hj
  refine⟨o,ho,.inr ⟨hB.1.2,oE (fun v st' q=>⟨.inr q.1,wW r _ _ _ (hcl.set hr) hB.2 ?_ q.2⟩) h'⟩⟩
  rcases hx with hx | hx
  · exact .inl ⟨hx.1,q.1⟩
  · refine .inr ?_
    simp only[iX,bV] at hx
    exact hx.2
 | (i,1)::r,listed,φ,st,hcl,hB,hx,h=>by
  simp only[lS,bV] at hB
  obtain⟨⟨⟨hr,hf⟩,hS⟩,hB'⟩:=hB
  obtain⟨o,ho,v,hv,h'⟩:=h
  have hr':i∈Region.ready .any ops listed:=by simpa using hr
  rcases hx with hx | hx
  · exact U5 ho hS _ listed φ st hcl (Region.free_spec ho hf) hr' hv hx.2 (wW r _ _ _ (hcl.set hr') hB' (.inl hx) h')
  · simp at hx
 | (i,k+2)::r,listed,φ,st,hcl,hB,hx,h=>by
  simp only[lS,bV,bK,k8] at hB
  obtain⟨o,ho,h'⟩:=h
  have hr:i∈Region.ready .any ops listed:=by rw[hB.1.1.1];simp
  refine⟨fun h0=>(by rw[hB.1.1.1] at h0;cases h0),fun j hj=>?_⟩
  rw[hB.1.1.1] at hj
  obtain rfl:j=i:=by simpa using hj
  refine⟨o,ho,.inr ⟨hB.1.1.2,oE (fun v st' q=>⟨.inl hB.1.2,wW r _ _ _ (hcl.set hr) hB.2 (.inr ?_) q⟩) h'⟩⟩
  rcases hx with hx | hx
  · exact hx.1
  · simp only[iX,bV] at hx
    exact hx.2
theorem VX{N:Nat}{id:Nat}{ops:Array Oper}{Q:Exit→AF→aA→Prop}{φ:AF}{st:aA}(p:List (Nat×Nat))(S:List Nat)(s0:aA)(hm:P.follows .mixedOrders=true)(hok:lQ N ops=true)(hl:p.length=ops.size)(hB:lS ops S p (Array.replicate ops.size false)=true)(hf:sJ p=true)(hs:dU s0 st)
 (h:rL P ops s0 (Q .normal) p φ st):dT P N (.region id ops true) Q φ st:=by
 intro a w R
 refine wp_region_any hm ?_
 have R0:Rel N a { w with drawn:=w.drawn+1 } φ st:=⟨R.size,R.defers,R.frame,R.store⟩
 have:=AM _ _ _ _ (wW p _ φ st (fun j o _ hl=>(by rw[QM] at hl;cases hl)) hB (.inl ⟨hf,hs⟩) h)
 rw[hl] at this
 exact AJ (vB hok) (sP hok) (w0:=w) (st0:=st) (fun φ' st' a' w' k R' T s=>⟨φ',st',R',T,s,k⟩) _ _ _ _ _ _ this R0 (aX.refl _ _) ⟨rfl,rfl,rfl⟩
def eN(P:Program)(ops:Array Oper)(s0:aA)(K:AF→aA→Prop):List (Nat×Nat)→AF→aA→Prop
 | [],φ,st=>K φ st
 | (i,0)::r,φ,st=>match ops[i]? with
  | none=>False
  | some o=>aM P [] ops [o] (fun φ' st'=>dU s0 st'∧eN P ops s0 K r φ' st') φ st
 | (i,1)::r,φ,st=>match ops[i]? with
  | none=>False
  | some o=>if iB o=true then aM P [] ops [o] (fun φ' _=>eN P ops s0 K r φ' st) φ s0 else
   match o.guard,o.op with
   | none,.call { callee:=.value f,args,.. }=>∃v,(∀s,dU s0 s→lG P (φ.eval f) (args.toList.map φ.eval) s (fun r' s'=>r'=v∧s'=s))∧eN P ops s0 K r (φ.put o.dst v) st
   | _,_=>False
 | (i,_)::r,φ,st=>match ops[i]? with
  | none=>False
  | some o=>aM P [] ops [o] (fun φ' st'=>eN P ops s0 K r φ' st') φ st
theorem oD{ops:Array Oper}{s0:aA}{K:AF→aA→Prop}:∀(p:List (Nat×Nat)) (φ:AF) (st:aA),eN P ops s0 K p φ st→rL P ops s0 K p φ st
 | [],_,_,h=>h
 | (i,0)::r,φ,st,h=>by
  simp only[eN] at h
  split at h
  · exact h.elim
  · rename_i o ho
    refine⟨o,ho,?_⟩
    simp only[aM] at h
    unfold fA
    split at h
    · rename_i hg
      rw[hg]
      exact rN (fun v s q=>⟨q.1,oD r _ _ q.2⟩) h
    · rename_i hg
      rw[hg]
      exact⟨h.1,oD r _ _ h.2⟩
    · exact h.elim
 | (i,1)::r,φ,st,h=>by
  simp only[eN] at h
  split at h
  · exact h.elim
  · rename_i o ho
    split at h
    · rename_i hp
      simp only[aM] at h
      split at h
      · rename_i hg
        rw[nF hp] at h
        split at h
        · rename_i v hv
          refine⟨o,ho,v,fun s hs=>.inl ⟨hg,?_⟩,oD r _ _ h⟩
          rw[nF hp,EF hs hv]
          exact⟨rfl,rfl⟩
        · exact h.elim
      · rename_i hg
        exact⟨o,ho,.undef,fun s _=>.inr ⟨hg,rfl⟩,oD r _ _ h⟩
      · exact h.elim
    · split at h
      · rename_i f args ats hg hop
        obtain⟨v,h1,h2⟩:=h
        refine⟨o,ho,v,fun s hs=>.inl ⟨by simp only[eF,hg],?_⟩,oD r _ _ h2⟩
        simp only[cW,hop]
        exact h1 s hs
      · exact h.elim
 | (i,k+2)::r,φ,st,h=>by
  simp only[eN] at h
  split at h
  · exact h.elim
  · rename_i o ho
    refine⟨o,ho,?_⟩
    simp only[aM] at h
    unfold fA
    split at h
    · rename_i hg
      rw[hg]
      exact rN (fun v s q=>oD r _ _ q) h
    · rename_i hg
      rw[hg]
      exact oD r _ _ h
    · exact h.elim
end
def CZ(P:Program)(ops:Array Oper)(s0:aA)(K:AF→aA→Prop)(r:List (Nat×Nat))(φ:AF)(st:aA):Prop:=dU s0 st∧eN P ops s0 K r φ st
def CX(P:Program)(ops:Array Oper)(s0:aA)(K:AF→aA→Prop)(r:List (Nat×Nat))(φ:AF)(st:aA):Prop:=eN P ops s0 K r φ st
def CW(P:Program)(ops:Array Oper)(s0:aA)(K:AF→aA→Prop)(r:List (Nat×Nat))(st:aA)(φ:AF)(_:aA):Prop:=eN P ops s0 K r φ st
def CV(P:Program)(ops:Array Oper)(s0:aA)(K:AF→aA→Prop)(r:List (Nat×Nat))(φ:AF)(dst:Option Tmp)(st:aA)(v:AV):Prop:=eN P ops s0 K r (φ.put dst v) st
def FN(P:Program)(s0:aA)(f:AV)(args:List AV)(K:AV→Prop):Prop:=∃v,(∀s,dU s0 s→lG P f args s (fun r' s'=>r'=v∧s'=s))∧K v
def sV(P:Program)(ops:Array Oper)(s0:aA)(K:AF→aA→Prop)(r:List (Nat×Nat))(φ:AF)(st:aA):Nat→Option Oper→Prop
 | 0,some o=>aM P [] ops [o] (CZ P ops s0 K r) φ st
 | 1,some o=>if iB o=true then aM P [] ops [o] (CW P ops s0 K r st) φ s0 else
  match o.guard,o.op with
  | none,.call { callee:=.value f,args,.. }=>FN P s0 (φ.eval f) (args.toList.map φ.eval) (CV P ops s0 K r φ o.dst st)
  | _,_=>False
 | _,some o=>aM P [] ops [o] (CX P ops s0 K r) φ st
 | _,none=>False
theorem MY{P:Program}{ops:Array Oper}{s0:aA}{K:AF→aA→Prop}{φ:AF}{st:aA}:eN P ops s0 K [] φ st=K φ st:=rfl
theorem MZ{P:Program}{l:List Oper}{s0:aA}{K:AF→aA→Prop}{φ:AF}{st:aA}{i b:Nat}{r:List (Nat×Nat)}:eN P l.toArray s0 K ((i,b)::r) φ st=sV P l.toArray s0 K r φ st b l[i]?:=by
 match b with
 | 0=>simp only[eN,pM];cases l[i]?<;>rfl
 | 1=>simp only[eN,pM];cases l[i]?<;>rfl
 | b+2=>simp only[eN,pM];cases l[i]?<;>rfl
theorem M4{P:Program}{ops:Array Oper}{s0:aA}{K:AF→aA→Prop}{φ:AF}{st:aA}{r:List (Nat×Nat)}{o:Oper}:sV P ops s0 K r φ st 0 (some o)=aM P [] ops [o] (CZ P ops s0 K r) φ st:=rfl
theorem M5{P:Program}{ops:Array Oper}{s0:aA}{K:AF→aA→Prop}{φ:AF}{st:aA}{r:List (Nat×Nat)}{o:Oper}:sV P ops s0 K r φ st 1 (some o)=if iB o=true then aM P [] ops [o] (CW P ops s0 K r st) φ s0 else
      match o.guard,o.op with
      | none,.call { callee:=.value f,args,.. }=>FN P s0 (φ.eval f) (args.toList.map φ.eval) (CV P ops s0 K r φ o.dst st)
      | _,_=>False:=rfl
theorem M6{P:Program}{ops:Array Oper}{s0:aA}{K:AF→aA→Prop}{φ:AF}{st:aA}{r:List (Nat×Nat)}{o:Oper}:sV P ops s0 K r φ st 2 (some o)=aM P [] ops [o] (CX P ops s0 K r) φ st:=rfl
theorem M3{P:Program}{ops:Array Oper}{s0:aA}{K:AF→aA→Prop}{φ:AF}{st:aA}{r:List (Nat×Nat)}:CZ P ops s0 K r φ st=(dU s0 st∧eN P ops s0 K r φ st):=rfl
theorem M2{P:Program}{ops:Array Oper}{s0:aA}{K:AF→aA→Prop}{φ:AF}{st:aA}{r:List (Nat×Nat)}:CX P ops s0 K r φ st=eN P ops s0 K r φ st:=rfl
theorem M1{P:Program}{ops:Array Oper}{s0:aA}{K:AF→aA→Prop}{φ:AF}{st s:aA}{r:List (Nat×Nat)}:CW P ops s0 K r st φ s=eN P ops s0 K r φ st:=rfl
theorem M0{P:Program}{ops:Array Oper}{s0:aA}{K:AF→aA→Prop}{φ:AF}{st:aA}{r:List (Nat×Nat)}{dst:Option Tmp}{v:AV}:CV P ops s0 K r φ dst st v=eN P ops s0 K r (φ.put dst v) st:=rfl
@[congr] theorem aHK {P:Program} {ops:Array Oper} {s0:aA} {K:AF→aA→Prop} {p:List (Nat×Nat)} {φ φ':AF} {st st':aA} (h1:φ=φ') (h2:st=st'):eN P ops s0 K p φ st=eN P ops s0 K p φ' st':=by rw[h1,h2]
@[congr] theorem aHV {P:Program} {ops:Array Oper} {s0:aA} {K:AF→aA→Prop} {p:List (Nat×Nat)} {φ φ':AF} {st st':aA} {b:Nat} {o o':Option Oper} (h1:φ=φ') (h2:st=st') (h3:o=o'):sV P ops s0 K p φ st b o=sV P ops s0 K p φ' st' b o':=by rw[h1,h2,h3]
theorem k0{P:Program}{N:Nat}{id:Nat}{l:List Oper}{Q:Exit→AF→aA→Prop}{φ:AF}{st:aA}(p:List (Nat×Nat))(S:List Nat)(s0:aA)(hm:P.follows .mixedOrders=true)(hok:lQ N l.toArray=true)(hl:p.length=l.length)(hB:lS l.toArray S p (Array.replicate l.length false)=true)(hf:sJ p=true)(hs:dU s0 st)
 (h:eN P l.toArray s0 (Q .normal) p φ st):dT P N (.region id l.toArray true) Q φ st:=
 VX p S s0 hm hok (by simpa using hl) (by simpa using hB) hf hs (oD p φ st h)
def SI(K:AV→aA→Prop)(st:aA):Option AV→Option AV→Prop
 | some r,some s=>f9 [r,s]=true∧K (.tup [r,s]) st
 | _,_=>False
theorem NM{P:Program}{φ:AF}{st:aA}{p q:Tmp}{t u:TypeId}{K:AV→aA→Prop}:iS P [.cell p t,.cell q u] K φ st=SI K st (d6 P st t (φ p)) (d6 P st u (φ q)):=by
 simp only[iS,j2,rM]
 cases d6 P st t (φ p)<;>cases d6 P st u (φ q)<;>rfl
theorem NN{st:aA}{K:AV→aA→Prop}{r s:AV}:SI K st (some r) (some s)=(f9 [r,s]=true∧K (.tup [r,s]) st):=rfl
def one(b:Nat)(o:AO):aA:=g7.aC b o
theorem yK{b:Nat}{o:AO}:one b o b=some o:=aA.aP _ _ _
theorem eQ{b:Nat}{o:AO}{st:aA}(h:st b=some o):dU (one b o) st:=fun x p hx=>by
 simp only[one,aA.aC] at hx
 split at hx
 · rename_i e;cases hx;rw[e];exact h
 · cases hx
theorem aAB{st:aA}:dU g7 st:=fun x p hx=>by cases hx
section
variable {α:Type}
def bS(f:α→Nat):List α→Nat
 | []=>0
 | x::xs=>f x+bS f xs
theorem C7(f:α→Nat):∀ {l:List α} {i:Nat} {x:α},l[i]?=some x→bS f (l.take (i+1))=bS f (l.take i)+f x∧bS f (l.take (i+1))≤bS f l
 | [],i,x,h=>by simp at h
 | y::ys,0,x,h=>by simp at h;subst h;simp [bS]
 | y::ys,i+1,x,h=>by
  have:=C7 f (l:=ys) (i:=i) (x:=x) (by simpa using h)
  simp only[m5,bS] at this ⊢
  omega
theorem SY{f:α→Nat}:∀ {l:List α} {x:α},x∈l→f x≤bS f l
 | y::ys,x,h=>by
  simp only[dS] at h
  simp only[bS]
  rcases h with rfl | h
  · omega
  · have:=SY (f:=f) h;omega
theorem cJ{P:Program}{t:TypeId}{ag:Bool}{w:Nat}{av:α→AV}{l:List α}{i:Nat}{x:α}(hI:eI P t=some (ag,w))(h:l[i]?=some x)(hw:(av x).width=w):gZ P t (.slice (l.map av)) (.int .i64 (i:Int))=some (.pptr (av x)):=by
 simp only[gZ,hI,jZ,q8,h,l6,hw]
 simp
theorem aAA{av:α→AV}{w:Nat}(hw:∀x,(av x).width=w)(l:List α):eW (l.map av):=⟨w,by intro e h;simp only[fN] at h;obtain⟨t,_,rfl⟩:=h;exact hw t⟩
end
theorem C2{zs:List AV}{x:List AV}{w:Nat}(h1:x.length=w)(h2:zs.length=w):aF zs 0 x=x:=by
 unfold aF
 simp [h1,h2]
theorem cC{x:AV}(h:x.isAgg=true):AV.agg x.cells=x:=by cases x<;>simp [AV.isAgg] at h<;>rfl
theorem cD{x:List AV}{w:Nat}(h:x.length=w):x.take w=x:=by rw[←h];exact fZ
inductive Tm where
 | mk (kind n:Int) (name:ByteArray) (kids:List Tm)
mutual
def Tm.av:Tm→AV
 | .mk k n s ts=>.agg [.int .i64 k,.int .i64 n,.str s,.slice (zB ts)]
def zB:List Tm→List AV
 | []=>[]
 | t::ts=>t.av::zB ts
end
theorem TY:∀(ts:List Tm),zB ts=ts.map Tm.av
 | []=>rfl
 | t::ts=>by simp only[zB,bT,TY ts]
theorem a6(k n:Int)(s:ByteArray)(ts:List Tm):(Tm.mk k n s ts).av=.agg [.int .i64 k,.int .i64 n,.str s,.slice (ts.map Tm.av)]:=by simp only[Tm.av,TY]
mutual
def Tm.same:Tm→Tm→Bool
 | .mk k n s ts,.mk k' n' s' ts'=>decide (k=k')&&decide (n=n')&&decide (s=s')&&T9 ts ts'
def T9:List Tm→List Tm→Bool
 | [],[]=>true
 | t::ts,t'::ts'=>t.same t'&&T9 ts ts'
 | _,_=>false
end
theorem aQ(t:Tm):t.av.isAgg=true:=by cases t;rfl
theorem aR(t:Tm):t.av.width=4:=by cases t;rfl
theorem aO(t:Tm):t.av.cells.length=4:=by cases t;rfl
theorem bA(t:Tm):t.av.cells.all AV.storable=true:=by cases t;rfl
theorem bW(t:Tm):t.av.bP=false:=by cases t;rfl
theorem PF{t:Tm}:t.av.isAgg=true:=aQ t
theorem PO{t:Tm}:t.av.width=4:=aR t
theorem PM{t:Tm}:t.av.cells.all AV.storable=true:=bA t
theorem PI{t:Tm}:t.av.bP=false:=bW t
theorem PJ{t:Tm}:t.av.cells.length=4:=aO t
theorem PN{t:Tm}:t.av.cells.take 4=t.av.cells:=cD (aO t)
theorem PG{t:Tm}:AV.agg t.av.cells=t.av:=cC (aQ t)
theorem PK{t:Tm}{a b c d:AV}:aF [a,b,c,d] 0 t.av.cells=t.av.cells:=C2 (aO t) rfl
theorem PL{t u:Tm}:aF u.av.cells 0 t.av.cells=t.av.cells:=C2 (aO t) (aO u)
theorem O6{st:aA}{b:Nat}{o o':AO}:(st.aC b o).aC b o'=st.aC b o':=bM st b o o'
theorem O5{st:aA}{b:Nat}{o:AO}:(st.aC b o) b=some o:=aA.aP st b o
theorem O4{st:aA}{b x:Nat}{o:AO}(h:x≠b):(st.aC b o) x=st x:=aA.aV st o h
theorem aGA{t:Tm}{b:Nat}{l:List AV}:t.av.fin b l=t.av:=by cases t;simp only[a6,eC,bT,bF,dQ,d7,j5]
theorem PH{t:Tm}:t.av.cells.drop 4= []:=List.drop_of_length_le (by rw[aO];exact dJ _)
inductive Pf where
 | mk (goal:Tm) (clause:Int) (kids:List Pf)
mutual
def Pf.av:Pf→AV
 | .mk (.mk k n s ts) c ps=>.agg [.int .i64 k,.int .i64 n,.str s,.slice (ts.map Tm.av),.int .i64 c,.slice (SC ps)]
def SC:List Pf→List AV
 | []=>[]
 | t::ts=>t.av::SC ts
end
mutual
def Pf.same:Pf→Pf→Bool
 | .mk g c ps,.mk g' c' ps'=>g.same g'&&decide (c=c')&&SD ps ps'
def SD:List Pf→List Pf→Bool
 | [],[]=>true
 | t::ts,t'::ts'=>t.same t'&&SD ts ts'
 | _,_=>false
end
def RM(k:Nat)(acc:List UInt8):List UInt8:=if k=0 then acc else RM (k / 10) (UInt8.ofNat (48+k % 10)::acc)
termination_by k
decreasing_by omega
def mt(k:Int):ByteArray:=if k≤0 then⟨#[109,48]⟩ else⟨(109::RM k.toNat []).toArray⟩
theorem aD9{st:aA}{k n:Int}{s:ByteArray}{ts:List Tm}{o:AV}{bs:List Nat} :
 bZ st (Tm.mk k n s ts).av o bs↔∃q,o=.agg [.int .i64 k,.int .i64 n,.str s,q]∧bZ st (.slice (ts.map Tm.av)) q bs:=by
 rw[a6]
 generalize AV.slice (ts.map Tm.av)=x
 simp only[bZ,b8]
 constructor
 · rintro⟨os,rfl,o1,os1,b1,b1',rfl,rfl,⟨rfl,rfl⟩,o2,os2,b2,b2',rfl,rfl,⟨rfl,rfl⟩,o3,os3,b3,b3',rfl,rfl,⟨rfl,rfl⟩,o4,os4,b4,b4',rfl,rfl,h,rfl,rfl⟩
   exact⟨o4,rfl,by simpa using h⟩
 · rintro⟨q,rfl,h⟩
   exact⟨_,rfl,_,_,[],bs,rfl,rfl,⟨rfl,rfl⟩,_,_,[],bs,rfl,rfl,⟨rfl,rfl⟩,_,_,[],bs,rfl,rfl,⟨rfl,rfl⟩,q,[],bs,[],rfl,by simp,h,rfl,rfl⟩
abbrev iv (n:Int):AV:=.int .i64 n
def cG(s:ByteArray):Nat:=
 cond (decide (s=⟨#[61]⟩)||decide (s=⟨#[92,61]⟩)||decide (s=⟨#[61,61]⟩)||decide (s=⟨#[60]⟩)||decide (s=⟨#[62]⟩)||decide (s=⟨#[61,60]⟩)||decide (s=⟨#[62,61]⟩)||decide (s=⟨#[61,58,61]⟩)||decide (s=⟨#[105,115]⟩)) 3 (cond (decide (s=⟨#[43]⟩)||decide (s=⟨#[45]⟩)) 2 (cond (decide (s=⟨#[42]⟩)||decide (s=⟨#[47,47]⟩)||decide (s=⟨#[109,111,100]⟩)) 1 0))
def isBuiltin(s:ByteArray)(n:Int):Bool:=
 cond (decide (s=⟨#[61]⟩)||decide (s=⟨#[92,61]⟩)||decide (s=⟨#[61,61]⟩)||decide (s=⟨#[60]⟩)||decide (s=⟨#[62]⟩)||decide (s=⟨#[61,60]⟩)||decide (s=⟨#[62,61]⟩)||decide (s=⟨#[61,58,61]⟩)||decide (s=⟨#[105,115]⟩)) (decide (n=2)) (cond (decide (s=⟨#[116,114,117,101]⟩)||decide (s=⟨#[102,97,105,108]⟩)) (decide (n=0)) (cond (decide (s=⟨#[118,97,114]⟩)||decide (s=⟨#[110,111,110,118,97,114]⟩)||decide (s=⟨#[97,116,111,109]⟩)||decide (s=⟨#[105,110,116]⟩)) (decide (n=1)) (cond (decide (s=⟨#[97,114,103]⟩)) (decide (n=3)) false)))
abbrev sb (s:ByteArray):List UInt8:=s.data.toList
theorem bL(s:ByteArray):(sb s).length=s.size:=by simp only[sb,Array.length_toList];rfl
theorem lN{P:Program}{t:TypeId}{s:ByteArray}{i:Nat}{c:UInt8}(hu:P.underlying t=some .string)(h:(sb s)[i]?=some c):rG P t (.str s) (.int .i64 (i:Int))=some (.int .u8 (c.toNat:Int)):=by
 have hi:i<s.size:=by rw[←bL];exact(fY.1 h).1
 have:s[i]?=some c:=by
  rw[getElem?_pos s i hi]
  obtain⟨h1,h2⟩:=fY.1 h
  rw[←h2]
  try rfl
 simp only[rG,hu,jZ,this]
 simp
def letter(c:UInt8):Bool:=decide (97≤c.toNat)&&decide (c.toNat≤122)
def lP(s:ByteArray):Bool:=(sb s).all letter&&(decide ((1:Int)≤(s.size:Int))&&decide ((s.size:Int)≤6))
theorem oG{α:Type}{p:α→Bool}{l:List α}{i:Nat}{x:α}(h:l[i]?=some x)(hp:p x=false):l.all p=false:=by
 rw[List.all_eq_false]
 exact⟨x,c8 h,by simp [hp]⟩
theorem wZ{α:Type}{p:α→Bool}{l:List α}(h:∀(i:Nat) x,l[i]?=some x→p x=true):l.all p=true:=by
 rw[dY]
 intro x hx
 obtain⟨i,hi⟩:=q9 hx
 exact h i x hi
end Go.AW
