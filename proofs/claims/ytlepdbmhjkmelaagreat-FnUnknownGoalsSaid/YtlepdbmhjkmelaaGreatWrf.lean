/- Loops whose frame is kept, lists that are walked, lists that grow. -/
import Derived.Test.YtlepdbmhjkmelaaGreatWre
set_option linter.unusedSimpArgs false
set_option linter.unusedVariables false
set_option maxRecDepth 100000
namespace Go.AW
def eT(φ:AF):List Nat→List (Nat×AV)→List (Nat×AV)
 | [],l=>l
 | d::ds,l=>(d,φ d)::eT φ ds l
theorem IF{φ:AF}{l:List (Nat×AV)}:eT φ [] l=l:=rfl
theorem IG{φ:AF}{d:Nat}{ds:List Nat}{l:List (Nat×AV)}:eT φ (d::ds) l=(d,φ d)::eT φ ds l:=rfl
theorem eV{P:Program}{N:Nat}{c:Code}{Q:Exit→AF→aA→Prop}{φ:AF}{st:aA}{α σ:Type}(mt:List Nat)(cG:List Nat)(l:List α)(inv:Nat→σ→Prop)(ch:Nat→σ→List (Nat×AV))(so:Nat→σ→aA)
 (hok:codeOk N c=true)
 (h0:∃s,inv 0 s∧aL φ st (eT φ cG (ch 0 s)) (so 0 s))
 (h1:∀i x s,l[i]?=some x→i<l.length→((i:Int)<(l.length:Int))→l.drop i=x::l.drop (i+1)→inv i s→cX P N mt c (iP (fun φ' st'=>∃s',inv (i+1) s'∧aL φ' st' (eT φ cG (ch (i+1) s')) (so (i+1) s')) Q) (l9 (eT φ cG (ch i s))) (so i s))
 (h2:∀s,¬((l.length:Int)<(l.length:Int))→inv l.length s→cX P N mt c (iP (fun _ _=>False) Q) (l9 (eT φ cG (ch l.length s))) (so l.length s)):dL P N (.loop c) Q φ st:=by
 have hJ:∀(k:AF→aA→Prop) (i:Nat) (s:σ),(∀φ' st',(∃s',inv (i+1) s'∧aL φ' st' (eT φ cG (ch (i+1) s')) (so (i+1) s'))→k φ' st') →
  dL P N c (iP (fun φ' st'=>∃s',inv (i+1) s'∧aL φ' st' (eT φ cG (ch (i+1) s')) (so (i+1) s')) Q) (eO (eT φ cG (ch i s))) (so i s) →
  dL P N c (iP k Q) (eO (eT φ cG (ch i s))) (so i s):=by
  intro k i s hk hr a w R
  refine wp_mono (hr a w R) ?_
  rintro e a' w' ⟨φ',st',R',T,sm,q⟩
  refine⟨φ',st',R',T,sm,?_⟩
  cases e with
  | normal=>exact hk _ _ q
  | _=>exact q
 refine xG (α:=Nat×σ) (fun p=>p.1≤l.length∧inv p.1 p.2) (fun p=>eO (eT φ cG (ch p.1 p.2))) (fun p=>so p.1 p.2) (fun p=>l.length - p.1) ?_ ?_
 · obtain⟨s,hs,hl⟩:=h0
   exact⟨(0,s),⟨iI _,hs⟩,hl⟩
 · rintro⟨i,s⟩ ⟨hi,hs⟩
   simp only at hi hs ⊢
   rcases gS i l.length with hlt | hge
   · refine hJ _ i s ?_ (rS mt hok (h1 i l[i] s (eD hlt) hlt (by omega) (pC hlt) hs))
     rintro φ' st' ⟨s',h1',h2'⟩
     exact⟨(i+1,s'),by simp only;omega,⟨by simp only;omega,h1'⟩,h2'⟩
   · obtain rfl:i=l.length:=by omega
     intro a w R
     refine wp_mono (rS mt hok (h2 s (by omega) hs) a w R) ?_
     rintro e a' w' ⟨φ',st',R',T,sm,q⟩
     refine⟨φ',st',R',T,sm,?_⟩
     cases e with
     | normal=>exact q.elim
     | _=>exact q
theorem fY{P:Program}{N:Nat}{c:Code}{Q:Exit→AF→aA→Prop}{φ:AF}{st:aA}{σ:Type}(mt:List Nat)(cG:List Nat)(inv:σ→Prop)(ch:σ→List (Nat×AV))(so:σ→aA)(μ:σ→Nat)
 (hok:codeOk N c=true)
 (h0:∃s,inv s∧aL φ st (eT φ cG (ch s)) (so s))
 (h1:∀s,inv s→cX P N mt c (iP (fun φ' st'=>∃s',μ s'<μ s∧inv s'∧aL φ' st' (eT φ cG (ch s')) (so s')) Q) (l9 (eT φ cG (ch s))) (so s)):dL P N (.loop c) Q φ st:=
 nW mt inv (fun s=>eT φ cG (ch s)) so μ hok h0 h1
theorem bC{b:Bool}{p q:Prop}(h1:b=true→p)(h2:b=false→q):(b=true→p)∧(b=false→q):=⟨h1,h2⟩
theorem IM{P:Program}{t:TypeId}{s:ByteArray}:kX P t (.str s)=match P.underlying t with | some .string=>some (.int .i64 s.size) | _=>none:=rfl
theorem IL{P:Program}{t:TypeId}{es:List AV}:kX P t (.slice es)=match P.underlying t with | some (.slice _)=>some (.int .i64 es.length) | _=>none:=rfl
theorem IJ{P:Program}{t:TypeId}{es:List AV}:kX P t (.fslice es)=match P.underlying t with | some (.slice _)=>some (.int .i64 es.length) | _=>none:=rfl
theorem F6{P:Program}{t:TypeId}{es:List AV}:rG P t (.fslice es)=match P.underlying t with | some (.slice _)=>some (.int .i64 es.length) | _=>none:=rfl
theorem IK{P:Program}{t:TypeId}{b o n w:Nat}:kX P t (.mslice b o n w)=match P.underlying t with | some (.slice _)=>some (.int .i64 n) | _=>none:=rfl
def aP(w b:Nat):List AV→AV
 | []=>.fslice []
 | x::l=>.mslice b 0 (x::l).length w
def aU(st:aA)(b:Nat):List AV→aA
 | []=>st
 | x::l=>st.aC b (.cells ((x::l).flatMap AV.cells))
theorem i7{w b:Nat}:aP w b []=.fslice []:=rfl
theorem pU{st:aA}{b:Nat}:aU st b []=st:=rfl
theorem l4{w b:Nat}{l:List AV}(h:l≠[]):aP w b l=.mslice b 0 l.length w:=by cases l<;>first | exact absurd rfl h | rfl
theorem m5{st:aA}{b:Nat}{l:List AV}(h:l≠[]):aU st b l=st.aC b (.cells (l.flatMap AV.cells)):=by cases l<;>first | exact absurd rfl h | rfl
theorem rO{st:aA}{b x:Nat}{l:List AV}(h:x≠b):aU st b l x=st x:=by cases l<;>first | rfl | exact aA.bK _ _ h
theorem BC{st:aA}{b x:Nat}{l:List AV}(h:aU st b l x=none):st x=none∧(l≠[]→x≠b):=by
 cases l with
 | nil=>exact⟨h,fun h=>absurd rfl h⟩
 | cons y l=>
  simp only[aU,aA.aC] at h
  split at h
  · cases h
  · rename_i hn;exact⟨h,fun _=>hn⟩
theorem rP{w b:Nat}{l:List AV}:(aP w b l).bA=false:=by cases l<;>rfl
theorem jN{w b:Nat}{l:List AV}:(aP w b l).isAgg=false:=by cases l<;>rfl
theorem j8{w b:Nat}{l:List AV}:(aP w b l).cells= [aP w b l]:=by cases l<;>rfl
theorem dN{w b:Nat}{l:List AV}:(aP w b l).storable=true:=by cases l<;>rfl
theorem tZ{P:Program}{t e:TypeId}{w b:Nat}{l:List AV}(h:P.underlying t=some (.slice e)):kX P t (aP w b l)=some (.int .i64 (l.length:Int)):=by
 cases l<;>simp [aP,kX,h]
theorem aN.aU{st st':aA}(x:aN st st'){b:Nat}{l:List AV}(h:l≠[]→st' b=none):aN (aU st b l) st':=by
 cases l with
 | nil=>exact x
 | cons y l=>exact x.aC (h (by simp))
theorem eJ{P:Program}{t:TypeId}{ag:Bool}{w bytes:Nat}{zs:List AV}{st:aA}{b:Nat}{l xs:List AV}{x:AV}{K:AV→aA→Prop}
 (hI:eI P t=some (ag,w)) (hB:eB P t=some bytes) (hZ:eZ P t=some zs) (hz:zs.length=w) (hx:tW x=some xs) (eY:pV w xs) (hw:∀e∈l,e.width=w) (hb:l≠[]→st b=none)
 (h1:(l.length+xs.length)*bytes≤140737488355328) (h2:l.length+xs.length≤9223372036854775807)
 (hK:∀b',(l++xs≠[]→st b'=none)→K (aP w b' (l++xs)) (aU st b' (l++xs))):gT P t (aU st b l) (aP w b l) x K:=by
 unfold gT
 rw[hI,hB,hZ,hx]
 refine⟨hz,eY,?_⟩
 cases l with
 | nil=>
  show _∧_∧_∧_∧_
  refine⟨by simpa using h1,by simpa using h2,by simp,?_,?_⟩
  · rintro rfl
    have:=hK b (by simp)
    simpa [aP,aU] using this
  · intro hne b' hb'
    have:=hK b' (fun _=>hb')
    rw[dR,l4 hne,m5 hne] at this
    simpa [aU] using this
 | cons y l=>
  have hb:=hb (by simp)
  show w=w∧_∧_∧_
  refine⟨rfl,h1,h2,?_⟩
  have hfl:((y::l).flatMap AV.cells).length=(y::l).length*w:=lD hw
  simp only[aU,aA.aY]
  refine⟨by rw[hfl];exact c9 _,?_,?_⟩
  · have:=hK b (fun _=>hb)
    rw[l4 (by simp),m5 (by simp),tP,dM] at this
    rw[cF,←hfl,eE]
    exact this
  · intro b' hb'
    have hne:b'≠b:=by rintro rfl;rw[aA.aY] at hb';cases hb'
    rw[aA.bK _ _ hne] at hb'
    have:=hK b' (fun _=>hb')
    rw[l4 (by simp),m5 (by simp),tP,dM] at this
    rw[aA.oF _ _ _ hb,←hfl,eE]
    exact this
def AV.fin(b:Nat)(l:List AV)(r:AV):AV:=if l.isEmpty=true then r.soft else(r.fz b l).soft
theorem fJ{w b:Nat}{l:List AV}:(aP w b l).fin b l=.slice l:=by cases l<;>simp [aP,AV.fin,AV.fz,AV.soft]
theorem nO:∀cs:List AV,dK cs=cs.map AV.soft
 | []=>rfl
 | c::cs=>by simp [dK,nO cs]
theorem uO{b:Nat}{l:List AV}:∀cs:List AV,gA b l cs=cs.map (AV.fz b l)
 | []=>rfl
 | c::cs=>by simp [gA,uO cs]
theorem gZ{b:Nat}{l:List AV}{cs:List AV}:(AV.agg cs).fin b l=.agg (cs.map (AV.fin b l)):=by
 unfold AV.fin
 split
 · simp [AV.soft,nO]
 · simp [AV.fz,AV.soft,nO,uO]
theorem qC{b:Nat}{l:List AV}{cs:List AV}:(AV.tup cs).fin b l=.tup (cs.map (AV.fin b l)):=by
 unfold AV.fin
 split
 · simp [AV.soft,nO]
 · simp [AV.fz,AV.soft,nO,uO]
theorem eR{b:Nat}{l:List AV}{k:IntKind}{n:Int}:(AV.int k n).fin b l=.int k n:=by unfold AV.fin;split<;>rfl
theorem M7{b:Nat}{l:List AV}{n:Bool}:(AV.bool n).fin b l=.bool n:=by unfold AV.fin;split<;>rfl
theorem gK{b:Nat}{l:List AV}{s:ByteArray}:(AV.str s).fin b l=.str s:=by unfold AV.fin;split<;>rfl
theorem nE{b:Nat}{l:List AV}{s:List AV}:(AV.slice s).fin b l=.slice s:=by unfold AV.fin;split<;>rfl
theorem r7{b:Nat}{l:List AV}{s:List AV}:(AV.fslice s).fin b l=.slice s:=by unfold AV.fin;split<;>rfl
theorem M8{b:Nat}{l:List AV}{e:AV}:(AV.pptr e).fin b l=.pptr e:=by unfold AV.fin;split<;>rfl
theorem WV{b c o:Nat}{l:List AV}:(AV.ptr c o).fin b l=.ptr c o:=by unfold AV.fin;split<;>rfl
theorem aD.fin{P:Program}{g:FuncId}{args:List AV}{st:aA}{Q:AV→aA→Prop}
 (x:aD P g args st (fun r st'=>∃b l s0,st'=aU s0 b l∧(l≠[]→s0 b=none)∧(∀e∈l,e.bA=false)∧eL l∧Q (r.fin b l) s0)):aD P g args st Q:=
 x.hJ fun r st' ⟨b,l,s0,h1,h0,h2,h3,h4⟩=>by
  cases l with
  | nil=>
   exact⟨r.fin b [],st',(aN.refl _).lN,fun h v S y=>y.soft,by have e:st'=s0:=h1;rw[e];exact h4⟩
  | cons e l=>
   have hb:=h0 (by simp)
   subst h1
   have h1:aU s0 b (e::l) b=some (.cells ((e::l).flatMap AV.cells)):=by simp only[aU,aA.aY]
   have e1:(aU s0 b (e::l)).erase b=s0:=by simp only[aU];exact aA.oF _ _ _ hb
   refine⟨r.fin b (e::l),s0,?_,fun h v S y=>?_,h4⟩
   · have:=(d9 (aU s0 b (e::l)) b).lN
     rwa [e1] at this
   · have:=y.fz S h1 h2 h3
     rw[e1] at this
     exact this.soft
mutual
def AV.iR:AV→Bool
 | .slice _=>false
 | .fslice es=>es.isEmpty
 | .pptr _=>false
 | .agg cs=>hF cs
 | .tup vs=>hF vs
 | .func _ cs=>hF cs
 | _=>true
def hF:List AV→Bool
 | []=>true
 | a::as=>a.iR&&hF as
end
def AO.iR:AO→Prop
 | .cells cs=>hF cs=true
 | .map f=>∀n a,f n=some a→a.iR=true
 | .tab _=>True
section
variable {h:aM} {st st':aA}
end
def aA.frame(st s0 s1:aA):aA:=fun b=>match s0 b,st b with
 | none,some o=>some o
 | _,_=>s1 b
def g9:aA:=fun _=>none
mutual
def bQ(st:aA):AV→AV→List Nat→Prop
 | .int k n,o,bs=>o=.int k n∧bs= []
 | .bool b,o,bs=>o=.bool b∧bs= []
 | .str s,o,bs=>o=.str s∧bs= []
 | .agg cs,o,bs=>∃os,o=.agg os∧bS st cs os bs
 | .slice es,o,bs=>(es= []∧o=.fslice []∧bs= [])∨∃b bs' os w,o=.mslice b 0 es.length w∧bs=b::bs'∧st b=some (.cells (os.flatMap AV.cells))∧bS st es os bs'∧(∀e∈es,e.width=w)
 | _,_,_=>False
def bS(st:aA):List AV→List AV→List Nat→Prop
 | [],os,bs=>os= []∧bs= []
 | a::as,os,bs=>∃o os' b1 b2,os=o::os'∧bs=b1++b2∧bQ st a o b1∧bS st as os' b2
end
theorem bS.length{st:aA}:∀ {as os:List AV} {bs:List Nat},bS st as os bs→os.length=as.length
 | [],os,bs,x=>by simp only[bS] at x;simp [x.1]
 | a::as,os,bs,x=>by
  simp only[bS] at x
  obtain⟨o,os',b1,b2,rfl,rfl,_,x2⟩:=x
  simp [bS.length x2]
theorem bQ.shape{st:aA}:∀ {a o:AV} {bs:List Nat},bQ st a o bs→o.isAgg=a.isAgg∧o.width=a.width∧o.bA=false∧(∀cs,a=.agg cs→∃os,o=.agg os)
 | .int k n,o,bs,x=>by simp only[bQ] at x;rw[x.1];exact⟨rfl,rfl,rfl,by simp⟩
 | .bool b,o,bs,x=>by simp only[bQ] at x;rw[x.1];exact⟨rfl,rfl,rfl,by simp⟩
 | .str s,o,bs,x=>by simp only[bQ] at x;rw[x.1];exact⟨rfl,rfl,rfl,by simp⟩
 | .agg cs,o,bs,x=>by
  simp only[bQ] at x
  obtain⟨os,rfl,x⟩:=x
  exact⟨rfl,x.length,rfl,fun _ _=>⟨os,rfl⟩⟩
 | .slice es,o,bs,x=>by
  simp only[bQ] at x
  rcases x with ⟨_,rfl,_⟩ | ⟨b,bs',os,w,rfl,_⟩<;>exact⟨rfl,rfl,rfl,by simp⟩
 | .junk,_,_,x=>x.elim
 | .undef,_,_,x=>x.elim
 | .tup _,_,_,x=>x.elim
 | .fslice _,_,_,x=>x.elim
 | .mslice _ _ _ _,_,_,x=>x.elim
 | .nilptr,_,_,x=>x.elim
 | .ptr _ _,_,_,x=>x.elim
 | .pptr _,_,_,x=>x.elim
 | .nilmap,_,_,x=>x.elim
 | .map _,_,_,x=>x.elim
 | .func _ _,_,_,x=>x.elim
 | .raw _,_,_,x=>x.elim
 | .eslice,_,_,x=>x.elim
section
variable {st st':aA}
mutual
theorem bQ.cG:∀(a o:AV) (bs:List Nat),(∀b∈bs,st' b=st b)→bQ st a o bs→bQ st' a o bs
 | .int k n,o,bs,_,x=>x
 | .bool b,o,bs,_,x=>x
 | .str s,o,bs,_,x=>x
 | .agg cs,o,bs,h,x=>by
  simp only[bQ] at x ⊢
  obtain⟨os,e,x⟩:=x
  exact⟨os,e,bS.cG cs os bs h x⟩
 | .slice es,o,bs,h,x=>by
  simp only[bQ] at x ⊢
  rcases x with x | ⟨b,bs',os,w,e1,rfl,e2,x,e3⟩
  · exact .inl x
  · exact .inr ⟨b,bs',os,w,e1,rfl,(h b (by simp)).trans e2,bS.cG es os bs' (fun q hq=>h q (by simp [hq])) x,e3⟩
 | .junk,_,_,_,x=>x
 | .undef,_,_,_,x=>x
 | .tup _,_,_,_,x=>x
 | .fslice _,_,_,_,x=>x
 | .mslice _ _ _ _,_,_,_,x=>x
 | .nilptr,_,_,_,x=>x
 | .ptr _ _,_,_,_,x=>x
 | .pptr _,_,_,_,x=>x
 | .nilmap,_,_,_,x=>x
 | .map _,_,_,_,x=>x
 | .func _ _,_,_,_,x=>x
 | .raw _,_,_,_,x=>x
 | .eslice,_,_,_,x=>x
theorem bS.cG:∀(as os:List AV) (bs:List Nat),(∀b∈bs,st' b=st b)→bS st as os bs→bS st' as os bs
 | [],os,bs,_,x=>x
 | a::as,os,bs,h,x=>by
  simp only[bS] at x ⊢
  obtain⟨o,os',b1,b2,e1,rfl,x1,x2⟩:=x
  exact⟨o,os',b1,b2,e1,rfl,bQ.cG a o b1 (fun q hq=>h q (by simp [hq])) x1,bS.cG as os' b2 (fun q hq=>h q (by simp [hq])) x2⟩
end
mutual
theorem bQ.iR:∀(a o:AV) (bs:List Nat),bQ st a o bs→o.iR=true∧o.cells.all AV.storable=o.cells.all AV.storable∧∀b∈bs,∃cs,st b=some (.cells cs)∧hF cs=true
 | .int k n,o,bs,x=>by simp only[bQ] at x;rw[x.1,x.2];exact⟨rfl,rfl,by simp⟩
 | .bool b,o,bs,x=>by simp only[bQ] at x;rw[x.1,x.2];exact⟨rfl,rfl,by simp⟩
 | .str s,o,bs,x=>by simp only[bQ] at x;rw[x.1,x.2];exact⟨rfl,rfl,by simp⟩
 | .agg cs,o,bs,x=>by
  simp only[bQ] at x
  obtain⟨os,rfl,x⟩:=x
  obtain⟨h1,h2⟩:=bS.iR cs os bs x
  exact⟨by simpa [AV.iR] using h1.1,rfl,h2⟩
 | .slice es,o,bs,x=>by
  simp only[bQ] at x
  rcases x with ⟨_,rfl,rfl⟩ | ⟨b,bs',os,w,rfl,rfl,e2,x,e3⟩
  · exact⟨rfl,rfl,by simp⟩
  · obtain⟨h1,h2⟩:=bS.iR es os bs' x
    refine⟨rfl,rfl,fun q hq=>?_⟩
    rcases iG.1 hq with rfl | hq
    · exact⟨_,e2,h1.2⟩
    · exact h2 q hq
 | .junk,_,_,x=>x.elim
 | .undef,_,_,x=>x.elim
 | .tup _,_,_,x=>x.elim
 | .fslice _,_,_,x=>x.elim
 | .mslice _ _ _ _,_,_,x=>x.elim
 | .nilptr,_,_,x=>x.elim
 | .ptr _ _,_,_,x=>x.elim
 | .pptr _,_,_,x=>x.elim
 | .nilmap,_,_,x=>x.elim
 | .map _,_,_,x=>x.elim
 | .func _ _,_,_,x=>x.elim
 | .raw _,_,_,x=>x.elim
 | .eslice,_,_,x=>x.elim
theorem bS.iR:∀(as os:List AV) (bs:List Nat),bS st as os bs→(hF os=true∧hF (os.flatMap AV.cells)=true)∧∀b∈bs,∃cs,st b=some (.cells cs)∧hF cs=true
 | [],os,bs,x=>by simp only[bS] at x;rw[x.1,x.2];exact⟨⟨rfl,rfl⟩,by simp⟩
 | a::as,os,bs,x=>by
  simp only[bS] at x
  obtain⟨o,os',b1,b2,rfl,rfl,x1,x2⟩:=x
  obtain⟨h1,_,h2⟩:=bQ.iR a o b1 x1
  obtain⟨⟨h3,h4⟩,h5⟩:=bS.iR as os' b2 x2
  have uR:∀(p q:List AV),hF p=true→hF q=true→hF (p++q)=true:=by
   intro p q hp hq
   induction p with
   | nil=>exact hq
   | cons c p ih=>simp only[hF,bX,dZ] at hp ⊢;exact⟨hp.1,ih hp.2⟩
  have hc:hF o.cells=true:=by cases o<;>first | (simpa [AV.cells,hF] using h1) | (simpa [AV.cells,AV.iR] using h1)
  refine⟨⟨by simp [hF,h1,h3],by rw[tQ];exact uR _ _ hc h4⟩,fun q hq=>?_⟩
  rcases j2.1 hq with hq | hq
  · exact h2 q hq
  · exact h5 q hq
end
end
section
variable {h:aM} {st s0:aA}
mutual
theorem bQ.view(S:bF h st)(D:aN st s0):∀(a o:AV) (bs:List Nat) (cs:List Value),bQ st a o bs→(∀b∈bs,s0 b=none)→VC h st o cs→VC h s0 a cs
 | .int k n,o,bs,cs,x,_,y=>by simp only[bQ] at x;rw[x.1] at y;exact y
 | .bool b,o,bs,cs,x,_,y=>by simp only[bQ] at x;rw[x.1] at y;exact y
 | .str s,o,bs,cs,x,_,y=>by simp only[bQ] at x;rw[x.1] at y;exact y
 | .agg as,o,bs,cs,x,hb,y=>by
  simp only[bQ] at x
  obtain⟨os,rfl,x⟩:=x
  simp only[VC] at y ⊢
  exact bS.QU S D as os bs cs x hb y
 | .slice es,o,bs,cs,x,hb,y=>by
  simp only[bQ] at x
  rcases x with ⟨rfl,rfl,rfl⟩ | ⟨b,bs',os,w,rfl,rfl,e2,x,e3⟩
  · unfold VC at y ⊢
    rcases y with y | ⟨b,off,e,_⟩
    · exact .inl y
    · exact .inl ⟨⟨_,e⟩,rfl⟩
  · simp only[VC] at y
    obtain⟨cap,e,l1,l2,_⟩:=y
    obtain⟨hlt,c,t,q1,q2,vs,q3,q4⟩:=S b _ e2
    have hsh:=bS.O3 x
    unfold VC
    refine .inr ⟨b,0,cap,e,l1,l2,hb b (by simp),hlt,⟨w,e3⟩,bS.QV S D b es os bs' 0 x (fun q hq=>hb q (by simp [hq])) (tU (fun q hq=>hsh q hq) q3 q4)⟩
 | .junk,_,_,_,x,_,_=>x.elim
 | .undef,_,_,_,x,_,_=>x.elim
 | .tup _,_,_,_,x,_,_=>x.elim
 | .fslice _,_,_,_,x,_,_=>x.elim
 | .mslice _ _ _ _,_,_,_,x,_,_=>x.elim
 | .nilptr,_,_,_,x,_,_=>x.elim
 | .ptr _ _,_,_,_,x,_,_=>x.elim
 | .pptr _,_,_,_,x,_,_=>x.elim
 | .nilmap,_,_,_,x,_,_=>x.elim
 | .map _,_,_,_,x,_,_=>x.elim
 | .func _ _,_,_,_,x,_,_=>x.elim
 | .raw _,_,_,_,x,_,_=>x.elim
 | .eslice,_,_,_,x,_,_=>x.elim
theorem bS.QU(S:bF h st)(D:aN st s0):∀(as os:List AV) (bs:List Nat) (cs:List Value),bS st as os bs→(∀b∈bs,s0 b=none)→aG h st os cs→aG h s0 as cs
 | [],os,bs,cs,x,_,y=>by simp only[bS] at x;rw[x.1] at y;exact y
 | a::as,os,bs,cs,x,hb,y=>by
  simp only[bS] at x
  obtain⟨o,os',b1,b2,rfl,rfl,x1,x2⟩:=x
  simp only[aG] at y ⊢
  obtain⟨c,r,e,y1,y2⟩:=y
  exact⟨c,r,e,bQ.view S D a o b1 [c] x1 (fun q hq=>hb q (by simp [hq])) y1,bS.QU S D as os' b2 r x2 (fun q hq=>hb q (by simp [hq])) y2⟩
theorem bS.QV(S:bF h st)(D:aN st s0)(b:Nat):∀(as os:List AV) (bs:List Nat) (off:Nat),bS st as os bs→(∀b∈bs,s0 b=none)→bR h st b off os→bR h s0 b off as
 | [],os,bs,off,x,_,y=>by simp only[bR]
 | a::as,os,bs,off,x,hb,y=>by
  simp only[bS] at x
  obtain⟨o,os',b1,b2,rfl,rfl,x1,x2⟩:=x
  simp only[bR] at y ⊢
  obtain⟨⟨cs,y1,y2,y3⟩,y4⟩:=y
  have hw:=(bQ.shape x1).2.1
  rw[hw] at y2 y4
  exact⟨⟨cs,y1,y2,bQ.view S D a o b1 cs x1 (fun q hq=>hb q (by simp [hq])) y3⟩,bS.QV S D b as os' b2 _ x2 (fun q hq=>hb q (by simp [hq])) y4⟩
theorem bS.O3:∀ {as os:List AV} {bs:List Nat},bS st as os bs→∀o∈os,o.bA=false
 | [],os,bs,x=>by simp only[bS] at x;rw[x.1];simp
 | a::as,os,bs,x=>by
  simp only[bS] at x
  obtain⟨o,os',b1,b2,rfl,rfl,x1,x2⟩:=x
  intro q hq
  rcases iG.1 hq with rfl | hq
  · exact(bQ.shape x1).2.2.1
  · exact bS.O3 x2 q hq
end
theorem bQ.aAT(S:bF h st)(D:aN st s0){a o:AV}{bs:List Nat}{v:Value}(x:bQ st a o bs)(hb:∀b∈bs,s0 b=none)(y:aE h st o v):aE h s0 a v:=by
 have hs:=x.shape
 have key:o.isAgg=fX v∧VC h st o v.cells.toList:=by
  cases o<;>first | exact y | simp [AV.bA] at hs
 have z:a.isAgg=fX v∧VC h s0 a v.cells.toList:=⟨hs.1.symm.trans key.1,bQ.view S D _ _ _ _ x hb key.2⟩
 cases ha:a<;>rw[ha] at z<;>first | trivial | exact z
end
def Made(st:aA)(a r:AV)(st':aA):Prop:=∃bs:List Nat,bs.Nodup∧(∀b∈bs,st b=none)∧bQ st' a r bs∧∀b,b∉bs→st' b=st b
theorem aD.made{P:Program}{g:FuncId}{args:List AV}{st:aA}{a:AV}(x:aD P g args st (Made st a)):aD P g args st (fun r st'=>r=a∧st'=st):=
 x.hJ fun r st' ⟨bs,_,h2,h3,h4⟩=>by
  have D:aN st' st:=fun b=>⟨fun e=>by
   by_cases hb:b∈bs
   · exact h2 b hb
   · rw[←h4 b hb];exact e,fun o e=>by
   by_cases hb:b∈bs
   · rw[h2 b hb] at e;cases e
   · rw[h4 b hb];exact e⟩
  exact⟨a,st,D.lN,fun h v S y=>h3.aAT S D h2 y,rfl,rfl⟩
theorem bQ.BG{st:aA}:∀ {cs os:List AV} {bs:List Nat},bS st cs os bs→(∀c∈cs,c.isAgg=false)→os.all AV.storable=true∧os.flatMap AV.cells=os
 | [],os,bs,x,_=>by simp only[bS] at x;rw[x.1];simp
 | a::as,os,bs,x,h=>by
  simp only[bS] at x
  obtain⟨o,os',b1,b2,rfl,rfl,x1,x2⟩:=x
  have ih:=bQ.BG x2 (fun c hc=>h c (by simp [hc]))
  have ha:=h a (by simp)
  have ho:o.storable=true∧o.cells= [o]:=by
   cases a<;>simp only[bQ] at x1<;>try exact x1.elim
   case int=>rw[x1.1];exact⟨rfl,rfl⟩
   case bool=>rw[x1.1];exact⟨rfl,rfl⟩
   case str=>rw[x1.1];exact⟨rfl,rfl⟩
   case agg=>simp [AV.isAgg] at ha
   case slice=>rcases x1 with ⟨_,rfl,_⟩ | ⟨b,bs',os,w,rfl,_⟩<;>exact⟨rfl,rfl⟩
  rw[lR,ho.1,ih.1,tQ,ih.2,ho.2]
  exact⟨rfl,rfl⟩
theorem bS.snoc{st st':aA}{a o:AV}{b2:List Nat}:∀ {as os:List AV} {b1:List Nat},bS st as os b1→(∀b∈b1,st' b=st b)→bQ st' a o b2→bS st' (as++ [a]) (os++ [o]) (b1++b2)
 | [],os,b1,x,_,y=>by
  simp only[bS] at x
  rw[x.1,x.2]
  simp only[dR,bS]
  exact⟨o,[],b2,[],rfl,by simp,y,rfl,rfl⟩
 | c::as,os,b1,x,h,y=>by
  simp only[bS] at x
  obtain⟨o1,os',b3,b4,rfl,rfl,x1,x2⟩:=x
  simp only[dZ,bS]
  exact⟨o1,os'++ [o],b3,b4++b2,rfl,by simp,bQ.cG _ _ _ (fun q hq=>h q (by simp [hq])) x1,bS.snoc x2 (fun q hq=>h q (by simp [hq])) y⟩
def QZ(st:aA)(ds:List Nat)(a r:AV)(st':aA):Prop:=∃bs:List Nat,bs.Nodup∧(∀b∈bs,st b=none)∧(∀d∈ds,st d=none∧d∉bs)∧bQ st' a r bs∧∀b,b∉bs→b∉ds→st' b=st b
theorem aD.YK{P:Program}{g:FuncId}{args:List AV}{st:aA}{a:AV}(x:aD P g args st (fun r st'=>∃ds,QZ st ds a r st')):aD P g args st (Made st a):=
 x.hJ fun r st' ⟨ds,bs,h1,h2,hd,h3,h4⟩=>by
  refine⟨r,fun q=>if q∈ds then none else st' q,?_,?_,bs,h1,h2,?_,fun b hb=>?_⟩
  · have D:aN st' (fun q=>if q∈ds then none else st' q):=fun q=>by
     by_cases hq:q∈ds
     · simp only[hq,fA];exact⟨fun _=>trivial,fun o h=>by cases h⟩
     · simp only[hq,cU];exact⟨id,fun o h=>h⟩
    exact D.lN
  · have D:aN st' (fun q=>if q∈ds then none else st' q):=fun q=>by
     by_cases hq:q∈ds
     · simp only[hq,fA];exact⟨fun _=>trivial,fun o h=>by cases h⟩
     · simp only[hq,cU];exact⟨id,fun o h=>h⟩
    exact D.hJ r
  · exact bQ.cG _ _ _ (fun q hq=>aQ fun h=>(hd q h).2 hq) h3
  · by_cases hq:b∈ds
    · simp only[hq,fA];exact(hd b hq).1.symm
    · simp only[hq,cU];exact h4 b hb hq
def pT(b:Nat):List AV→List Nat
 | []=>[]
 | _::_=>[b]
def AV.flat:AV→Bool
 | .int _ _ | .bool _ | .str _=>true
 | _=>false
theorem aD.oD{P:Program}{g:FuncId}{args:List AV}{st:aA}{r:AV}(x:aD P g args st (fun r' st'=>r'=r∧aN st' st)):aD P g args st (fun r' st'=>r'=r∧st'=st):=
 (x.mono fun _ _ h=>⟨h.2,h.1⟩).drop
theorem Q6{P:Program}{t:TypeId}{st:aA}{s x:AV}{K K':AV→aA→Prop}(h:∀r s,K r s→K' r s)(e:gT P t st s x K):gT P t st s x K':=by
 unfold gT at *
 split at e
 case h_2=>exact e.elim
 refine⟨e.1,e.2.1,?_⟩
 have e:=e.2.2
 split at e
 · exact⟨e.1,e.2.1,e.2.2.1,fun q=>h _ _ (e.2.2.2.1 q),fun q b hb=>h _ _ (e.2.2.2.2 q b hb)⟩
 · refine⟨e.1,e.2.1,e.2.2.1,?_⟩
   have e:=e.2.2.2
   split at e
   · exact⟨e.1,h _ _ e.2.1,fun b hb=>h _ _ (e.2.2 b hb)⟩
   · exact e.elim
 · exact e.elim
theorem Q5{P:Program}{t t':TypeId}{st:aA}{s x:AV}{K K':AV→aA→Prop}(h:∀r s,K r s→K' r s)(e:n4 P t t' st s x K):n4 P t t' st s x K':=by
 unfold n4 at *
 split at e
 case h_2=>exact e.elim
 refine⟨e.1,e.2.1,e.2.2.1,e.2.2.2.1,?_⟩
 have e:=e.2.2.2.2
 split at e
 · exact⟨e.1,e.2.1,e.2.2.1,fun q=>h _ _ (e.2.2.2.1 q),fun q b hb=>h _ _ (e.2.2.2.2 q b hb)⟩
 · refine⟨e.1,e.2.1,e.2.2.1,?_⟩
   have e:=e.2.2.2
   split at e
   · exact⟨e.1,h _ _ e.2.1,fun b hb=>h _ _ (e.2.2 b hb)⟩
   · exact e.elim
 · exact e.elim
theorem pS{P:Program}{mt:List Nat}{φ:AF}{st:aA}{o:Oper}{K K':AV→aA→Prop}(h:∀r s,K r s→K' r s)(e:cK P mt φ st o K):cK P mt φ st o K':=by
 unfold cK at *
 split at e
 · split at e
   · exact e.mono h
   · exact e.elim
 · split at e
   · split at e
     · rename_i ht;rw[a4 ht];exact Q6 h e
     · rename_i ht;rw[aQ ht];exact Q5 h e
   · exact e.elim
 · split at e
   · unfold rI at *
     split at e
     · split at e
       · exact h _ _ e
       · exact e.elim
     · exact e.elim
   · exact e.elim
 · split at e
   · unfold rH at *
     split at e
     · obtain⟨e1,e2,e3,e4,e5⟩:=e
       refine⟨e1,e2,e3,e4,?_⟩
       split at e5
       · exact⟨e5.1,h _ _ e5.2⟩
       · exact e5.elim
     · exact h _ _ e
     · exact e.elim
   · exact e.elim
 · split at e
   · rename_i hm
     rw[a4 hm]
     exact⟨e.1,fun b hb=>h _ _ (e.2 b hb)⟩
   · rename_i hm
     rw[aQ hm]
     split at e
     · exact h _ _ e
     · exact e.elim
 · split at e
   · exact fun b hb=>h _ _ (e b hb)
   · exact e.elim
 · split at e
   · split at e
     · exact⟨e.1,e.2.1,e.2.2.1,h _ _ e.2.2.2⟩
     · exact e.elim
   · exact e.elim
 · exact fun b hb=>h _ _ (e b hb)
 · unfold rJ at *
   split at e
   · exact⟨e.1,e.2.1,e.2.2.1,e.2.2.2.1,e.2.2.2.2.1,e.2.2.2.2.2.1,fun b hb=>h _ _ (e.2.2.2.2.2.2 b hb)⟩
   · exact e.elim
 · unfold rK at *
   split at e
   · split at e
     · exact⟨e.1,h _ _ e.2⟩
     · exact e.elim
   · exact e.elim
 · split at e
   · exact h _ _ e
   · exact e.elim
def eH(P:Program)(ops:Array Oper)(o:Oper)(φ:AF)(st:aA)(K:AV→aA→Prop):Prop:=match eF ops φ o with
 | some true=>cK P [] φ st o K
 | some false=>K .undef st
 | none=>False
theorem mZ{P:Program}{ops:Array Oper}{o:Oper}{φ:AF}{st:aA}{K K':AV→aA→Prop}(h:∀r s,K r s→K' r s)(e:eH P ops o φ st K):eH P ops o φ st K':=by
 unfold eH at *
 split at e
 · exact pS h e
 · exact h _ _ e
 · exact e.elim
section
variable {P:Program}
theorem Q9{ops:Array Oper}{oi oj:Oper}(φ:AF)(v:AV)(h:∀d,oj.dst=some d→d∉oi.looksAt ops):eF ops (φ.put oj.dst v) oi=eF ops φ oi:=by
 unfold eF
 cases hg:oi.guard with
 | none=>rfl
 | some gw=>
  obtain⟨g,want⟩:=gw
  cases ht:(ops[g]?).bind (·.dst) with
  | none=>simp only[ht]
  | some t=>
   simp only[ht]
   have:(φ.put oj.dst v) t=φ t:=by
    have:=vG (φ:=φ) (dst:=oj.dst) (v:=v) (x:=.tmp t) (fun d hd hxd=>h d hd (by
     cases hxd
     simp [Oper.looksAt,hg,ht]))
    exact this
   rw[this]
theorem w9{ops:Array Oper}{oi oj:Oper}(φ:AF)(v:AV){st:aA}{K:AV→aA→Prop}(h:∀d,oj.dst=some d→d∉oi.looksAt ops):eH P ops oi (φ.put oj.dst v) st K↔eH P ops oi φ st K:=by
 have h1:cK P [] (φ.put oj.dst v) st oi K=cK P [] φ st oi K:=
  A9 fun x hx=>vG fun d hd hxd=>h d hd (by
   subst hxd
   exact List.mem_append_left _ (List.mem_filterMap.2 ⟨.tmp d,by simpa using hx,rfl⟩))
 unfold eH
 rw[h1,Q9 φ v h]
theorem NE(n j:Nat):(Array.replicate n false).getD j false=false:=by
 rcases gS j n with h | h<;>simp [h]
def tV(P:Program)(ops:Array Oper)(K:AF→aA→Prop):Nat→Array Bool→AF→aA→Prop
 | 0,aK,φ,st=>Region.ready .any ops aK= []∧K φ st
 | f+1,aK,φ,st=>(Region.ready .any ops aK= []→K φ st)∧∀i∈Region.ready .any ops aK,∃o,ops[i]?=some o∧eH P ops o φ st (fun r st'=>tV P ops K f (aK.setIfInBounds i true) (φ.put o.dst r) st')
theorem RD{N:Nat}{ops:Array Oper}(hN:∀(j d:Nat),(ops[j]?).bind (·.dst)=some d→d<N){o:Oper}{i:Nat}{a:Act}{w:World}{φ:AF}{st:aA}{G:AV→aA→Prop}{K:Act→World→Prop}{Q:Exit→Act→World→Prop}(hi:ops[i]?=some o)
 (R:Rel N a w φ st) (hd:lB N o=true) (y:eH P ops o φ st G) (h:∀a' w' r st',Rel N a' w' (φ.put o.dst r) st'→aS w.heap st w'.heap st'→dE w w'→G r st'→K a' w'):wpOp P ops Q i K a w:=by
 unfold eH at y
 unfold wpOp
 simp only[hi]
 split at y
 · rename_i hg
   rw[a4 (pK R hN hg)]
   refine .inl (xA R.frame R.store y fun v w' ⟨r',st',x1,x2,x3,x4,x5⟩=>?_)
   exact h _ _ r' st' (R.put hd x3 x2 x1) x3 x4 x5
 · rename_i hg
   rw[aQ (by rw[pK R hN hg];simp)]
   exact h _ _ .undef st (R.put (r:=.undef) hd (aS.refl _ _) R.store ⟨rfl,rfl⟩) (aS.refl _ _) (dE.refl _) y
 · exact y.elim
theorem wW{N:Nat}{ops:Array Oper}(hN:∀(j d:Nat),(ops[j]?).bind (·.dst)=some d→d<N)(hD:∀o∈ops.toList,lB N o=true){K:AF→aA→Prop}{Q:Exit→Act→World→Prop}{w0:World}{st0:aA}
 (hK:∀φ st a w,K φ st→Rel N a w φ st→aS w0.heap st0 w.heap st→dE w0 w→Q .normal a w) :
 ∀(f:Nat) (aK:Array Bool) (φ:AF) (st:aA) (a:Act) (w:World),tV P ops K f aK φ st→Rel N a w φ st→aS w0.heap st0 w.heap st→dE w0 w→wpAny P .any ops Q f aK a w
 | 0,aK,φ,st,a,w,h,R,T,s=>⟨h.1,hK φ st a w h.2 R T s⟩
 | f+1,aK,φ,st,a,w,h,R,T,s=>by
  refine⟨fun h0=>hK φ st a w (h.1 h0) R T s,fun i hi=>?_⟩
  obtain⟨o,ho,y⟩:=h.2 i hi
  exact RD hN ho R (hD o (iV.2 (wL ho))) y fun a' w' r st' R' T' s' g=>wW hN hD hK f _ _ _ a' w' g R' (T.trans T') (s.trans s')
def A4(P:Program)(ops:Array Oper)(o:Oper)(r:AV)(φ:AF):Prop:=∀st,gH P st ops o r φ
theorem aBD{ops:Array Oper}{o:Oper}{r:AV}{φ:AF}(h:A4 P ops o r φ){st:aA}{K:AV→aA→Prop}(k:K r st):eH P ops o φ st K:=by
 unfold eH
 rcases h st with ⟨hg,hs⟩ | ⟨hg,rfl⟩
 · rw[hg];exact pS (fun r' s' ⟨e1,e2⟩=>by rw[e1,e2];exact k) hs
 · rw[hg];exact k
theorem BB{ops:Array Oper}{o:Oper}{r:AV}{φ:AF}{st:aA}(h:gH P st ops o r φ){K:AV→aA→Prop}(k:K r st):eH P ops o φ st K:=by
 unfold eH
 rcases h with ⟨hg,hs⟩ | ⟨hg,rfl⟩
 · rw[hg];exact pS (fun r' s' ⟨e1,e2⟩=>by rw[e1,e2];exact k) hs
 · rw[hg];exact k
def pH(P:Program)(ops:Array Oper)(S:List Nat)(K:AF→aA→Prop):Nat→Array Bool→AF→aA→Prop
 | 0,aK,φ,st=>Region.ready .any ops aK= []∧K φ st
 | f+1,aK,φ,st=>(Region.ready .any ops aK= []→K φ st)∧∀i∈Region.ready .any ops aK,∃o,ops[i]?=some o ∧
  ((S.contains i=true∧∃r,gH P st ops o r φ∧pH P ops S K f (aK.setIfInBounds i true) (φ.put o.dst r) st) ∨
   (S.contains i=false∧eH P ops o φ st (fun r st'=>pH P ops S K f (aK.setIfInBounds i true) (φ.put o.dst r) st')))
theorem wY{ops:Array Oper}{S:List Nat}{K:AF→aA→Prop}:∀(f:Nat) (aK:Array Bool) (φ:AF) (st:aA),pH P ops S K f aK φ st→tV P ops K f aK φ st
 | 0,_,_,_,h=>h
 | f+1,aK,φ,st,h=>by
  refine⟨h.1,fun i hi=>?_⟩
  obtain⟨o,ho,h2⟩:=h.2 i hi
  refine⟨o,ho,?_⟩
  rcases h2 with ⟨_,r,y,k⟩ | ⟨_,k⟩
  · exact BB y (wY f _ _ _ k)
  · exact mZ (fun r s q=>wY f _ _ _ q) k
def mT(ops:Array Oper)(aK:Array Bool):Prop:=∀j o,ops[j]?=some o→aK.getD j false=true→∀e∈o.after,Region.binds .any e=true→aK.getD e.on false=true
theorem mT.set{ops:Array Oper}{aK:Array Bool}{i:Nat}(h:mT ops aK)(hr:i∈Region.ready .any ops aK):mT ops (aK.setIfInBounds i true):=by
 intro j o ho hl e he hb
 by_cases hji:i=j
 · subst hji
   obtain⟨_,o',ho',cT⟩:=mem_ready.1 hr
   rw[ho'] at ho;cases ho
   exact getD_set_true (cT e he hb)
 · rw[getD_set_ne false hji] at hl
   exact getD_set_true (h j o ho hl e he hb)
def lA(ops:Array Oper):Nat→Nat→Nat→Bool
 | 0,_,_=>false
 | f+1,j,i=>match ops[j]? with
  | some o=>o.after.any fun e=>Region.binds .any e&&(e.on == i||lA ops f e.on i)
  | none=>false
theorem uI{ops:Array Oper}{aK:Array Bool}{i:Nat}(h:mT ops aK)(hi:aK.getD i false=false):∀(f j:Nat) (o:Oper),ops[j]?=some o→lA ops f j i=true→¬ ∀e∈o.after,Region.binds .any e=true→aK.getD e.on false=true
 | 0,j,o,_,hd=>by simp [lA] at hd
 | f+1,j,o,ho,hd=>by
  intro cT
  simp only[lA,ho] at hd
  obtain⟨e,he,h2⟩:=Array.any_eq_true'.1 hd
  simp only[bX,rA,beq_iff_eq] at h2
  obtain⟨hb,h3⟩:=h2
  have hl:=cT e he hb
  rcases h3 with h3 | h3
  · rw[h3,hi] at hl;cases hl
  · cases hk:ops[e.on]? with
    | none=>cases f<;>simp [lA,hk] at h3
    | some o2=>exact uI h hi f e.on o2 hk h3 (h e.on o2 hk hl)
def dI(st s:aA):Prop:=∀b o,st b=some o→s b=some o
theorem dI.refl(st:aA):dI st st:=fun _ _ h=>h
theorem dI.trans{a b c:aA}(x:dI a b)(y:dI b c):dI a c:=fun q o h=>y q o (x q o h)
def t5(o:Oper):Bool:=match o.op with
 | .alloc _=>true
 | _=>false
theorem RC{ops:Array Oper}{o:Oper}{φ:AF}{st:aA}{K:AV→aA→Prop}(ho:t5 o=true)(e:eH P ops o φ st K):eH P ops o φ st (fun r st'=>dI st st'∧K r st'):=by
 obtain⟨dst,op,type,pos,after,guard⟩:=o
 cases op<;>simp only[t5,fR] at ho
 unfold eH at e ⊢
 split at e
 · simp only[cK] at e ⊢
   split at e
   · intro b hb
     refine⟨fun q o hq=>?_,e b hb⟩
     rw[aA.bK _ _ (by rintro rfl;rw[hb] at hq;cases hq)]
     exact hq
   · cases e
 · exact⟨dI.refl _,e⟩
 · cases e
theorem wZ{ops:Array Oper}{S:List Nat}{i:Nat}{oi:Oper}{v:AV}{K:AF→aA→Prop}(hi:ops[i]?=some oi)(hS:S.contains i=true) :
 ∀(f:Nat) (aK:Array Bool) (φ:AF) (st:aA),mT ops aK →
  (∀j oj,ops[j]?=some oj→j≠i→aK.getD j true=false→(∀e∈oj.after,Region.binds .any e=true→e.on≠i)→oi.apart ops oj=true) →
  i∈Region.ready .any ops aK→((∀s,gH P s ops oi v φ)∨(gH P st ops oi v φ∧∀j oj,ops[j]?=some oj→aK.getD j true=false→S.contains j=false→∃g,lA ops g j i=true)∨((∀s,dI st s→gH P s ops oi v φ)∧∀j oj,ops[j]?=some oj→aK.getD j true=false→S.contains j=false→(∃g,lA ops g j i=true)∨t5 oj=true)) →
  pH P ops S K f (aK.setIfInBounds i true) (φ.put oi.dst v) st→pH P ops S K (f+1) aK φ st:=by
 intro f
 induction f with
 | zero=>
  intro aK φ st hcl _ hr hy H
  have hy0:gH P st ops oi v φ:=by
   rcases hy with h | h | h
   · exact h st
   · exact h.1
   · exact h.1 st (dI.refl st)
  refine⟨fun h=>(by rw[h] at hr;cases hr),fun j hj=>?_⟩
  by_cases hji:j=i
  · subst hji;exact⟨oi,hi,.inl ⟨hS,v,hy0,H⟩⟩
  · have:=ready_mono hj hji
    rw[H.1] at this
    cases this
 | succ f ih=>
  intro aK φ st hcl sE hr hy H
  have hy0:gH P st ops oi v φ:=by
   rcases hy with h | h | h
   · exact h st
   · exact h.1
   · exact h.1 st (dI.refl st)
  refine⟨fun h=>(by rw[h] at hr;cases hr),fun j hj=>?_⟩
  by_cases hji:j=i
  · subst hji;exact⟨oi,hi,.inl ⟨hS,v,hy0,H⟩⟩
  · obtain⟨oj,hoj,h1⟩:=H.2 j (ready_mono hj hji)
    obtain⟨nH,oj',yX,cT⟩:=mem_ready.1 hj
    have:oj'=oj:=Option.some.inj (yX.symm.trans hoj)
    subst this
    have hun:=(mem_ready.1 hr).1
    have sI:∀e∈oj'.after,Region.binds .any e=true→e.on≠i:=fun e he hb heq=>by
     have h1:=cT e he hb
     rw[heq,getD_both hun] at h1
     cases h1
    obtain⟨a1,a2,a3⟩:=Oper.apart_spec (sE j oj' hoj hji nH sI)
    have qI:∀k ok,ops[k]?=some ok→k≠i→(aK.setIfInBounds j true).getD k true=false →
     (∀e∈ok.after,Region.binds .any e=true→e.on≠i)→oi.apart ops ok=true:=fun k ok hk hki hun hno=>by
     refine sE k ok hk hki ?_ hno
     by_cases hjk:j=k
     · subst hjk;exact nH
     · rw[getD_set_ne true hjk] at hun;exact hun
    have y0:∀k,(aK.setIfInBounds j true).getD k true=false→aK.getD k true=false:=fun k hk=>by
     by_cases hjk:j=k
     · subst hjk;exact nH
     · rw[getD_set_ne true hjk] at hk;exact hk
    refine⟨oj',hoj,?_⟩
    rcases h1 with ⟨hSj,r,yj,h2⟩ | ⟨hSj,h2⟩
    · refine .inl ⟨hSj,r,(lY φ v a1).1 yj,ih (aK.setIfInBounds j true) (φ.put oj'.dst r) st (hcl.set hj) qI (ready_mono hr (dQ hji)) ?_ ?_⟩
      · rcases hy with h | h | h
        · exact .inl fun s=>(lY φ r a3).2 (h s)
        · exact .inr (.inl ⟨(lY φ r a3).2 h.1,fun k ok hk hl hs=>h.2 k ok hk (y0 k hl) hs⟩)
        · exact .inr (.inr ⟨fun s hs=>(lY φ r a3).2 (h.1 s hs),fun k ok hk hl hs=>h.2 k ok hk (y0 k hl) hs⟩)
      · rw[tO _ _ hji,←put_comm φ v r a2]
        exact h2
    · rcases hy with hf | ⟨_,hd⟩ | ⟨hx,hd⟩
      · refine .inr ⟨hSj,mZ (fun r st' h3=>?_) ((w9 φ v a1).1 h2)⟩
        refine ih (aK.setIfInBounds j true) (φ.put oj'.dst r) st' (hcl.set hj) qI (ready_mono hr (dQ hji)) (.inl fun s=>(lY φ r a3).2 (hf s)) ?_
        rw[tO _ _ hji,←put_comm φ v r a2]
        exact h3
      · obtain⟨g,hg⟩:=hd j oj' hoj nH hSj
        exact absurd cT (uI hcl (getD_both hun) g j oj' hoj hg)
      · rcases hd j oj' hoj nH hSj with ⟨g,hg⟩ | hal
        · exact absurd cT (uI hcl (getD_both hun) g j oj' hoj hg)
        · refine .inr ⟨hSj,mZ (fun r st' h3=>?_) (RC hal ((w9 φ v a1).1 h2))⟩
          refine ih (aK.setIfInBounds j true) (φ.put oj'.dst r) st' (hcl.set hj) qI (ready_mono hr (dQ hji)) (.inr (.inr ⟨fun s hs=>(lY φ r a3).2 (hx s (h3.1.trans hs)),fun k ok hk hl hs=>hd k ok hk (y0 k hl) hs⟩)) ?_
          rw[tO _ _ hji,←put_comm φ v r a2]
          exact h3.2
def PB(ops:Array Oper)(S:List Nat)(aK:Array Bool)(i:Nat):Bool:=(List.range ops.size).all fun j=>aK.getD j true||S.contains j||lA ops ops.size j i
def O9(ops:Array Oper)(S:List Nat)(aK:Array Bool)(i:Nat):Bool:=(List.range ops.size).all fun j=>aK.getD j true||S.contains j||lA ops ops.size j i||((ops[j]?).map t5).getD false
def OS(ops:Array Oper)(i:Nat):Bool:=((ops[i]?).map gF).getD false
def kL(ops:Array Oper)(S:List Nat):List (Nat×Nat)→Array Bool→Bool
 | [],aK=>(Region.ready .any ops aK).isEmpty
 | (i,0)::r,aK=>decide (Region.ready .any ops aK= [i])&& !S.contains i&&kL ops S r (aK.setIfInBounds i true)
 | (i,1)::r,aK=>(Region.ready .any ops aK).contains i&&Region.free .any ops aK i&&S.contains i&&kL ops S r (aK.setIfInBounds i true)
 | (i,_)::r,aK=>(Region.ready .any ops aK).contains i&&Region.free .any ops aK i&&S.contains i&&(PB ops S aK i||(OS ops i&&O9 ops S aK i))&&kL ops S r (aK.setIfInBounds i true)
def pP(P:Program)(ops:Array Oper)(K:AF→aA→Prop):List (Nat×Nat)→AF→aA→Prop
 | [],φ,st=>K φ st
 | (i,0)::r,φ,st=>∃o,ops[i]?=some o∧eH P ops o φ st (fun v st'=>pP P ops K r (φ.put o.dst v) st')
 | (i,1)::r,φ,st=>∃o,ops[i]?=some o∧∃v,A4 P ops o v φ∧pP P ops K r (φ.put o.dst v) st
 | (i,_)::r,φ,st=>∃o,ops[i]?=some o∧∃v,gH P st ops o v φ∧pP P ops K r (φ.put o.dst v) st
theorem YI{t:TypeId}{ok:Bool}{x i r:AV}{st s:aA}(hs:dI st s)(h:kY P st t ok x i=some r):kY P s t ok x i=some r:=by
 unfold kY at *
 split at h
 · rename_i b n
   cases hb:st b with
   | none=>rw[hb] at h;cases h
   | some o=>rw[hs b o hb,←hb];exact h
 · cases h
theorem YF{t:TypeId}{x r:AV}{st s:aA}(hs:dI st s)(h:dU P st t x=some r):dU P s t x=some r:=by
 unfold dU at *
 split at h
 · exact h
 · rename_i b o
   cases hb:st b with
   | none=>rw[hb] at h;split at h<;>simp_all
   | some o=>rw[hs b o hb,←hb];exact h
 · cases h
theorem BA{φ:AF}{o:Oper}{r:AV}{st s:aA}(hs:dI st s)(h:fH P φ st o=some r):fH P φ s o=some r:=by
 obtain⟨dst,op,type,pos,after,guard⟩:=o
 cases op
 case makeFunc fn a b=>cases fn<;>exact h
 case call c=>
  obtain⟨callee,args,ats⟩:=c
  cases callee
  case builtin b=>cases b<;>exact h
  all_goals exact h
 case load=>exact YF hs h
 case lookup=>exact YI hs h
 all_goals exact h
theorem RI{ops:Array Oper}{o:Oper}{v:AV}{φ:AF}{st s:aA}(hp:gF o=true)(hs:dI st s)(h:gH P st ops o v φ):gH P s ops o v φ:=by
 rcases h with ⟨h1,h2⟩ | h
 · refine .inl ⟨h1,?_⟩
   rw[n7 hp] at h2 ⊢
   cases hv:fH P φ st o with
   | none=>rw[hv] at h2;cases h2
   | some r=>
    rw[hv] at h2
    rw[BA hs hv]
    exact⟨h2.1,rfl⟩
 · exact .inr h
theorem rL{ops:Array Oper}{S:List Nat}{K:AF→aA→Prop}:∀(p:List (Nat×Nat)) (aK:Array Bool) (φ:AF) (st:aA),mT ops aK→kL ops S p aK=true→pP P ops K p φ st→pH P ops S K p.length aK φ st
 | [],aK,φ,st,_,hB,h=>⟨by simpa [kL] using hB,h⟩
 | (i,0)::r,aK,φ,st,hcl,hB,h=>by
  simp only[kL,bX,a9,j0] at hB
  obtain⟨o,ho,h'⟩:=h
  have hr:i∈Region.ready .any ops aK:=by rw[hB.1.1];simp
  refine⟨fun h0=>(by rw[hB.1.1] at h0;cases h0),fun j hj=>?_⟩
  rw[hB.1.1] at hj
  obtain rfl:j=i:=by simpa using hj
  exact⟨o,ho,.inr ⟨hB.1.2,mZ (fun v st' q=>rL r _ _ _ (hcl.set hr) hB.2 q) h'⟩⟩
 | (i,1)::r,aK,φ,st,hcl,hB,h=>by
  simp only[kL,bX] at hB
  obtain⟨⟨⟨hr,hf⟩,hS⟩,hB'⟩:=hB
  obtain⟨o,ho,v,hv,h'⟩:=h
  have hr':i∈Region.ready .any ops aK:=by simpa using hr
  exact wZ ho hS _ aK φ st hcl (Region.free_spec ho hf) hr' (.inl hv) (rL r _ _ _ (hcl.set hr') hB' h')
 | (i,k+2)::r,aK,φ,st,hcl,hB,h=>by
  simp only[kL,bX] at hB
  obtain⟨⟨⟨⟨hr,hf⟩,hS⟩,hd⟩,hB'⟩:=hB
  obtain⟨o,ho,v,hv,h'⟩:=h
  have hr':i∈Region.ready .any ops aK:=by simpa using hr
  rw[rA] at hd
  rcases hd with hd | hd
  · refine wZ ho hS _ aK φ st hcl (Region.free_spec ho hf) hr' (.inr (.inl ⟨hv,fun j oj hj hl hs=>⟨ops.size,?_⟩⟩)) (rL r _ _ _ (hcl.set hr') hB' h')
    simp only[PB,fD,List.mem_range] at hd
    have:=hd j (wJ.1 hj).1
    simpa only[hl,hs,jZ] using this
  · rw[bX] at hd
    obtain⟨hp,hd⟩:=hd
    simp only[OS,ho,kU,tS] at hp
    refine wZ ho hS _ aK φ st hcl (Region.free_spec ho hf) hr' (.inr (.inr ⟨fun s hs=>RI hp hs hv,fun j oj hj hl hs=>?_⟩)) (rL r _ _ _ (hcl.set hr') hB' h')
    simp only[O9,fD,List.mem_range] at hd
    have:=hd j (wJ.1 hj).1
    simp only[hl,hs,jZ,hj,kU,tS,rA] at this
    exact this.imp (fun h=>⟨ops.size,h⟩) id
theorem RQ{N:Nat}{id:Nat}{ops:Array Oper}{Q:Exit→AF→aA→Prop}{φ:AF}{st:aA}(p:List (Nat×Nat))(S:List Nat)(hm:P.follows .mixedOrders=true)(hok:mL N ops=true)(hl:p.length=ops.size)(hB:kL ops S p (Array.replicate ops.size false)=true)
 (h:pP P ops (Q .normal) p φ st):dL P N (.region id ops true) Q φ st:=by
 intro a w R
 refine wp_region_any hm ?_
 have R0:Rel N a { w with drawn:=w.drawn+1 } φ st:=⟨R.size,R.defers,R.frame,R.store⟩
 have:=wY _ _ _ _ (rL p _ φ st (fun j o _ hl=>(by rw[NE] at hl;cases hl)) hB h)
 rw[hl] at this
 exact wW (vC hok) (sQ hok) (w0:=w) (st0:=st) (fun φ' st' a' w' k R' T s=>⟨φ',st',R',T,s,k⟩) _ _ _ _ _ _ this R0 (aS.refl _ _) ⟨rfl,rfl,rfl⟩
theorem YH{t:TypeId}{ok:Bool}{x i r:AV}(h:kY P g9 t ok x i=some r)(st:aA):kY P st t ok x i=some r:=by
 unfold kY at *
 split at h
 · simp only[g9] at h;cases h
 · cases h
theorem YE{t:TypeId}{x r:AV}(h:dU P g9 t x=some r)(st:aA):dU P st t x=some r:=by
 unfold dU at *
 split at h
 · exact h
 · split at h
   · rename_i h1;simp only[g9] at h1;cases h1
   · cases h
 · cases h
theorem RE{φ:AF}{o:Oper}{r:AV}(h:fH P φ g9 o=some r)(st:aA):fH P φ st o=some r:=by
 obtain⟨dst,op,type,pos,after,guard⟩:=o
 cases op
 case makeFunc fn a b=>cases fn<;>exact h
 case call c=>
  obtain⟨callee,args,ats⟩:=c
  cases callee
  case builtin b=>cases b<;>exact h
  all_goals exact h
 case load=>exact YE h st
 case lookup=>exact YH h st
 all_goals exact h
def eG(P:Program)(ops:Array Oper)(K:AF→aA→Prop):List (Nat×Nat)→AF→aA→Prop
 | [],φ,st=>K φ st
 | (i,0)::r,φ,st=>match ops[i]? with
  | none=>False
  | some o=>aJ P [] ops [o] (fun φ' st'=>eG P ops K r φ' st') φ st
 | (i,1)::r,φ,st=>match ops[i]? with
  | none=>False
  | some o=>if gF o=true then aJ P [] ops [o] (fun φ' _=>eG P ops K r φ' st) φ g9 else
   match o.guard,o.op with
   | none,.call { callee:=.value f,args,.. }=>∃v,(∀s,kA P (φ.eval f) (args.toList.map φ.eval) s (fun r' s'=>r'=v∧s'=s))∧eG P ops K r (φ.put o.dst v) st
   | _,_=>False
 | (i,_)::r,φ,st=>match ops[i]? with
  | none=>False
  | some o=>if gF o=true then aJ P [] ops [o] (fun φ' _=>eG P ops K r φ' st) φ st else
   match o.guard,o.op with
   | none,.call { callee:=.value f,args,.. }=>∃v,kA P (φ.eval f) (args.toList.map φ.eval) st (fun r' s'=>r'=v∧s'=st)∧eG P ops K r (φ.put o.dst v) st
   | _,_=>False
theorem lX{ops:Array Oper}{K:AF→aA→Prop}:∀(p:List (Nat×Nat)) (φ:AF) (st:aA),eG P ops K p φ st→pP P ops K p φ st
 | [],_,_,h=>h
 | (i,0)::r,φ,st,h=>by
  simp only[eG] at h
  split at h
  · exact h.elim
  · rename_i o ho
    refine⟨o,ho,?_⟩
    simp only[aJ] at h
    unfold eH
    split at h
    · rename_i hg
      rw[hg]
      exact pS (fun v s q=>lX r _ _ q) h
    · rename_i hg
      rw[hg]
      exact lX r _ _ h
    · exact h.elim
 | (i,1)::r,φ,st,h=>by
  simp only[eG] at h
  split at h
  · exact h.elim
  · rename_i o ho
    split at h
    · rename_i hp
      simp only[aJ] at h
      split at h
      · rename_i hg
        rw[n7 hp] at h
        split at h
        · rename_i v hv
          exact⟨o,ho,v,fun s=>.inl ⟨hg,by rw[n7 hp,RE hv s];exact⟨rfl,rfl⟩⟩,lX r _ _ h⟩
        · exact h.elim
      · rename_i hg
        exact⟨o,ho,.undef,fun s=>.inr ⟨hg,rfl⟩,lX r _ _ h⟩
      · exact h.elim
    · split at h
      · rename_i f args ats hg hop
        obtain⟨v,h1,h2⟩:=h
        refine⟨o,ho,v,fun s=>.inl ⟨by simp only[eF,hg],?_⟩,lX r _ _ h2⟩
        simp only[cK,hop]
        exact h1 s
      · exact h.elim
 | (i,k+2)::r,φ,st,h=>by
  simp only[eG] at h
  split at h
  · exact h.elim
  · rename_i o ho
    split at h
    · rename_i hp
      simp only[aJ] at h
      split at h
      · rename_i hg
        rw[n7 hp] at h
        split at h
        · rename_i v hv
          exact⟨o,ho,v,.inl ⟨hg,by rw[n7 hp,hv];exact⟨rfl,rfl⟩⟩,lX r _ _ h⟩
        · exact h.elim
      · rename_i hg
        exact⟨o,ho,.undef,.inr ⟨hg,rfl⟩,lX r _ _ h⟩
      · exact h.elim
    · split at h
      · rename_i f args ats hg hop
        obtain⟨v,h1,h2⟩:=h
        refine⟨o,ho,v,.inl ⟨by simp only[eF,hg],?_⟩,lX r _ _ h2⟩
        simp only[cK,hop]
        exact h1
      · exact h.elim
end
def zP(P:Program)(ops:Array Oper)(K:AF→aA→Prop)(r:List (Nat×Nat))(φ:AF)(st:aA):Prop:=eG P ops K r φ st
def sT(P:Program)(ops:Array Oper)(K:AF→aA→Prop)(r:List (Nat×Nat))(st:aA)(φ:AF)(_:aA):Prop:=eG P ops K r φ st
def sS(P:Program)(ops:Array Oper)(K:AF→aA→Prop)(r:List (Nat×Nat))(φ:AF)(dst:Option Tmp)(st:aA)(v:AV):Prop:=eG P ops K r (φ.put dst v) st
def CH(P:Program)(f:AV)(args:List AV)(K:AV→Prop):Prop:=∃v,(∀s,kA P f args s (fun r' s'=>r'=v∧s'=s))∧K v
def qV(P:Program)(ops:Array Oper)(K:AF→aA→Prop)(r:List (Nat×Nat))(φ:AF)(st:aA):Nat→Option Oper→Prop
 | 0,some o=>aJ P [] ops [o] (zP P ops K r) φ st
 | 1,some o=>if gF o=true then aJ P [] ops [o] (sT P ops K r st) φ g9 else
  match o.guard,o.op with
  | none,.call { callee:=.value f,args,.. }=>CH P (φ.eval f) (args.toList.map φ.eval) (sS P ops K r φ o.dst st)
  | _,_=>False
 | _,some o=>if gF o=true then aJ P [] ops [o] (sT P ops K r st) φ st else
  match o.guard,o.op with
  | none,.call { callee:=.value f,args,.. }=>m9 P (φ.eval f) (args.toList.map φ.eval) st (sS P ops K r φ o.dst st)
  | _,_=>False
 | _,none=>False
theorem JE{P:Program}{ops:Array Oper}{K:AF→aA→Prop}{φ:AF}{st:aA}:eG P ops K [] φ st=K φ st:=rfl
theorem JF{P:Program}{l:List Oper}{K:AF→aA→Prop}{φ:AF}{st:aA}{i b:Nat}{r:List (Nat×Nat)}:eG P l.toArray K ((i,b)::r) φ st=qV P l.toArray K r φ st b l[i]?:=by
 match b with
 | 0=>simp only[eG,n3];cases l[i]?<;>rfl
 | 1=>simp only[eG,n3];cases l[i]?<;>rfl
 | b+2=>simp only[eG,n3];cases l[i]?<;>rfl
theorem JJ{P:Program}{ops:Array Oper}{K:AF→aA→Prop}{φ:AF}{st:aA}{r:List (Nat×Nat)}{o:Oper}:qV P ops K r φ st 0 (some o)=aJ P [] ops [o] (zP P ops K r) φ st:=rfl
theorem JK{P:Program}{ops:Array Oper}{K:AF→aA→Prop}{φ:AF}{st:aA}{r:List (Nat×Nat)}{o:Oper}:qV P ops K r φ st 1 (some o)=if gF o=true then aJ P [] ops [o] (sT P ops K r st) φ g9 else
      match o.guard,o.op with
      | none,.call { callee:=.value f,args,.. }=>CH P (φ.eval f) (args.toList.map φ.eval) (sS P ops K r φ o.dst st)
      | _,_=>False:=rfl
theorem JL{P:Program}{ops:Array Oper}{K:AF→aA→Prop}{φ:AF}{st:aA}{r:List (Nat×Nat)}{o:Oper}:qV P ops K r φ st 2 (some o)=if gF o=true then aJ P [] ops [o] (sT P ops K r st) φ st else
      match o.guard,o.op with
      | none,.call { callee:=.value f,args,.. }=>m9 P (φ.eval f) (args.toList.map φ.eval) st (sS P ops K r φ o.dst st)
      | _,_=>False:=rfl
theorem JI{P:Program}{ops:Array Oper}{K:AF→aA→Prop}{φ:AF}{st:aA}{r:List (Nat×Nat)}:zP P ops K r φ st=eG P ops K r φ st:=rfl
theorem JH{P:Program}{ops:Array Oper}{K:AF→aA→Prop}{φ:AF}{st s:aA}{r:List (Nat×Nat)}:sT P ops K r st φ s=eG P ops K r φ st:=rfl
theorem JG{P:Program}{ops:Array Oper}{K:AF→aA→Prop}{φ:AF}{st:aA}{r:List (Nat×Nat)}{dst:Option Tmp}{v:AV}:sS P ops K r φ dst st v=eG P ops K r (φ.put dst v) st:=rfl
@[congr] theorem aBK {P:Program} {ops:Array Oper} {K:AF→aA→Prop} {p:List (Nat×Nat)} {φ φ':AF} {st st':aA} (h1:φ=φ') (h2:st=st'):eG P ops K p φ st=eG P ops K p φ' st':=by rw[h1,h2]
@[congr] theorem aBU {P:Program} {ops:Array Oper} {K:AF→aA→Prop} {p:List (Nat×Nat)} {φ φ':AF} {st st':aA} {b:Nat} {o o':Option Oper} (h1:φ=φ') (h2:st=st') (h3:o=o'):qV P ops K p φ st b o=qV P ops K p φ' st' b o':=by rw[h1,h2,h3]
theorem zx5{P:Program}{N:Nat}{id:Nat}{l:List Oper}{Q:Exit→AF→aA→Prop}{φ:AF}{st:aA}(p:List (Nat×Nat))(S:List Nat)(hm:P.follows .mixedOrders=true)(hok:mL N l.toArray=true)(hl:p.length=l.length)(hB:kL l.toArray S p (Array.replicate l.length false)=true)
 (h:eG P l.toArray (Q .normal) p φ st):dL P N (.region id l.toArray true) Q φ st:=
 RQ p S hm hok (by simpa using hl) (by simpa using hB) (lX p φ st h)
theorem RK{P:Program}{t:TypeId}{ag:Bool}{w bytes:Nat}{zs:List AV}{s:aA}{b:Nat}{l xs:List AV}{x:AV}{K:AV→aA→Prop}
 (hI:eI P t=some (ag,w)) (hB:eB P t=some bytes) (hZ:eZ P t=some zs) (hz:zs.length=w) (hx:tW x=some xs) (eY:pV w xs) (hw:∀e∈l,e.width=w) (hb:l≠[]→s b=some (.cells (l.flatMap AV.cells)))
 (h1:(l.length+xs.length)*bytes≤140737488355328) (h2:l.length+xs.length≤9223372036854775807)
 (hK:∀b' s',(l++xs≠[]→s' b'=some (.cells ((l++xs).flatMap AV.cells)))→(l++xs≠[]→b'=b∧l≠[]∨s b'=none)→(∀q,(l++xs≠[]→q≠b')→(l≠[]→q≠b)→s' q=s q)→(l≠[]→b'≠b→s' b=none)→K (aP w b' (l++xs)) s'):gT P t s (aP w b l) x K:=by
 unfold gT
 rw[hI,hB,hZ,hx]
 refine⟨hz,eY,?_⟩
 cases l with
 | nil=>
  show _∧_∧_∧_∧_
  refine⟨by simpa using h1,by simpa using h2,by simp,?_,?_⟩
  · rintro rfl
    have:=hK b s (by simp) (by simp) (fun _ _ _=>rfl) (by simp)
    simpa [aP] using this
  · intro hne b' hb'
    have:=hK b' (s.aC b' (.cells (xs.flatMap AV.cells))) (fun _=>by rw[aA.aY];simp) (fun _=>.inr hb') (fun q h _=>aA.bK _ _ (h (by simpa using hne))) (by simp)
    rw[dR,l4 hne] at this
    simpa using this
 | cons y l=>
  have hb:=hb (by simp)
  show w=w∧_∧_∧_
  refine⟨rfl,h1,h2,?_⟩
  have hfl:((y::l).flatMap AV.cells).length=(y::l).length*w:=lD hw
  rw[hb]
  refine⟨by rw[hfl];exact c9 _,?_,?_⟩
  · have:=hK b (s.aC b (.cells ((y::l++xs).flatMap AV.cells))) (fun _=>aA.aY _ _ _) (fun _=>.inl ⟨rfl,by simp⟩) (fun q h _=>aA.bK _ _ (h (by simp))) (fun _ h=>absurd rfl h)
    rw[l4 (by simp),tP,dM] at this
    rw[←hfl,eE]
    exact this
  · intro b' hb'
    have hne:b'≠b:=by rintro rfl;rw[hb] at hb';cases hb'
    have:=hK b' ((s.erase b).aC b' (.cells ((y::l++xs).flatMap AV.cells))) (fun _=>aA.aY _ _ _) (fun _=>.inr hb') (fun q h h'=>by
     rw[aA.bK _ _ (h (by simp))]
     simp only[aA.erase,h' (by simp),cU]) (fun _ _=>by rw[aA.bK _ _ (dQ hne)];exact aA.C0 _ _)
    rw[l4 (by simp),tP,dM] at this
    rw[←hfl,eE]
    exact this
def lP(es:List AV)(st:aA)(i:Nat)(os:List AV)(bs:List Nat)(b:Nat)(s:aA):Prop:=
 os.length=i∧bS s (es.take i) os bs∧bs.Nodup∧(∀q∈bs,st q=none)∧(os≠[]→st b=none∧b∉bs∧s b=some (.cells (os.flatMap AV.cells)))∧∀q,q∉bs→(os≠[]→q≠b)→s q=st q
theorem lP.start{es:List AV}{st:aA}{b:Nat}:lP es st 0 [] [] b st:=⟨rfl,by simp [bS],List.nodup_nil,by simp,by simp,fun _ _ _=>rfl⟩
theorem zA{b x:Nat}{l:List AV}:x∈pT b l↔x=b∧l≠[]:=by cases l<;>simp [pT]
theorem lP.done{es:List AV}{st:aA}{n w:Nat}{os:List AV}{bs:List Nat}{b:Nat}{s:aA}(h:lP es st n os bs b s)(hl:es.length=n)(hw:∀e∈es,e.width=w):Made st (.slice es) (aP w b os) s:=by
 obtain⟨h1,h2,h3,h4,h5,h6⟩:=h
 rw[kS (by omega)] at h2
 refine⟨pT b os++bs,?_,fun q hq=>?_,?_,fun q hq=>?_⟩
 · rw[List.nodup_append]
   refine⟨by cases os<;>simp [pT],h3,fun x hx y hy e=>?_⟩
   obtain⟨rfl,hne⟩:=zA.1 hx
   exact(h5 hne).2.1 (e▸hy)
 · rcases j2.1 hq with hq | hq
   · obtain⟨rfl,hne⟩:=zA.1 hq
     exact(h5 hne).1
   · exact h4 q hq
 · cases os with
   | nil=>
    have:es= []:=by simpa using h2.length.symm
    subst this
    simp only[bS] at h2
    simp only[bQ,aP,pT,h2.2]
    exact .inl ⟨trivial,trivial,rfl⟩
   | cons o os=>
    simp only[bQ,aP,pT]
    refine .inr ⟨b,bs,o::os,w,by rw[h2.length],rfl,(h5 (by simp)).2.2,h2,hw⟩
 · simp only[j2,zA,not_or,not_and] at hq
   exact h6 q hq.2 (fun hne e=>hq.1 e hne)
theorem bS.QW{st:aA}{w:Nat}:∀ {as os:List AV} {bs:List Nat},bS st as os bs→(∀e∈as,e.width=w)→∀o∈os,o.width=w
 | [],os,bs,x,_=>by simp only[bS] at x;rw[x.1];simp
 | a::as,os,bs,x,h=>by
  simp only[bS] at x
  obtain⟨o,os',b1,b2,rfl,rfl,x1,x2⟩:=x
  intro q hq
  rcases iG.1 hq with rfl | hq
  · rw[(bQ.shape x1).2.1,h a (by simp)]
  · exact bS.QW x2 (fun e he=>h e (by simp [he])) q hq
theorem bQ.UM{st:aA}{e r:AV}{bs:List Nat}{w:Nat}(m3:bQ st e r bs)(hwe:e.width=w)(hst:e.cells.all AV.storable=true):r.width=w∧r.cells.length=w∧r.cells.all AV.storable=true:=by
 refine⟨(bQ.shape m3).2.1.trans hwe,by rw[rX,(bQ.shape m3).2.1,hwe],?_⟩
 cases e<;>simp only[bQ] at m3<;>try exact m3.elim
 case int=>rw[m3.1];try rfl
 case bool=>rw[m3.1];try rfl
 case str=>rw[m3.1];try rfl
 case slice=>rcases m3 with ⟨_,rfl,_⟩ | ⟨_,_,_,_,rfl,_⟩<;>rfl
 case agg cs=>
  obtain⟨q,rfl,m3⟩:=m3
  refine(bQ.BG m3 fun c hc=>?_).1
  have hst:cs.all AV.storable=true:=hst
  have:=fD.1 hst c hc
  cases c<;>first | rfl | (simp [AV.storable] at this)
theorem lP.step{es:List AV}{st:aA}{i:Nat}{os:List AV}{bs bx:List Nat}{b x b':Nat}{s s2 s':aA}{o:AO}{e r:AV}(h:lP es st i os bs b s)(hx:s x=none)(he:es[i]?=some e)
 (m1:bx.Nodup) (m2:∀q∈bx,(s.aC x o) q=none) (m3:bQ s2 e r bx) (m4:∀q,q∉bx→s2 q=(s.aC x o) q)
 (k1:s' b'=some (.cells ((os++ [r]).flatMap AV.cells))) (k2:b'=b∧os≠[]∨s2 b'=none) (k3:∀q,q≠b'→(os≠[]→q≠b)→s' q=s2 q) (k4:os≠[]→b'≠b→s' b=none) :
 lP es st (i+1) (os++ [r]) (bs++bx) b' (s'.erase x):=by
 obtain⟨h1,h2,h3,h4,h5,h6⟩:=h
 have XT:=bS.iR _ _ _ h2
 have hi:i<es.length:=(eX.1 he).1
 have qK:∀q∈bs,s q≠none:=fun q hq=>by obtain⟨cs,e1,_⟩:=XT.2 q hq;rw[e1];simp
 have X0:x∉bs:=fun hq=>qK x hq hx
 have hxb:os≠[]→x≠b:=fun hne e=>by have:=(h5 hne).2.2;rw[←e,hx] at this;cases this
 have y6:x∉bx:=fun hq=>by have:=m2 x hq;rw[aA.aY] at this;cases this
 have hbx:∀q∈bx,s q=none:=fun q hq=>by
  have:=m2 q hq
  have hne:q≠x:=fun e=>y6 (e▸hq)
  rwa [aA.bK _ _ hne] at this
 have NN:∀q∈bs,q∉bx:=fun q hq hq'=>qK q hq (hbx q hq')
 have NJ:os≠[]→b∉bx:=fun hne hq=>by have:=hbx b hq;rw[(h5 hne).2.2] at this;cases this
 have XR:s2 x=some o:=by rw[m4 x y6,aA.aY]
 have hs2:∀q,q∉bx→q≠x→s2 q=s q:=fun q h1 h2=>by rw[m4 q h1,aA.bK _ _ h2]
 have yO:b'≠x:=by
  rcases k2 with ⟨rfl,hne⟩ | hn
  · exact dQ (hxb hne)
  · rintro rfl;rw[XR] at hn;cases hn
 have uS:b'∉bx:=by
  rcases k2 with ⟨rfl,hne⟩ | hn
  · exact NJ hne
  · intro hq
    obtain⟨cs,e1,_⟩:=(bQ.iR _ _ _ m3).2.2 b' hq
    rw[e1] at hn;cases hn
 have yN:b'∉bs:=by
  rcases k2 with ⟨rfl,hne⟩ | hn
  · exact(h5 hne).2.1
  · intro hq
    rw[hs2 b' uS yO] at hn
    exact qK b' hq hn
 have XU:st b'=none:=by
  rcases k2 with ⟨rfl,hne⟩ | hn
  · exact(h5 hne).1
  · rw[hs2 b' uS yO] at hn
    by_cases hbb:os≠[]∧b'=b
    · rw[hbb.2];exact(h5 hbb.1).1
    · rw[←h6 b' yN (fun hne e=>hbb ⟨hne,e⟩)];exact hn
 have W6:os≠[]→∀q∈bs,q≠b:=fun hne q hq e=>(h5 hne).2.1 (e▸hq)
 have XG:∀q∈bs,(s'.erase x) q=s q:=fun q hq=>by
  have hqx:q≠x:=fun e=>X0 (e▸hq)
  simp only[aA.erase,hqx,cU]
  rw[k3 q (fun e=>yN (e▸hq)) (fun hne=>W6 hne q hq),hs2 q (NN q hq) hqx]
 have XH:∀q∈bx,(s'.erase x) q=s2 q:=fun q hq=>by
  have hqx:q≠x:=fun e=>y6 (e▸hq)
  simp only[aA.erase,hqx,cU]
  exact k3 q (fun e=>uS (e▸hq)) (fun hne e=>NJ hne (e▸hq))
 refine⟨by simp [h1],?_,List.nodup_append.2 ⟨h3,m1,fun a ha c hc e=>NN a ha (e▸hc)⟩,fun q hq=>?_,fun _=>⟨XU,?_,?_⟩,fun q hq hqb=>?_⟩
 · rw[fE,he]
   exact bS.snoc h2 XG (bQ.cG _ _ _ XH m3)
 · rcases j2.1 hq with hq | hq
   · exact h4 q hq
   · by_cases hbb:os≠[]∧q=b
     · rw[hbb.2];exact(h5 hbb.1).1
     · by_cases hqs:q∈bs
       · exact h4 q hqs
       · rw[←h6 q hqs (fun hne e=>hbb ⟨hne,e⟩)];exact hbx q hq
 · intro hq
   rcases j2.1 hq with hq | hq
   · exact yN hq
   · exact uS hq
 · simp only[aA.erase,yO,cU]
   exact k1
 · simp only[j2,not_or] at hq
   have NV:=hqb (by simp)
   by_cases hqx:q=x
   · subst hqx
     simp only[aA.erase,fA]
     rw[←h6 q hq.1 hxb,hx]
   · simp only[aA.erase,hqx,cU]
     by_cases hbb:os≠[]∧q=b
     · rw[hbb.2,k4 hbb.1 (fun e=>NV (hbb.2.trans e.symm)),(h5 hbb.1).1]
     · rw[k3 q NV (fun hne e=>hbb ⟨hne,e⟩),hs2 q hq.2 hqx]
       exact h6 q hq.1 (fun hne e=>hbb ⟨hne,e⟩)
theorem aD.done{P:Program}{g:FuncId}{args:List AV}{st:aA}{r:AV}(x:aD P g args st (fun r' st'=>r'.soft=r∧aN st' st)):aD P g args st (fun r' st'=>r'=r∧st'=st):=
 aD.oD (aD.soft x)
theorem aD.oE{P:Program}{g:FuncId}{args:List AV}{st:aA}{Q:AV→aA→Prop}(x:aD P g args st (fun r st'=>∃s2,aN st' s2∧Q r s2)):aD P g args st Q:=
 x.hJ fun r _ ⟨s2,D,q⟩=>⟨r,s2,D.lN,D.hJ r,q⟩
theorem iE{cs:List AV}:(AV.agg cs).soft=.agg (cs.map AV.soft):=by simp only[AV.soft,nO]
theorem lI{cs:List AV}:(AV.tup cs).soft=.tup (cs.map AV.soft):=by simp only[AV.soft,nO]
theorem gP{k:IntKind}{n:Int}:(AV.int k n).soft=.int k n:=rfl
theorem O5{b:Bool}:(AV.bool b).soft=.bool b:=rfl
theorem iF{s:ByteArray}:(AV.str s).soft=.str s:=rfl
theorem oV{es:List AV}:(AV.slice es).soft=.slice es:=rfl
theorem jH{es:List AV}:(AV.fslice es).soft=.slice es:=rfl
def nD(b:Nat)(l:List AV):List (Nat×AV)→List (Nat×AV)
 | []=>[]
 | p::r=>(p.1,p.2.fin b l)::nD b l r
theorem G2{b:Nat}{l:List AV}:nD b l []= []:=rfl
theorem G3{b d:Nat}{l:List AV}{v:AV}{r:List (Nat×AV)}:nD b l ((d,v)::r)=(d,v.fin b l)::nD b l r:=rfl
theorem WU{b:Nat}{l:List AV}:AV.junk.fin b l=.junk:=by unfold AV.fin;split<;>rfl
theorem oG{w b:Nat}{l:List AV}:(aP w b l).fin b l=.slice l:=fJ
theorem YB{st:aA}(b:Nat)(l:List AV)(hb:l≠[]→st b=none)(hj:∀e∈l,e.bA=false)(hE:eL l)(L:List (Nat×AV)):cN (eO L) (aU st b l) (eO (nD b l L)) st:=by
 have key:∀L d,eO (nD b l L) d=(eO L d).fin b l:=by
  intro L
  induction L with
  | nil=>intro d;exact WU.symm
  | cons p r ih=>
   obtain⟨e,v⟩:=p
   intro d
   show((eO (nD b l r)).aC e (v.fin b l)) d=(((eO r).aC e v) d).fin b l
   simp only[AF.aC]
   split
   · rfl
   · exact ih d
 intro h tmps S F
 cases l with
 | nil=>exact⟨S,aS.refl _ _,fun d=>by rw[key];exact(F d).soft⟩
 | cons y l=>
  have hst:(aU st b (y::l)) b=some (.cells ((y::l).flatMap AV.cells)):=aA.aY _ _ _
  have he:(aU st b (y::l)).erase b=st:=aA.oF st b _ (hb (by simp))
  have L1:cN (eO L) (aU st b (y::l)) (fun d=>(eO L d).fz b (y::l)) st:=by
   have:=cN.freeze (φ:=eO L) hst hj hE
   rwa [he] at this
  obtain⟨a1,a2,a3⟩:=L1 h tmps S F
  exact⟨a1,a2,fun d=>by rw[key];exact(a3 d).soft⟩
theorem AQ{P:Program}{N:Nat}{c:Code}{Q:Exit→AF→aA→Prop}{φ:AF}{st:aA}{α σ:Type}(mt:List Nat)(cG:List Nat)(l:List α)(w d:Nat)(acc:Nat→σ→List AV)(inv:Nat→σ→Prop)(ch:Nat→σ→List (Nat×AV))(so:Nat→σ→aA)
 (hw:∀i s,inv i s→∀e∈acc i s,e.bA=false∧e.width=w)
 (hok:codeOk N c=true)
 (h0:∃s b,inv 0 s∧(acc 0 s≠[]→so 0 s b=none)∧aL φ st (eT φ cG ((d,aP w b (acc 0 s))::ch 0 s)) (aU (so 0 s) b (acc 0 s)))
 (h1:∀i x s b,l[i]?=some x→i<l.length→((i:Int)<(l.length:Int))→l.drop i=x::l.drop (i+1)→inv i s→(acc i s≠[]→so i s b=none) →
  cX P N mt c (iP (fun φ' st'=>∃s' b',inv (i+1) s'∧(acc (i+1) s'≠[]→so (i+1) s' b'=none)∧aL φ' st' (eT φ cG ((d,aP w b' (acc (i+1) s'))::ch (i+1) s')) (aU (so (i+1) s') b' (acc (i+1) s'))) Q) (l9 (eT φ cG ((d,aP w b (acc i s))::ch i s))) (aU (so i s) b (acc i s)))
 (h2:∀s b,¬((l.length:Int)<(l.length:Int))→inv l.length s→cX P N mt c (iP (fun _ _=>False) Q) (l9 (nD b (acc l.length s) (eT φ cG ((d,aP w b (acc l.length s))::ch l.length s)))) (so l.length s)):dL P N (.loop c) Q φ st:=by
 have hJ:∀(k:AF→aA→Prop) (φ0:AF) (st0:aA) (k':AF→aA→Prop),(∀φ' st',k' φ' st'→k φ' st') →
  dL P N c (iP k' Q) φ0 st0→dL P N c (iP k Q) φ0 st0:=by
  intro k φ0 st0 k' hk hr a w R
  refine wp_mono (hr a w R) ?_
  rintro e a' w' ⟨φ',st',R',T,sm,q⟩
  refine⟨φ',st',R',T,sm,?_⟩
  cases e with
  | normal=>exact hk _ _ q
  | _=>exact q
 refine xG (α:=Nat×σ×Nat) (fun p=>p.1≤l.length∧inv p.1 p.2.1∧(acc p.1 p.2.1≠[]→so p.1 p.2.1 p.2.2=none)) (fun p=>eO (eT φ cG ((d,aP w p.2.2 (acc p.1 p.2.1))::ch p.1 p.2.1))) (fun p=>aU (so p.1 p.2.1) p.2.2 (acc p.1 p.2.1)) (fun p=>l.length - p.1) ?_ ?_
 · obtain⟨s,b,hs,hb,hl⟩:=h0
   exact⟨(0,s,b),⟨iI _,hs,hb⟩,hl⟩
 · rintro⟨i,s,b⟩ ⟨hi,hs,hb⟩
   simp only at hi hs hb ⊢
   rcases gS i l.length with hlt | hge
   · refine hJ _ _ _ _ ?_ (rS mt hok (h1 i l[i] s b (eD hlt) hlt (by omega) (pC hlt) hs hb))
     rintro φ' st' ⟨s',b',h1',h2',h3'⟩
     exact⟨(i+1,s',b'),by simp only;omega,⟨by simp only;omega,h1',h2'⟩,h3'⟩
   · obtain rfl:i=l.length:=by omega
     refine dL.less (YB b (acc l.length s) hb (fun e he=>(hw _ s hs e he).1) ⟨w,fun e he=>(hw _ s hs e he).2⟩ _) ?_
     refine hJ _ _ _ _ ?_ (rS mt hok (h2 s b (by omega) hs))
     exact fun _ _ h=>h.elim
section
variable {P:Program}
def yF(ops:Array Oper)(S:List Nat)(j:Nat):Bool:=S.all fun i=>lA ops ops.size j i
def pI(P:Program)(ops:Array Oper)(S:List Nat)(s0:aA)(K:AF→aA→Prop):Nat→Array Bool→AF→aA→Prop
 | 0,aK,φ,st=>Region.ready .any ops aK= []∧K φ st
 | f+1,aK,φ,st=>(Region.ready .any ops aK= []→K φ st)∧∀i∈Region.ready .any ops aK,∃o,ops[i]?=some o ∧
  ((S.contains i=true∧∃r,gH P st ops o r φ∧pI P ops S s0 K f (aK.setIfInBounds i true) (φ.put o.dst r) st) ∨
   (S.contains i=false∧eH P ops o φ st (fun r st'=>(yF ops S i=true∨dI s0 st')∧pI P ops S s0 K f (aK.setIfInBounds i true) (φ.put o.dst r) st')))
theorem w4{ops:Array Oper}{S:List Nat}{s0:aA}{K:AF→aA→Prop}:∀(f:Nat) (aK:Array Bool) (φ:AF) (st:aA),pI P ops S s0 K f aK φ st→tV P ops K f aK φ st
 | 0,_,_,_,h=>h
 | f+1,aK,φ,st,h=>by
  refine⟨h.1,fun i hi=>?_⟩
  obtain⟨o,ho,h2⟩:=h.2 i hi
  refine⟨o,ho,?_⟩
  rcases h2 with ⟨_,r,y,k⟩ | ⟨_,k⟩
  · exact BB y (w4 f _ _ _ k)
  · exact mZ (fun r s q=>w4 f _ _ _ q.2) k
theorem Q4{ops:Array Oper}{S:List Nat}{s0:aA}{i:Nat}{oi:Oper}{v:AV}{K:AF→aA→Prop}(hi:ops[i]?=some oi)(hS:S.contains i=true) :
 ∀(f:Nat) (aK:Array Bool) (φ:AF) (st:aA),mT ops aK →
  (∀j oj,ops[j]?=some oj→j≠i→aK.getD j true=false→(∀e∈oj.after,Region.binds .any e=true→e.on≠i)→oi.apart ops oj=true) →
  i∈Region.ready .any ops aK→(∀s,dI s0 s→gH P s ops oi v φ)→dI s0 st →
  pI P ops S s0 K f (aK.setIfInBounds i true) (φ.put oi.dst v) st→pI P ops S s0 K (f+1) aK φ st:=by
 intro f
 induction f with
 | zero=>
  intro aK φ st hcl _ hr hy hx H
  refine⟨fun h=>(by rw[h] at hr;cases hr),fun j hj=>?_⟩
  by_cases hji:j=i
  · subst hji;exact⟨oi,hi,.inl ⟨hS,v,hy st hx,H⟩⟩
  · have:=ready_mono hj hji
    rw[H.1] at this
    cases this
 | succ f ih=>
  intro aK φ st hcl sE hr hy hx H
  refine⟨fun h=>(by rw[h] at hr;cases hr),fun j hj=>?_⟩
  by_cases hji:j=i
  · subst hji;exact⟨oi,hi,.inl ⟨hS,v,hy st hx,H⟩⟩
  · obtain⟨oj,hoj,h1⟩:=H.2 j (ready_mono hj hji)
    obtain⟨nH,oj',yX,cT⟩:=mem_ready.1 hj
    have:oj'=oj:=Option.some.inj (yX.symm.trans hoj)
    subst this
    have hun:=(mem_ready.1 hr).1
    have sI:∀e∈oj'.after,Region.binds .any e=true→e.on≠i:=fun e he hb heq=>by
     have h1:=cT e he hb
     rw[heq,getD_both hun] at h1
     cases h1
    obtain⟨a1,a2,a3⟩:=Oper.apart_spec (sE j oj' hoj hji nH sI)
    have qI:∀k ok,ops[k]?=some ok→k≠i→(aK.setIfInBounds j true).getD k true=false →
     (∀e∈ok.after,Region.binds .any e=true→e.on≠i)→oi.apart ops ok=true:=fun k ok hk hki hun hno=>by
     refine sE k ok hk hki ?_ hno
     by_cases hjk:j=k
     · subst hjk;exact nH
     · rw[getD_set_ne true hjk] at hun;exact hun
    refine⟨oj',hoj,?_⟩
    rcases h1 with ⟨hSj,r,yj,h2⟩ | ⟨hSj,h2⟩
    · refine .inl ⟨hSj,r,(lY φ v a1).1 yj,ih (aK.setIfInBounds j true) (φ.put oj'.dst r) st (hcl.set hj) qI (ready_mono hr (dQ hji)) (fun s hs=>(lY φ r a3).2 (hy s hs)) hx ?_⟩
      rw[tO _ _ hji,←put_comm φ v r a2]
      exact h2
    · refine .inr ⟨hSj,mZ (fun r st' h3=>?_) ((w9 φ v a1).1 h2)⟩
      refine⟨h3.1,?_⟩
      have hx':dI s0 st':=by
       rcases h3.1 with he | he
       · exfalso
         unfold yF at he
         have hd:=fD.1 he i (by simpa using hS)
         exact uI hcl (getD_both hun) _ j oj' hoj hd cT
       · exact he
      refine ih (aK.setIfInBounds j true) (φ.put oj'.dst r) st' (hcl.set hj) qI (ready_mono hr (dQ hji)) (fun s hs=>(lY φ r a3).2 (hy s hs)) hx' ?_
      rw[tO _ _ hji,←put_comm φ v r a2]
      exact h3.2
def kM(ops:Array Oper)(S:List Nat):List (Nat×Nat)→Array Bool→Bool
 | [],aK=>(Region.ready .any ops aK).isEmpty
 | (i,0)::r,aK=>decide (Region.ready .any ops aK= [i])&& !S.contains i&&kM ops S r (aK.setIfInBounds i true)
 | (i,1)::r,aK=>(Region.ready .any ops aK).contains i&&Region.free .any ops aK i&&S.contains i&&kM ops S r (aK.setIfInBounds i true)
 | (i,_)::r,aK=>decide (Region.ready .any ops aK= [i])&& !S.contains i&&yF ops S i&&kM ops S r (aK.setIfInBounds i true)
def pQ(P:Program)(ops:Array Oper)(s0:aA)(K:AF→aA→Prop):List (Nat×Nat)→AF→aA→Prop
 | [],φ,st=>K φ st
 | (i,0)::r,φ,st=>∃o,ops[i]?=some o∧eH P ops o φ st (fun v st'=>dI s0 st'∧pQ P ops s0 K r (φ.put o.dst v) st')
 | (i,1)::r,φ,st=>∃o,ops[i]?=some o∧∃v,(∀s,dI s0 s→gH P s ops o v φ)∧pQ P ops s0 K r (φ.put o.dst v) st
 | (i,_)::r,φ,st=>∃o,ops[i]?=some o∧eH P ops o φ st (fun v st'=>pQ P ops s0 K r (φ.put o.dst v) st')
def qO:List (Nat×Nat)→Bool
 | []=>true
 | (_,0)::r=>qO r
 | (_,1)::r=>qO r
 | (_,_)::r=>r.all fun p=>p.2 != 1
theorem tY{ops:Array Oper}{S:List Nat}{s0:aA}{K:AF→aA→Prop}:∀(p:List (Nat×Nat)) (aK:Array Bool) (φ:AF) (st:aA),mT ops aK→kM ops S p aK=true→(qO p=true∧dI s0 st∨(p.all fun q=>q.2 != 1)=true)→pQ P ops s0 K p φ st→pI P ops S s0 K p.length aK φ st
 | [],aK,φ,st,_,hB,hx,h=>⟨by simpa [kM] using hB,h⟩
 | (i,0)::r,aK,φ,st,hcl,hB,hx,h=>by
  simp only[kM,bX,a9,j0] at hB
  obtain⟨o,ho,h'⟩:=h
  have hr:i∈Region.ready .any ops aK:=by rw[hB.1.1];simp
  refine⟨fun h0=>(by rw[hB.1.1] at h0;cases h0),fun j hj=>?_⟩
  rw[hB.1.1] at hj
  obtain rfl:j=i:=by simpa using hj
  refine⟨o,ho,.inr ⟨hB.1.2,mZ (fun v st' q=>⟨.inr q.1,tY r _ _ _ (hcl.set hr) hB.2 ?_ q.2⟩) h'⟩⟩
  rcases hx with hx | hx
  · exact .inl ⟨hx.1,q.1⟩
  · refine .inr ?_
    simp only[lR,bX] at hx
    exact hx.2
 | (i,1)::r,aK,φ,st,hcl,hB,hx,h=>by
  simp only[kM,bX] at hB
  obtain⟨⟨⟨hr,hf⟩,hS⟩,hB'⟩:=hB
  obtain⟨o,ho,v,hv,h'⟩:=h
  have hr':i∈Region.ready .any ops aK:=by simpa using hr
  rcases hx with hx | hx
  · exact Q4 ho hS _ aK φ st hcl (Region.free_spec ho hf) hr' hv hx.2 (tY r _ _ _ (hcl.set hr') hB' (.inl hx) h')
  · simp at hx
 | (i,k+2)::r,aK,φ,st,hcl,hB,hx,h=>by
  simp only[kM,bX,a9,j0] at hB
  obtain⟨o,ho,h'⟩:=h
  have hr:i∈Region.ready .any ops aK:=by rw[hB.1.1.1];simp
  refine⟨fun h0=>(by rw[hB.1.1.1] at h0;cases h0),fun j hj=>?_⟩
  rw[hB.1.1.1] at hj
  obtain rfl:j=i:=by simpa using hj
  refine⟨o,ho,.inr ⟨hB.1.1.2,mZ (fun v st' q=>⟨.inl hB.1.2,tY r _ _ _ (hcl.set hr) hB.2 (.inr ?_) q⟩) h'⟩⟩
  rcases hx with hx | hx
  · exact hx.1
  · simp only[lR,bX] at hx
    exact hx.2
theorem RR{N:Nat}{id:Nat}{ops:Array Oper}{Q:Exit→AF→aA→Prop}{φ:AF}{st:aA}(p:List (Nat×Nat))(S:List Nat)(s0:aA)(hm:P.follows .mixedOrders=true)(hok:mL N ops=true)(hl:p.length=ops.size)(hB:kM ops S p (Array.replicate ops.size false)=true)(hf:qO p=true)(hs:dI s0 st)
 (h:pQ P ops s0 (Q .normal) p φ st):dL P N (.region id ops true) Q φ st:=by
 intro a w R
 refine wp_region_any hm ?_
 have R0:Rel N a { w with drawn:=w.drawn+1 } φ st:=⟨R.size,R.defers,R.frame,R.store⟩
 have:=w4 _ _ _ _ (tY p _ φ st (fun j o _ hl=>(by rw[NE] at hl;cases hl)) hB (.inl ⟨hf,hs⟩) h)
 rw[hl] at this
 exact wW (vC hok) (sQ hok) (w0:=w) (st0:=st) (fun φ' st' a' w' k R' T s=>⟨φ',st',R',T,s,k⟩) _ _ _ _ _ _ this R0 (aS.refl _ _) ⟨rfl,rfl,rfl⟩
def d8(P:Program)(ops:Array Oper)(s0:aA)(K:AF→aA→Prop):List (Nat×Nat)→AF→aA→Prop
 | [],φ,st=>K φ st
 | (i,0)::r,φ,st=>match ops[i]? with
  | none=>False
  | some o=>aJ P [] ops [o] (fun φ' st'=>dI s0 st'∧d8 P ops s0 K r φ' st') φ st
 | (i,1)::r,φ,st=>match ops[i]? with
  | none=>False
  | some o=>if gF o=true then aJ P [] ops [o] (fun φ' _=>d8 P ops s0 K r φ' st) φ s0 else
   match o.guard,o.op with
   | none,.call { callee:=.value f,args,.. }=>∃v,(∀s,dI s0 s→kA P (φ.eval f) (args.toList.map φ.eval) s (fun r' s'=>r'=v∧s'=s))∧d8 P ops s0 K r (φ.put o.dst v) st
   | _,_=>False
 | (i,_)::r,φ,st=>match ops[i]? with
  | none=>False
  | some o=>aJ P [] ops [o] (fun φ' st'=>d8 P ops s0 K r φ' st') φ st
theorem mY{ops:Array Oper}{s0:aA}{K:AF→aA→Prop}:∀(p:List (Nat×Nat)) (φ:AF) (st:aA),d8 P ops s0 K p φ st→pQ P ops s0 K p φ st
 | [],_,_,h=>h
 | (i,0)::r,φ,st,h=>by
  simp only[d8] at h
  split at h
  · exact h.elim
  · rename_i o ho
    refine⟨o,ho,?_⟩
    simp only[aJ] at h
    unfold eH
    split at h
    · rename_i hg
      rw[hg]
      exact pS (fun v s q=>⟨q.1,mY r _ _ q.2⟩) h
    · rename_i hg
      rw[hg]
      exact⟨h.1,mY r _ _ h.2⟩
    · exact h.elim
 | (i,1)::r,φ,st,h=>by
  simp only[d8] at h
  split at h
  · exact h.elim
  · rename_i o ho
    split at h
    · rename_i hp
      simp only[aJ] at h
      split at h
      · rename_i hg
        rw[n7 hp] at h
        split at h
        · rename_i v hv
          refine⟨o,ho,v,fun s hs=>.inl ⟨hg,?_⟩,mY r _ _ h⟩
          rw[n7 hp,BA hs hv]
          exact⟨rfl,rfl⟩
        · exact h.elim
      · rename_i hg
        exact⟨o,ho,.undef,fun s _=>.inr ⟨hg,rfl⟩,mY r _ _ h⟩
      · exact h.elim
    · split at h
      · rename_i f args ats hg hop
        obtain⟨v,h1,h2⟩:=h
        refine⟨o,ho,v,fun s hs=>.inl ⟨by simp only[eF,hg],?_⟩,mY r _ _ h2⟩
        simp only[cK,hop]
        exact h1 s hs
      · exact h.elim
 | (i,k+2)::r,φ,st,h=>by
  simp only[d8] at h
  split at h
  · exact h.elim
  · rename_i o ho
    refine⟨o,ho,?_⟩
    simp only[aJ] at h
    unfold eH
    split at h
    · rename_i hg
      rw[hg]
      exact pS (fun v s q=>mY r _ _ q) h
    · rename_i hg
      rw[hg]
      exact mY r _ _ h
    · exact h.elim
end
def zQ(P:Program)(ops:Array Oper)(s0:aA)(K:AF→aA→Prop)(r:List (Nat×Nat))(φ:AF)(st:aA):Prop:=dI s0 st∧d8 P ops s0 K r φ st
def zO(P:Program)(ops:Array Oper)(s0:aA)(K:AF→aA→Prop)(r:List (Nat×Nat))(φ:AF)(st:aA):Prop:=d8 P ops s0 K r φ st
def zN(P:Program)(ops:Array Oper)(s0:aA)(K:AF→aA→Prop)(r:List (Nat×Nat))(st:aA)(φ:AF)(_:aA):Prop:=d8 P ops s0 K r φ st
def zL(P:Program)(ops:Array Oper)(s0:aA)(K:AF→aA→Prop)(r:List (Nat×Nat))(φ:AF)(dst:Option Tmp)(st:aA)(v:AV):Prop:=d8 P ops s0 K r (φ.put dst v) st
def CI(P:Program)(s0:aA)(f:AV)(args:List AV)(K:AV→Prop):Prop:=∃v,(∀s,dI s0 s→kA P f args s (fun r' s'=>r'=v∧s'=s))∧K v
def qW(P:Program)(ops:Array Oper)(s0:aA)(K:AF→aA→Prop)(r:List (Nat×Nat))(φ:AF)(st:aA):Nat→Option Oper→Prop
 | 0,some o=>aJ P [] ops [o] (zQ P ops s0 K r) φ st
 | 1,some o=>if gF o=true then aJ P [] ops [o] (zN P ops s0 K r st) φ s0 else
  match o.guard,o.op with
  | none,.call { callee:=.value f,args,.. }=>CI P s0 (φ.eval f) (args.toList.map φ.eval) (zL P ops s0 K r φ o.dst st)
  | _,_=>False
 | _,some o=>aJ P [] ops [o] (zO P ops s0 K r) φ st
 | _,none=>False
theorem JM{P:Program}{ops:Array Oper}{s0:aA}{K:AF→aA→Prop}{φ:AF}{st:aA}:d8 P ops s0 K [] φ st=K φ st:=rfl
theorem JN{P:Program}{l:List Oper}{s0:aA}{K:AF→aA→Prop}{φ:AF}{st:aA}{i b:Nat}{r:List (Nat×Nat)}:d8 P l.toArray s0 K ((i,b)::r) φ st=qW P l.toArray s0 K r φ st b l[i]?:=by
 match b with
 | 0=>simp only[d8,n3];cases l[i]?<;>rfl
 | 1=>simp only[d8,n3];cases l[i]?<;>rfl
 | b+2=>simp only[d8,n3];cases l[i]?<;>rfl
theorem JS{P:Program}{ops:Array Oper}{s0:aA}{K:AF→aA→Prop}{φ:AF}{st:aA}{r:List (Nat×Nat)}{o:Oper}:qW P ops s0 K r φ st 0 (some o)=aJ P [] ops [o] (zQ P ops s0 K r) φ st:=rfl
theorem JT{P:Program}{ops:Array Oper}{s0:aA}{K:AF→aA→Prop}{φ:AF}{st:aA}{r:List (Nat×Nat)}{o:Oper}:qW P ops s0 K r φ st 1 (some o)=if gF o=true then aJ P [] ops [o] (zN P ops s0 K r st) φ s0 else
      match o.guard,o.op with
      | none,.call { callee:=.value f,args,.. }=>CI P s0 (φ.eval f) (args.toList.map φ.eval) (zL P ops s0 K r φ o.dst st)
      | _,_=>False:=rfl
theorem JU{P:Program}{ops:Array Oper}{s0:aA}{K:AF→aA→Prop}{φ:AF}{st:aA}{r:List (Nat×Nat)}{o:Oper}:qW P ops s0 K r φ st 2 (some o)=aJ P [] ops [o] (zO P ops s0 K r) φ st:=rfl
theorem JR{P:Program}{ops:Array Oper}{s0:aA}{K:AF→aA→Prop}{φ:AF}{st:aA}{r:List (Nat×Nat)}:zQ P ops s0 K r φ st=(dI s0 st∧d8 P ops s0 K r φ st):=rfl
theorem JQ{P:Program}{ops:Array Oper}{s0:aA}{K:AF→aA→Prop}{φ:AF}{st:aA}{r:List (Nat×Nat)}:zO P ops s0 K r φ st=d8 P ops s0 K r φ st:=rfl
theorem JP{P:Program}{ops:Array Oper}{s0:aA}{K:AF→aA→Prop}{φ:AF}{st s:aA}{r:List (Nat×Nat)}:zN P ops s0 K r st φ s=d8 P ops s0 K r φ st:=rfl
theorem JO{P:Program}{ops:Array Oper}{s0:aA}{K:AF→aA→Prop}{φ:AF}{st:aA}{r:List (Nat×Nat)}{dst:Option Tmp}{v:AV}:zL P ops s0 K r φ dst st v=d8 P ops s0 K r (φ.put dst v) st:=rfl
@[congr] theorem aBL {P:Program} {ops:Array Oper} {s0:aA} {K:AF→aA→Prop} {p:List (Nat×Nat)} {φ φ':AF} {st st':aA} (h1:φ=φ') (h2:st=st'):d8 P ops s0 K p φ st=d8 P ops s0 K p φ' st':=by rw[h1,h2]
@[congr] theorem aBV {P:Program} {ops:Array Oper} {s0:aA} {K:AF→aA→Prop} {p:List (Nat×Nat)} {φ φ':AF} {st st':aA} {b:Nat} {o o':Option Oper} (h1:φ=φ') (h2:st=st') (h3:o=o'):qW P ops s0 K p φ st b o=qW P ops s0 K p φ' st' b o':=by rw[h1,h2,h3]
theorem q9{P:Program}{N:Nat}{id:Nat}{l:List Oper}{Q:Exit→AF→aA→Prop}{φ:AF}{st:aA}(p:List (Nat×Nat))(S:List Nat)(s0:aA)(hm:P.follows .mixedOrders=true)(hok:mL N l.toArray=true)(hl:p.length=l.length)(hB:kM l.toArray S p (Array.replicate l.length false)=true)(hf:qO p=true)(hs:dI s0 st)
 (h:d8 P l.toArray s0 (Q .normal) p φ st):dL P N (.region id l.toArray true) Q φ st:=
 RR p S s0 hm hok (by simpa using hl) (by simpa using hB) hf hs (mY p φ st h)
def OU(K:AV→aA→Prop)(st:aA):Option AV→Option AV→Prop
 | some r,some s=>fQ [r,s]=true∧K (.tup [r,s]) st
 | _,_=>False
theorem KA{P:Program}{φ:AF}{st:aA}{p q:Tmp}{t u:TypeId}{K:AV→aA→Prop}:hC P [.cell p t,.cell q u] K φ st=OU K st (dU P st t (φ p)) (dU P st u (φ q)):=by
 simp only[hC,i6,pR]
 cases dU P st t (φ p)<;>cases dU P st u (φ q)<;>rfl
theorem KB{st:aA}{K:AV→aA→Prop}{r s:AV}:OU K st (some r) (some s)=(fQ [r,s]=true∧K (.tup [r,s]) st):=rfl
def one(b:Nat)(o:AO):aA:=g9.aC b o
theorem iM{b:Nat}{o:AO}{st:aA}(h:st b=some o):dI (one b o) st:=fun x p hx=>by
 simp only[one,aA.aC] at hx
 split at hx
 · rename_i e;cases hx;rw[e];exact h
 · cases hx
theorem yG{st:aA}:dI g9 st:=fun x p hx=>by cases hx
section
variable {α:Type}
def gJ(f:α→α→Bool):List α→List α→Bool
 | [],[]=>true
 | x::xs,y::ys=>f x y&&gJ f xs ys
 | _,_=>false
theorem CZ(f:α→α→Bool):∀ {a b:List α},a.length≠b.length→gJ f a b=false
 | [],[],h=>absurd rfl h
 | [],_::_,_=>rfl
 | _::_,[],_=>rfl
 | x::xs,y::ys,h=>by simp only[gJ,CZ f (a:=xs) (b:=ys) (by simpa using h),mS]
theorem CX(f:α→α→Bool):∀ {a b:List α} (i:Nat) (x y:α),a[i]?=some x→b[i]?=some y→f x y=false→gJ f a b=false
 | [],_,i,x,y,h,_,_=>by simp at h
 | _::_,[],i,x,y,_,h,_=>by simp at h
 | t::ts,t'::ts',0,x,y,h1,h2,h=>by
  simp at h1 h2;subst h1;subst h2
  simp only[gJ,h,c8]
 | t::ts,t'::ts',i+1,x,y,h1,h2,h=>by
  simp only[gJ,CX f (a:=ts) (b:=ts') i x y (by simpa using h1) (by simpa using h2) h,mS]
theorem CW(f:α→α→Bool):∀ {a b:List α},a.length=b.length→(∀(i:Nat) (x y:α),a[i]?=some x→b[i]?=some y→f x y=true)→gJ f a b=true
 | [],[],_,_=>rfl
 | t::ts,t'::ts',h,g=>by
  simp only[gJ,bX]
  exact⟨g 0 t t' rfl rfl,CW f (by simpa using h) fun i x y h1 h2=>g (i+1) x y (by simpa using h1) (by simpa using h2)⟩
theorem CY{f:α→α→Bool}:∀ {a b:List α},(∀x∈a,∀y,f x y=true↔x=y)→(gJ f a b=true↔a=b)
 | [],[],_=>by simp [gJ]
 | [],_::_,_=>by simp [gJ]
 | _::_,[],_=>by simp [gJ]
 | x::xs,y::ys,h=>by
  simp only[gJ,bX,List.cons.injEq,h x (by simp) y,CY (a:=xs) (b:=ys) fun z hz=>h z (by simp [hz])]
def bH(f:α→Nat):List α→Nat
 | []=>0
 | x::xs=>f x+bH f xs
theorem zW(f:α→Nat):∀ {l:List α} {i:Nat} {x:α},l[i]?=some x→bH f (l.take (i+1))=bH f (l.take i)+f x∧bH f (l.take (i+1))≤bH f l
 | [],i,x,h=>by simp at h
 | y::ys,0,x,h=>by simp at h;subst h;simp [bH]
 | y::ys,i+1,x,h=>by
  have:=zW f (l:=ys) (i:=i) (x:=x) (by simpa using h)
  simp only[lT,bH] at this ⊢
  omega
theorem cI{P:Program}{t:TypeId}{ag:Bool}{w:Nat}{av:α→AV}{l:List α}{i:Nat}{x:α}(hI:eI P t=some (ag,w))(h:l[i]?=some x)(hw:(av x).width=w):iZ P t (.slice (l.map av)) (.int .i64 (i:Int))=some (.pptr (av x)):=by
 simp only[iZ,hI,j1,pD,h,kU,hw]
 simp
theorem VQ{av:α→AV}{w:Nat}(hw:∀x,(av x).width=w)(l:List α):eL (l.map av):=⟨w,by intro e h;simp only[gR] at h;obtain⟨t,_,rfl⟩:=h;exact hw t⟩
end
theorem zT{zs:List AV}{x:List AV}{w:Nat}(h1:x.length=w)(h2:zs.length=w):aH zs 0 x=x:=by
 unfold aH
 simp [h1,h2]
theorem cR{x:AV}(h:x.isAgg=true):AV.agg x.cells=x:=by cases x<;>simp [AV.isAgg] at h<;>rfl
theorem cW{x:List AV}{w:Nat}(h:x.length=w):x.take w=x:=by rw[←h];exact eE
inductive Tm where
 | mk (kind n:Int) (name:ByteArray) (kids:List Tm)
mutual
def Tm.av:Tm→AV
 | .mk k n s ts=>.agg [.int .i64 k,.int .i64 n,.str s,.slice (vY ts)]
def vY:List Tm→List AV
 | []=>[]
 | t::ts=>t.av::vY ts
end
theorem P6:∀(ts:List Tm),vY ts=ts.map Tm.av
 | []=>rfl
 | t::ts=>by simp only[vY,b9,P6 ts]
theorem bG(k n:Int)(s:ByteArray)(ts:List Tm):(Tm.mk k n s ts).av=.agg [.int .i64 k,.int .i64 n,.str s,.slice (ts.map Tm.av)]:=by simp only[Tm.av,P6]
mutual
def Tm.same:Tm→Tm→Bool
 | .mk k n s ts,.mk k' n' s' ts'=>decide (k=k')&&decide (n=n')&&decide (s=s')&&v6 ts ts'
def v6:List Tm→List Tm→Bool
 | [],[]=>true
 | t::ts,t'::ts'=>t.same t'&&v6 ts ts'
 | _,_=>false
end
theorem QC:∀(a b:List Tm),v6 a b=gJ Tm.same a b
 | [],[]=>rfl
 | [],_::_=>rfl
 | _::_,[]=>rfl
 | t::ts,t'::ts'=>by simp only[v6,gJ,QC ts ts']
theorem Tm.O1(k n:Int)(s:ByteArray)(ts:List Tm)(k' n':Int)(s':ByteArray)(ts':List Tm):(Tm.mk k n s ts).same (Tm.mk k' n' s' ts')=(decide (k=k')&&decide (n=n')&&decide (s=s')&&gJ Tm.same ts ts'):=by simp only[Tm.same,QC]
theorem Tm.vH:∀(a b:Tm),a.same b=true↔a=b
 | .mk k n s ts,.mk k' n' s' ts'=>by
  have:=CY (f:=Tm.same) (a:=ts) (b:=ts') fun x hx y=>Tm.vH x y
  simp only[Tm.O1,bX,a9,Tm.mk.injEq,and_assoc,this]
termination_by a=>SizeOf.sizeOf a
decreasing_by have:=List.sizeOf_lt_of_mem hx;simp only[Tm.mk.sizeOf_spec];omega
theorem aR(t:Tm):t.av.isAgg=true:=by cases t;rfl
theorem aO(t:Tm):t.av.width=4:=by cases t;rfl
theorem aW(t:Tm):t.av.cells.length=4:=by cases t;rfl
theorem bL(t:Tm):t.av.cells.all AV.storable=true:=by cases t;rfl
theorem bV(t:Tm):t.av.bA=false:=by cases t;rfl
theorem L4{t:Tm}:t.av.isAgg=true:=aR t
theorem MD{t:Tm}:t.av.width=4:=aO t
theorem MB{t:Tm}:t.av.cells.all AV.storable=true:=bL t
theorem L7{t:Tm}:t.av.bA=false:=bV t
theorem L8{t:Tm}:t.av.cells.length=4:=aW t
theorem MC{t:Tm}:t.av.cells.take 4=t.av.cells:=cW (aW t)
theorem L5{t:Tm}:AV.agg t.av.cells=t.av:=cR (aR t)
theorem L9{t:Tm}{a b c d:AV}:aH [a,b,c,d] 0 t.av.cells=t.av.cells:=zT (aW t) rfl
theorem MA{t u:Tm}:aH u.av.cells 0 t.av.cells=t.av.cells:=zT (aW t) (aW u)
theorem LV{st:aA}{b:Nat}{o o':AO}:(st.aC b o).aC b o'=st.aC b o':=cF st b o o'
theorem LU{st:aA}{b:Nat}{o:AO}:(st.aC b o) b=some o:=aA.aY st b o
theorem LT{st:aA}{b x:Nat}{o:AO}(h:x≠b):(st.aC b o) x=st x:=aA.bK st o h
theorem L6{t:Tm}:t.av.cells.drop 4= []:=List.drop_of_length_le (by rw[aW];exact c9 _)
inductive Pf where
 | mk (goal:Tm) (clause:Int) (kids:List Pf)
mutual
def Pf.av:Pf→AV
 | .mk (.mk k n s ts) c ps=>.agg [.int .i64 k,.int .i64 n,.str s,.slice (ts.map Tm.av),.int .i64 c,.slice (OQ ps)]
def OQ:List Pf→List AV
 | []=>[]
 | t::ts=>t.av::OQ ts
end
mutual
def Pf.same:Pf→Pf→Bool
 | .mk g c ps,.mk g' c' ps'=>g.same g'&&decide (c=c')&&OR ps ps'
def OR:List Pf→List Pf→Bool
 | [],[]=>true
 | t::ts,t'::ts'=>t.same t'&&OR ts ts'
 | _,_=>false
end
def N8(k:Nat)(acc:List UInt8):List UInt8:=if k=0 then acc else N8 (k / 10) (UInt8.ofNat (48+k % 10)::acc)
termination_by k
decreasing_by omega
def mt(k:Int):ByteArray:=if k≤0 then⟨#[109,48]⟩ else⟨(109::N8 k.toNat []).toArray⟩
theorem YU{st:aA}{k n:Int}{s:ByteArray}{ts:List Tm}{o:AV}{bs:List Nat} :
 bQ st (Tm.mk k n s ts).av o bs↔∃q,o=.agg [.int .i64 k,.int .i64 n,.str s,q]∧bQ st (.slice (ts.map Tm.av)) q bs:=by
 rw[bG]
 generalize AV.slice (ts.map Tm.av)=x
 simp only[bQ,bS]
 constructor
 · rintro⟨os,rfl,o1,os1,b1,b1',rfl,rfl,⟨rfl,rfl⟩,o2,os2,b2,b2',rfl,rfl,⟨rfl,rfl⟩,o3,os3,b3,b3',rfl,rfl,⟨rfl,rfl⟩,o4,os4,b4,b4',rfl,rfl,h,rfl,rfl⟩
   exact⟨o4,rfl,by simpa using h⟩
 · rintro⟨q,rfl,h⟩
   exact⟨_,rfl,_,_,[],bs,rfl,rfl,⟨rfl,rfl⟩,_,_,[],bs,rfl,rfl,⟨rfl,rfl⟩,_,_,[],bs,rfl,rfl,⟨rfl,rfl⟩,q,[],bs,[],rfl,by simp,h,rfl,rfl⟩
abbrev iv (n:Int):AV:=.int .i64 n
def b7(s:ByteArray):Nat:=
 cond (decide (s=⟨#[61]⟩)||decide (s=⟨#[92,61]⟩)||decide (s=⟨#[61,61]⟩)||decide (s=⟨#[60]⟩)||decide (s=⟨#[62]⟩)||decide (s=⟨#[61,60]⟩)||decide (s=⟨#[62,61]⟩)||decide (s=⟨#[61,58,61]⟩)||decide (s=⟨#[105,115]⟩)) 3 (cond (decide (s=⟨#[43]⟩)||decide (s=⟨#[45]⟩)) 2 (cond (decide (s=⟨#[42]⟩)||decide (s=⟨#[47,47]⟩)||decide (s=⟨#[109,111,100]⟩)) 1 0))
def isBuiltin(s:ByteArray)(n:Int):Bool:=
 cond (decide (s=⟨#[61]⟩)||decide (s=⟨#[92,61]⟩)||decide (s=⟨#[61,61]⟩)||decide (s=⟨#[60]⟩)||decide (s=⟨#[62]⟩)||decide (s=⟨#[61,60]⟩)||decide (s=⟨#[62,61]⟩)||decide (s=⟨#[61,58,61]⟩)||decide (s=⟨#[105,115]⟩)) (decide (n=2)) (cond (decide (s=⟨#[116,114,117,101]⟩)||decide (s=⟨#[102,97,105,108]⟩)) (decide (n=0)) (cond (decide (s=⟨#[118,97,114]⟩)||decide (s=⟨#[110,111,110,118,97,114]⟩)||decide (s=⟨#[97,116,111,109]⟩)||decide (s=⟨#[105,110,116]⟩)) (decide (n=1)) (cond (decide (s=⟨#[97,114,103]⟩)) (decide (n=3)) false)))
abbrev sb (s:ByteArray):List UInt8:=s.data.toList
theorem a8(s:ByteArray):(sb s).length=s.size:=by simp only[sb,Array.length_toList];rfl
theorem kG{P:Program}{t:TypeId}{s:ByteArray}{i:Nat}{c:UInt8}(hu:P.underlying t=some .string)(h:(sb s)[i]?=some c):pL P t (.str s) (.int .i64 (i:Int))=some (.int .u8 (c.toNat:Int)):=by
 have hi:i<s.size:=by rw[←a8];exact(eX.1 h).1
 have:s[i]?=some c:=by
  rw[getElem?_pos s i hi]
  obtain⟨h1,h2⟩:=eX.1 h
  rw[←h2]
  try rfl
 simp only[pL,hu,j1,this]
 simp
def d5(c:UInt8):Bool:=decide (97≤c.toNat)&&decide (c.toNat≤122)
def kJ(s:ByteArray):Bool:=(sb s).all d5&&(decide ((1:Int)≤(s.size:Int))&&decide ((s.size:Int)≤6))
theorem m6{α:Type}{p:α→Bool}{l:List α}{i:Nat}{x:α}(h:l[i]?=some x)(hp:p x=false):l.all p=false:=by
 rw[List.all_eq_false]
 exact⟨x,dD h,by simp [hp]⟩
theorem t3{α:Type}{p:α→Bool}{l:List α}(h:∀(i:Nat) x,l[i]?=some x→p x=true):l.all p=true:=by
 rw[fD]
 intro x hx
 obtain⟨i,hi⟩:=rD hx
 exact h i x hi
end Go.AW
