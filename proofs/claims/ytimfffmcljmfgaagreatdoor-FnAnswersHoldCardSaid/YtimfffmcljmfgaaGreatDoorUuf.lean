/- Loops whose frame is kept, lists that are walked, lists that grow. -/
import Derived.Test.YtimfffmcljmfgaaGreatDoorUue
set_option linter.unusedSimpArgs false
set_option linter.unusedVariables false
set_option maxRecDepth 100000
namespace Go.AW
def kN(φ:AF):List Nat→List (Nat×AV)→List (Nat×AV)
 | [],l=>l
 | d::ds,l=>(d,φ d)::kN φ ds l
theorem aDQ{φ:AF}{l:List (Nat×AV)}:kN φ [] l=l:=rfl
theorem aDR{φ:AF}{d:Nat}{ds:List Nat}{l:List (Nat×AV)}:kN φ (d::ds) l=(d,φ d)::kN φ ds l:=rfl
theorem eP{P:Program}{N:Nat}{c:Code}{Q:Exit→AF→aB→Prop}{φ:AF}{st:aB}{α σ:Type}(mt:List Nat)(a8:List Nat)(l:List α)(inv:Nat→σ→Prop)(ch:Nat→σ→List (Nat×AV))(so:Nat→σ→aB)
 (hok:codeOk N c=true)
 (h0:∃s,inv 0 s∧aO φ st (kN φ a8 (ch 0 s)) (so 0 s))
 (h1:∀i x s,l[i]?=some x→i<l.length→((i:Int)<(l.length:Int))→l.drop i=x::l.drop (i+1)→inv i s→gG P N mt c (pK (fun φ' st'=>∃s',inv (i+1) s'∧aO φ' st' (kN φ a8 (ch (i+1) s')) (so (i+1) s')) Q) (vS (kN φ a8 (ch i s))) (so i s))
 (h2:∀s,¬((l.length:Int)<(l.length:Int))→inv l.length s→gG P N mt c (pK (fun _ _=>False) Q) (vS (kN φ a8 (ch l.length s))) (so l.length s)):gO P N (.loop c) Q φ st:=by
 have mT:∀(k:AF→aB→Prop) (i:Nat) (s:σ),(∀φ' st',(∃s',inv (i+1) s'∧aO φ' st' (kN φ a8 (ch (i+1) s')) (so (i+1) s'))→k φ' st') →
  gO P N c (pK (fun φ' st'=>∃s',inv (i+1) s'∧aO φ' st' (kN φ a8 (ch (i+1) s')) (so (i+1) s')) Q) (kC (kN φ a8 (ch i s))) (so i s) →
  gO P N c (pK k Q) (kC (kN φ a8 (ch i s))) (so i s):=by
  intro k i s hk hr a w R
  refine wp_mono (hr a w R) ?_
  rintro e a' w' ⟨φ',st',R',T,sm,q⟩
  refine⟨φ',st',R',T,sm,?_⟩
  cases e with
  | normal=>exact hk _ _ q
  | _=>exact q
 refine N9 (α:=Nat×σ) (fun p=>p.1≤l.length∧inv p.1 p.2) (fun p=>kC (kN φ a8 (ch p.1 p.2))) (fun p=>so p.1 p.2) (fun p=>l.length - p.1) ?_ ?_
 · obtain⟨s,hs,hl⟩:=h0
   exact⟨(0,s),⟨jD _,hs⟩,hl⟩
 · rintro⟨i,s⟩ ⟨hi,hs⟩
   simp only at hi hs ⊢
   rcases lB i l.length with hlt | hge
   · refine mT _ i s ?_ (FM mt hok (h1 i l[i] s (eE hlt) hlt (by omega) (qS hlt) hs))
     rintro φ' st' ⟨s',h1',h2'⟩
     exact⟨(i+1,s'),by simp only;omega,⟨by simp only;omega,h1'⟩,h2'⟩
   · obtain rfl:i=l.length:=by omega
     intro a w R
     refine wp_mono (FM mt hok (h2 s (by omega) hs) a w R) ?_
     rintro e a' w' ⟨φ',st',R',T,sm,q⟩
     refine⟨φ',st',R',T,sm,?_⟩
     cases e with
     | normal=>exact q.elim
     | _=>exact q
theorem iE{P:Program}{N:Nat}{c:Code}{Q:Exit→AF→aB→Prop}{φ:AF}{st:aB}{σ:Type}(mt:List Nat)(a8:List Nat)(inv:σ→Prop)(ch:σ→List (Nat×AV))(so:σ→aB)(μ:σ→Nat)
 (hok:codeOk N c=true)
 (h0:∃s,inv s∧aO φ st (kN φ a8 (ch s)) (so s))
 (h1:∀s,inv s→gG P N mt c (pK (fun φ' st'=>∃s',μ s'<μ s∧inv s'∧aO φ' st' (kN φ a8 (ch s')) (so s')) Q) (vS (kN φ a8 (ch s))) (so s)):gO P N (.loop c) Q φ st:=
 wT mt inv (fun s=>kN φ a8 (ch s)) so μ hok h0 h1
theorem aQ{b:Bool}{p q:Prop}(h1:b=true→p)(h2:b=false→q):(b=true→p)∧(b=false→q):=⟨h1,h2⟩
theorem aDW{P:Program}{t:TypeId}{s:ByteArray}:n9 P t (.str s)=match P.underlying t with | some .string=>some (.int .i64 s.size) | _=>none:=rfl
theorem aDV{P:Program}{t:TypeId}{es:List AV}:n9 P t (.slice es)=match P.underlying t with | some (.slice _)=>some (.int .i64 es.length) | _=>none:=rfl
theorem aDT{P:Program}{t:TypeId}{es:List AV}:n9 P t (.fslice es)=match P.underlying t with | some (.slice _)=>some (.int .i64 es.length) | _=>none:=rfl
theorem aDU{P:Program}{t:TypeId}{b o n w:Nat}:n9 P t (.mslice b o n w)=match P.underlying t with | some (.slice _)=>some (.int .i64 n) | _=>none:=rfl
def bD(w b:Nat):List AV→AV
 | []=>.fslice []
 | x::l=>.mslice b 0 (x::l).length w
def a7(st:aB)(b:Nat):List AV→aB
 | []=>st
 | x::l=>st.aC b (.cells ((x::l).flatMap AV.cells))
theorem jG{w b:Nat}:bD w b []=.fslice []:=rfl
theorem xF{st:aB}{b:Nat}:a7 st b []=st:=rfl
theorem o0{w b:Nat}{l:List AV}(h:l≠[]):bD w b l=.mslice b 0 l.length w:=by cases l<;>first | exact absurd rfl h | rfl
theorem jP{st:aB}{b:Nat}{l:List AV}(h:l≠[]):a7 st b l=st.aC b (.cells (l.flatMap AV.cells)):=by cases l<;>first | exact absurd rfl h | rfl
theorem oY{st:aB}{b x:Nat}{l:List AV}(h:x≠b):a7 st b l x=st x:=by cases l<;>first | rfl | exact aB.aL _ _ h
theorem CA{st:aB}{b x:Nat}{l:List AV}(h:a7 st b l x=none):st x=none∧(l≠[]→x≠b):=by
 cases l with
 | nil=>exact⟨h,fun h=>absurd rfl h⟩
 | cons y l=>
  simp only[a7,aB.aC] at h
  split at h
  · cases h
  · rename_i hn;exact⟨h,fun _=>hn⟩
theorem nL{w b:Nat}{l:List AV}:(bD w b l).cF=false:=by cases l<;>rfl
theorem mZ{w b:Nat}{l:List AV}:(bD w b l).isAgg=false:=by cases l<;>rfl
theorem m6{w b:Nat}{l:List AV}:(bD w b l).cells= [bD w b l]:=by cases l<;>rfl
theorem fJ{w b:Nat}{l:List AV}:(bD w b l).storable=true:=by cases l<;>rfl
theorem tS{P:Program}{t e:TypeId}{w b:Nat}{l:List AV}(h:P.underlying t=some (.slice e)):n9 P t (bD w b l)=some (.int .i64 (l.length:Int)):=by
 cases l<;>simp [bD,n9,h]
theorem aM.a7{st st':aB}(x:aM st st'){b:Nat}{l:List AV}(h:l≠[]→st' b=none):aM (a7 st b l) st':=by
 cases l with
 | nil=>exact x
 | cons y l=>exact x.aC (h (by simp))
theorem eW{P:Program}{t:TypeId}{ag:Bool}{w bytes:Nat}{zs:List AV}{st:aB}{b:Nat}{l xs:List AV}{x:AV}{K:AV→aB→Prop}
 (hI:eI P t=some (ag,w)) (hB:eB P t=some bytes) (hZ:eZ P t=some zs) (hz:zs.length=w) (hx:zC x=some xs) (fD:vB w xs) (hw:∀e∈l,e.width=w) (hb:l≠[]→st b=none)
 (h1:(l.length+xs.length)*bytes≤140737488355328) (h2:l.length+xs.length≤9223372036854775807)
 (hK:∀b',(l++xs≠[]→st b'=none)→K (bD w b' (l++xs)) (a7 st b' (l++xs))):j7 P t (a7 st b l) (bD w b l) x K:=by
 unfold j7
 rw[hI,hB,hZ,hx]
 refine⟨hz,fD,?_⟩
 cases l with
 | nil=>
  show _∧_∧_∧_∧_
  refine⟨by simpa using h1,by simpa using h2,by simp,?_,?_⟩
  · rintro rfl
    have:=hK b (by simp)
    simpa [bD,a7] using this
  · intro hne b' hb'
    have:=hK b' (fun _=>hb')
    rw[eR,o0 hne,jP hne] at this
    simpa [a7] using this
 | cons y l=>
  have hb:=hb (by simp)
  show w=w∧_∧_∧_
  refine⟨rfl,h1,h2,?_⟩
  have hfl:((y::l).flatMap AV.cells).length=(y::l).length*w:=pD hw
  simp only[a7,aB.aP]
  refine⟨by rw[hfl];exact c7 _,?_,?_⟩
  · have:=hK b (fun _=>hb)
    rw[o0 (by simp),jP (by simp),yV,dM] at this
    rw[dC,←hfl,eS]
    exact this
  · intro b' hb'
    have hne:b'≠b:=by rintro rfl;rw[aB.aP] at hb';cases hb'
    rw[aB.aL _ _ hne] at hb'
    have:=hK b' (fun _=>hb')
    rw[o0 (by simp),jP (by simp),yV,dM] at this
    rw[aB.vO _ _ _ hb,←hfl,eS]
    exact this
def AV.fin(b:Nat)(l:List AV)(r:AV):AV:=if l.isEmpty=true then r.soft else(r.fz b l).soft
theorem iP{w b:Nat}{l:List AV}:(bD w b l).fin b l=.slice l:=by cases l<;>simp [bD,AV.fin,AV.fz,AV.soft]
theorem yE:∀cs:List AV,gY cs=cs.map AV.soft
 | []=>rfl
 | c::cs=>by simp [gY,yE cs]
theorem KQ{b:Nat}{l:List AV}:∀cs:List AV,lG b l cs=cs.map (AV.fz b l)
 | []=>rfl
 | c::cs=>by simp [lG,KQ cs]
theorem fZ{b:Nat}{l:List AV}{cs:List AV}:(AV.agg cs).fin b l=.agg (cs.map (AV.fin b l)):=by
 unfold AV.fin
 split
 · simp [AV.soft,yE]
 · simp [AV.fz,AV.soft,yE,KQ]
theorem jQ{b:Nat}{l:List AV}{cs:List AV}:(AV.tup cs).fin b l=.tup (cs.map (AV.fin b l)):=by
 unfold AV.fin
 split
 · simp [AV.soft,yE]
 · simp [AV.fz,AV.soft,yE,KQ]
theorem eG{b:Nat}{l:List AV}{k:IntKind}{n:Int}:(AV.int k n).fin b l=.int k n:=by unfold AV.fin;split<;>rfl
theorem pC{b:Nat}{l:List AV}{n:Bool}:(AV.bool n).fin b l=.bool n:=by unfold AV.fin;split<;>rfl
theorem iY{b:Nat}{l:List AV}{s:ByteArray}:(AV.str s).fin b l=.str s:=by unfold AV.fin;split<;>rfl
theorem iN{b:Nat}{l:List AV}{s:List AV}:(AV.slice s).fin b l=.slice s:=by unfold AV.fin;split<;>rfl
theorem oD{b:Nat}{l:List AV}{s:List AV}:(AV.fslice s).fin b l=.slice s:=by unfold AV.fin;split<;>rfl
theorem zX{b:Nat}{l:List AV}{e:AV}:(AV.pptr e).fin b l=.pptr e:=by unfold AV.fin;split<;>rfl
theorem GJ{b c o:Nat}{l:List AV}:(AV.ptr c o).fin b l=.ptr c o:=by unfold AV.fin;split<;>rfl
theorem aI0{b:Nat}{l:List AV}{g:FuncId}{cs:List AV}:(AV.func g cs).fin b l=.func g cs:=by unfold AV.fin;split<;>rfl
theorem aD.fin{P:Program}{g:FuncId}{args:List AV}{st:aB}{Q:AV→aB→Prop}
 (x:aD P g args st (fun r st'=>∃b l s0,st'=a7 s0 b l∧(l≠[]→s0 b=none)∧(∀e∈l,e.cF=false)∧gZ l∧Q (r.fin b l) s0)):aD P g args st Q:=
 x.mT fun r st' ⟨b,l,s0,h1,h0,h2,h3,h4⟩=>by
  cases l with
  | nil=>
   exact⟨r.fin b [],st',(aM.refl _).tG,fun h v S y=>y.soft,by have e:st'=s0:=h1;rw[e];exact h4⟩
  | cons e l=>
   have hb:=h0 (by simp)
   subst h1
   have h1:a7 s0 b (e::l) b=some (.cells ((e::l).flatMap AV.cells)):=by simp only[a7,aB.aP]
   have e1:(a7 s0 b (e::l)).erase b=s0:=by simp only[a7];exact aB.vO _ _ _ hb
   refine⟨r.fin b (e::l),s0,?_,fun h v S y=>?_,h4⟩
   · have:=(jI (a7 s0 b (e::l)) b).tG
     rwa [e1] at this
   · have:=y.fz S h1 h2 h3
     rw[e1] at this
     exact this.soft
mutual
def AV.iT:AV→Bool
 | .slice _=>false
 | .fslice es=>es.isEmpty
 | .pptr _=>false
 | .agg cs=>lI cs
 | .tup vs=>lI vs
 | .func _ cs=>lI cs
 | _=>true
def lI:List AV→Bool
 | []=>true
 | a::as=>a.iT&&lI as
end
def AO.iT:AO→Prop
 | .cells cs=>lI cs=true
 | .map f=>∀n a,f n=some a→a.iT=true
 | .tab _=>True
section
variable {h:bK} {st st':aB}
mutual
theorem VC.anyS:∀(a:AV) (cs:List Value),a.iT=true→VC h st a cs→VC h st' a cs
 | .junk,_,_,x=>x
 | .undef,_,_,x=>x
 | .int _ _,_,_,x=>x
 | .bool _,_,_,x=>x
 | .str _,_,_,x=>x
 | .agg as,cs,s,x=>by simp only[VC] at x ⊢;exact aY.anyS as cs (by simpa [AV.iT] using s) x
 | .tup as,cs,s,x=>by
  simp only[VC] at x ⊢
  obtain⟨vs,e,r⟩:=x
  exact⟨vs,e,dU.anyS as vs (by simpa [AV.iT] using s) r⟩
 | .slice es,_,s,_=>by simp [AV.iT] at s
 | .fslice es,cs,s,x=>by
  have he:es= []:=by simpa [AV.iT] using s
  subst he
  unfold VC at x ⊢
  rcases x with x | ⟨b,off,e,_⟩
  · exact .inl x
  · exact .inl ⟨⟨_,e⟩,rfl⟩
 | .mslice b off len n,_,_,x=>x
 | .nilptr,_,_,x=>x
 | .ptr _ _,_,_,x=>x
 | .pptr e,_,s,_=>by simp [AV.iT] at s
 | .nilmap,_,_,x=>x
 | .map _,_,_,x=>x
 | .func _ as,cs,s,x=>by
  simp only[VC] at x ⊢
  obtain⟨vs,e,r⟩:=x
  exact⟨vs,e,dU.anyS as vs (by simpa [AV.iT] using s) r⟩
 | .raw _,_,_,x=>x
 | .eslice,_,_,x=>x
theorem aY.anyS:∀(as:List AV) (cs:List Value),lI as=true→aY h st as cs→aY h st' as cs
 | [],_,_,x=>x
 | a::as,cs,s,x=>by
  simp only[aY] at x ⊢
  simp only[lI,cA] at s
  obtain⟨c,r,e,x1,x2⟩:=x
  exact⟨c,r,e,VC.anyS a [c] s.1 x1,aY.anyS as r s.2 x2⟩
theorem dU.anyS:∀(as:List AV) (cs:List Value),lI as=true→dU h st as cs→dU h st' as cs
 | [],_,_,x=>x
 | a::as,cs,s,x=>by
  simp only[dU] at x ⊢
  simp only[lI,cA] at s
  obtain⟨v,r,e,x1,x2⟩:=x
  exact⟨v,r,e,⟨x1.1,VC.anyS a _ s.1 x1.2⟩,dU.anyS as r s.2 x2⟩
end
theorem aR.anyS{a:AV}{v:Value}(s:a.iT=true)(x:aR h st a v):aR h st' a v:=by
 cases a<;>first | trivial | exact⟨x.1,VC.anyS _ _ s x.2⟩
theorem kT.anyS{b:Nat}:∀ {o:AO},o.iT→kT h st b o→kT h st' b o
 | .cells as,s,x=>by
  obtain⟨c,t,e,l,vs,x1,x2⟩:=x
  exact⟨c,t,e,l,vs,x1,aY.anyS as vs s x2⟩
 | .map f,s,x=>by
  obtain⟨es,cl,e,x1,x2,x3⟩:=x
  refine⟨es,cl,e,x1,x2,fun n=>?_⟩
  have:=x3 n
  split
  · rename_i a ha
    rw[ha] at this
    obtain⟨e,he,hk,hv⟩:=this
    exact⟨e,he,hk,hv.anyS (s n a ha)⟩
  · rename_i ha
    rw[ha] at this
    exact this
 | .tab cs,_,x=>x
end
def aB.frame(st s0 s1:aB):aB:=fun b=>match s0 b,st b with
 | none,some o=>some o
 | _,_=>s1 b
theorem aD.frame{P:Program}{g:FuncId}{args args':List AV}{st s0:aB}{Q:AV→aB→Prop}(D:aM st s0)
 (x:aD P g args s0 (fun r s1=>(∀b,s0 b=none→s1 b≠none→st b=none)→r.iT=true∧(∀b o,s1 b=some o→o.iT)∧Q r (st.frame s0 s1)))
 (hv:∀h vs,cY h st→dA h st args' vs→dA h s0 args vs):aD P g args' st Q:=by
 refine⟨x.1,fun w vs S V=>(x.2 w vs (D.HT S) (hv _ _ S V)).mono ?_⟩
 rintro _ w' ⟨v,r,s1,rfl,hr,S1,T,sm,q⟩
 have hfr:∀b,s0 b=none→s1 b≠none→st b=none:=fun b h0 h1=>by
  cases hb:st b with
  | none=>rfl
  | some o=>exact absurd (T.a8 b (S b o hb).1 h0).2 h1
 obtain⟨hs,ho,hq⟩:=q hfr
 have T':cB w.heap st w'.heap (st.frame s0 s1):=by
  refine⟨T.size,fun b hb e=>?_,T.shape⟩
  obtain⟨k1,k2⟩:=T.a8 b hb ((D b).1 e)
  exact⟨k1,by simp only[aB.frame,e,k2];split<;>first | rfl | (rename_i h;cases h)⟩
 refine⟨v,r,st.frame s0 s1,rfl,hr.anyS hs,fun b o hb=>?_,T',sm,hq⟩
 simp only[aB.frame] at hb
 split at hb
 · rename_i o' h0 h1
   cases hb
   obtain⟨l,y⟩:=S b _ h1
   exact⟨tP l T.size,kT.mono T' (T.a8 b l h0).1 y⟩
 · obtain⟨l,y⟩:=S1 b o hb
   exact⟨l,y.anyS (ho b o hb)⟩
def eH:aB:=fun _=>none
theorem aM.eH(st:aB):aM st eH:=fun _=>⟨fun _=>rfl,fun _ h=>by cases h⟩
theorem aWO(st:aB):st.frame eH eH=st:=by
 funext b;simp only[aB.frame,eH];split
 · rename_i h;exact h.symm
 · rename_i h;cases hb:st b with
   | none=>rfl
   | some o=>exact absurd hb (h o rfl)
theorem aD.aI8{P:Program}{g:FuncId}{args args':List AV}{st:aB}{r:AV}(hs:r.iT=true)
 (x:aD P g args eH (fun r' s1=>r'=r∧s1=eH))
 (hv:∀h vs,cY h st→dA h st args' vs→dA h eH args vs):aD P g args' st (fun r' st'=>r'=r∧st'=st):=
 aD.frame (aM.eH st) (x.mono fun r' s1 ⟨e1,e2⟩ _=>⟨by rw[e1];exact hs,(by rw[e2];intro b o h;cases h),e1,by rw[e2,aWO]⟩) hv
mutual
def cK(st:aB):AV→AV→List Nat→Prop
 | .int k n,o,bs=>o=.int k n∧bs= []
 | .bool b,o,bs=>o=.bool b∧bs= []
 | .str s,o,bs=>o=.str s∧bs= []
 | .agg cs,o,bs=>∃os,o=.agg os∧cL st cs os bs
 | .slice es,o,bs=>(es= []∧o=.fslice []∧bs= [])∨∃b bs' os w,o=.mslice b 0 es.length w∧bs=b::bs'∧st b=some (.cells (os.flatMap AV.cells))∧cL st es os bs'∧(∀e∈es,e.width=w)
 | _,_,_=>False
def cL(st:aB):List AV→List AV→List Nat→Prop
 | [],os,bs=>os= []∧bs= []
 | a::as,os,bs=>∃o os' b1 b2,os=o::os'∧bs=b1++b2∧cK st a o b1∧cL st as os' b2
end
theorem cL.length{st:aB}:∀ {as os:List AV} {bs:List Nat},cL st as os bs→os.length=as.length
 | [],os,bs,x=>by simp only[cL] at x;simp [x.1]
 | a::as,os,bs,x=>by
  simp only[cL] at x
  obtain⟨o,os',b1,b2,rfl,rfl,_,x2⟩:=x
  simp [cL.length x2]
theorem cK.shape{st:aB}:∀ {a o:AV} {bs:List Nat},cK st a o bs→o.isAgg=a.isAgg∧o.width=a.width∧o.cF=false∧(∀cs,a=.agg cs→∃os,o=.agg os)
 | .int k n,o,bs,x=>by simp only[cK] at x;rw[x.1];exact⟨rfl,rfl,rfl,by simp⟩
 | .bool b,o,bs,x=>by simp only[cK] at x;rw[x.1];exact⟨rfl,rfl,rfl,by simp⟩
 | .str s,o,bs,x=>by simp only[cK] at x;rw[x.1];exact⟨rfl,rfl,rfl,by simp⟩
 | .agg cs,o,bs,x=>by
  simp only[cK] at x
  obtain⟨os,rfl,x⟩:=x
  exact⟨rfl,x.length,rfl,fun _ _=>⟨os,rfl⟩⟩
 | .slice es,o,bs,x=>by
  simp only[cK] at x
  rcases x with ⟨_,rfl,_⟩ | ⟨b,bs',os,w,rfl,_⟩<;>exact⟨rfl,rfl,rfl,by simp⟩
 | .junk,_,_,x=>x.elim
 | .undef,_,_,x=>x.elim
 | .tup _,_,_,x=>x.elim
 | .fslice _,_,_,x=>x.elim
 | .mslice _ _ _ _,_,_,x=>x.elim
 | .nilptr,_,_,x=>x.elim
 | .ptr _ _,_,_,x=>x.elim
 | .pptr _,_,_,x=>x.elim
 | .nilmap,_,_,x=>x.elim
 | .map _,_,_,x=>x.elim
 | .func _ _,_,_,x=>x.elim
 | .raw _,_,_,x=>x.elim
 | .eslice,_,_,x=>x.elim
section
variable {st st':aB}
mutual
theorem cK.a8:∀(a o:AV) (bs:List Nat),(∀b∈bs,st' b=st b)→cK st a o bs→cK st' a o bs
 | .int k n,o,bs,_,x=>x
 | .bool b,o,bs,_,x=>x
 | .str s,o,bs,_,x=>x
 | .agg cs,o,bs,h,x=>by
  simp only[cK] at x ⊢
  obtain⟨os,e,x⟩:=x
  exact⟨os,e,cL.a8 cs os bs h x⟩
 | .slice es,o,bs,h,x=>by
  simp only[cK] at x ⊢
  rcases x with x | ⟨b,bs',os,w,e1,rfl,e2,x,e3⟩
  · exact .inl x
  · exact .inr ⟨b,bs',os,w,e1,rfl,(h b (by simp)).trans e2,cL.a8 es os bs' (fun q hq=>h q (by simp [hq])) x,e3⟩
 | .junk,_,_,_,x=>x
 | .undef,_,_,_,x=>x
 | .tup _,_,_,_,x=>x
 | .fslice _,_,_,_,x=>x
 | .mslice _ _ _ _,_,_,_,x=>x
 | .nilptr,_,_,_,x=>x
 | .ptr _ _,_,_,_,x=>x
 | .pptr _,_,_,_,x=>x
 | .nilmap,_,_,_,x=>x
 | .map _,_,_,_,x=>x
 | .func _ _,_,_,_,x=>x
 | .raw _,_,_,_,x=>x
 | .eslice,_,_,_,x=>x
theorem cL.a8:∀(as os:List AV) (bs:List Nat),(∀b∈bs,st' b=st b)→cL st as os bs→cL st' as os bs
 | [],os,bs,_,x=>x
 | a::as,os,bs,h,x=>by
  simp only[cL] at x ⊢
  obtain⟨o,os',b1,b2,e1,rfl,x1,x2⟩:=x
  exact⟨o,os',b1,b2,e1,rfl,cK.a8 a o b1 (fun q hq=>h q (by simp [hq])) x1,cL.a8 as os' b2 (fun q hq=>h q (by simp [hq])) x2⟩
end
mutual
theorem cK.iT:∀(a o:AV) (bs:List Nat),cK st a o bs→o.iT=true∧o.cells.all AV.storable=o.cells.all AV.storable∧∀b∈bs,∃cs,st b=some (.cells cs)∧lI cs=true
 | .int k n,o,bs,x=>by simp only[cK] at x;rw[x.1,x.2];exact⟨rfl,rfl,by simp⟩
 | .bool b,o,bs,x=>by simp only[cK] at x;rw[x.1,x.2];exact⟨rfl,rfl,by simp⟩
 | .str s,o,bs,x=>by simp only[cK] at x;rw[x.1,x.2];exact⟨rfl,rfl,by simp⟩
 | .agg cs,o,bs,x=>by
  simp only[cK] at x
  obtain⟨os,rfl,x⟩:=x
  obtain⟨h1,h2⟩:=cL.iT cs os bs x
  exact⟨by simpa [AV.iT] using h1.1,rfl,h2⟩
 | .slice es,o,bs,x=>by
  simp only[cK] at x
  rcases x with ⟨_,rfl,rfl⟩ | ⟨b,bs',os,w,rfl,rfl,e2,x,e3⟩
  · exact⟨rfl,rfl,by simp⟩
  · obtain⟨h1,h2⟩:=cL.iT es os bs' x
    refine⟨rfl,rfl,fun q hq=>?_⟩
    rcases cX.1 hq with rfl | hq
    · exact⟨_,e2,h1.2⟩
    · exact h2 q hq
 | .junk,_,_,x=>x.elim
 | .undef,_,_,x=>x.elim
 | .tup _,_,_,x=>x.elim
 | .fslice _,_,_,x=>x.elim
 | .mslice _ _ _ _,_,_,x=>x.elim
 | .nilptr,_,_,x=>x.elim
 | .ptr _ _,_,_,x=>x.elim
 | .pptr _,_,_,x=>x.elim
 | .nilmap,_,_,x=>x.elim
 | .map _,_,_,x=>x.elim
 | .func _ _,_,_,x=>x.elim
 | .raw _,_,_,x=>x.elim
 | .eslice,_,_,x=>x.elim
theorem cL.iT:∀(as os:List AV) (bs:List Nat),cL st as os bs→(lI os=true∧lI (os.flatMap AV.cells)=true)∧∀b∈bs,∃cs,st b=some (.cells cs)∧lI cs=true
 | [],os,bs,x=>by simp only[cL] at x;rw[x.1,x.2];exact⟨⟨rfl,rfl⟩,by simp⟩
 | a::as,os,bs,x=>by
  simp only[cL] at x
  obtain⟨o,os',b1,b2,rfl,rfl,x1,x2⟩:=x
  obtain⟨h1,_,h2⟩:=cK.iT a o b1 x1
  obtain⟨⟨h3,h4⟩,h5⟩:=cL.iT as os' b2 x2
  have KX:∀(p q:List AV),lI p=true→lI q=true→lI (p++q)=true:=by
   intro p q hp hq
   induction p with
   | nil=>exact hq
   | cons c p ih=>simp only[lI,cA,fL] at hp ⊢;exact⟨hp.1,ih hp.2⟩
  have hc:lI o.cells=true:=by cases o<;>first | (simpa [AV.cells,lI] using h1) | (simpa [AV.cells,AV.iT] using h1)
  refine⟨⟨by simp [lI,h1,h3],by rw[rW];exact KX _ _ hc h4⟩,fun q hq=>?_⟩
  rcases fF.1 hq with hq | hq
  · exact h2 q hq
  · exact h5 q hq
end
end
section
variable {h:bK} {st s0:aB}
mutual
theorem cK.view(S:cY h st)(D:aM st s0):∀(a o:AV) (bs:List Nat) (cs:List Value),cK st a o bs→(∀b∈bs,s0 b=none)→VC h st o cs→VC h s0 a cs
 | .int k n,o,bs,cs,x,_,y=>by simp only[cK] at x;rw[x.1] at y;exact y
 | .bool b,o,bs,cs,x,_,y=>by simp only[cK] at x;rw[x.1] at y;exact y
 | .str s,o,bs,cs,x,_,y=>by simp only[cK] at x;rw[x.1] at y;exact y
 | .agg as,o,bs,cs,x,hb,y=>by
  simp only[cK] at x
  obtain⟨os,rfl,x⟩:=x
  simp only[VC] at y ⊢
  exact cL.aOV S D as os bs cs x hb y
 | .slice es,o,bs,cs,x,hb,y=>by
  simp only[cK] at x
  rcases x with ⟨rfl,rfl,rfl⟩ | ⟨b,bs',os,w,rfl,rfl,e2,x,e3⟩
  · unfold VC at y ⊢
    rcases y with y | ⟨b,off,e,_⟩
    · exact .inl y
    · exact .inl ⟨⟨_,e⟩,rfl⟩
  · simp only[VC] at y
    obtain⟨cap,e,l1,l2,_⟩:=y
    obtain⟨hlt,c,t,q1,q2,vs,q3,q4⟩:=S b _ e2
    have hsh:=cL.aMH x
    unfold VC
    refine .inr ⟨b,0,cap,e,l1,l2,hb b (by simp),hlt,⟨w,e3⟩,cL.aOW S D b es os bs' 0 x (fun q hq=>hb q (by simp [hq])) (I9 (fun q hq=>hsh q hq) q3 q4)⟩
 | .junk,_,_,_,x,_,_=>x.elim
 | .undef,_,_,_,x,_,_=>x.elim
 | .tup _,_,_,_,x,_,_=>x.elim
 | .fslice _,_,_,_,x,_,_=>x.elim
 | .mslice _ _ _ _,_,_,_,x,_,_=>x.elim
 | .nilptr,_,_,_,x,_,_=>x.elim
 | .ptr _ _,_,_,_,x,_,_=>x.elim
 | .pptr _,_,_,_,x,_,_=>x.elim
 | .nilmap,_,_,_,x,_,_=>x.elim
 | .map _,_,_,_,x,_,_=>x.elim
 | .func _ _,_,_,_,x,_,_=>x.elim
 | .raw _,_,_,_,x,_,_=>x.elim
 | .eslice,_,_,_,x,_,_=>x.elim
theorem cL.aOV(S:cY h st)(D:aM st s0):∀(as os:List AV) (bs:List Nat) (cs:List Value),cL st as os bs→(∀b∈bs,s0 b=none)→aY h st os cs→aY h s0 as cs
 | [],os,bs,cs,x,_,y=>by simp only[cL] at x;rw[x.1] at y;exact y
 | a::as,os,bs,cs,x,hb,y=>by
  simp only[cL] at x
  obtain⟨o,os',b1,b2,rfl,rfl,x1,x2⟩:=x
  simp only[aY] at y ⊢
  obtain⟨c,r,e,y1,y2⟩:=y
  exact⟨c,r,e,cK.view S D a o b1 [c] x1 (fun q hq=>hb q (by simp [hq])) y1,cL.aOV S D as os' b2 r x2 (fun q hq=>hb q (by simp [hq])) y2⟩
theorem cL.aOW(S:cY h st)(D:aM st s0)(b:Nat):∀(as os:List AV) (bs:List Nat) (off:Nat),cL st as os bs→(∀b∈bs,s0 b=none)→c9 h st b off os→c9 h s0 b off as
 | [],os,bs,off,x,_,y=>by simp only[c9]
 | a::as,os,bs,off,x,hb,y=>by
  simp only[cL] at x
  obtain⟨o,os',b1,b2,rfl,rfl,x1,x2⟩:=x
  simp only[c9] at y ⊢
  obtain⟨⟨cs,y1,y2,y3⟩,y4⟩:=y
  have hw:=(cK.shape x1).2.1
  rw[hw] at y2 y4
  exact⟨⟨cs,y1,y2,cK.view S D a o b1 cs x1 (fun q hq=>hb q (by simp [hq])) y3⟩,cL.aOW S D b as os' b2 _ x2 (fun q hq=>hb q (by simp [hq])) y4⟩
theorem cL.aMH:∀ {as os:List AV} {bs:List Nat},cL st as os bs→∀o∈os,o.cF=false
 | [],os,bs,x=>by simp only[cL] at x;rw[x.1];simp
 | a::as,os,bs,x=>by
  simp only[cL] at x
  obtain⟨o,os',b1,b2,rfl,rfl,x1,x2⟩:=x
  intro q hq
  rcases cX.1 hq with rfl | hq
  · exact(cK.shape x1).2.2.1
  · exact cL.aMH x2 q hq
end
theorem cK.a43(S:cY h st)(D:aM st s0){a o:AV}{bs:List Nat}{v:Value}(x:cK st a o bs)(hb:∀b∈bs,s0 b=none)(y:aR h st o v):aR h s0 a v:=by
 have hs:=x.shape
 have key:o.isAgg=mB v∧VC h st o v.cells.toList:=by
  cases o<;>first | exact y | simp [AV.cF] at hs
 have z:a.isAgg=mB v∧VC h s0 a v.cells.toList:=⟨hs.1.symm.trans key.1,cK.view S D _ _ _ _ x hb key.2⟩
 cases ha:a<;>rw[ha] at z<;>first | trivial | exact z
end
def Seen(st s0:aB):List AV→List AV→Prop
 | [],as=>as= []
 | o::os,as=>∃a as',as=a::as'∧(o=a∨∃bs,cK st a o bs∧∀b∈bs,s0 b=none)∧Seen st s0 os as'
theorem Seen.rel{st s0:aB}(D:aM st s0):∀ {os as:List AV},Seen st s0 os as→∀h vs,cY h st→dA h st os vs→dA h s0 as vs
 | [],as,x,h,vs,_,y=>by simp only[Seen] at x;rw[x];exact y
 | o::os,as,x,h,vs,S,y=>by
  simp only[Seen] at x
  obtain⟨a,as',rfl,x1,x2⟩:=x
  simp only[dA] at y ⊢
  obtain⟨v,r,rfl,y1,y2⟩:=y
  refine⟨v,r,rfl,?_,Seen.rel D x2 h r S y2⟩
  rcases x1 with rfl | ⟨bs,x1,hb⟩
  · exact y1.mono (D.step h)
  · exact x1.a43 S D hb y1
def Made(st:aB)(a r:AV)(st':aB):Prop:=∃bs:List Nat,bs.Nodup∧(∀b∈bs,st b=none)∧cK st' a r bs∧∀b,b∉bs→st' b=st b
theorem cL.aI3{st:aB}{w:Nat}:∀ {as os:List AV} {bs:List Nat},cL st as os bs→(∀e∈as,e.width=w)→(os.flatMap AV.cells).length=as.length*w
 | [],os,bs,x,_=>by simp only[cL] at x;rw[x.1];simp
 | a::as,os,bs,x,h=>by
  simp only[cL] at x
  obtain⟨o,os',b1,b2,rfl,rfl,x1,x2⟩:=x
  have:=cL.aI3 x2 (fun e he=>h e (by simp [he]))
  rw[rW,dM,this,vG,(cK.shape x1).2.1,h a (by simp),aS,qV]
  omega
theorem aMD{A C B x:List AV}{n j:Nat}(hA:A.length=n)(hj:j+x.length≤C.length):aK (A++C++B) (n+j) x=A++aK C j x++B:=by
 subst hA
 unfold aK
 have h1:(A++C++B).take (A.length+j)=A++C.take j:=by
  rw[nJ,List.take_length_add_append,BT (by omega)]
 have h2:(A++C++B).drop (A.length+j+x.length)=C.drop (j+x.length)++B:=by
  rw[nJ,yY,List.drop_length_add_append,List.drop_append_of_le_length (by omega)]
 rw[h1,h2]
 simp
theorem Q9{A B:List AV}{n:Nat}(hA:A.length=n):(∀(C:List AV) (v:AV) (j:Nat),j<C.length→aK (A++C++B) (n+j) [v]=A++C.set j v++B)∧(∀(C:List AV) (c:Nat),c<C.length→n+c+1≤(A++C++B).length) ∧
 (∀(C:List AV) (c:Nat),c<C.length→(A++C++B)[n+c]?=C[c]?)∧(∀(C:List AV) (v:AV),0<C.length→aK (A++C++B) n [v]=A++C.set 0 v++B)∧(∀(C:List AV),0<C.length→n+1≤(A++C++B).length) ∧
 ∀(C:List AV),0<C.length→(A++C++B)[n]?=C[0]?:=by
 have k1:(∀(C:List AV) (v:AV) (j:Nat),j<C.length→aK (A++C++B) (n+j) [v]=A++C.set j v++B)∧(∀(C:List AV) (c:Nat),c<C.length→n+c+1≤(A++C++B).length)∧∀(C:List AV) (c:Nat),c<C.length→(A++C++B)[n+c]?=C[c]?:=?_
 · exact⟨k1.1,k1.2.1,k1.2.2,fun C v h=>k1.1 C v 0 h,fun C h=>k1.2.1 C 0 h,fun C h=>k1.2.2 C 0 h⟩
 refine⟨fun C v j h=>?_,fun C c h=>?_,fun C c h=>?_⟩
 · rw[aMD hA (by simp;omega),List.set_eq_take_append_cons_drop,aH h]
   unfold aK
   simp
 · simp only[dM];omega
 · subst hA
   rw[nJ,T7 (by omega),Nat.add_sub_cancel_left,T6 h]
theorem a07{A B C x:List AV}{n w:Nat}(hA:A.length=n)(hC:C.length=w)(hx:x.length=w):aK (A++C++B) n x=A++x++B∧n+w≤(A++C++B).length:=by
 have h:=aMD (A:=A) (C:=C) (B:=B) (x:=x) (n:=n) (j:=0) hA (by omega)
 rw[BU] at h
 refine⟨?_,by simp only[dM];omega⟩
 rw[h]
 unfold aK
 simp [hC,hx]
theorem uC{P:Program}{t:TypeId}{ag:Bool}{b len w i:Nat}(hI:eI P t=some (ag,w))(hi:i<len):dF P t (.mslice b 0 len w) (.int .i64 (i:Int))=some (.ptr b (i*w)):=by
 simp only[dF,hI,kR,hH]
 rw[aH ⟨by omega,by omega,trivial⟩]
theorem cK.U7{st:aB}:∀ {cs os:List AV} {bs:List Nat},cL st cs os bs→(∀c∈cs,c.isAgg=false)→os.all AV.storable=true∧os.flatMap AV.cells=os
 | [],os,bs,x,_=>by simp only[cL] at x;rw[x.1];simp
 | a::as,os,bs,x,h=>by
  simp only[cL] at x
  obtain⟨o,os',b1,b2,rfl,rfl,x1,x2⟩:=x
  have ih:=cK.U7 x2 (fun c hc=>h c (by simp [hc]))
  have ha:=h a (by simp)
  have ho:o.storable=true∧o.cells= [o]:=by
   cases a<;>simp only[cK] at x1<;>try exact x1.elim
   case int=>rw[x1.1];exact⟨rfl,rfl⟩
   case bool=>rw[x1.1];exact⟨rfl,rfl⟩
   case str=>rw[x1.1];exact⟨rfl,rfl⟩
   case agg=>simp [AV.isAgg] at ha
   case slice=>rcases x1 with ⟨_,rfl,_⟩ | ⟨b,bs',os,w,rfl,_⟩<;>exact⟨rfl,rfl⟩
  rw[kJ,ho.1,ih.1,rW,ih.2,ho.2]
  exact⟨rfl,rfl⟩
theorem cL.snoc{st st':aB}{a o:AV}{b2:List Nat}:∀ {as os:List AV} {b1:List Nat},cL st as os b1→(∀b∈b1,st' b=st b)→cK st' a o b2→cL st' (as++ [a]) (os++ [o]) (b1++b2)
 | [],os,b1,x,_,y=>by
  simp only[cL] at x
  rw[x.1,x.2]
  simp only[eR,cL]
  exact⟨o,[],b2,[],rfl,by simp,y,rfl,rfl⟩
 | c::as,os,b1,x,h,y=>by
  simp only[cL] at x
  obtain⟨o1,os',b3,b4,rfl,rfl,x1,x2⟩:=x
  simp only[fL,cL]
  exact⟨o1,os'++ [o],b3,b4++b2,rfl,by simp,cK.a8 _ _ _ (fun q hq=>h q (by simp [hq])) x1,cL.snoc x2 (fun q hq=>h q (by simp [hq])) y⟩
def aO6(st:aB)(ds:List Nat)(a r:AV)(st':aB):Prop:=∃bs:List Nat,bs.Nodup∧(∀b∈bs,st b=none)∧(∀d∈ds,st d=none∧d∉bs)∧cK st' a r bs∧∀b,b∉bs→b∉ds→st' b=st b
theorem aD.a0C{P:Program}{g:FuncId}{args:List AV}{st:aB}{a:AV}(x:aD P g args st (fun r st'=>∃ds,aO6 st ds a r st')):aD P g args st (Made st a):=
 x.mT fun r st' ⟨ds,bs,h1,h2,hd,h3,h4⟩=>by
  refine⟨r,fun q=>if q∈ds then none else st' q,?_,?_,bs,h1,h2,?_,fun b hb=>?_⟩
  · have D:aM st' (fun q=>if q∈ds then none else st' q):=fun q=>by
     by_cases hq:q∈ds
     · simp only[hq,gA];exact⟨fun _=>trivial,fun o h=>by cases h⟩
     · simp only[hq,dY];exact⟨id,fun o h=>h⟩
    exact D.tG
  · have D:aM st' (fun q=>if q∈ds then none else st' q):=fun q=>by
     by_cases hq:q∈ds
     · simp only[hq,gA];exact⟨fun _=>trivial,fun o h=>by cases h⟩
     · simp only[hq,dY];exact⟨id,fun o h=>h⟩
    exact D.mT r
  · exact cK.a8 _ _ _ (fun q hq=>aE fun h=>(hd q h).2 hq) h3
  · by_cases hq:b∈ds
    · simp only[hq,gA];exact(hd b hq).1.symm
    · simp only[hq,dY];exact h4 b hb hq
def u9(b:Nat):List AV→List Nat
 | []=>[]
 | _::_=>[b]
theorem a03{s:aB}{b w:Nat}{es os:List AV}{bs:List Nat}(x:cL (a7 s b os) es os bs)(hw:∀e∈es,e.width=w):cK (a7 s b os) (.slice es) (bD w b os) (u9 b os++bs):=by
 have hl:=x.length
 cases os with
 | nil=>
  have:es= []:=pT (by simpa using hl.symm)
  subst this
  simp only[cL] at x
  simp only[cK,bD,u9,x.2]
  exact .inl ⟨trivial,trivial,rfl⟩
 | cons o os=>
  simp only[cK,bD,u9]
  refine .inr ⟨b,bs,o::os,w,by rw[hl],rfl,?_,x,hw⟩
  simp only[a7,aB.aP]
def AV.flat:AV→Bool
 | .int _ _ | .bool _ | .str _=>true
 | _=>false
theorem cL.flat{s:aB}:∀ {es:List AV},es.all AV.flat=true→cL s es es []
 | [],_=>⟨rfl,rfl⟩
 | e::es,h=>by
  simp only[kJ,cA] at h
  simp only[cL]
  refine⟨e,es,[],[],rfl,rfl,?_,cL.flat h.2⟩
  cases e<;>simp [AV.flat] at h<;>simp [cK]
theorem Seen.nil{st s0:aB}:Seen st s0 [] []:=rfl
theorem Seen.same{st s0:aB}{x:AV}{os as:List AV}(h:Seen st s0 os as):Seen st s0 (x::os) (x::as):=⟨x,as,rfl,.inl rfl,h⟩
theorem Seen.own{st:aB}{a o:AV}{bs:List Nat}{os as:List AV}(hO:cK st a o bs)(h:Seen st eH os as):Seen st eH (o::os) (a::as):=⟨a,as,rfl,.inr ⟨bs,hO,fun _ _=>rfl⟩,h⟩
theorem aD.see{P:Program}{g:FuncId}{args args':List AV}{st:aB}{r:AV}(x:∀s,aD P g args s (fun r' s'=>r'=r∧s'=s))(hv:Seen st eH args' args)(hs:r.iT=true):aD P g args' st (fun r' s'=>r'=r∧s'=st):=
 aD.aI8 hs (x eH) (Seen.rel (aM.eH st) hv)
theorem aD.pZ{P:Program}{g:FuncId}{args:List AV}{st:aB}{r:AV}(x:aD P g args st (fun r' st'=>r'=r∧aM st' st)):aD P g args st (fun r' st'=>r'=r∧st'=st):=
 (x.mono fun _ _ h=>⟨h.2,h.1⟩).drop
theorem aPO{P:Program}{t:TypeId}{st:aB}{s x:AV}{K K':AV→aB→Prop}(h:∀r s,K r s→K' r s)(e:j7 P t st s x K):j7 P t st s x K':=by
 unfold j7 at *
 split at e
 case h_2=>exact e.elim
 refine⟨e.1,e.2.1,?_⟩
 have e:=e.2.2
 split at e
 · exact⟨e.1,e.2.1,e.2.2.1,fun q=>h _ _ (e.2.2.2.1 q),fun q b hb=>h _ _ (e.2.2.2.2 q b hb)⟩
 · refine⟨e.1,e.2.1,e.2.2.1,?_⟩
   have e:=e.2.2.2
   split at e
   · exact⟨e.1,h _ _ e.2.1,fun b hb=>h _ _ (e.2.2 b hb)⟩
   · exact e.elim
 · exact e.elim
theorem aPN{P:Program}{t t':TypeId}{st:aB}{s x:AV}{K K':AV→aB→Prop}(h:∀r s,K r s→K' r s)(e:r7 P t t' st s x K):r7 P t t' st s x K':=by
 unfold r7 at *
 split at e
 case h_2=>exact e.elim
 refine⟨e.1,e.2.1,e.2.2.1,e.2.2.2.1,?_⟩
 have e:=e.2.2.2.2
 split at e
 · exact⟨e.1,e.2.1,e.2.2.1,fun q=>h _ _ (e.2.2.2.1 q),fun q b hb=>h _ _ (e.2.2.2.2 q b hb)⟩
 · refine⟨e.1,e.2.1,e.2.2.1,?_⟩
   have e:=e.2.2.2
   split at e
   · exact⟨e.1,h _ _ e.2.1,fun b hb=>h _ _ (e.2.2 b hb)⟩
   · exact e.elim
 · exact e.elim
theorem B9{P:Program}{mt:List Nat}{φ:AF}{st:aB}{o:Oper}{K K':AV→aB→Prop}(h:∀r s,K r s→K' r s)(e:fH P mt φ st o K):fH P mt φ st o K':=by
 unfold fH at *
 split at e
 · split at e
   · exact e.mono h
   · exact e.elim
 · split at e
   · split at e
     · rename_i ht;rw[aH ht];exact aPO h e
     · rename_i ht;rw[aE ht];exact aPN h e
   · exact e.elim
 · split at e
   · unfold zB at *
     split at e
     · split at e
       · exact h _ _ e
       · exact e.elim
     · exact e.elim
   · exact e.elim
 · split at e
   · unfold uZ at *
     split at e
     · obtain⟨e1,e2,e3,e4,e5⟩:=e
       refine⟨e1,e2,e3,e4,?_⟩
       split at e5
       · exact⟨e5.1,h _ _ e5.2⟩
       · exact e5.elim
     · exact h _ _ e
     · exact e.elim
   · exact e.elim
 · split at e
   · rename_i hm
     rw[aH hm]
     exact⟨e.1,fun b hb=>h _ _ (e.2 b hb)⟩
   · rename_i hm
     rw[aE hm]
     split at e
     · exact h _ _ e
     · exact e.elim
 · split at e
   · exact fun b hb=>h _ _ (e b hb)
   · exact e.elim
 · split at e
   · split at e
     · exact⟨e.1,e.2.1,e.2.2.1,h _ _ e.2.2.2⟩
     · exact e.elim
   · exact e.elim
 · exact fun b hb=>h _ _ (e b hb)
 · unfold xB at *
   split at e
   · exact⟨e.1,e.2.1,e.2.2.1,e.2.2.2.1,e.2.2.2.2.1,e.2.2.2.2.2.1,fun b hb=>h _ _ (e.2.2.2.2.2.2 b hb)⟩
   · exact e.elim
 · unfold r8 at *
   split at e
   · split at e
     · exact⟨e.1,h _ _ e.2⟩
     · exact e.elim
   · exact e.elim
 · split at e
   · exact h _ _ e
   · exact e.elim
def jV(P:Program)(ops:Array Oper)(o:Oper)(φ:AF)(st:aB)(K:AV→aB→Prop):Prop:=match jF ops φ o with
 | some true=>fH P [] φ st o K
 | some false=>K .undef st
 | none=>False
theorem xE{P:Program}{ops:Array Oper}{o:Oper}{φ:AF}{st:aB}{K K':AV→aB→Prop}(h:∀r s,K r s→K' r s)(e:jV P ops o φ st K):jV P ops o φ st K':=by
 unfold jV at *
 split at e
 · exact B9 h e
 · exact h _ _ e
 · exact e.elim
section
variable {P:Program}
theorem aPR{ops:Array Oper}{oi oj:Oper}(φ:AF)(v:AV)(h:∀d,oj.dst=some d→d∉oi.looksAt ops):jF ops (φ.put oj.dst v) oi=jF ops φ oi:=by
 unfold jF
 cases hg:oi.guard with
 | none=>rfl
 | some gw=>
  obtain⟨g,want⟩:=gw
  cases ht:(ops[g]?).bind (·.dst) with
  | none=>simp only[ht]
  | some t=>
   simp only[ht]
   have:(φ.put oj.dst v) t=φ t:=by
    have:=LS (φ:=φ) (dst:=oj.dst) (v:=v) (x:=.tmp t) (fun d hd hxd=>h d hd (by
     cases hxd
     simp [Oper.looksAt,hg,ht]))
    exact this
   rw[this]
theorem N2{ops:Array Oper}{oi oj:Oper}(φ:AF)(v:AV){st:aB}{K:AV→aB→Prop}(h:∀d,oj.dst=some d→d∉oi.looksAt ops):jV P ops oi (φ.put oj.dst v) st K↔jV P ops oi φ st K:=by
 have h1:fH P [] (φ.put oj.dst v) st oi K=fH P [] φ st oi K:=
  UV fun x hx=>LS fun d hd hxd=>h d hd (by
   subst hxd
   exact List.mem_append_left _ (List.mem_filterMap.2 ⟨.tmp d,by simpa using hx,rfl⟩))
 unfold jV
 rw[h1,aPR φ v h]
theorem aJC(n j:Nat):(Array.replicate n false).getD j false=false:=by
 rcases lB j n with h | h<;>simp [h]
def JC(P:Program)(ops:Array Oper)(K:AF→aB→Prop):Nat→Array Bool→AF→aB→Prop
 | 0,listed,φ,st=>Region.ready .any ops listed= []∧K φ st
 | f+1,listed,φ,st=>(Region.ready .any ops listed= []→K φ st)∧∀i∈Region.ready .any ops listed,∃o,ops[i]?=some o∧jV P ops o φ st (fun r st'=>JC P ops K f (listed.setIfInBounds i true) (φ.put o.dst r) st')
theorem aPV{N:Nat}{ops:Array Oper}(hN:∀(j d:Nat),(ops[j]?).bind (·.dst)=some d→d<N){o:Oper}{i:Nat}{a:Act}{w:World}{φ:AF}{st:aB}{G:AV→aB→Prop}{K:Act→World→Prop}{Q:Exit→Act→World→Prop}(hi:ops[i]?=some o)
 (R:Rel N a w φ st) (hd:p6 N o=true) (y:jV P ops o φ st G) (h:∀a' w' r st',Rel N a' w' (φ.put o.dst r) st'→cB w.heap st w'.heap st'→fP w w'→G r st'→K a' w'):wpOp P ops Q i K a w:=by
 unfold jV at y
 unfold wpOp
 simp only[hi]
 split at y
 · rename_i hg
   rw[aH (xA R hN hg)]
   refine .inl (JG R.frame R.store y fun v w' ⟨r',st',x1,x2,x3,x4,x5⟩=>?_)
   exact h _ _ r' st' (R.put hd x3 x2 x1) x3 x4 x5
 · rename_i hg
   rw[aE (by rw[xA R hN hg];simp)]
   exact h _ _ .undef st (R.put (r:=.undef) hd (cB.refl _ _) R.store ⟨rfl,rfl⟩) (cB.refl _ _) (fP.refl _) y
 · exact y.elim
theorem NV{N:Nat}{ops:Array Oper}(hN:∀(j d:Nat),(ops[j]?).bind (·.dst)=some d→d<N)(hD:∀o∈ops.toList,p6 N o=true){K:AF→aB→Prop}{Q:Exit→Act→World→Prop}{w0:World}{st0:aB}
 (hK:∀φ st a w,K φ st→Rel N a w φ st→cB w0.heap st0 w.heap st→fP w0 w→Q .normal a w) :
 ∀(f:Nat) (listed:Array Bool) (φ:AF) (st:aB) (a:Act) (w:World),JC P ops K f listed φ st→Rel N a w φ st→cB w0.heap st0 w.heap st→fP w0 w→wpAny P .any ops Q f listed a w
 | 0,listed,φ,st,a,w,h,R,T,s=>⟨h.1,hK φ st a w h.2 R T s⟩
 | f+1,listed,φ,st,a,w,h,R,T,s=>by
  refine⟨fun h0=>hK φ st a w (h.1 h0) R T s,fun i hi=>?_⟩
  obtain⟨o,ho,y⟩:=h.2 i hi
  exact aPV hN ho R (hD o (nZ.2 (BN ho))) y fun a' w' r st' R' T' s' g=>NV hN hD hK f _ _ _ a' w' g R' (T.trans T') (s.trans s')
def UQ(P:Program)(ops:Array Oper)(o:Oper)(r:AV)(φ:AF):Prop:=∀st,jW P st ops o r φ
theorem a5U{ops:Array Oper}{o:Oper}{r:AV}{φ:AF}(h:UQ P ops o r φ){st:aB}{K:AV→aB→Prop}(k:K r st):jV P ops o φ st K:=by
 unfold jV
 rcases h st with ⟨hg,hs⟩ | ⟨hg,rfl⟩
 · rw[hg];exact B9 (fun r' s' ⟨e1,e2⟩=>by rw[e1,e2];exact k) hs
 · rw[hg];exact k
theorem UY{ops:Array Oper}{o:Oper}{r:AV}{φ:AF}{st:aB}(h:jW P st ops o r φ){K:AV→aB→Prop}(k:K r st):jV P ops o φ st K:=by
 unfold jV
 rcases h with ⟨hg,hs⟩ | ⟨hg,rfl⟩
 · rw[hg];exact B9 (fun r' s' ⟨e1,e2⟩=>by rw[e1,e2];exact k) hs
 · rw[hg];exact k
def B0(P:Program)(ops:Array Oper)(S:List Nat)(K:AF→aB→Prop):Nat→Array Bool→AF→aB→Prop
 | 0,listed,φ,st=>Region.ready .any ops listed= []∧K φ st
 | f+1,listed,φ,st=>(Region.ready .any ops listed= []→K φ st)∧∀i∈Region.ready .any ops listed,∃o,ops[i]?=some o ∧
  ((S.contains i=true∧∃r,jW P st ops o r φ∧B0 P ops S K f (listed.setIfInBounds i true) (φ.put o.dst r) st) ∨
   (S.contains i=false∧jV P ops o φ st (fun r st'=>B0 P ops S K f (listed.setIfInBounds i true) (φ.put o.dst r) st')))
theorem NW{ops:Array Oper}{S:List Nat}{K:AF→aB→Prop}:∀(f:Nat) (listed:Array Bool) (φ:AF) (st:aB),B0 P ops S K f listed φ st→JC P ops K f listed φ st
 | 0,_,_,_,h=>h
 | f+1,listed,φ,st,h=>by
  refine⟨h.1,fun i hi=>?_⟩
  obtain⟨o,ho,h2⟩:=h.2 i hi
  refine⟨o,ho,?_⟩
  rcases h2 with ⟨_,r,y,k⟩ | ⟨_,k⟩
  · exact UY y (NW f _ _ _ k)
  · exact xE (fun r s q=>NW f _ _ _ q) k
def wU(ops:Array Oper)(listed:Array Bool):Prop:=∀j o,ops[j]?=some o→listed.getD j false=true→∀e∈o.after,Region.binds .any e=true→listed.getD e.on false=true
theorem wU.set{ops:Array Oper}{listed:Array Bool}{i:Nat}(h:wU ops listed)(hr:i∈Region.ready .any ops listed):wU ops (listed.setIfInBounds i true):=by
 intro j o ho hl e he hb
 by_cases hji:i=j
 · subst hji
   obtain⟨_,o',ho',dX⟩:=mem_ready.1 hr
   rw[ho'] at ho;cases ho
   exact getD_set_true (dX e he hb)
 · rw[getD_set_ne false hji] at hl
   exact getD_set_true (h j o ho hl e he hb)
def tZ(ops:Array Oper):Nat→Nat→Nat→Bool
 | 0,_,_=>false
 | f+1,j,i=>match ops[j]? with
  | some o=>o.after.any fun e=>Region.binds .any e&&(e.on == i||tZ ops f e.on i)
  | none=>false
theorem J7{ops:Array Oper}{listed:Array Bool}{i:Nat}(h:wU ops listed)(hi:listed.getD i false=false):∀(f j:Nat) (o:Oper),ops[j]?=some o→tZ ops f j i=true→¬ ∀e∈o.after,Region.binds .any e=true→listed.getD e.on false=true
 | 0,j,o,_,hd=>by simp [tZ] at hd
 | f+1,j,o,ho,hd=>by
  intro dX
  simp only[tZ,ho] at hd
  obtain⟨e,he,h2⟩:=Array.any_eq_true'.1 hd
  simp only[cA,pS,beq_iff_eq] at h2
  obtain⟨hb,h3⟩:=h2
  have hl:=dX e he hb
  rcases h3 with h3 | h3
  · rw[h3,hi] at hl;cases hl
  · cases hk:ops[e.on]? with
    | none=>cases f<;>simp [tZ,hk] at h3
    | some o2=>exact J7 h hi f e.on o2 hk h3 (h e.on o2 hk hl)
def fW(st s:aB):Prop:=∀b o,st b=some o→s b=some o
theorem fW.refl(st:aB):fW st st:=fun _ _ h=>h
theorem fW.trans{a b c:aB}(x:fW a b)(y:fW b c):fW a c:=fun q o h=>y q o (x q o h)
def JK(o:Oper):Bool:=match o.op with
 | .alloc _=>true
 | _=>false
theorem aPU{ops:Array Oper}{o:Oper}{φ:AF}{st:aB}{K:AV→aB→Prop}(ho:JK o=true)(e:jV P ops o φ st K):jV P ops o φ st (fun r st'=>fW st st'∧K r st'):=by
 obtain⟨dst,op,type,pos,after,guard⟩:=o
 cases op<;>simp only[JK,iL] at ho
 unfold jV at e ⊢
 split at e
 · simp only[fH] at e ⊢
   split at e
   · intro b hb
     refine⟨fun q o hq=>?_,e b hb⟩
     rw[aB.aL _ _ (by rintro rfl;rw[hb] at hq;cases hq)]
     exact hq
   · cases e
 · exact⟨fW.refl _,e⟩
 · cases e
theorem NX{ops:Array Oper}{S:List Nat}{i:Nat}{oi:Oper}{v:AV}{K:AF→aB→Prop}(hi:ops[i]?=some oi)(hS:S.contains i=true) :
 ∀(f:Nat) (listed:Array Bool) (φ:AF) (st:aB),wU ops listed →
  (∀j oj,ops[j]?=some oj→j≠i→listed.getD j true=false→(∀e∈oj.after,Region.binds .any e=true→e.on≠i)→oi.apart ops oj=true) →
  i∈Region.ready .any ops listed→((∀s,jW P s ops oi v φ)∨(jW P st ops oi v φ∧∀j oj,ops[j]?=some oj→listed.getD j true=false→S.contains j=false→∃g,tZ ops g j i=true)∨((∀s,fW st s→jW P s ops oi v φ)∧∀j oj,ops[j]?=some oj→listed.getD j true=false→S.contains j=false→(∃g,tZ ops g j i=true)∨JK oj=true)) →
  B0 P ops S K f (listed.setIfInBounds i true) (φ.put oi.dst v) st→B0 P ops S K (f+1) listed φ st:=by
 intro f
 induction f with
 | zero=>
  intro listed φ st hcl _ hr hy H
  have hy0:jW P st ops oi v φ:=by
   rcases hy with h | h | h
   · exact h st
   · exact h.1
   · exact h.1 st (fW.refl st)
  refine⟨fun h=>(by rw[h] at hr;cases hr),fun j hj=>?_⟩
  by_cases hji:j=i
  · subst hji;exact⟨oi,hi,.inl ⟨hS,v,hy0,H⟩⟩
  · have:=ready_mono hj hji
    rw[H.1] at this
    cases this
 | succ f ih=>
  intro listed φ st hcl qC hr hy H
  have hy0:jW P st ops oi v φ:=by
   rcases hy with h | h | h
   · exact h st
   · exact h.1
   · exact h.1 st (fW.refl st)
  refine⟨fun h=>(by rw[h] at hr;cases hr),fun j hj=>?_⟩
  by_cases hji:j=i
  · subst hji;exact⟨oi,hi,.inl ⟨hS,v,hy0,H⟩⟩
  · obtain⟨oj,hoj,h1⟩:=H.2 j (ready_mono hj hji)
    obtain⟨pG,oj',AD,dX⟩:=mem_ready.1 hj
    have:oj'=oj:=nK (AD.symm.trans hoj)
    subst this
    have hun:=(mem_ready.1 hr).1
    have sR:∀e∈oj'.after,Region.binds .any e=true→e.on≠i:=fun e he hb heq=>by
     have h1:=dX e he hb
     rw[heq,getD_both hun] at h1
     cases h1
    obtain⟨a1,a2,a3⟩:=Oper.apart_spec (qC j oj' hoj hji pG sR)
    have uD:∀k ok,ops[k]?=some ok→k≠i→(listed.setIfInBounds j true).getD k true=false →
     (∀e∈ok.after,Region.binds .any e=true→e.on≠i)→oi.apart ops ok=true:=fun k ok hk hki hun hno=>by
     refine qC k ok hk hki ?_ hno
     by_cases hjk:j=k
     · subst hjk;exact pG
     · rw[getD_set_ne true hjk] at hun;exact hun
    have QU:∀k,(listed.setIfInBounds j true).getD k true=false→listed.getD k true=false:=fun k hk=>by
     by_cases hjk:j=k
     · subst hjk;exact pG
     · rw[getD_set_ne true hjk] at hk;exact hk
    refine⟨oj',hoj,?_⟩
    rcases h1 with ⟨hSj,r,yj,h2⟩ | ⟨hSj,h2⟩
    · refine .inl ⟨hSj,r,(pX φ v a1).1 yj,ih (listed.setIfInBounds j true) (φ.put oj'.dst r) st (hcl.set hj) uD (ready_mono hr (dD hji)) ?_ ?_⟩
      · rcases hy with h | h | h
        · exact .inl fun s=>(pX φ r a3).2 (h s)
        · exact .inr (.inl ⟨(pX φ r a3).2 h.1,fun k ok hk hl hs=>h.2 k ok hk (QU k hl) hs⟩)
        · exact .inr (.inr ⟨fun s hs=>(pX φ r a3).2 (h.1 s hs),fun k ok hk hl hs=>h.2 k ok hk (QU k hl) hs⟩)
      · rw[BO _ _ hji,←put_comm φ v r a2]
        exact h2
    · rcases hy with hf | ⟨_,hd⟩ | ⟨hx,hd⟩
      · refine .inr ⟨hSj,xE (fun r st' h3=>?_) ((N2 φ v a1).1 h2)⟩
        refine ih (listed.setIfInBounds j true) (φ.put oj'.dst r) st' (hcl.set hj) uD (ready_mono hr (dD hji)) (.inl fun s=>(pX φ r a3).2 (hf s)) ?_
        rw[BO _ _ hji,←put_comm φ v r a2]
        exact h3
      · obtain⟨g,hg⟩:=hd j oj' hoj pG hSj
        exact absurd dX (J7 hcl (getD_both hun) g j oj' hoj hg)
      · rcases hd j oj' hoj pG hSj with ⟨g,hg⟩ | hal
        · exact absurd dX (J7 hcl (getD_both hun) g j oj' hoj hg)
        · refine .inr ⟨hSj,xE (fun r st' h3=>?_) (aPU hal ((N2 φ v a1).1 h2))⟩
          refine ih (listed.setIfInBounds j true) (φ.put oj'.dst r) st' (hcl.set hj) uD (ready_mono hr (dD hji)) (.inr (.inr ⟨fun s hs=>(pX φ r a3).2 (hx s (h3.1.trans hs)),fun k ok hk hl hs=>hd k ok hk (QU k hl) hs⟩)) ?_
          rw[BO _ _ hji,←put_comm φ v r a2]
          exact h3.2
def aMY(ops:Array Oper)(S:List Nat)(listed:Array Bool)(i:Nat):Bool:=(List.range ops.size).all fun j=>listed.getD j true||S.contains j||tZ ops ops.size j i
def aMX(ops:Array Oper)(S:List Nat)(listed:Array Bool)(i:Nat):Bool:=(List.range ops.size).all fun j=>listed.getD j true||S.contains j||tZ ops ops.size j i||((ops[j]?).map JK).getD false
def aLQ(ops:Array Oper)(i:Nat):Bool:=((ops[i]?).map kH).getD false
def sW(ops:Array Oper)(S:List Nat):List (Nat×Nat)→Array Bool→Bool
 | [],listed=>(Region.ready .any ops listed).isEmpty
 | (i,0)::r,listed=>decide (Region.ready .any ops listed= [i])&& !S.contains i&&sW ops S r (listed.setIfInBounds i true)
 | (i,1)::r,listed=>(Region.ready .any ops listed).contains i&&Region.free .any ops listed i&&S.contains i&&sW ops S r (listed.setIfInBounds i true)
 | (i,_)::r,listed=>(Region.ready .any ops listed).contains i&&Region.free .any ops listed i&&S.contains i&&(aMY ops S listed i||(aLQ ops i&&aMX ops S listed i))&&sW ops S r (listed.setIfInBounds i true)
def B6(P:Program)(ops:Array Oper)(K:AF→aB→Prop):List (Nat×Nat)→AF→aB→Prop
 | [],φ,st=>K φ st
 | (i,0)::r,φ,st=>∃o,ops[i]?=some o∧jV P ops o φ st (fun v st'=>B6 P ops K r (φ.put o.dst v) st')
 | (i,1)::r,φ,st=>∃o,ops[i]?=some o∧∃v,UQ P ops o v φ∧B6 P ops K r (φ.put o.dst v) st
 | (i,_)::r,φ,st=>∃o,ops[i]?=some o∧∃v,jW P st ops o v φ∧B6 P ops K r (φ.put o.dst v) st
theorem a0A{t:TypeId}{ok:Bool}{x i r:AV}{st s:aB}(hs:fW st s)(h:oX P st t ok x i=some r):oX P s t ok x i=some r:=by
 unfold oX at *
 split at h
 · rename_i b n
   cases hb:st b with
   | none=>rw[hb] at h;cases h
   | some o=>rw[hs b o hb,←hb];exact h
 · cases h
theorem aZ5{t:TypeId}{x r:AV}{st s:aB}(hs:fW st s)(h:g8 P st t x=some r):g8 P s t x=some r:=by
 unfold g8 at *
 split at h
 · exact h
 · rename_i b o
   cases hb:st b with
   | none=>rw[hb] at h;split at h<;>simp_all
   | some o=>rw[hs b o hb,←hb];exact h
 · cases h
theorem UW{φ:AF}{o:Oper}{r:AV}{st s:aB}(hs:fW st s)(h:lD P φ st o=some r):lD P φ s o=some r:=by
 obtain⟨dst,op,type,pos,after,guard⟩:=o
 cases op
 case makeFunc fn a b=>cases fn<;>exact h
 case call c=>
  obtain⟨callee,args,ats⟩:=c
  cases callee
  case builtin b=>cases b<;>exact h
  all_goals exact h
 case load=>exact aZ5 hs h
 case lookup=>exact a0A hs h
 all_goals exact h
theorem aP0{ops:Array Oper}{o:Oper}{v:AV}{φ:AF}{st s:aB}(hp:kH o=true)(hs:fW st s)(h:jW P st ops o v φ):jW P s ops o v φ:=by
 rcases h with ⟨h1,h2⟩ | h
 · refine .inl ⟨h1,?_⟩
   rw[sA hp] at h2 ⊢
   cases hv:lD P φ st o with
   | none=>rw[hv] at h2;cases h2
   | some r=>
    rw[hv] at h2
    rw[UW hs hv]
    exact⟨h2.1,rfl⟩
 · exact .inr h
theorem FG{ops:Array Oper}{S:List Nat}{K:AF→aB→Prop}:∀(p:List (Nat×Nat)) (listed:Array Bool) (φ:AF) (st:aB),wU ops listed→sW ops S p listed=true→B6 P ops K p φ st→B0 P ops S K p.length listed φ st
 | [],listed,φ,st,_,hB,h=>⟨by simpa [sW] using hB,h⟩
 | (i,0)::r,listed,φ,st,hcl,hB,h=>by
  simp only[sW,cA,bJ,kQ] at hB
  obtain⟨o,ho,h'⟩:=h
  have hr:i∈Region.ready .any ops listed:=by rw[hB.1.1];simp
  refine⟨fun h0=>(by rw[hB.1.1] at h0;cases h0),fun j hj=>?_⟩
  rw[hB.1.1] at hj
  obtain rfl:j=i:=by simpa using hj
  exact⟨o,ho,.inr ⟨hB.1.2,xE (fun v st' q=>FG r _ _ _ (hcl.set hr) hB.2 q) h'⟩⟩
 | (i,1)::r,listed,φ,st,hcl,hB,h=>by
  simp only[sW,cA] at hB
  obtain⟨⟨⟨hr,hf⟩,hS⟩,hB'⟩:=hB
  obtain⟨o,ho,v,hv,h'⟩:=h
  have hr':i∈Region.ready .any ops listed:=by simpa using hr
  exact NX ho hS _ listed φ st hcl (Region.free_spec ho hf) hr' (.inl hv) (FG r _ _ _ (hcl.set hr') hB' h')
 | (i,k+2)::r,listed,φ,st,hcl,hB,h=>by
  simp only[sW,cA] at hB
  obtain⟨⟨⟨⟨hr,hf⟩,hS⟩,hd⟩,hB'⟩:=hB
  obtain⟨o,ho,v,hv,h'⟩:=h
  have hr':i∈Region.ready .any ops listed:=by simpa using hr
  rw[pS] at hd
  rcases hd with hd | hd
  · refine NX ho hS _ listed φ st hcl (Region.free_spec ho hf) hr' (.inr (.inl ⟨hv,fun j oj hj hl hs=>⟨ops.size,?_⟩⟩)) (FG r _ _ _ (hcl.set hr') hB' h')
    simp only[aMY,dW,rX] at hd
    have:=hd j (IU.1 hj).1
    simpa only[hl,hs,oV] using this
  · rw[cA] at hd
    obtain⟨hp,hd⟩:=hd
    simp only[aLQ,ho,n0,BW] at hp
    refine NX ho hS _ listed φ st hcl (Region.free_spec ho hf) hr' (.inr (.inr ⟨fun s hs=>aP0 hp hs hv,fun j oj hj hl hs=>?_⟩)) (FG r _ _ _ (hcl.set hr') hB' h')
    simp only[aMX,dW,rX] at hd
    have:=hd j (IU.1 hj).1
    simp only[hl,hs,oV,hj,n0,BW,pS] at this
    exact this.imp (fun h=>⟨ops.size,h⟩) id
theorem aQO{N:Nat}{id:Nat}{ops:Array Oper}{Q:Exit→AF→aB→Prop}{φ:AF}{st:aB}(p:List (Nat×Nat))(S:List Nat)(hm:P.follows .mixedOrders=true)(hok:qL N ops=true)(hl:p.length=ops.size)(hB:sW ops S p (Array.replicate ops.size false)=true)
 (h:B6 P ops (Q .normal) p φ st):gO P N (.region id ops true) Q φ st:=by
 intro a w R
 refine wp_region_any hm ?_
 have R0:Rel N a { w with drawn:=w.drawn+1 } φ st:=⟨R.size,R.defers,R.frame,R.store⟩
 have:=NW _ _ _ _ (FG p _ φ st (fun j o _ hl=>(by rw[aJC] at hl;cases hl)) hB h)
 rw[hl] at this
 exact NV (AX hok) (x8 hok) (w0:=w) (st0:=st) (fun φ' st' a' w' k R' T s=>⟨φ',st',R',T,s,k⟩) _ _ _ _ _ _ this R0 (cB.refl _ _) ⟨rfl,rfl,rfl⟩
theorem aZ9{t:TypeId}{ok:Bool}{x i r:AV}(h:oX P eH t ok x i=some r)(st:aB):oX P st t ok x i=some r:=by
 unfold oX at *
 split at h
 · simp only[eH] at h;cases h
 · cases h
theorem aZ4{t:TypeId}{x r:AV}(h:g8 P eH t x=some r)(st:aB):g8 P st t x=some r:=by
 unfold g8 at *
 split at h
 · exact h
 · split at h
   · rename_i h1;simp only[eH] at h1;cases h1
   · cases h
 · cases h
theorem aPW{φ:AF}{o:Oper}{r:AV}(h:lD P φ eH o=some r)(st:aB):lD P φ st o=some r:=by
 obtain⟨dst,op,type,pos,after,guard⟩:=o
 cases op
 case makeFunc fn a b=>cases fn<;>exact h
 case call c=>
  obtain⟨callee,args,ats⟩:=c
  cases callee
  case builtin b=>cases b<;>exact h
  all_goals exact h
 case load=>exact aZ4 h st
 case lookup=>exact aZ9 h st
 all_goals exact h
def jU(P:Program)(ops:Array Oper)(K:AF→aB→Prop):List (Nat×Nat)→AF→aB→Prop
 | [],φ,st=>K φ st
 | (i,0)::r,φ,st=>match ops[i]? with
  | none=>False
  | some o=>bE P [] ops [o] (fun φ' st'=>jU P ops K r φ' st') φ st
 | (i,1)::r,φ,st=>match ops[i]? with
  | none=>False
  | some o=>if kH o=true then bE P [] ops [o] (fun φ' _=>jU P ops K r φ' st) φ eH else
   match o.guard,o.op with
   | none,.call { callee:=.value f,args,.. }=>∃v,(∀s,sD P (φ.eval f) (args.toList.map φ.eval) s (fun r' s'=>r'=v∧s'=s))∧jU P ops K r (φ.put o.dst v) st
   | _,_=>False
 | (i,_)::r,φ,st=>match ops[i]? with
  | none=>False
  | some o=>if kH o=true then bE P [] ops [o] (fun φ' _=>jU P ops K r φ' st) φ st else
   match o.guard,o.op with
   | none,.call { callee:=.value f,args,.. }=>∃v,sD P (φ.eval f) (args.toList.map φ.eval) st (fun r' s'=>r'=v∧s'=st)∧jU P ops K r (φ.put o.dst v) st
   | _,_=>False
theorem u7{ops:Array Oper}{K:AF→aB→Prop}:∀(p:List (Nat×Nat)) (φ:AF) (st:aB),jU P ops K p φ st→B6 P ops K p φ st
 | [],_,_,h=>h
 | (i,0)::r,φ,st,h=>by
  simp only[jU] at h
  split at h
  · exact h.elim
  · rename_i o ho
    refine⟨o,ho,?_⟩
    simp only[bE] at h
    unfold jV
    split at h
    · rename_i hg
      rw[hg]
      exact B9 (fun v s q=>u7 r _ _ q) h
    · rename_i hg
      rw[hg]
      exact u7 r _ _ h
    · exact h.elim
 | (i,1)::r,φ,st,h=>by
  simp only[jU] at h
  split at h
  · exact h.elim
  · rename_i o ho
    split at h
    · rename_i hp
      simp only[bE] at h
      split at h
      · rename_i hg
        rw[sA hp] at h
        split at h
        · rename_i v hv
          exact⟨o,ho,v,fun s=>.inl ⟨hg,by rw[sA hp,aPW hv s];exact⟨rfl,rfl⟩⟩,u7 r _ _ h⟩
        · exact h.elim
      · rename_i hg
        exact⟨o,ho,.undef,fun s=>.inr ⟨hg,rfl⟩,u7 r _ _ h⟩
      · exact h.elim
    · split at h
      · rename_i f args ats hg hop
        obtain⟨v,h1,h2⟩:=h
        refine⟨o,ho,v,fun s=>.inl ⟨by simp only[jF,hg],?_⟩,u7 r _ _ h2⟩
        simp only[fH,hop]
        exact h1 s
      · exact h.elim
 | (i,k+2)::r,φ,st,h=>by
  simp only[jU] at h
  split at h
  · exact h.elim
  · rename_i o ho
    split at h
    · rename_i hp
      simp only[bE] at h
      split at h
      · rename_i hg
        rw[sA hp] at h
        split at h
        · rename_i v hv
          exact⟨o,ho,v,.inl ⟨hg,by rw[sA hp,hv];exact⟨rfl,rfl⟩⟩,u7 r _ _ h⟩
        · exact h.elim
      · rename_i hg
        exact⟨o,ho,.undef,.inr ⟨hg,rfl⟩,u7 r _ _ h⟩
      · exact h.elim
    · split at h
      · rename_i f args ats hg hop
        obtain⟨v,h1,h2⟩:=h
        refine⟨o,ho,v,.inl ⟨by simp only[jF,hg],?_⟩,u7 r _ _ h2⟩
        simp only[fH,hop]
        exact h1
      · exact h.elim
end
def RX(P:Program)(ops:Array Oper)(K:AF→aB→Prop)(r:List (Nat×Nat))(φ:AF)(st:aB):Prop:=jU P ops K r φ st
def HG(P:Program)(ops:Array Oper)(K:AF→aB→Prop)(r:List (Nat×Nat))(st:aB)(φ:AF)(_:aB):Prop:=jU P ops K r φ st
def A0(P:Program)(ops:Array Oper)(K:AF→aB→Prop)(r:List (Nat×Nat))(φ:AF)(dst:Option Tmp)(st:aB)(v:AV):Prop:=jU P ops K r (φ.put dst v) st
def FX(P:Program)(f:AV)(args:List AV)(K:AV→Prop):Prop:=∃v,(∀s,sD P f args s (fun r' s'=>r'=v∧s'=s))∧K v
def D1(P:Program)(ops:Array Oper)(K:AF→aB→Prop)(r:List (Nat×Nat))(φ:AF)(st:aB):Nat→Option Oper→Prop
 | 0,some o=>bE P [] ops [o] (RX P ops K r) φ st
 | 1,some o=>if kH o=true then bE P [] ops [o] (HG P ops K r st) φ eH else
  match o.guard,o.op with
  | none,.call { callee:=.value f,args,.. }=>FX P (φ.eval f) (args.toList.map φ.eval) (A0 P ops K r φ o.dst st)
  | _,_=>False
 | _,some o=>if kH o=true then bE P [] ops [o] (HG P ops K r st) φ st else
  match o.guard,o.op with
  | none,.call { callee:=.value f,args,.. }=>xJ P (φ.eval f) (args.toList.map φ.eval) st (A0 P ops K r φ o.dst st)
  | _,_=>False
 | _,none=>False
theorem aEN{P:Program}{ops:Array Oper}{K:AF→aB→Prop}{φ:AF}{st:aB}:jU P ops K [] φ st=K φ st:=rfl
theorem aEO{P:Program}{l:List Oper}{K:AF→aB→Prop}{φ:AF}{st:aB}{i b:Nat}{r:List (Nat×Nat)}:jU P l.toArray K ((i,b)::r) φ st=D1 P l.toArray K r φ st b l[i]?:=by
 match b with
 | 0=>simp only[jU,yX];cases l[i]?<;>rfl
 | 1=>simp only[jU,yX];cases l[i]?<;>rfl
 | b+2=>simp only[jU,yX];cases l[i]?<;>rfl
theorem aES{P:Program}{ops:Array Oper}{K:AF→aB→Prop}{φ:AF}{st:aB}{r:List (Nat×Nat)}{o:Oper}:D1 P ops K r φ st 0 (some o)=bE P [] ops [o] (RX P ops K r) φ st:=rfl
theorem aET{P:Program}{ops:Array Oper}{K:AF→aB→Prop}{φ:AF}{st:aB}{r:List (Nat×Nat)}{o:Oper}:D1 P ops K r φ st 1 (some o)=if kH o=true then bE P [] ops [o] (HG P ops K r st) φ eH else
      match o.guard,o.op with
      | none,.call { callee:=.value f,args,.. }=>FX P (φ.eval f) (args.toList.map φ.eval) (A0 P ops K r φ o.dst st)
      | _,_=>False:=rfl
theorem aEU{P:Program}{ops:Array Oper}{K:AF→aB→Prop}{φ:AF}{st:aB}{r:List (Nat×Nat)}{o:Oper}:D1 P ops K r φ st 2 (some o)=if kH o=true then bE P [] ops [o] (HG P ops K r st) φ st else
      match o.guard,o.op with
      | none,.call { callee:=.value f,args,.. }=>xJ P (φ.eval f) (args.toList.map φ.eval) st (A0 P ops K r φ o.dst st)
      | _,_=>False:=rfl
theorem aER{P:Program}{ops:Array Oper}{K:AF→aB→Prop}{φ:AF}{st:aB}{r:List (Nat×Nat)}:RX P ops K r φ st=jU P ops K r φ st:=rfl
theorem aEQ{P:Program}{ops:Array Oper}{K:AF→aB→Prop}{φ:AF}{st s:aB}{r:List (Nat×Nat)}:HG P ops K r st φ s=jU P ops K r φ st:=rfl
theorem aEP{P:Program}{ops:Array Oper}{K:AF→aB→Prop}{φ:AF}{st:aB}{r:List (Nat×Nat)}{dst:Option Tmp}{v:AV}:A0 P ops K r φ dst st v=jU P ops K r (φ.put dst v) st:=rfl
theorem OZ{P:Program}{g:FuncId}{args:List AV}{r:AV}{K:AV→Prop}(x:∀st,aD P g args st (fun r' st'=>r'=r∧st'=st))(h:K r):FX P (.func g []) args K:=⟨r,fun st=>by show aD P g (args++ []) st _;rw[g9];exact x st,h⟩
@[congr] theorem a59 {P:Program} {ops:Array Oper} {K:AF→aB→Prop} {p:List (Nat×Nat)} {φ φ':AF} {st st':aB} (h1:φ=φ') (h2:st=st'):jU P ops K p φ st=jU P ops K p φ' st':=by rw[h1,h2]
@[congr] theorem a6N {P:Program} {ops:Array Oper} {K:AF→aB→Prop} {p:List (Nat×Nat)} {φ φ':AF} {st st':aB} {b:Nat} {o o':Option Oper} (h1:φ=φ') (h2:st=st') (h3:o=o'):D1 P ops K p φ st b o=D1 P ops K p φ' st' b o':=by rw[h1,h2,h3]
@[congr] theorem a6M {P:Program} {ops:Array Oper} {K:AF→aB→Prop} {p:List (Nat×Nat)} {φ φ':AF} {dst:Option Tmp} {st st':aB} {v v':AV} (h1:φ=φ') (h2:st=st') (h3:v=v'):A0 P ops K p φ dst st v=A0 P ops K p φ' dst st' v':=by rw[h1,h2,h3]
@[congr] theorem a6D {P:Program} {f f':AV} {args args':List AV} {K:AV→Prop} (h0:f=f') (h1:args=args'):FX P f args K=FX P f' args' K:=by rw[h0,h1]
theorem zx5{P:Program}{N:Nat}{id:Nat}{l:List Oper}{Q:Exit→AF→aB→Prop}{φ:AF}{st:aB}(p:List (Nat×Nat))(S:List Nat)(hm:P.follows .mixedOrders=true)(hok:qL N l.toArray=true)(hl:p.length=l.length)(hB:sW l.toArray S p (Array.replicate l.length false)=true)
 (h:jU P l.toArray (Q .normal) p φ st):gO P N (.region id l.toArray true) Q φ st:=
 aQO p S hm hok (by simpa using hl) (by simpa using hB) (u7 p φ st h)
theorem aP2{P:Program}{t:TypeId}{ag:Bool}{w bytes:Nat}{zs:List AV}{s:aB}{b:Nat}{l xs:List AV}{x:AV}{K:AV→aB→Prop}
 (hI:eI P t=some (ag,w)) (hB:eB P t=some bytes) (hZ:eZ P t=some zs) (hz:zs.length=w) (hx:zC x=some xs) (fD:vB w xs) (hw:∀e∈l,e.width=w) (hb:l≠[]→s b=some (.cells (l.flatMap AV.cells)))
 (h1:(l.length+xs.length)*bytes≤140737488355328) (h2:l.length+xs.length≤9223372036854775807)
 (hK:∀b' s',(l++xs≠[]→s' b'=some (.cells ((l++xs).flatMap AV.cells)))→(l++xs≠[]→b'=b∧l≠[]∨s b'=none)→(∀q,(l++xs≠[]→q≠b')→(l≠[]→q≠b)→s' q=s q)→(l≠[]→b'≠b→s' b=none)→K (bD w b' (l++xs)) s'):j7 P t s (bD w b l) x K:=by
 unfold j7
 rw[hI,hB,hZ,hx]
 refine⟨hz,fD,?_⟩
 cases l with
 | nil=>
  show _∧_∧_∧_∧_
  refine⟨by simpa using h1,by simpa using h2,by simp,?_,?_⟩
  · rintro rfl
    have:=hK b s (by simp) (by simp) (fun _ _ _=>rfl) (by simp)
    simpa [bD] using this
  · intro hne b' hb'
    have:=hK b' (s.aC b' (.cells (xs.flatMap AV.cells))) (fun _=>by rw[aB.aP];simp) (fun _=>.inr hb') (fun q h _=>aB.aL _ _ (h (by simpa using hne))) (by simp)
    rw[eR,o0 hne] at this
    simpa using this
 | cons y l=>
  have hb:=hb (by simp)
  show w=w∧_∧_∧_
  refine⟨rfl,h1,h2,?_⟩
  have hfl:((y::l).flatMap AV.cells).length=(y::l).length*w:=pD hw
  rw[hb]
  refine⟨by rw[hfl];exact c7 _,?_,?_⟩
  · have:=hK b (s.aC b (.cells ((y::l++xs).flatMap AV.cells))) (fun _=>aB.aP _ _ _) (fun _=>.inl ⟨rfl,by simp⟩) (fun q h _=>aB.aL _ _ (h (by simp))) (fun _ h=>absurd rfl h)
    rw[o0 (by simp),yV,dM] at this
    rw[←hfl,eS]
    exact this
  · intro b' hb'
    have hne:b'≠b:=by rintro rfl;rw[hb] at hb';cases hb'
    have:=hK b' ((s.erase b).aC b' (.cells ((y::l++xs).flatMap AV.cells))) (fun _=>aB.aP _ _ _) (fun _=>.inr hb') (fun q h h'=>by
     rw[aB.aL _ _ (h (by simp))]
     simp only[aB.erase,h' (by simp),dY]) (fun _ _=>by rw[aB.aL _ _ (dD hne)];exact aB.YE _ _)
    rw[o0 (by simp),yV,dM] at this
    rw[←hfl,eS]
    exact this
def uS(es:List AV)(st:aB)(i:Nat)(os:List AV)(bs:List Nat)(b:Nat)(s:aB):Prop:=
 os.length=i∧cL s (es.take i) os bs∧bs.Nodup∧(∀q∈bs,st q=none)∧(os≠[]→st b=none∧b∉bs∧s b=some (.cells (os.flatMap AV.cells)))∧∀q,q∉bs→(os≠[]→q≠b)→s q=st q
theorem uS.start{es:List AV}{st:aB}{b:Nat}:uS es st 0 [] [] b st:=⟨rfl,by simp [cL],oW,by simp,by simp,fun _ _ _=>rfl⟩
theorem Q8{b x:Nat}{l:List AV}:x∈u9 b l↔x=b∧l≠[]:=by cases l<;>simp [u9]
theorem uS.done{es:List AV}{st:aB}{n w:Nat}{os:List AV}{bs:List Nat}{b:Nat}{s:aB}(h:uS es st n os bs b s)(hl:es.length=n)(hw:∀e∈es,e.width=w):Made st (.slice es) (bD w b os) s:=by
 obtain⟨h1,h2,h3,h4,h5,h6⟩:=h
 rw[lO (by omega)] at h2
 refine⟨u9 b os++bs,?_,fun q hq=>?_,?_,fun q hq=>?_⟩
 · rw[tO]
   refine⟨by cases os<;>simp [u9],h3,fun x hx y hy e=>?_⟩
   obtain⟨rfl,hne⟩:=Q8.1 hx
   exact(h5 hne).2.1 (e▸hy)
 · rcases fF.1 hq with hq | hq
   · obtain⟨rfl,hne⟩:=Q8.1 hq
     exact(h5 hne).1
   · exact h4 q hq
 · cases os with
   | nil=>
    have:es= []:=by simpa using h2.length.symm
    subst this
    simp only[cL] at h2
    simp only[cK,bD,u9,h2.2]
    exact .inl ⟨trivial,trivial,rfl⟩
   | cons o os=>
    simp only[cK,bD,u9]
    refine .inr ⟨b,bs,o::os,w,by rw[h2.length],rfl,(h5 (by simp)).2.2,h2,hw⟩
 · simp only[fF,Q8,not_or,not_and] at hq
   exact h6 q hq.2 (fun hne e=>hq.1 e hne)
theorem cL.aO0{st:aB}{w:Nat}:∀ {as os:List AV} {bs:List Nat},cL st as os bs→(∀e∈as,e.width=w)→∀o∈os,o.width=w
 | [],os,bs,x,_=>by simp only[cL] at x;rw[x.1];simp
 | a::as,os,bs,x,h=>by
  simp only[cL] at x
  obtain⟨o,os',b1,b2,rfl,rfl,x1,x2⟩:=x
  intro q hq
  rcases cX.1 hq with rfl | hq
  · rw[(cK.shape x1).2.1,h a (by simp)]
  · exact cL.aO0 x2 (fun e he=>h e (by simp [he])) q hq
theorem cK.aUH{st:aB}{e r:AV}{bs:List Nat}{w:Nat}(m3:cK st e r bs)(hwe:e.width=w)(hst:e.cells.all AV.storable=true):r.width=w∧r.cells.length=w∧r.cells.all AV.storable=true:=by
 refine⟨(cK.shape m3).2.1.trans hwe,by rw[vG,(cK.shape m3).2.1,hwe],?_⟩
 cases e<;>simp only[cK] at m3<;>try exact m3.elim
 case int=>rw[m3.1];try rfl
 case bool=>rw[m3.1];try rfl
 case str=>rw[m3.1];try rfl
 case slice=>rcases m3 with ⟨_,rfl,_⟩ | ⟨_,_,_,_,rfl,_⟩<;>rfl
 case agg cs=>
  obtain⟨q,rfl,m3⟩:=m3
  refine(cK.U7 m3 fun c hc=>?_).1
  have hst:cs.all AV.storable=true:=hst
  have:=dW.1 hst c hc
  cases c<;>first | rfl | (simp [AV.storable] at this)
theorem uS.step{es:List AV}{st:aB}{i:Nat}{os:List AV}{bs bx:List Nat}{b x b':Nat}{s s2 s':aB}{o:AO}{e r:AV}(h:uS es st i os bs b s)(hx:s x=none)(he:es[i]?=some e)
 (m1:bx.Nodup) (m2:∀q∈bx,(s.aC x o) q=none) (m3:cK s2 e r bx) (m4:∀q,q∉bx→s2 q=(s.aC x o) q)
 (k1:s' b'=some (.cells ((os++ [r]).flatMap AV.cells))) (k2:b'=b∧os≠[]∨s2 b'=none) (k3:∀q,q≠b'→(os≠[]→q≠b)→s' q=s2 q) (k4:os≠[]→b'≠b→s' b=none) :
 uS es st (i+1) (os++ [r]) (bs++bx) b' (s'.erase x):=by
 obtain⟨h1,h2,h3,h4,h5,h6⟩:=h
 have DH:=cL.iT _ _ _ h2
 have hi:i<es.length:=(gP.1 he).1
 have xY:∀q∈bs,s q≠none:=fun q hq=>by obtain⟨cs,e1,_⟩:=DH.2 q hq;rw[e1];simp
 have aY3:x∉bs:=fun hq=>xY x hq hx
 have hxb:os≠[]→x≠b:=fun hne e=>by have:=(h5 hne).2.2;rw[←e,hx] at this;cases this
 have QY:x∉bx:=fun hq=>by have:=m2 x hq;rw[aB.aP] at this;cases this
 have hbx:∀q∈bx,s q=none:=fun q hq=>by
  have:=m2 q hq
  have hne:q≠x:=fun e=>QY (e▸hq)
  rwa [aB.aL _ _ hne] at this
 have DC:∀q∈bs,q∉bx:=fun q hq hq'=>xY q hq (hbx q hq')
 have aJR:os≠[]→b∉bx:=fun hne hq=>by have:=hbx b hq;rw[(h5 hne).2.2] at this;cases this
 have aYS:s2 x=some o:=by rw[m4 x QY,aB.aP]
 have hs2:∀q,q∉bx→q≠x→s2 q=s q:=fun q h1 h2=>by rw[m4 q h1,aB.aL _ _ h2]
 have P5:b'≠x:=by
  rcases k2 with ⟨rfl,hne⟩ | hn
  · exact dD (hxb hne)
  · rintro rfl;rw[aYS] at hn;cases hn
 have KY:b'∉bx:=by
  rcases k2 with ⟨rfl,hne⟩ | hn
  · exact aJR hne
  · intro hq
    obtain⟨cs,e1,_⟩:=(cK.iT _ _ _ m3).2.2 b' hq
    rw[e1] at hn;cases hn
 have P4:b'∉bs:=by
  rcases k2 with ⟨rfl,hne⟩ | hn
  · exact(h5 hne).2.1
  · intro hq
    rw[hs2 b' KY P5] at hn
    exact xY b' hq hn
 have aYT:st b'=none:=by
  rcases k2 with ⟨rfl,hne⟩ | hn
  · exact(h5 hne).1
  · rw[hs2 b' KY P5] at hn
    by_cases hbb:os≠[]∧b'=b
    · rw[hbb.2];exact(h5 hbb.1).1
    · rw[←h6 b' P4 (fun hne e=>hbb ⟨hne,e⟩)];exact hn
 have aXA:os≠[]→∀q∈bs,q≠b:=fun hne q hq e=>(h5 hne).2.1 (e▸hq)
 have aX1:∀q∈bs,(s'.erase x) q=s q:=fun q hq=>by
  have hqx:q≠x:=fun e=>aY3 (e▸hq)
  simp only[aB.erase,hqx,dY]
  rw[k3 q (fun e=>P4 (e▸hq)) (fun hne=>aXA hne q hq),hs2 q (DC q hq) hqx]
 have aX2:∀q∈bx,(s'.erase x) q=s2 q:=fun q hq=>by
  have hqx:q≠x:=fun e=>QY (e▸hq)
  simp only[aB.erase,hqx,dY]
  exact k3 q (fun e=>KY (e▸hq)) (fun hne e=>aJR hne (e▸hq))
 refine⟨by simp [h1],?_,tO.2 ⟨h3,m1,fun a ha c hc e=>DC a ha (e▸hc)⟩,fun q hq=>?_,fun _=>⟨aYT,?_,?_⟩,fun q hq hqb=>?_⟩
 · rw[fG,he]
   exact cL.snoc h2 aX1 (cK.a8 _ _ _ aX2 m3)
 · rcases fF.1 hq with hq | hq
   · exact h4 q hq
   · by_cases hbb:os≠[]∧q=b
     · rw[hbb.2];exact(h5 hbb.1).1
     · by_cases hqs:q∈bs
       · exact h4 q hqs
       · rw[←h6 q hqs (fun hne e=>hbb ⟨hne,e⟩)];exact hbx q hq
 · intro hq
   rcases fF.1 hq with hq | hq
   · exact P4 hq
   · exact KY hq
 · simp only[aB.erase,P5,dY]
   exact k1
 · simp only[fF,not_or] at hq
   have aKC:=hqb (by simp)
   by_cases hqx:q=x
   · subst hqx
     simp only[aB.erase,gA]
     rw[←h6 q hq.1 hxb,hx]
   · simp only[aB.erase,hqx,dY]
     by_cases hbb:os≠[]∧q=b
     · rw[hbb.2,k4 hbb.1 (fun e=>aKC (hbb.2.trans e.symm)),(h5 hbb.1).1]
     · rw[k3 q aKC (fun hne e=>hbb ⟨hne,e⟩),hs2 q hq.2 hqx]
       exact h6 q hq.1 (fun hne e=>hbb ⟨hne,e⟩)
theorem aD.done{P:Program}{g:FuncId}{args:List AV}{st:aB}{r:AV}(x:aD P g args st (fun r' st'=>r'.soft=r∧aM st' st)):aD P g args st (fun r' st'=>r'=r∧st'=st):=
 aD.pZ (aD.soft x)
theorem aD.mK{P:Program}{g:FuncId}{args:List AV}{st:aB}{Q:AV→aB→Prop}(x:aD P g args st (fun r st'=>∃s2,aM st' s2∧Q r s2)):aD P g args st Q:=
 x.mT fun r _ ⟨s2,D,q⟩=>⟨r,s2,D.tG,D.mT r,q⟩
theorem kO{cs:List AV}:(AV.agg cs).soft=.agg (cs.map AV.soft):=by simp only[AV.soft,yE]
theorem k7{cs:List AV}:(AV.tup cs).soft=.tup (cs.map AV.soft):=by simp only[AV.soft,yE]
theorem j6{k:IntKind}{n:Int}:(AV.int k n).soft=.int k n:=rfl
theorem sZ{b:Bool}:(AV.bool b).soft=.bool b:=rfl
theorem l8{s:ByteArray}:(AV.str s).soft=.str s:=rfl
theorem rK{es:List AV}:(AV.slice es).soft=.slice es:=rfl
theorem nD{es:List AV}:(AV.fslice es).soft=.slice es:=rfl
def vR(b:Nat)(l:List AV):List (Nat×AV)→List (Nat×AV)
 | []=>[]
 | p::r=>(p.1,p.2.fin b l)::vR b l r
theorem aCD{b:Nat}{l:List AV}:vR b l []= []:=rfl
theorem aCE{b d:Nat}{l:List AV}{v:AV}{r:List (Nat×AV)}:vR b l ((d,v)::r)=(d,v.fin b l)::vR b l r:=rfl
theorem aWG{b:Nat}{l:List AV}:AV.junk.fin b l=.junk:=by unfold AV.fin;split<;>rfl
theorem lV{w b:Nat}{l:List AV}:(bD w b l).fin b l=.slice l:=iP
theorem aZ0{st:aB}(b:Nat)(l:List AV)(hb:l≠[]→st b=none)(hj:∀e∈l,e.cF=false)(hE:gZ l)(L:List (Nat×AV)):fX (kC L) (a7 st b l) (kC (vR b l L)) st:=by
 have key:∀L d,kC (vR b l L) d=(kC L d).fin b l:=by
  intro L
  induction L with
  | nil=>intro d;exact aWG.symm
  | cons p r ih=>
   obtain⟨e,v⟩:=p
   intro d
   show((kC (vR b l r)).aC e (v.fin b l)) d=(((kC r).aC e v) d).fin b l
   simp only[AF.aC]
   split
   · rfl
   · exact ih d
 intro h tmps S F
 cases l with
 | nil=>exact⟨S,cB.refl _ _,fun d=>by rw[key];exact(F d).soft⟩
 | cons y l=>
  have hst:(a7 st b (y::l)) b=some (.cells ((y::l).flatMap AV.cells)):=aB.aP _ _ _
  have he:(a7 st b (y::l)).erase b=st:=aB.vO st b _ (hb (by simp))
  have L1:fX (kC L) (a7 st b (y::l)) (fun d=>(kC L d).fz b (y::l)) st:=by
   have:=fX.freeze (φ:=kC L) hst hj hE
   rwa [he] at this
  obtain⟨a1,a2,a3⟩:=L1 h tmps S F
  exact⟨a1,a2,fun d=>by rw[key];exact(a3 d).soft⟩
theorem rT{P:Program}{N:Nat}{c:Code}{Q:Exit→AF→aB→Prop}{φ:AF}{st:aB}{α σ:Type}(mt:List Nat)(a8:List Nat)(l:List α)(w d:Nat)(acc:Nat→σ→List AV)(inv:Nat→σ→Prop)(ch:Nat→σ→List (Nat×AV))(so:Nat→σ→aB)
 (hw:∀i s,inv i s→∀e∈acc i s,e.cF=false∧e.width=w)
 (hok:codeOk N c=true)
 (h0:∃s b,inv 0 s∧(acc 0 s≠[]→so 0 s b=none)∧aO φ st (kN φ a8 ((d,bD w b (acc 0 s))::ch 0 s)) (a7 (so 0 s) b (acc 0 s)))
 (h1:∀i x s b,l[i]?=some x→i<l.length→((i:Int)<(l.length:Int))→l.drop i=x::l.drop (i+1)→inv i s→(acc i s≠[]→so i s b=none) →
  gG P N mt c (pK (fun φ' st'=>∃s' b',inv (i+1) s'∧(acc (i+1) s'≠[]→so (i+1) s' b'=none)∧aO φ' st' (kN φ a8 ((d,bD w b' (acc (i+1) s'))::ch (i+1) s')) (a7 (so (i+1) s') b' (acc (i+1) s'))) Q) (vS (kN φ a8 ((d,bD w b (acc i s))::ch i s))) (a7 (so i s) b (acc i s)))
 (h2:∀s b,¬((l.length:Int)<(l.length:Int))→inv l.length s→gG P N mt c (pK (fun _ _=>False) Q) (vS (vR b (acc l.length s) (kN φ a8 ((d,bD w b (acc l.length s))::ch l.length s)))) (so l.length s)):gO P N (.loop c) Q φ st:=by
 have mT:∀(k:AF→aB→Prop) (φ0:AF) (st0:aB) (k':AF→aB→Prop),(∀φ' st',k' φ' st'→k φ' st') →
  gO P N c (pK k' Q) φ0 st0→gO P N c (pK k Q) φ0 st0:=by
  intro k φ0 st0 k' hk hr a w R
  refine wp_mono (hr a w R) ?_
  rintro e a' w' ⟨φ',st',R',T,sm,q⟩
  refine⟨φ',st',R',T,sm,?_⟩
  cases e with
  | normal=>exact hk _ _ q
  | _=>exact q
 refine N9 (α:=Nat×σ×Nat) (fun p=>p.1≤l.length∧inv p.1 p.2.1∧(acc p.1 p.2.1≠[]→so p.1 p.2.1 p.2.2=none)) (fun p=>kC (kN φ a8 ((d,bD w p.2.2 (acc p.1 p.2.1))::ch p.1 p.2.1))) (fun p=>a7 (so p.1 p.2.1) p.2.2 (acc p.1 p.2.1)) (fun p=>l.length - p.1) ?_ ?_
 · obtain⟨s,b,hs,hb,hl⟩:=h0
   exact⟨(0,s,b),⟨jD _,hs,hb⟩,hl⟩
 · rintro⟨i,s,b⟩ ⟨hi,hs,hb⟩
   simp only at hi hs hb ⊢
   rcases lB i l.length with hlt | hge
   · refine mT _ _ _ _ ?_ (FM mt hok (h1 i l[i] s b (eE hlt) hlt (by omega) (qS hlt) hs hb))
     rintro φ' st' ⟨s',b',h1',h2',h3'⟩
     exact⟨(i+1,s',b'),by simp only;omega,⟨by simp only;omega,h1',h2'⟩,h3'⟩
   · obtain rfl:i=l.length:=by omega
     refine gO.less (aZ0 b (acc l.length s) hb (fun e he=>(hw _ s hs e he).1) ⟨w,fun e he=>(hw _ s hs e he).2⟩ _) ?_
     refine mT _ _ _ _ ?_ (FM mt hok (h2 s b (by omega) hs))
     exact fun _ _ h=>h.elim
section
variable {P:Program}
def PL(ops:Array Oper)(S:List Nat)(j:Nat):Bool:=S.all fun i=>tZ ops ops.size j i
def B1(P:Program)(ops:Array Oper)(S:List Nat)(s0:aB)(K:AF→aB→Prop):Nat→Array Bool→AF→aB→Prop
 | 0,listed,φ,st=>Region.ready .any ops listed= []∧K φ st
 | f+1,listed,φ,st=>(Region.ready .any ops listed= []→K φ st)∧∀i∈Region.ready .any ops listed,∃o,ops[i]?=some o ∧
  ((S.contains i=true∧∃r,jW P st ops o r φ∧B1 P ops S s0 K f (listed.setIfInBounds i true) (φ.put o.dst r) st) ∨
   (S.contains i=false∧jV P ops o φ st (fun r st'=>(PL ops S i=true∨fW s0 st')∧B1 P ops S s0 K f (listed.setIfInBounds i true) (φ.put o.dst r) st')))
theorem NY{ops:Array Oper}{S:List Nat}{s0:aB}{K:AF→aB→Prop}:∀(f:Nat) (listed:Array Bool) (φ:AF) (st:aB),B1 P ops S s0 K f listed φ st→JC P ops K f listed φ st
 | 0,_,_,_,h=>h
 | f+1,listed,φ,st,h=>by
  refine⟨h.1,fun i hi=>?_⟩
  obtain⟨o,ho,h2⟩:=h.2 i hi
  refine⟨o,ho,?_⟩
  rcases h2 with ⟨_,r,y,k⟩ | ⟨_,k⟩
  · exact UY y (NY f _ _ _ k)
  · exact xE (fun r s q=>NY f _ _ _ q.2) k
theorem aPM{ops:Array Oper}{S:List Nat}{s0:aB}{i:Nat}{oi:Oper}{v:AV}{K:AF→aB→Prop}(hi:ops[i]?=some oi)(hS:S.contains i=true) :
 ∀(f:Nat) (listed:Array Bool) (φ:AF) (st:aB),wU ops listed →
  (∀j oj,ops[j]?=some oj→j≠i→listed.getD j true=false→(∀e∈oj.after,Region.binds .any e=true→e.on≠i)→oi.apart ops oj=true) →
  i∈Region.ready .any ops listed→(∀s,fW s0 s→jW P s ops oi v φ)→fW s0 st →
  B1 P ops S s0 K f (listed.setIfInBounds i true) (φ.put oi.dst v) st→B1 P ops S s0 K (f+1) listed φ st:=by
 intro f
 induction f with
 | zero=>
  intro listed φ st hcl _ hr hy hx H
  refine⟨fun h=>(by rw[h] at hr;cases hr),fun j hj=>?_⟩
  by_cases hji:j=i
  · subst hji;exact⟨oi,hi,.inl ⟨hS,v,hy st hx,H⟩⟩
  · have:=ready_mono hj hji
    rw[H.1] at this
    cases this
 | succ f ih=>
  intro listed φ st hcl qC hr hy hx H
  refine⟨fun h=>(by rw[h] at hr;cases hr),fun j hj=>?_⟩
  by_cases hji:j=i
  · subst hji;exact⟨oi,hi,.inl ⟨hS,v,hy st hx,H⟩⟩
  · obtain⟨oj,hoj,h1⟩:=H.2 j (ready_mono hj hji)
    obtain⟨pG,oj',AD,dX⟩:=mem_ready.1 hj
    have:oj'=oj:=nK (AD.symm.trans hoj)
    subst this
    have hun:=(mem_ready.1 hr).1
    have sR:∀e∈oj'.after,Region.binds .any e=true→e.on≠i:=fun e he hb heq=>by
     have h1:=dX e he hb
     rw[heq,getD_both hun] at h1
     cases h1
    obtain⟨a1,a2,a3⟩:=Oper.apart_spec (qC j oj' hoj hji pG sR)
    have uD:∀k ok,ops[k]?=some ok→k≠i→(listed.setIfInBounds j true).getD k true=false →
     (∀e∈ok.after,Region.binds .any e=true→e.on≠i)→oi.apart ops ok=true:=fun k ok hk hki hun hno=>by
     refine qC k ok hk hki ?_ hno
     by_cases hjk:j=k
     · subst hjk;exact pG
     · rw[getD_set_ne true hjk] at hun;exact hun
    refine⟨oj',hoj,?_⟩
    rcases h1 with ⟨hSj,r,yj,h2⟩ | ⟨hSj,h2⟩
    · refine .inl ⟨hSj,r,(pX φ v a1).1 yj,ih (listed.setIfInBounds j true) (φ.put oj'.dst r) st (hcl.set hj) uD (ready_mono hr (dD hji)) (fun s hs=>(pX φ r a3).2 (hy s hs)) hx ?_⟩
      rw[BO _ _ hji,←put_comm φ v r a2]
      exact h2
    · refine .inr ⟨hSj,xE (fun r st' h3=>?_) ((N2 φ v a1).1 h2)⟩
      refine⟨h3.1,?_⟩
      have hx':fW s0 st':=by
       rcases h3.1 with he | he
       · exfalso
         unfold PL at he
         have hd:=dW.1 he i (by simpa using hS)
         exact J7 hcl (getD_both hun) _ j oj' hoj hd dX
       · exact he
      refine ih (listed.setIfInBounds j true) (φ.put oj'.dst r) st' (hcl.set hj) uD (ready_mono hr (dD hji)) (fun s hs=>(pX φ r a3).2 (hy s hs)) hx' ?_
      rw[BO _ _ hji,←put_comm φ v r a2]
      exact h3.2
def sX(ops:Array Oper)(S:List Nat):List (Nat×Nat)→Array Bool→Bool
 | [],listed=>(Region.ready .any ops listed).isEmpty
 | (i,0)::r,listed=>decide (Region.ready .any ops listed= [i])&& !S.contains i&&sX ops S r (listed.setIfInBounds i true)
 | (i,1)::r,listed=>(Region.ready .any ops listed).contains i&&Region.free .any ops listed i&&S.contains i&&sX ops S r (listed.setIfInBounds i true)
 | (i,_)::r,listed=>decide (Region.ready .any ops listed= [i])&& !S.contains i&&PL ops S i&&sX ops S r (listed.setIfInBounds i true)
def B7(P:Program)(ops:Array Oper)(s0:aB)(K:AF→aB→Prop):List (Nat×Nat)→AF→aB→Prop
 | [],φ,st=>K φ st
 | (i,0)::r,φ,st=>∃o,ops[i]?=some o∧jV P ops o φ st (fun v st'=>fW s0 st'∧B7 P ops s0 K r (φ.put o.dst v) st')
 | (i,1)::r,φ,st=>∃o,ops[i]?=some o∧∃v,(∀s,fW s0 s→jW P s ops o v φ)∧B7 P ops s0 K r (φ.put o.dst v) st
 | (i,_)::r,φ,st=>∃o,ops[i]?=some o∧jV P ops o φ st (fun v st'=>B7 P ops s0 K r (φ.put o.dst v) st')
def DP:List (Nat×Nat)→Bool
 | []=>true
 | (_,0)::r=>DP r
 | (_,1)::r=>DP r
 | (_,_)::r=>r.all fun p=>p.2 != 1
theorem JF{ops:Array Oper}{S:List Nat}{s0:aB}{K:AF→aB→Prop}:∀(p:List (Nat×Nat)) (listed:Array Bool) (φ:AF) (st:aB),wU ops listed→sX ops S p listed=true→(DP p=true∧fW s0 st∨(p.all fun q=>q.2 != 1)=true)→B7 P ops s0 K p φ st→B1 P ops S s0 K p.length listed φ st
 | [],listed,φ,st,_,hB,hx,h=>⟨by simpa [sX] using hB,h⟩
 | (i,0)::r,listed,φ,st,hcl,hB,hx,h=>by
  simp only[sX,cA,bJ,kQ] at hB
  obtain⟨o,ho,h'⟩:=h
  have hr:i∈Region.ready .any ops listed:=by rw[hB.1.1];simp
  refine⟨fun h0=>(by rw[hB.1.1] at h0;cases h0),fun j hj=>?_⟩
  rw[hB.1.1] at hj
  obtain rfl:j=i:=by simpa using hj
  refine⟨o,ho,.inr ⟨hB.1.2,xE (fun v st' q=>⟨.inr q.1,JF r _ _ _ (hcl.set hr) hB.2 ?_ q.2⟩) h'⟩⟩
  rcases hx with hx | hx
  · exact .inl ⟨hx.1,q.1⟩
  · refine .inr ?_
    simp only[kJ,cA] at hx
    exact hx.2
 | (i,1)::r,listed,φ,st,hcl,hB,hx,h=>by
  simp only[sX,cA] at hB
  obtain⟨⟨⟨hr,hf⟩,hS⟩,hB'⟩:=hB
  obtain⟨o,ho,v,hv,h'⟩:=h
  have hr':i∈Region.ready .any ops listed:=by simpa using hr
  rcases hx with hx | hx
  · exact aPM ho hS _ listed φ st hcl (Region.free_spec ho hf) hr' hv hx.2 (JF r _ _ _ (hcl.set hr') hB' (.inl hx) h')
  · simp at hx
 | (i,k+2)::r,listed,φ,st,hcl,hB,hx,h=>by
  simp only[sX,cA,bJ,kQ] at hB
  obtain⟨o,ho,h'⟩:=h
  have hr:i∈Region.ready .any ops listed:=by rw[hB.1.1.1];simp
  refine⟨fun h0=>(by rw[hB.1.1.1] at h0;cases h0),fun j hj=>?_⟩
  rw[hB.1.1.1] at hj
  obtain rfl:j=i:=by simpa using hj
  refine⟨o,ho,.inr ⟨hB.1.1.2,xE (fun v st' q=>⟨.inl hB.1.2,JF r _ _ _ (hcl.set hr) hB.2 (.inr ?_) q⟩) h'⟩⟩
  rcases hx with hx | hx
  · exact hx.1
  · simp only[kJ,cA] at hx
    exact hx.2
theorem aQP{N:Nat}{id:Nat}{ops:Array Oper}{Q:Exit→AF→aB→Prop}{φ:AF}{st:aB}(p:List (Nat×Nat))(S:List Nat)(s0:aB)(hm:P.follows .mixedOrders=true)(hok:qL N ops=true)(hl:p.length=ops.size)(hB:sX ops S p (Array.replicate ops.size false)=true)(hf:DP p=true)(hs:fW s0 st)
 (h:B7 P ops s0 (Q .normal) p φ st):gO P N (.region id ops true) Q φ st:=by
 intro a w R
 refine wp_region_any hm ?_
 have R0:Rel N a { w with drawn:=w.drawn+1 } φ st:=⟨R.size,R.defers,R.frame,R.store⟩
 have:=NY _ _ _ _ (JF p _ φ st (fun j o _ hl=>(by rw[aJC] at hl;cases hl)) hB (.inl ⟨hf,hs⟩) h)
 rw[hl] at this
 exact NV (AX hok) (x8 hok) (w0:=w) (st0:=st) (fun φ' st' a' w' k R' T s=>⟨φ',st',R',T,s,k⟩) _ _ _ _ _ _ this R0 (cB.refl _ _) ⟨rfl,rfl,rfl⟩
def jO(P:Program)(ops:Array Oper)(s0:aB)(K:AF→aB→Prop):List (Nat×Nat)→AF→aB→Prop
 | [],φ,st=>K φ st
 | (i,0)::r,φ,st=>match ops[i]? with
  | none=>False
  | some o=>bE P [] ops [o] (fun φ' st'=>fW s0 st'∧jO P ops s0 K r φ' st') φ st
 | (i,1)::r,φ,st=>match ops[i]? with
  | none=>False
  | some o=>if kH o=true then bE P [] ops [o] (fun φ' _=>jO P ops s0 K r φ' st) φ s0 else
   match o.guard,o.op with
   | none,.call { callee:=.value f,args,.. }=>∃v,(∀s,fW s0 s→sD P (φ.eval f) (args.toList.map φ.eval) s (fun r' s'=>r'=v∧s'=s))∧jO P ops s0 K r (φ.put o.dst v) st
   | _,_=>False
 | (i,_)::r,φ,st=>match ops[i]? with
  | none=>False
  | some o=>bE P [] ops [o] (fun φ' st'=>jO P ops s0 K r φ' st') φ st
theorem xD{ops:Array Oper}{s0:aB}{K:AF→aB→Prop}:∀(p:List (Nat×Nat)) (φ:AF) (st:aB),jO P ops s0 K p φ st→B7 P ops s0 K p φ st
 | [],_,_,h=>h
 | (i,0)::r,φ,st,h=>by
  simp only[jO] at h
  split at h
  · exact h.elim
  · rename_i o ho
    refine⟨o,ho,?_⟩
    simp only[bE] at h
    unfold jV
    split at h
    · rename_i hg
      rw[hg]
      exact B9 (fun v s q=>⟨q.1,xD r _ _ q.2⟩) h
    · rename_i hg
      rw[hg]
      exact⟨h.1,xD r _ _ h.2⟩
    · exact h.elim
 | (i,1)::r,φ,st,h=>by
  simp only[jO] at h
  split at h
  · exact h.elim
  · rename_i o ho
    split at h
    · rename_i hp
      simp only[bE] at h
      split at h
      · rename_i hg
        rw[sA hp] at h
        split at h
        · rename_i v hv
          refine⟨o,ho,v,fun s hs=>.inl ⟨hg,?_⟩,xD r _ _ h⟩
          rw[sA hp,UW hs hv]
          exact⟨rfl,rfl⟩
        · exact h.elim
      · rename_i hg
        exact⟨o,ho,.undef,fun s _=>.inr ⟨hg,rfl⟩,xD r _ _ h⟩
      · exact h.elim
    · split at h
      · rename_i f args ats hg hop
        obtain⟨v,h1,h2⟩:=h
        refine⟨o,ho,v,fun s hs=>.inl ⟨by simp only[jF,hg],?_⟩,xD r _ _ h2⟩
        simp only[fH,hop]
        exact h1 s hs
      · exact h.elim
 | (i,k+2)::r,φ,st,h=>by
  simp only[jO] at h
  split at h
  · exact h.elim
  · rename_i o ho
    refine⟨o,ho,?_⟩
    simp only[bE] at h
    unfold jV
    split at h
    · rename_i hg
      rw[hg]
      exact B9 (fun v s q=>xD r _ _ q) h
    · rename_i hg
      rw[hg]
      exact xD r _ _ h
    · exact h.elim
end
def RY(P:Program)(ops:Array Oper)(s0:aB)(K:AF→aB→Prop)(r:List (Nat×Nat))(φ:AF)(st:aB):Prop:=fW s0 st∧jO P ops s0 K r φ st
def RW(P:Program)(ops:Array Oper)(s0:aB)(K:AF→aB→Prop)(r:List (Nat×Nat))(φ:AF)(st:aB):Prop:=jO P ops s0 K r φ st
def RV(P:Program)(ops:Array Oper)(s0:aB)(K:AF→aB→Prop)(r:List (Nat×Nat))(st:aB)(φ:AF)(_:aB):Prop:=jO P ops s0 K r φ st
def RU(P:Program)(ops:Array Oper)(s0:aB)(K:AF→aB→Prop)(r:List (Nat×Nat))(φ:AF)(dst:Option Tmp)(st:aB)(v:AV):Prop:=jO P ops s0 K r (φ.put dst v) st
def FY(P:Program)(s0:aB)(f:AV)(args:List AV)(K:AV→Prop):Prop:=∃v,(∀s,fW s0 s→sD P f args s (fun r' s'=>r'=v∧s'=s))∧K v
theorem XM{P:Program}{s0:aB}{g:FuncId}{args:List AV}{r:AV}{K:AV→Prop}(x:∀st,fW s0 st→aD P g args st (fun r' st'=>r'=r∧st'=st))(h:K r):FY P s0 (.func g []) args K:=⟨r,fun st hs=>by show aD P g (args++ []) st _;rw[g9];exact x st hs,h⟩
@[congr] theorem a6E {P:Program} {s0:aB} {f f':AV} {args args':List AV} {K:AV→Prop} (h0:f=f') (h1:args=args'):FY P s0 f args K=FY P s0 f' args' K:=by rw[h0,h1]
def D2(P:Program)(ops:Array Oper)(s0:aB)(K:AF→aB→Prop)(r:List (Nat×Nat))(φ:AF)(st:aB):Nat→Option Oper→Prop
 | 0,some o=>bE P [] ops [o] (RY P ops s0 K r) φ st
 | 1,some o=>if kH o=true then bE P [] ops [o] (RV P ops s0 K r st) φ s0 else
  match o.guard,o.op with
  | none,.call { callee:=.value f,args,.. }=>FY P s0 (φ.eval f) (args.toList.map φ.eval) (RU P ops s0 K r φ o.dst st)
  | _,_=>False
 | _,some o=>bE P [] ops [o] (RW P ops s0 K r) φ st
 | _,none=>False
theorem aEV{P:Program}{ops:Array Oper}{s0:aB}{K:AF→aB→Prop}{φ:AF}{st:aB}:jO P ops s0 K [] φ st=K φ st:=rfl
theorem aEW{P:Program}{l:List Oper}{s0:aB}{K:AF→aB→Prop}{φ:AF}{st:aB}{i b:Nat}{r:List (Nat×Nat)}:jO P l.toArray s0 K ((i,b)::r) φ st=D2 P l.toArray s0 K r φ st b l[i]?:=by
 match b with
 | 0=>simp only[jO,yX];cases l[i]?<;>rfl
 | 1=>simp only[jO,yX];cases l[i]?<;>rfl
 | b+2=>simp only[jO,yX];cases l[i]?<;>rfl
theorem aE1{P:Program}{ops:Array Oper}{s0:aB}{K:AF→aB→Prop}{φ:AF}{st:aB}{r:List (Nat×Nat)}{o:Oper}:D2 P ops s0 K r φ st 0 (some o)=bE P [] ops [o] (RY P ops s0 K r) φ st:=rfl
theorem aE2{P:Program}{ops:Array Oper}{s0:aB}{K:AF→aB→Prop}{φ:AF}{st:aB}{r:List (Nat×Nat)}{o:Oper}:D2 P ops s0 K r φ st 1 (some o)=if kH o=true then bE P [] ops [o] (RV P ops s0 K r st) φ s0 else
      match o.guard,o.op with
      | none,.call { callee:=.value f,args,.. }=>FY P s0 (φ.eval f) (args.toList.map φ.eval) (RU P ops s0 K r φ o.dst st)
      | _,_=>False:=rfl
theorem aE3{P:Program}{ops:Array Oper}{s0:aB}{K:AF→aB→Prop}{φ:AF}{st:aB}{r:List (Nat×Nat)}{o:Oper}:D2 P ops s0 K r φ st 2 (some o)=bE P [] ops [o] (RW P ops s0 K r) φ st:=rfl
theorem aE0{P:Program}{ops:Array Oper}{s0:aB}{K:AF→aB→Prop}{φ:AF}{st:aB}{r:List (Nat×Nat)}:RY P ops s0 K r φ st=(fW s0 st∧jO P ops s0 K r φ st):=rfl
theorem aEZ{P:Program}{ops:Array Oper}{s0:aB}{K:AF→aB→Prop}{φ:AF}{st:aB}{r:List (Nat×Nat)}:RW P ops s0 K r φ st=jO P ops s0 K r φ st:=rfl
theorem aEY{P:Program}{ops:Array Oper}{s0:aB}{K:AF→aB→Prop}{φ:AF}{st s:aB}{r:List (Nat×Nat)}:RV P ops s0 K r st φ s=jO P ops s0 K r φ st:=rfl
theorem aEX{P:Program}{ops:Array Oper}{s0:aB}{K:AF→aB→Prop}{φ:AF}{st:aB}{r:List (Nat×Nat)}{dst:Option Tmp}{v:AV}:RU P ops s0 K r φ dst st v=jO P ops s0 K r (φ.put dst v) st:=rfl
@[congr] theorem a6A {P:Program} {ops:Array Oper} {s0:aB} {K:AF→aB→Prop} {p:List (Nat×Nat)} {φ φ':AF} {st st':aB} (h1:φ=φ') (h2:st=st'):jO P ops s0 K p φ st=jO P ops s0 K p φ' st':=by rw[h1,h2]
@[congr] theorem a6O {P:Program} {ops:Array Oper} {s0:aB} {K:AF→aB→Prop} {p:List (Nat×Nat)} {φ φ':AF} {st st':aB} {b:Nat} {o o':Option Oper} (h1:φ=φ') (h2:st=st') (h3:o=o'):D2 P ops s0 K p φ st b o=D2 P ops s0 K p φ' st' b o':=by rw[h1,h2,h3]
theorem ET{P:Program}{N:Nat}{id:Nat}{l:List Oper}{Q:Exit→AF→aB→Prop}{φ:AF}{st:aB}(p:List (Nat×Nat))(S:List Nat)(s0:aB)(hm:P.follows .mixedOrders=true)(hok:qL N l.toArray=true)(hl:p.length=l.length)(hB:sX l.toArray S p (Array.replicate l.length false)=true)(hf:DP p=true)(hs:fW s0 st)
 (h:jO P l.toArray s0 (Q .normal) p φ st):gO P N (.region id l.toArray true) Q φ st:=
 aQP p S s0 hm hok (by simpa using hl) (by simpa using hB) hf hs (xD p φ st h)
def aL4(K:AV→aB→Prop)(st:aB):Option AV→Option AV→Prop
 | some r,some s=>kP [r,s]=true∧K (.tup [r,s]) st
 | _,_=>False
theorem aFJ{P:Program}{φ:AF}{st:aB}{p q:Tmp}{t u:TypeId}{K:AV→aB→Prop}:nC P [.cell p t,.cell q u] K φ st=aL4 K st (g8 P st t (φ p)) (g8 P st u (φ q)):=by
 simp only[nC,pW,B8]
 cases g8 P st t (φ p)<;>cases g8 P st u (φ q)<;>rfl
theorem aFK{st:aB}{K:AV→aB→Prop}{r s:AV}:aL4 K st (some r) (some s)=(kP [r,s]=true∧K (.tup [r,s]) st):=rfl
def one(b:Nat)(o:AO):aB:=eH.aC b o
theorem wB{b:Nat}{o:AO}:one b o b=some o:=aB.aP _ _ _
theorem iF{b:Nat}{o:AO}{st:aB}(h:st b=some o):fW (one b o) st:=fun x p hx=>by
 simp only[one,aB.aC] at hx
 split at hx
 · rename_i e;cases hx;rw[e];exact h
 · cases hx
theorem eT{st:aB}:fW eH st:=fun x p hx=>by cases hx
section
variable {α:Type}
def lU(f:α→α→Bool):List α→List α→Bool
 | [],[]=>true
 | x::xs,y::ys=>f x y&&lU f xs ys
 | _,_=>false
theorem PJ(f:α→α→Bool):∀ {a b:List α},a.length≠b.length→lU f a b=false
 | [],[],h=>absurd rfl h
 | [],_::_,_=>rfl
 | _::_,[],_=>rfl
 | x::xs,y::ys,h=>by simp only[lU,PJ f (a:=xs) (b:=ys) (by simpa using h),tJ]
theorem PH(f:α→α→Bool):∀ {a b:List α} (i:Nat) (x y:α),a[i]?=some x→b[i]?=some y→f x y=false→lU f a b=false
 | [],_,i,x,y,h,_,_=>by simp at h
 | _::_,[],i,x,y,_,h,_=>by simp at h
 | t::ts,t'::ts',0,x,y,h1,h2,h=>by
  simp at h1 h2;subst h1;subst h2
  simp only[lU,h,gK]
 | t::ts,t'::ts',i+1,x,y,h1,h2,h=>by
  simp only[lU,PH f (a:=ts) (b:=ts') i x y (by simpa using h1) (by simpa using h2) h,tJ]
theorem PG(f:α→α→Bool):∀ {a b:List α},a.length=b.length→(∀(i:Nat) (x y:α),a[i]?=some x→b[i]?=some y→f x y=true)→lU f a b=true
 | [],[],_,_=>rfl
 | t::ts,t'::ts',h,g=>by
  simp only[lU,cA]
  exact⟨g 0 t t' rfl rfl,PG f (by simpa using h) fun i x y h1 h2=>g (i+1) x y (by simpa using h1) (by simpa using h2)⟩
theorem PI{f:α→α→Bool}:∀ {a b:List α},(∀x∈a,∀y,f x y=true↔x=y)→(lU f a b=true↔a=b)
 | [],[],_=>by simp [lU]
 | [],_::_,_=>by simp [lU]
 | _::_,[],_=>by simp [lU]
 | x::xs,y::ys,h=>by
  simp only[lU,cA,List.cons.injEq,h x (by simp) y,PI (a:=xs) (b:=ys) fun z hz=>h z (by simp [hz])]
def bF(f:α→Nat):List α→Nat
 | []=>0
 | x::xs=>f x+bF f xs
theorem HW(f:α→Nat):∀ {l:List α} {i:Nat} {x:α},l[i]?=some x→bF f (l.take (i+1))=bF f (l.take i)+f x∧bF f (l.take (i+1))≤bF f l
 | [],i,x,h=>by simp at h
 | y::ys,0,x,h=>by simp at h;subst h;simp [bF]
 | y::ys,i+1,x,h=>by
  have:=HW f (l:=ys) (i:=i) (x:=x) (by simpa using h)
  simp only[uT,bF] at this ⊢
  omega
theorem HV{f:α→Nat}:∀ {l:List α} {x:α},x∈l→f x≤bF f l
 | y::ys,x,h=>by
  simp only[cX] at h
  simp only[bF]
  rcases h with rfl | h
  · omega
  · have:=HV (f:=f) h;omega
theorem bM{P:Program}{t:TypeId}{ag:Bool}{w:Nat}{av:α→AV}{l:List α}{i:Nat}{x:α}(hI:eI P t=some (ag,w))(h:l[i]?=some x)(hw:(av x).width=w):dF P t (.slice (l.map av)) (.int .i64 (i:Int))=some (.pptr (av x)):=by
 simp only[dF,hI,kR,mW,h,n0,hw]
 simp
theorem aV0{av:α→AV}{w:Nat}(hw:∀x,(av x).width=w)(l:List α):gZ (l.map av):=⟨w,by intro e h;simp only[cS] at h;obtain⟨t,_,rfl⟩:=h;exact hw t⟩
theorem aKX(zs:List AV)(hz:zs≠[])(n:Nat):jS zs n=(List.replicate n zs).flatten:=by
 have hl:0<zs.length:=by cases zs with | nil=>exact absurd rfl hz | cons=>simp
 apply IZ
 intro i
 unfold jS
 induction n generalizing i with
 | zero=>simp
 | succ n ih=>
  rw[List.replicate_succ,List.flatten_cons]
  rcases lB i zs.length with h | h
  · rw[T6 h]
    have:i<(n+1)*zs.length:=by rw[qV];omega
    simp [this,Nat.mod_eq_of_lt h,h]
  · rw[T7 h,←ih]
    have e1:i % zs.length=(i - zs.length) % zs.length:=by rw[Nat.mod_eq_sub_mod h]
    simp only[mW]
    by_cases h2:i - zs.length<n*zs.length
    · have h3:i<(n+1)*zs.length:=by rw[qV];omega
      simp [h2,h3,e1]
    · have h3:¬i<(n+1)*zs.length:=by rw[qV];omega
      simp [h2,h3]
end
theorem A7{zs:List AV}{x:List AV}{w:Nat}(h1:x.length=w)(h2:zs.length=w):aK zs 0 x=x:=by
 unfold aK
 simp [h1,h2]
theorem eK{x:AV}(h:x.isAgg=true):AV.agg x.cells=x:=by cases x<;>simp [AV.isAgg] at h<;>rfl
theorem eO{x:List AV}{w:Nat}(h:x.length=w):x.take w=x:=by rw[←h];exact eS
inductive Tm where
 | mk (kind n:Int) (name:ByteArray) (kids:List Tm)
mutual
def Tm.av:Tm→AV
 | .mk k n s ts=>.agg [.int .i64 k,.int .i64 n,.str s,.slice (MJ ts)]
def MJ:List Tm→List AV
 | []=>[]
 | t::ts=>t.av::MJ ts
end
theorem aN3:∀(ts:List Tm),MJ ts=ts.map Tm.av
 | []=>rfl
 | t::ts=>by simp only[MJ,bA,aN3 ts]
theorem aV(k n:Int)(s:ByteArray)(ts:List Tm):(Tm.mk k n s ts).av=.agg [.int .i64 k,.int .i64 n,.str s,.slice (ts.map Tm.av)]:=by simp only[Tm.av,aN3]
mutual
def Tm.same:Tm→Tm→Bool
 | .mk k n s ts,.mk k' n' s' ts'=>decide (k=k')&&decide (n=n')&&decide (s=s')&&MR ts ts'
def MR:List Tm→List Tm→Bool
 | [],[]=>true
 | t::ts,t'::ts'=>t.same t'&&MR ts ts'
 | _,_=>false
end
theorem aOA:∀(a b:List Tm),MR a b=lU Tm.same a b
 | [],[]=>rfl
 | [],_::_=>rfl
 | _::_,[]=>rfl
 | t::ts,t'::ts'=>by simp only[MR,lU,aOA ts ts']
theorem Tm.SG(k n:Int)(s:ByteArray)(ts:List Tm)(k' n':Int)(s':ByteArray)(ts':List Tm):(Tm.mk k n s ts).same (Tm.mk k' n' s' ts')=(decide (k=k')&&decide (n=n')&&decide (s=s')&&lU Tm.same ts ts'):=by simp only[Tm.same,aOA]
theorem Tm.HQ:∀(a b:Tm),a.same b=true↔a=b
 | .mk k n s ts,.mk k' n' s' ts'=>by
  have:=PI (f:=Tm.same) (a:=ts) (b:=ts') fun x hx y=>Tm.HQ x y
  simp only[Tm.SG,cA,bJ,Tm.mk.injEq,and_assoc,this]
termination_by a=>SizeOf.sizeOf a
decreasing_by have:=List.sizeOf_lt_of_mem hx;simp only[Tm.mk.sizeOf_spec];omega
theorem aT(t:Tm):t.av.isAgg=true:=by cases t;rfl
theorem aJ(t:Tm):t.av.width=4:=by cases t;rfl
theorem bY(t:Tm):t.av.cells.length=4:=by cases t;rfl
theorem cC(t:Tm):t.av.cells.all AV.storable=true:=by cases t;rfl
theorem cG(t:Tm):t.av.cF=false:=by cases t;rfl
theorem aHB{t:Tm}:t.av.isAgg=true:=aT t
theorem aHK{t:Tm}:t.av.width=4:=aJ t
theorem aHI{t:Tm}:t.av.cells.all AV.storable=true:=cC t
theorem aHE{t:Tm}:t.av.cF=false:=cG t
theorem aHF{t:Tm}:t.av.cells.length=4:=bY t
theorem aHJ{t:Tm}:t.av.cells.take 4=t.av.cells:=eO (bY t)
theorem aHC{t:Tm}:AV.agg t.av.cells=t.av:=eK (aT t)
theorem aHG{t:Tm}{a b c d:AV}:aK [a,b,c,d] 0 t.av.cells=t.av.cells:=A7 (bY t) rfl
theorem aHH{t u:Tm}:aK u.av.cells 0 t.av.cells=t.av.cells:=A7 (bY t) (bY u)
theorem aG3{st:aB}{b:Nat}{o o':AO}:(st.aC b o).aC b o'=st.aC b o':=dC st b o o'
theorem aG2{st:aB}{b:Nat}{o:AO}:(st.aC b o) b=some o:=aB.aP st b o
theorem aG1{st:aB}{b x:Nat}{o:AO}(h:x≠b):(st.aC b o) x=st x:=aB.aL st o h
theorem aHD{t:Tm}:t.av.cells.drop 4= []:=List.drop_of_length_le (by rw[bY];exact c7 _)
inductive Pf where
 | mk (goal:Tm) (clause:Int) (kids:List Pf)
def aK5(k:Nat)(acc:List UInt8):List UInt8:=if k=0 then acc else aK5 (k / 10) (UInt8.ofNat (48+k % 10)::acc)
termination_by k
decreasing_by omega
def mt(k:Int):ByteArray:=if k≤0 then⟨#[109,48]⟩ else⟨(109::aK5 k.toNat []).toArray⟩
theorem a02{st:aB}{k n:Int}{s:ByteArray}{ts:List Tm}{o:AV}{bs:List Nat} :
 cK st (Tm.mk k n s ts).av o bs↔∃q,o=.agg [.int .i64 k,.int .i64 n,.str s,q]∧cK st (.slice (ts.map Tm.av)) q bs:=by
 rw[aV]
 generalize AV.slice (ts.map Tm.av)=x
 simp only[cK,cL]
 constructor
 · rintro⟨os,rfl,o1,os1,b1,b1',rfl,rfl,⟨rfl,rfl⟩,o2,os2,b2,b2',rfl,rfl,⟨rfl,rfl⟩,o3,os3,b3,b3',rfl,rfl,⟨rfl,rfl⟩,o4,os4,b4,b4',rfl,rfl,h,rfl,rfl⟩
   exact⟨o4,rfl,by simpa using h⟩
 · rintro⟨q,rfl,h⟩
   exact⟨_,rfl,_,_,[],bs,rfl,rfl,⟨rfl,rfl⟩,_,_,[],bs,rfl,rfl,⟨rfl,rfl⟩,_,_,[],bs,rfl,rfl,⟨rfl,rfl⟩,q,[],bs,[],rfl,by simp,h,rfl,rfl⟩
abbrev iv (n:Int):AV:=.int .i64 n
theorem aKR(l:List Int):∀e∈l.map iv,e.width=1:=by intro e h;simp only[cS] at h;obtain⟨t,_,rfl⟩:=h;rfl
def dQ(s:ByteArray):Nat:=
 cond (decide (s=⟨#[61]⟩)||decide (s=⟨#[92,61]⟩)||decide (s=⟨#[61,61]⟩)||decide (s=⟨#[60]⟩)||decide (s=⟨#[62]⟩)||decide (s=⟨#[61,60]⟩)||decide (s=⟨#[62,61]⟩)||decide (s=⟨#[61,58,61]⟩)||decide (s=⟨#[105,115]⟩)) 3 (cond (decide (s=⟨#[43]⟩)||decide (s=⟨#[45]⟩)) 2 (cond (decide (s=⟨#[42]⟩)||decide (s=⟨#[47,47]⟩)||decide (s=⟨#[109,111,100]⟩)) 1 0))
def isBuiltin(s:ByteArray)(n:Int):Bool:=
 cond (decide (s=⟨#[61]⟩)||decide (s=⟨#[92,61]⟩)||decide (s=⟨#[61,61]⟩)||decide (s=⟨#[60]⟩)||decide (s=⟨#[62]⟩)||decide (s=⟨#[61,60]⟩)||decide (s=⟨#[62,61]⟩)||decide (s=⟨#[61,58,61]⟩)||decide (s=⟨#[105,115]⟩)) (decide (n=2)) (cond (decide (s=⟨#[116,114,117,101]⟩)||decide (s=⟨#[102,97,105,108]⟩)) (decide (n=0)) (cond (decide (s=⟨#[118,97,114]⟩)||decide (s=⟨#[110,111,110,118,97,114]⟩)||decide (s=⟨#[97,116,111,109]⟩)||decide (s=⟨#[105,110,116]⟩)) (decide (n=1)) (cond (decide (s=⟨#[97,114,103]⟩)) (decide (n=3)) false)))
abbrev sb (s:ByteArray):List UInt8:=s.data.toList
theorem cM(s:ByteArray):(sb s).length=s.size:=by simp only[sb,Array.length_toList];rfl
theorem sS{P:Program}{t:TypeId}{s:ByteArray}{i:Nat}{c:UInt8}(hu:P.underlying t=some .string)(h:(sb s)[i]?=some c):B3 P t (.str s) (.int .i64 (i:Int))=some (.int .u8 (c.toNat:Int)):=by
 have hi:i<s.size:=by rw[←cM];exact(gP.1 h).1
 have:s[i]?=some c:=by
  rw[getElem?_pos s i hi]
  obtain⟨h1,h2⟩:=gP.1 h
  rw[←h2]
  try rfl
 simp only[B3,hu,kR,this]
 simp
def letter(c:UInt8):Bool:=decide (97≤c.toNat)&&decide (c.toNat≤122)
def sU(s:ByteArray):Bool:=(sb s).all letter&&(decide ((1:Int)≤(s.size:Int))&&decide ((s.size:Int)≤6))
theorem vA{α:Type}{p:α→Bool}{l:List α}{i:Nat}{x:α}(h:l[i]?=some x)(hp:p x=false):l.all p=false:=by
 rw[List.all_eq_false]
 exact⟨x,cP h,by simp [hp]⟩
theorem JI{α:Type}{p:α→Bool}{l:List α}(h:∀(i:Nat) x,l[i]?=some x→p x=true):l.all p=true:=by
 rw[dW]
 intro x hx
 obtain⟨i,hi⟩:=BS hx
 exact h i x hi
end Go.AW
