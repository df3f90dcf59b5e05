/- Loops whose frame is kept, lists that are walked, lists that grow. -/
import Derived.Test.YtimfffmcljmfgaaGreatDoorUye
set_option linter.unusedSimpArgs false
set_option linter.unusedVariables false
set_option maxRecDepth 100000
namespace Go.AW
def kF(φ:AF):List Nat→List (Nat×AV)→List (Nat×AV)
 | [],l=>l
 | d::ds,l=>(d,φ d)::kF φ ds l
theorem aCH{φ:AF}{l:List (Nat×AV)}:kF φ [] l=l:=rfl
theorem aCI{φ:AF}{d:Nat}{ds:List Nat}{l:List (Nat×AV)}:kF φ (d::ds) l=(d,φ d)::kF φ ds l:=rfl
theorem dL{P:Program}{N:Nat}{c:Code}{Q:Exit→AF→aA→Prop}{φ:AF}{st:aA}{α σ:Type}(mt:List Nat)(aU:List Nat)(l:List α)(inv:Nat→σ→Prop)(ch:Nat→σ→List (Nat×AV))(so:Nat→σ→aA)
 (hok:codeOk N c=true)
 (h0:∃s,inv 0 s∧aN φ st (kF φ aU (ch 0 s)) (so 0 s))
 (h1:∀i x s,l[i]?=some x→i<l.length→((i:Int)<(l.length:Int))→l.drop i=x::l.drop (i+1)→inv i s→fT P N mt c (oT (fun φ' st'=>∃s',inv (i+1) s'∧aN φ' st' (kF φ aU (ch (i+1) s')) (so (i+1) s')) Q) (vE (kF φ aU (ch i s))) (so i s))
 (h2:∀s,¬((l.length:Int)<(l.length:Int))→inv l.length s→fT P N mt c (oT (fun _ _=>False) Q) (vE (kF φ aU (ch l.length s))) (so l.length s)):fC P N (.loop c) Q φ st:=by
 have kP:∀(k:AF→aA→Prop) (i:Nat) (s:σ),(∀φ' st',(∃s',inv (i+1) s'∧aN φ' st' (kF φ aU (ch (i+1) s')) (so (i+1) s'))→k φ' st') →
  fC P N c (oT (fun φ' st'=>∃s',inv (i+1) s'∧aN φ' st' (kF φ aU (ch (i+1) s')) (so (i+1) s')) Q) (jQ (kF φ aU (ch i s))) (so i s) →
  fC P N c (oT k Q) (jQ (kF φ aU (ch i s))) (so i s):=by
  intro k i s hk hr a w R
  refine wp_mono (hr a w R) ?_
  rintro e a' w' ⟨φ',st',R',T,sm,q⟩
  refine⟨φ',st',R',T,sm,?_⟩
  cases e with
  | normal=>exact hk _ _ q
  | _=>exact q
 refine NL (α:=Nat×σ) (fun p=>p.1≤l.length∧inv p.1 p.2) (fun p=>jQ (kF φ aU (ch p.1 p.2))) (fun p=>so p.1 p.2) (fun p=>l.length - p.1) ?_ ?_
 · obtain⟨s,hs,hl⟩:=h0
   exact⟨(0,s),⟨nI _,hs⟩,hl⟩
 · rintro⟨i,s⟩ ⟨hi,hs⟩
   simp only at hi hs ⊢
   rcases lI i l.length with hlt | hge
   · refine kP _ i s ?_ (wQ mt hok (h1 i l[i] s (dZ hlt) hlt (by omega) (pE hlt) hs))
     rintro φ' st' ⟨s',h1',h2'⟩
     exact⟨(i+1,s'),by simp only;omega,⟨by simp only;omega,h1'⟩,h2'⟩
   · obtain rfl:i=l.length:=by omega
     intro a w R
     refine wp_mono (wQ mt hok (h2 s (by omega) hs) a w R) ?_
     rintro e a' w' ⟨φ',st',R',T,sm,q⟩
     refine⟨φ',st',R',T,sm,?_⟩
     cases e with
     | normal=>exact q.elim
     | _=>exact q
theorem pC{P:Program}{N:Nat}{c:Code}{Q:Exit→AF→aA→Prop}{φ:AF}{st:aA}{σ:Type}(mt:List Nat)(aU:List Nat)(inv:σ→Prop)(ch:σ→List (Nat×AV))(so:σ→aA)(μ:σ→Nat)
 (hok:codeOk N c=true)
 (h0:∃s,inv s∧aN φ st (kF φ aU (ch s)) (so s))
 (h1:∀s,inv s→fT P N mt c (oT (fun φ' st'=>∃s',μ s'<μ s∧inv s'∧aN φ' st' (kF φ aU (ch s')) (so s')) Q) (vE (kF φ aU (ch s))) (so s)):fC P N (.loop c) Q φ st:=
 n6 mt inv (fun s=>kF φ aU (ch s)) so μ hok h0 h1
theorem aT{b:Bool}{p q:Prop}(h1:b=true→p)(h2:b=false→q):(b=true→p)∧(b=false→q):=⟨h1,h2⟩
theorem aCN{P:Program}{t:TypeId}{s:ByteArray}:jZ P t (.str s)=match P.underlying t with | some .string=>some (.int .i64 s.size) | _=>none:=rfl
theorem aCM{P:Program}{t:TypeId}{es:List AV}:jZ P t (.slice es)=match P.underlying t with | some (.slice _)=>some (.int .i64 es.length) | _=>none:=rfl
theorem aCK{P:Program}{t:TypeId}{es:List AV}:jZ P t (.fslice es)=match P.underlying t with | some (.slice _)=>some (.int .i64 es.length) | _=>none:=rfl
theorem aCL{P:Program}{t:TypeId}{b o n w:Nat}:jZ P t (.mslice b o n w)=match P.underlying t with | some (.slice _)=>some (.int .i64 n) | _=>none:=rfl
def bS(w b:Nat):List AV→AV
 | []=>.fslice []
 | x::l=>.mslice b 0 (x::l).length w
def bV(st:aA)(b:Nat):List AV→aA
 | []=>st
 | x::l=>st.aC b (.cells ((x::l).flatMap AV.cells))
theorem lJ{w b:Nat}:bS w b []=.fslice []:=rfl
theorem EI{st:aA}{b:Nat}:bV st b []=st:=rfl
theorem oF{w b:Nat}{l:List AV}(h:l≠[]):bS w b l=.mslice b 0 l.length w:=by cases l<;>first | exact absurd rfl h | rfl
theorem j4{st:aA}{b:Nat}{l:List AV}(h:l≠[]):bV st b l=st.aC b (.cells (l.flatMap AV.cells)):=by cases l<;>first | exact absurd rfl h | rfl
theorem oE{st:aA}{b x:Nat}{l:List AV}(h:x≠b):bV st b l x=st x:=by cases l<;>first | rfl | exact aA.aF _ _ h
theorem H2{st:aA}{b x:Nat}{l:List AV}(h:bV st b l x=none):st x=none∧(l≠[]→x≠b):=by
 cases l with
 | nil=>exact⟨h,fun h=>absurd rfl h⟩
 | cons y l=>
  simp only[bV,aA.aC] at h
  split at h
  · cases h
  · rename_i hn;exact⟨h,fun _=>hn⟩
theorem sF{w b:Nat}{l:List AV}:(bS w b l).cD=false:=by cases l<;>rfl
theorem qR{w b:Nat}{l:List AV}:(bS w b l).isAgg=false:=by cases l<;>rfl
theorem qS{w b:Nat}{l:List AV}:(bS w b l).cells= [bS w b l]:=by cases l<;>rfl
theorem j5{w b:Nat}{l:List AV}:(bS w b l).storable=true:=by cases l<;>rfl
theorem BN{P:Program}{t e:TypeId}{w b:Nat}{l:List AV}(h:P.underlying t=some (.slice e)):jZ P t (bS w b l)=some (.int .i64 (l.length:Int)):=by
 cases l<;>simp [bS,jZ,h]
theorem aM.bV{st st':aA}(x:aM st st'){b:Nat}{l:List AV}(h:l≠[]→st' b=none):aM (bV st b l) st':=by
 cases l with
 | nil=>exact x
 | cons y l=>exact x.aC (h (by simp))
theorem f9{P:Program}{t:TypeId}{ag:Bool}{w bytes:Nat}{zs:List AV}{st:aA}{b:Nat}{l xs:List AV}{x:AV}{K:AV→aA→Prop}
 (hI:eI P t=some (ag,w)) (hB:eB P t=some bytes) (hZ:eZ P t=some zs) (hz:zs.length=w) (hx:wJ x=some xs) (eL:uV w xs) (hw:∀e∈l,e.width=w) (hb:l≠[]→st b=none)
 (h1:(l.length+xs.length)*bytes≤140737488355328) (h2:l.length+xs.length≤9223372036854775807)
 (hK:∀b',(l++xs≠[]→st b'=none)→K (bS w b' (l++xs)) (bV st b' (l++xs))):iZ P t (bV st b l) (bS w b l) x K:=by
 unfold iZ
 rw[hI,hB,hZ,hx]
 refine⟨hz,eL,?_⟩
 cases l with
 | nil=>
  show _∧_∧_∧_∧_
  refine⟨by simpa using h1,by simpa using h2,by simp,?_,?_⟩
  · rintro rfl
    have:=hK b (by simp)
    simpa [bS,bV] using this
  · intro hne b' hb'
    have:=hK b' (fun _=>hb')
    rw[eU,oF hne,j4 hne] at this
    simpa [bV] using this
 | cons y l=>
  have hb:=hb (by simp)
  show w=w∧_∧_∧_
  refine⟨rfl,h1,h2,?_⟩
  have hfl:((y::l).flatMap AV.cells).length=(y::l).length*w:=lK hw
  simp only[bV,aA.aJ]
  refine⟨by rw[hfl];exact cO _,?_,?_⟩
  · have:=hK b (fun _=>hb)
    rw[oF (by simp),j4 (by simp),r7,dP] at this
    rw[eA,←hfl,dQ]
    exact this
  · intro b' hb'
    have hne:b'≠b:=by rintro rfl;rw[aA.aJ] at hb';cases hb'
    rw[aA.aF _ _ hne] at hb'
    have:=hK b' (fun _=>hb')
    rw[oF (by simp),j4 (by simp),r7,dP] at this
    rw[aA.yX _ _ _ hb,←hfl,dQ]
    exact this
def AV.fin(b:Nat)(l:List AV)(r:AV):AV:=if l.isEmpty=true then r.soft else(r.fz b l).soft
theorem nL{w b:Nat}{l:List AV}:(bS w b l).fin b l=.slice l:=by cases l<;>simp [bS,AV.fin,AV.fz,AV.soft]
theorem z8:∀cs:List AV,nX cs=cs.map AV.soft
 | []=>rfl
 | c::cs=>by simp [nX,z8 cs]
theorem y6{b:Nat}{l:List AV}:∀cs:List AV,j8 b l cs=cs.map (AV.fz b l)
 | []=>rfl
 | c::cs=>by simp [j8,y6 cs]
theorem iK{b:Nat}{l:List AV}{cs:List AV}:(AV.agg cs).fin b l=.agg (cs.map (AV.fin b l)):=by
 unfold AV.fin
 split
 · simp [AV.soft,z8]
 · simp [AV.fz,AV.soft,z8,y6]
theorem mH{b:Nat}{l:List AV}{cs:List AV}:(AV.tup cs).fin b l=.tup (cs.map (AV.fin b l)):=by
 unfold AV.fin
 split
 · simp [AV.soft,z8]
 · simp [AV.fz,AV.soft,z8,y6]
theorem f7{b:Nat}{l:List AV}{k:IntKind}{n:Int}:(AV.int k n).fin b l=.int k n:=by unfold AV.fin;split<;>rfl
theorem vC{b:Nat}{l:List AV}{n:Bool}:(AV.bool n).fin b l=.bool n:=by unfold AV.fin;split<;>rfl
theorem oL{b:Nat}{l:List AV}{s:ByteArray}:(AV.str s).fin b l=.str s:=by unfold AV.fin;split<;>rfl
theorem iL{b:Nat}{l:List AV}{s:List AV}:(AV.slice s).fin b l=.slice s:=by unfold AV.fin;split<;>rfl
theorem pR{b:Nat}{l:List AV}{s:List AV}:(AV.fslice s).fin b l=.slice s:=by unfold AV.fin;split<;>rfl
theorem CB{b:Nat}{l:List AV}{e:AV}:(AV.pptr e).fin b l=.pptr e:=by unfold AV.fin;split<;>rfl
theorem JN{b c o:Nat}{l:List AV}:(AV.ptr c o).fin b l=.ptr c o:=by unfold AV.fin;split<;>rfl
theorem aHO{b:Nat}{l:List AV}{g:FuncId}{cs:List AV}:(AV.func g cs).fin b l=.func g cs:=by unfold AV.fin;split<;>rfl
theorem aD.fin{P:Program}{g:FuncId}{args:List AV}{st:aA}{Q:AV→aA→Prop}
 (x:aD P g args st (fun r st'=>∃b l s0,st'=bV s0 b l∧(l≠[]→s0 b=none)∧(∀e∈l,e.cD=false)∧jG l∧Q (r.fin b l) s0)):aD P g args st Q:=
 x.kP fun r st' ⟨b,l,s0,h1,h0,h2,h3,h4⟩=>by
  cases l with
  | nil=>
   exact⟨r.fin b [],st',(aM.refl _).rX,fun h v S y=>y.soft,by have e:st'=s0:=h1;rw[e];exact h4⟩
  | cons e l=>
   have hb:=h0 (by simp)
   subst h1
   have h1:bV s0 b (e::l) b=some (.cells ((e::l).flatMap AV.cells)):=by simp only[bV,aA.aJ]
   have e1:(bV s0 b (e::l)).erase b=s0:=by simp only[bV];exact aA.yX _ _ _ hb
   refine⟨r.fin b (e::l),s0,?_,fun h v S y=>?_,h4⟩
   · have:=(jP (bV s0 b (e::l)) b).rX
     rwa [e1] at this
   · have:=y.fz S h1 h2 h3
     rw[e1] at this
     exact this.soft
mutual
def AV.fZ:AV→Bool
 | .slice _=>false
 | .fslice es=>es.isEmpty
 | .pptr _=>false
 | .agg cs=>lD cs
 | .tup vs=>lD vs
 | .func _ cs=>lD cs
 | _=>true
def lD:List AV→Bool
 | []=>true
 | a::as=>a.fZ&&lD as
end
def AO.fZ:AO→Prop
 | .cells cs=>lD cs=true
 | .map f=>∀n a,f n=some a→a.fZ=true
 | .tab _=>True
section
variable {h:bF} {st st':aA}
mutual
theorem VC.anyS:∀(a:AV) (cs:List Value),a.fZ=true→VC h st a cs→VC h st' a cs
 | .junk,_,_,x=>x
 | .undef,_,_,x=>x
 | .int _ _,_,_,x=>x
 | .bool _,_,_,x=>x
 | .str _,_,_,x=>x
 | .agg as,cs,s,x=>by simp only[VC] at x ⊢;exact aZ.anyS as cs (by simpa [AV.fZ] using s) x
 | .tup as,cs,s,x=>by
  simp only[VC] at x ⊢
  obtain⟨vs,e,r⟩:=x
  exact⟨vs,e,dJ.anyS as vs (by simpa [AV.fZ] using s) r⟩
 | .slice es,_,s,_=>by simp [AV.fZ] at s
 | .fslice es,cs,s,x=>by
  have he:es= []:=by simpa [AV.fZ] using s
  subst he
  unfold VC at x ⊢
  rcases x with x | ⟨b,off,e,_⟩
  · exact .inl x
  · exact .inl ⟨⟨_,e⟩,rfl⟩
 | .mslice b off len n,_,_,x=>x
 | .nilptr,_,_,x=>x
 | .ptr _ _,_,_,x=>x
 | .pptr e,_,s,_=>by simp [AV.fZ] at s
 | .nilmap,_,_,x=>x
 | .map _,_,_,x=>x
 | .func _ as,cs,s,x=>by
  simp only[VC] at x ⊢
  obtain⟨vs,e,r⟩:=x
  exact⟨vs,e,dJ.anyS as vs (by simpa [AV.fZ] using s) r⟩
 | .raw _,_,_,x=>x
 | .eslice,_,_,x=>x
theorem aZ.anyS:∀(as:List AV) (cs:List Value),lD as=true→aZ h st as cs→aZ h st' as cs
 | [],_,_,x=>x
 | a::as,cs,s,x=>by
  simp only[aZ] at x ⊢
  simp only[lD,cT] at s
  obtain⟨c,r,e,x1,x2⟩:=x
  exact⟨c,r,e,VC.anyS a [c] s.1 x1,aZ.anyS as r s.2 x2⟩
theorem dJ.anyS:∀(as:List AV) (cs:List Value),lD as=true→dJ h st as cs→dJ h st' as cs
 | [],_,_,x=>x
 | a::as,cs,s,x=>by
  simp only[dJ] at x ⊢
  simp only[lD,cT] at s
  obtain⟨v,r,e,x1,x2⟩:=x
  exact⟨v,r,e,⟨x1.1,VC.anyS a _ s.1 x1.2⟩,dJ.anyS as r s.2 x2⟩
end
theorem aQ.anyS{a:AV}{v:Value}(s:a.fZ=true)(x:aQ h st a v):aQ h st' a v:=by
 cases a<;>first | trivial | exact⟨x.1,VC.anyS _ _ s x.2⟩
theorem kL.anyS{b:Nat}:∀ {o:AO},o.fZ→kL h st b o→kL h st' b o
 | .cells as,s,x=>by
  obtain⟨c,t,e,l,vs,x1,x2⟩:=x
  exact⟨c,t,e,l,vs,x1,aZ.anyS as vs s x2⟩
 | .map f,s,x=>by
  obtain⟨es,cl,e,x1,x2,x3⟩:=x
  refine⟨es,cl,e,x1,x2,fun n=>?_⟩
  have:=x3 n
  split
  · rename_i a ha
    rw[ha] at this
    obtain⟨e,he,hk,hv⟩:=this
    exact⟨e,he,hk,hv.anyS (s n a ha)⟩
  · rename_i ha
    rw[ha] at this
    exact this
 | .tab cs,_,x=>x
end
def aA.frame(st s0 s1:aA):aA:=fun b=>match s0 b,st b with
 | none,some o=>some o
 | _,_=>s1 b
theorem aD.frame{P:Program}{g:FuncId}{args args':List AV}{st s0:aA}{Q:AV→aA→Prop}(D:aM st s0)
 (x:aD P g args s0 (fun r s1=>(∀b,s0 b=none→s1 b≠none→st b=none)→r.fZ=true∧(∀b o,s1 b=some o→o.fZ)∧Q r (st.frame s0 s1)))
 (hv:∀h vs,cI h st→cV h st args' vs→cV h s0 args vs):aD P g args' st Q:=by
 refine⟨x.1,fun w vs S V=>(x.2 w vs (D.GW S) (hv _ _ S V)).mono ?_⟩
 rintro _ w' ⟨v,r,s1,rfl,hr,S1,T,sm,q⟩
 have hfr:∀b,s0 b=none→s1 b≠none→st b=none:=fun b h0 h1=>by
  cases hb:st b with
  | none=>rfl
  | some o=>exact absurd (T.aU b (S b o hb).1 h0).2 h1
 obtain⟨hs,ho,hq⟩:=q hfr
 have T':bU w.heap st w'.heap (st.frame s0 s1):=by
  refine⟨T.size,fun b hb e=>?_,T.shape⟩
  obtain⟨k1,k2⟩:=T.aU b hb ((D b).1 e)
  exact⟨k1,by simp only[aA.frame,e,k2];split<;>first | rfl | (rename_i h;cases h)⟩
 refine⟨v,r,st.frame s0 s1,rfl,hr.anyS hs,fun b o hb=>?_,T',sm,hq⟩
 simp only[aA.frame] at hb
 split at hb
 · rename_i o' h0 h1
   cases hb
   obtain⟨l,y⟩:=S b _ h1
   exact⟨yI l T.size,kL.mono T' (T.aU b l h0).1 y⟩
 · obtain⟨l,y⟩:=S1 b o hb
   exact⟨l,y.anyS (ho b o hb)⟩
def dH:aA:=fun _=>none
theorem aM.dH(st:aA):aM st dH:=fun _=>⟨fun _=>rfl,fun _ h=>by cases h⟩
theorem aVD(st:aA):st.frame dH dH=st:=by
 funext b;simp only[aA.frame,dH];split
 · rename_i h;exact h.symm
 · rename_i h;cases hb:st b with
   | none=>rfl
   | some o=>exact absurd hb (h o rfl)
theorem aD.OP{P:Program}{g:FuncId}{args args':List AV}{st:aA}{r:AV}(hs:r.fZ=true)
 (x:aD P g args dH (fun r' s1=>r'=r∧s1=dH))
 (hv:∀h vs,cI h st→cV h st args' vs→cV h dH args vs):aD P g args' st (fun r' st'=>r'=r∧st'=st):=
 aD.frame (aM.dH st) (x.mono fun r' s1 ⟨e1,e2⟩ _=>⟨by rw[e1];exact hs,(by rw[e2];intro b o h;cases h),e1,by rw[e2,aVD]⟩) hv
mutual
def aV(st:aA):AV→AV→List Nat→Prop
 | .int k n,o,bs=>o=.int k n∧bs= []
 | .bool b,o,bs=>o=.bool b∧bs= []
 | .str s,o,bs=>o=.str s∧bs= []
 | .agg cs,o,bs=>∃os,o=.agg os∧aW st cs os bs
 | .slice es,o,bs=>(es= []∧o=.fslice []∧bs= [])∨∃b bs' os w,o=.mslice b 0 es.length w∧bs=b::bs'∧st b=some (.cells (os.flatMap AV.cells))∧aW st es os bs'∧(∀e∈es,e.width=w)
 | _,_,_=>False
def aW(st:aA):List AV→List AV→List Nat→Prop
 | [],os,bs=>os= []∧bs= []
 | a::as,os,bs=>∃o os' b1 b2,os=o::os'∧bs=b1++b2∧aV st a o b1∧aW st as os' b2
end
theorem aW.length{st:aA}:∀ {as os:List AV} {bs:List Nat},aW st as os bs→os.length=as.length
 | [],os,bs,x=>by simp only[aW] at x;simp [x.1]
 | a::as,os,bs,x=>by
  simp only[aW] at x
  obtain⟨o,os',b1,b2,rfl,rfl,_,x2⟩:=x
  simp [aW.length x2]
theorem aV.shape{st:aA}:∀ {a o:AV} {bs:List Nat},aV st a o bs→o.isAgg=a.isAgg∧o.width=a.width∧o.cD=false∧(∀cs,a=.agg cs→∃os,o=.agg os)
 | .int k n,o,bs,x=>by simp only[aV] at x;rw[x.1];exact⟨rfl,rfl,rfl,by simp⟩
 | .bool b,o,bs,x=>by simp only[aV] at x;rw[x.1];exact⟨rfl,rfl,rfl,by simp⟩
 | .str s,o,bs,x=>by simp only[aV] at x;rw[x.1];exact⟨rfl,rfl,rfl,by simp⟩
 | .agg cs,o,bs,x=>by
  simp only[aV] at x
  obtain⟨os,rfl,x⟩:=x
  exact⟨rfl,x.length,rfl,fun _ _=>⟨os,rfl⟩⟩
 | .slice es,o,bs,x=>by
  simp only[aV] at x
  rcases x with ⟨_,rfl,_⟩ | ⟨b,bs',os,w,rfl,_⟩<;>exact⟨rfl,rfl,rfl,by simp⟩
 | .junk,_,_,x=>x.elim
 | .undef,_,_,x=>x.elim
 | .tup _,_,_,x=>x.elim
 | .fslice _,_,_,x=>x.elim
 | .mslice _ _ _ _,_,_,x=>x.elim
 | .nilptr,_,_,x=>x.elim
 | .ptr _ _,_,_,x=>x.elim
 | .pptr _,_,_,x=>x.elim
 | .nilmap,_,_,x=>x.elim
 | .map _,_,_,x=>x.elim
 | .func _ _,_,_,x=>x.elim
 | .raw _,_,_,x=>x.elim
 | .eslice,_,_,x=>x.elim
section
variable {st st':aA}
mutual
theorem aV.aU:∀(a o:AV) (bs:List Nat),(∀b∈bs,st' b=st b)→aV st a o bs→aV st' a o bs
 | .int k n,o,bs,_,x=>x
 | .bool b,o,bs,_,x=>x
 | .str s,o,bs,_,x=>x
 | .agg cs,o,bs,h,x=>by
  simp only[aV] at x ⊢
  obtain⟨os,e,x⟩:=x
  exact⟨os,e,aW.aU cs os bs h x⟩
 | .slice es,o,bs,h,x=>by
  simp only[aV] at x ⊢
  rcases x with x | ⟨b,bs',os,w,e1,rfl,e2,x,e3⟩
  · exact .inl x
  · exact .inr ⟨b,bs',os,w,e1,rfl,(h b (by simp)).trans e2,aW.aU es os bs' (fun q hq=>h q (by simp [hq])) x,e3⟩
 | .junk,_,_,_,x=>x
 | .undef,_,_,_,x=>x
 | .tup _,_,_,_,x=>x
 | .fslice _,_,_,_,x=>x
 | .mslice _ _ _ _,_,_,_,x=>x
 | .nilptr,_,_,_,x=>x
 | .ptr _ _,_,_,_,x=>x
 | .pptr _,_,_,_,x=>x
 | .nilmap,_,_,_,x=>x
 | .map _,_,_,_,x=>x
 | .func _ _,_,_,_,x=>x
 | .raw _,_,_,_,x=>x
 | .eslice,_,_,_,x=>x
theorem aW.aU:∀(as os:List AV) (bs:List Nat),(∀b∈bs,st' b=st b)→aW st as os bs→aW st' as os bs
 | [],os,bs,_,x=>x
 | a::as,os,bs,h,x=>by
  simp only[aW] at x ⊢
  obtain⟨o,os',b1,b2,e1,rfl,x1,x2⟩:=x
  exact⟨o,os',b1,b2,e1,rfl,aV.aU a o b1 (fun q hq=>h q (by simp [hq])) x1,aW.aU as os' b2 (fun q hq=>h q (by simp [hq])) x2⟩
end
mutual
theorem aV.fZ:∀(a o:AV) (bs:List Nat),aV st a o bs→o.fZ=true∧o.cells.all AV.storable=o.cells.all AV.storable∧∀b∈bs,∃cs,st b=some (.cells cs)∧lD cs=true
 | .int k n,o,bs,x=>by simp only[aV] at x;rw[x.1,x.2];exact⟨rfl,rfl,by simp⟩
 | .bool b,o,bs,x=>by simp only[aV] at x;rw[x.1,x.2];exact⟨rfl,rfl,by simp⟩
 | .str s,o,bs,x=>by simp only[aV] at x;rw[x.1,x.2];exact⟨rfl,rfl,by simp⟩
 | .agg cs,o,bs,x=>by
  simp only[aV] at x
  obtain⟨os,rfl,x⟩:=x
  obtain⟨h1,h2⟩:=aW.fZ cs os bs x
  exact⟨by simpa [AV.fZ] using h1.1,rfl,h2⟩
 | .slice es,o,bs,x=>by
  simp only[aV] at x
  rcases x with ⟨_,rfl,rfl⟩ | ⟨b,bs',os,w,rfl,rfl,e2,x,e3⟩
  · exact⟨rfl,rfl,by simp⟩
  · obtain⟨h1,h2⟩:=aW.fZ es os bs' x
    refine⟨rfl,rfl,fun q hq=>?_⟩
    rcases cQ.1 hq with rfl | hq
    · exact⟨_,e2,h1.2⟩
    · exact h2 q hq
 | .junk,_,_,x=>x.elim
 | .undef,_,_,x=>x.elim
 | .tup _,_,_,x=>x.elim
 | .fslice _,_,_,x=>x.elim
 | .mslice _ _ _ _,_,_,x=>x.elim
 | .nilptr,_,_,x=>x.elim
 | .ptr _ _,_,_,x=>x.elim
 | .pptr _,_,_,x=>x.elim
 | .nilmap,_,_,x=>x.elim
 | .map _,_,_,x=>x.elim
 | .func _ _,_,_,x=>x.elim
 | .raw _,_,_,x=>x.elim
 | .eslice,_,_,x=>x.elim
theorem aW.fZ:∀(as os:List AV) (bs:List Nat),aW st as os bs→(lD os=true∧lD (os.flatMap AV.cells)=true)∧∀b∈bs,∃cs,st b=some (.cells cs)∧lD cs=true
 | [],os,bs,x=>by simp only[aW] at x;rw[x.1,x.2];exact⟨⟨rfl,rfl⟩,by simp⟩
 | a::as,os,bs,x=>by
  simp only[aW] at x
  obtain⟨o,os',b1,b2,rfl,rfl,x1,x2⟩:=x
  obtain⟨h1,_,h2⟩:=aV.fZ a o b1 x1
  obtain⟨⟨h3,h4⟩,h5⟩:=aW.fZ as os' b2 x2
  have aVQ:∀(p q:List AV),lD p=true→lD q=true→lD (p++q)=true:=by
   intro p q hp hq
   induction p with
   | nil=>exact hq
   | cons c p ih=>simp only[lD,cT,gH] at hp ⊢;exact⟨hp.1,ih hp.2⟩
  have hc:lD o.cells=true:=by cases o<;>first | (simpa [AV.cells,lD] using h1) | (simpa [AV.cells,AV.fZ] using h1)
  refine⟨⟨by simp [lD,h1,h3],by rw[pF];exact aVQ _ _ hc h4⟩,fun q hq=>?_⟩
  rcases dS.1 hq with hq | hq
  · exact h2 q hq
  · exact h5 q hq
end
end
section
variable {h:bF} {st s0:aA}
mutual
theorem aV.view(S:cI h st)(D:aM st s0):∀(a o:AV) (bs:List Nat) (cs:List Value),aV st a o bs→(∀b∈bs,s0 b=none)→VC h st o cs→VC h s0 a cs
 | .int k n,o,bs,cs,x,_,y=>by simp only[aV] at x;rw[x.1] at y;exact y
 | .bool b,o,bs,cs,x,_,y=>by simp only[aV] at x;rw[x.1] at y;exact y
 | .str s,o,bs,cs,x,_,y=>by simp only[aV] at x;rw[x.1] at y;exact y
 | .agg as,o,bs,cs,x,hb,y=>by
  simp only[aV] at x
  obtain⟨os,rfl,x⟩:=x
  simp only[VC] at y ⊢
  exact aW.aNU S D as os bs cs x hb y
 | .slice es,o,bs,cs,x,hb,y=>by
  simp only[aV] at x
  rcases x with ⟨rfl,rfl,rfl⟩ | ⟨b,bs',os,w,rfl,rfl,e2,x,e3⟩
  · unfold VC at y ⊢
    rcases y with y | ⟨b,off,e,_⟩
    · exact .inl y
    · exact .inl ⟨⟨_,e⟩,rfl⟩
  · simp only[VC] at y
    obtain⟨cap,e,l1,l2,_⟩:=y
    obtain⟨hlt,c,t,q1,q2,vs,q3,q4⟩:=S b _ e2
    have hsh:=aW.RB x
    unfold VC
    refine .inr ⟨b,0,cap,e,l1,l2,hb b (by simp),hlt,⟨w,e3⟩,aW.aNV S D b es os bs' 0 x (fun q hq=>hb q (by simp [hq])) (HR (fun q hq=>hsh q hq) q3 q4)⟩
 | .junk,_,_,_,x,_,_=>x.elim
 | .undef,_,_,_,x,_,_=>x.elim
 | .tup _,_,_,_,x,_,_=>x.elim
 | .fslice _,_,_,_,x,_,_=>x.elim
 | .mslice _ _ _ _,_,_,_,x,_,_=>x.elim
 | .nilptr,_,_,_,x,_,_=>x.elim
 | .ptr _ _,_,_,_,x,_,_=>x.elim
 | .pptr _,_,_,_,x,_,_=>x.elim
 | .nilmap,_,_,_,x,_,_=>x.elim
 | .map _,_,_,_,x,_,_=>x.elim
 | .func _ _,_,_,_,x,_,_=>x.elim
 | .raw _,_,_,_,x,_,_=>x.elim
 | .eslice,_,_,_,x,_,_=>x.elim
theorem aW.aNU(S:cI h st)(D:aM st s0):∀(as os:List AV) (bs:List Nat) (cs:List Value),aW st as os bs→(∀b∈bs,s0 b=none)→aZ h st os cs→aZ h s0 as cs
 | [],os,bs,cs,x,_,y=>by simp only[aW] at x;rw[x.1] at y;exact y
 | a::as,os,bs,cs,x,hb,y=>by
  simp only[aW] at x
  obtain⟨o,os',b1,b2,rfl,rfl,x1,x2⟩:=x
  simp only[aZ] at y ⊢
  obtain⟨c,r,e,y1,y2⟩:=y
  exact⟨c,r,e,aV.view S D a o b1 [c] x1 (fun q hq=>hb q (by simp [hq])) y1,aW.aNU S D as os' b2 r x2 (fun q hq=>hb q (by simp [hq])) y2⟩
theorem aW.aNV(S:cI h st)(D:aM st s0)(b:Nat):∀(as os:List AV) (bs:List Nat) (off:Nat),aW st as os bs→(∀b∈bs,s0 b=none)→cX h st b off os→cX h s0 b off as
 | [],os,bs,off,x,_,y=>by simp only[cX]
 | a::as,os,bs,off,x,hb,y=>by
  simp only[aW] at x
  obtain⟨o,os',b1,b2,rfl,rfl,x1,x2⟩:=x
  simp only[cX] at y ⊢
  obtain⟨⟨cs,y1,y2,y3⟩,y4⟩:=y
  have hw:=(aV.shape x1).2.1
  rw[hw] at y2 y4
  exact⟨⟨cs,y1,y2,aV.view S D a o b1 cs x1 (fun q hq=>hb q (by simp [hq])) y3⟩,aW.aNV S D b as os' b2 _ x2 (fun q hq=>hb q (by simp [hq])) y4⟩
theorem aW.RB:∀ {as os:List AV} {bs:List Nat},aW st as os bs→∀o∈os,o.cD=false
 | [],os,bs,x=>by simp only[aW] at x;rw[x.1];simp
 | a::as,os,bs,x=>by
  simp only[aW] at x
  obtain⟨o,os',b1,b2,rfl,rfl,x1,x2⟩:=x
  intro q hq
  rcases cQ.1 hq with rfl | hq
  · exact(aV.shape x1).2.2.1
  · exact aW.RB x2 q hq
end
theorem aV.S6(S:cI h st)(D:aM st s0){a o:AV}{bs:List Nat}{v:Value}(x:aV st a o bs)(hb:∀b∈bs,s0 b=none)(y:aQ h st o v):aQ h s0 a v:=by
 have hs:=x.shape
 have key:o.isAgg=iX v∧VC h st o v.cells.toList:=by
  cases o<;>first | exact y | simp [AV.cD] at hs
 have z:a.isAgg=iX v∧VC h s0 a v.cells.toList:=⟨hs.1.symm.trans key.1,aV.view S D _ _ _ _ x hb key.2⟩
 cases ha:a<;>rw[ha] at z<;>first | trivial | exact z
end
def Seen(st s0:aA):List AV→List AV→Prop
 | [],as=>as= []
 | o::os,as=>∃a as',as=a::as'∧(o=a∨∃bs,aV st a o bs∧∀b∈bs,s0 b=none)∧Seen st s0 os as'
theorem Seen.rel{st s0:aA}(D:aM st s0):∀ {os as:List AV},Seen st s0 os as→∀h vs,cI h st→cV h st os vs→cV h s0 as vs
 | [],as,x,h,vs,_,y=>by simp only[Seen] at x;rw[x];exact y
 | o::os,as,x,h,vs,S,y=>by
  simp only[Seen] at x
  obtain⟨a,as',rfl,x1,x2⟩:=x
  simp only[cV] at y ⊢
  obtain⟨v,r,rfl,y1,y2⟩:=y
  refine⟨v,r,rfl,?_,Seen.rel D x2 h r S y2⟩
  rcases x1 with rfl | ⟨bs,x1,hb⟩
  · exact y1.mono (D.step h)
  · exact x1.S6 S D hb y1
def Made(st:aA)(a r:AV)(st':aA):Prop:=∃bs:List Nat,bs.Nodup∧(∀b∈bs,st b=none)∧aV st' a r bs∧∀b,b∉bs→st' b=st b
theorem aD.made{P:Program}{g:FuncId}{args:List AV}{st:aA}{a:AV}(x:aD P g args st (Made st a)):aD P g args st (fun r st'=>r=a∧st'=st):=
 x.kP fun r st' ⟨bs,_,h2,h3,h4⟩=>by
  have D:aM st' st:=fun b=>⟨fun e=>by
   by_cases hb:b∈bs
   · exact h2 b hb
   · rw[←h4 b hb];exact e,fun o e=>by
   by_cases hb:b∈bs
   · rw[h2 b hb] at e;cases e
   · rw[h4 b hb];exact e⟩
  exact⟨a,st,D.rX,fun h v S y=>h3.S6 S D h2 y,rfl,rfl⟩
theorem aW.focus{st:aA}:∀ {as os:List AV} {bs:List Nat},aW st as os bs→bs.Nodup→∀(i:Nat) (a:AV),as[i]?=some a →
 ∃od o orr bo,os=od++o::orr∧od.length=i∧aV st a o bo∧bo.Nodup∧(∀b∈bo,b∈bs) ∧
  ∀(st':aA) (a' o':AV),(∀b∈bs,b∉bo→st' b=st b)→aV st' a' o' bo→aW st' (as.set i a') (od++o'::orr) bs
 | [],os,bs,_,_,i,a,h=>by simp at h
 | c::as,os,bs,x,nd,0,a,h=>by
  simp only[aW] at x
  obtain⟨o,os',b1,b2,rfl,rfl,x1,x2⟩:=x
  simp at h;subst h
  rw[jW] at nd
  refine⟨[],o,os',b1,rfl,rfl,x1,nd.1,fun b hb=>by simp [hb],fun st' a' o' hk y=>?_⟩
  simp only[wG,eU,aW]
  exact⟨o',os',b1,b2,rfl,rfl,y,aW.aU _ _ _ (fun q hq=>hk q (by simp [hq]) (fun hq'=>nd.2.2 q hq' q hq rfl)) x2⟩
 | c::as,os,bs,x,nd,i+1,a,h=>by
  simp only[aW] at x
  obtain⟨o,os',b1,b2,rfl,rfl,x1,x2⟩:=x
  rw[jW] at nd
  obtain⟨od,o2,orr,bo,rfl,hl,y1,y2,y3,y4⟩:=aW.focus x2 nd.2.1 i a (by simpa using h)
  refine⟨o::od,o2,orr,bo,rfl,by simp [hl],y1,y2,fun b hb=>by simp [y3 b hb],fun st' a' o' hk y=>?_⟩
  simp only[A7,gH,aW]
  refine⟨o,_,b1,b2,rfl,rfl,aV.aU _ _ _ (fun q hq=>hk q (by simp [hq]) (fun hq'=>nd.2.2 q hq q (y3 q hq') rfl)) x1,y4 st' a' o' (fun q hq hn=>hk q (by simp [hq]) hn) y⟩
theorem aW.JQ{st:aA}{w:Nat}:∀ {as os:List AV} {bs:List Nat},aW st as os bs→(∀e∈as,e.width=w)→(os.flatMap AV.cells).length=as.length*w
 | [],os,bs,x,_=>by simp only[aW] at x;rw[x.1];simp
 | a::as,os,bs,x,h=>by
  simp only[aW] at x
  obtain⟨o,os',b1,b2,rfl,rfl,x1,x2⟩:=x
  have:=aW.JQ x2 (fun e he=>h e (by simp [he]))
  rw[pF,dP,this,pN,(aV.shape x1).2.1,h a (by simp),a8,uN]
  omega
theorem aW.take{st:aA}:∀ {as od or':List AV} {bs:List Nat},aW st as (od++or') bs→∃bs',aW st (as.take od.length) od bs'
 | as,[],or',bs,_=>⟨[],by simp [aW]⟩
 | [],o::od,or',bs,x=>by simp [aW] at x
 | a::as,o::od,or',bs,x=>by
  simp only[aW,gH] at x
  obtain⟨o1,os',b1,b2,e,rfl,x1,x2⟩:=x
  obtain⟨rfl,rfl⟩:=uK e
  obtain⟨bs',h⟩:=aW.take x2
  exact⟨b1++bs',by simp only[a8,wH,aW];exact⟨o,od,b1,bs',rfl,rfl,x1,h⟩⟩
theorem aV.focus{st:aA}{es:List AV}{o:AV}{bs:List Nat}(x:aV st (.slice es) o bs)(nd:bs.Nodup){i:Nat}{e:AV}(h:es[i]?=some e) :
 ∃b bs' w A oe bo B,o=.mslice b 0 es.length w∧bs=b::bs'∧st b=some (.cells (A++oe.cells++B))∧A.length=i*w∧aV st e oe bo∧bo.Nodup∧b∉bo∧(∀q∈bo,q∈bs)∧e.width=w∧i<es.length ∧
  ∀(st':aA) (e' oe':AV),e'.width=w→(∀q∈bs,q≠b→q∉bo→st' q=st q)→st' b=some (.cells (A++oe'.cells++B))→aV st' e' oe' bo→aV st' (.slice (es.set i e')) o bs:=by
 have hi:i<es.length:=(eE.1 h).1
 simp only[aV] at x
 rcases x with ⟨rfl,_⟩ | ⟨b,bs',os,w,rfl,rfl,e2,x,e3⟩
 · simp at h
 · rw[yF] at nd
   obtain⟨od,oe,orr,bo,rfl,hl,y1,y2,y3,y4⟩:=aW.focus x nd.2 i e h
   have hA:(od.flatMap AV.cells).length=i*w:=by
    obtain⟨bs2,ht⟩:=aW.take x
    rw[ht.JQ (fun q hq=>e3 q (pG hq)),dI,hl,jX (by omega)]
   refine⟨b,bs',w,od.flatMap AV.cells,oe,bo,orr.flatMap AV.cells,rfl,rfl,by rw[e2];simp,hA,y1,y2,fun hb=>nd.1 (y3 b hb),fun q hq=>by simp [y3 q hq],e3 e (cG h),hi,?_⟩
   intro st' e' oe' hw hk hb hO
   simp only[aV]
   refine .inr ⟨b,bs',od++oe'::orr,w,by simp,rfl,by rw[hb];simp,y4 st' e' oe' (fun q hq hn=>hk q (by simp [hq]) (fun hqb=>nd.1 (hqb▸hq)) hn) hO,fun q hq=>?_⟩
   rcases List.mem_or_eq_of_mem_set hq with hq | rfl
   · exact e3 q hq
   · exact hw
theorem aLE{A C B x:List AV}{n j:Nat}(hA:A.length=n)(hj:j+x.length≤C.length):aP (A++C++B) (n+j) x=A++aP C j x++B:=by
 subst hA
 unfold aP
 have h1:(A++C++B).take (A.length+j)=A++C.take j:=by
  rw[kK,List.take_length_add_append,A8 (by omega)]
 have h2:(A++C++B).drop (A.length+j+x.length)=C.drop (j+x.length)++B:=by
  rw[kK,yH,List.drop_length_add_append,TF (by omega)]
 rw[h1,h2]
 simp
theorem xK{A B:List AV}{n:Nat}(hA:A.length=n):(∀(C:List AV) (v:AV) (j:Nat),j<C.length→aP (A++C++B) (n+j) [v]=A++C.set j v++B)∧(∀(C:List AV) (c:Nat),c<C.length→n+c+1≤(A++C++B).length) ∧
 (∀(C:List AV) (c:Nat),c<C.length→(A++C++B)[n+c]?=C[c]?)∧(∀(C:List AV) (v:AV),0<C.length→aP (A++C++B) n [v]=A++C.set 0 v++B)∧(∀(C:List AV),0<C.length→n+1≤(A++C++B).length) ∧
 ∀(C:List AV),0<C.length→(A++C++B)[n]?=C[0]?:=by
 have k1:(∀(C:List AV) (v:AV) (j:Nat),j<C.length→aP (A++C++B) (n+j) [v]=A++C.set j v++B)∧(∀(C:List AV) (c:Nat),c<C.length→n+c+1≤(A++C++B).length)∧∀(C:List AV) (c:Nat),c<C.length→(A++C++B)[n+c]?=C[c]?:=?_
 · exact⟨k1.1,k1.2.1,k1.2.2,fun C v h=>k1.1 C v 0 h,fun C h=>k1.2.1 C 0 h,fun C h=>k1.2.2 C 0 h⟩
 refine⟨fun C v j h=>?_,fun C c h=>?_,fun C c h=>?_⟩
 · rw[aLE hA (by simp;omega),TJ,aH h]
   unfold aP
   simp
 · simp only[dP];omega
 · subst hA
   rw[kK,TI (by omega),Nat.add_sub_cancel_left,TH h]
theorem KP{A B C x:List AV}{n w:Nat}(hA:A.length=n)(hC:C.length=w)(hx:x.length=w):aP (A++C++B) n x=A++x++B∧n+w≤(A++C++B).length:=by
 have h:=aLE (A:=A) (C:=C) (B:=B) (x:=x) (n:=n) (j:=0) hA (by omega)
 rw[oA] at h
 refine⟨?_,by simp only[dP];omega⟩
 rw[h]
 unfold aP
 simp [hC,hx]
theorem kE{P:Program}{t:TypeId}{ag:Bool}{b len w i:Nat}(hI:eI P t=some (ag,w))(hi:i<len):dM P t (.mslice b 0 len w) (.int .i64 (i:Int))=some (.ptr b (i*w)):=by
 simp only[dM,hI,jV,gU]
 rw[aH ⟨by omega,by omega,trivial⟩]
theorem aV.ND{st:aA}:∀ {cs os:List AV} {bs:List Nat},aW st cs os bs→(∀c∈cs,c.isAgg=false)→os.all AV.storable=true∧os.flatMap AV.cells=os
 | [],os,bs,x,_=>by simp only[aW] at x;rw[x.1];simp
 | a::as,os,bs,x,h=>by
  simp only[aW] at x
  obtain⟨o,os',b1,b2,rfl,rfl,x1,x2⟩:=x
  have ih:=aV.ND x2 (fun c hc=>h c (by simp [hc]))
  have ha:=h a (by simp)
  have ho:o.storable=true∧o.cells= [o]:=by
   cases a<;>simp only[aV] at x1<;>try exact x1.elim
   case int=>rw[x1.1];exact⟨rfl,rfl⟩
   case bool=>rw[x1.1];exact⟨rfl,rfl⟩
   case str=>rw[x1.1];exact⟨rfl,rfl⟩
   case agg=>simp [AV.isAgg] at ha
   case slice=>rcases x1 with ⟨_,rfl,_⟩ | ⟨b,bs',os,w,rfl,_⟩<;>exact⟨rfl,rfl⟩
  rw[jI,ho.1,ih.1,pF,ih.2,ho.2]
  exact⟨rfl,rfl⟩
theorem aW.snoc{st st':aA}{a o:AV}{b2:List Nat}:∀ {as os:List AV} {b1:List Nat},aW st as os b1→(∀b∈b1,st' b=st b)→aV st' a o b2→aW st' (as++ [a]) (os++ [o]) (b1++b2)
 | [],os,b1,x,_,y=>by
  simp only[aW] at x
  rw[x.1,x.2]
  simp only[eU,aW]
  exact⟨o,[],b2,[],rfl,by simp,y,rfl,rfl⟩
 | c::as,os,b1,x,h,y=>by
  simp only[aW] at x
  obtain⟨o1,os',b3,b4,rfl,rfl,x1,x2⟩:=x
  simp only[gH,aW]
  exact⟨o1,os'++ [o],b3,b4++b2,rfl,by simp,aV.aU _ _ _ (fun q hq=>h q (by simp [hq])) x1,aW.snoc x2 (fun q hq=>h q (by simp [hq])) y⟩
def pI(es:List AV)(zs:List AV)(b:Nat)(st:aA)(i:Nat)(p:List AV×List Nat×aA):Prop:=
 p.1.length=i∧aW p.2.2 (es.take i) p.1 p.2.1∧p.2.1.Nodup∧b∉p.2.1∧(∀q∈p.2.1,st q=none)∧st b=none∧p.2.2 b=some (.cells (p.1.flatMap AV.cells++(List.replicate (es.length - i) zs).flatten))∧∀q,q≠b→q∉p.2.1→p.2.2 q=st q
theorem pI.start{es zs:List AV}{b n:Nat}{st:aA}(hn:st b=none)(hl:n=es.length):pI es zs b st 0 ([],[],st.aC b (.cells (List.replicate n zs).flatten)):=
 ⟨rfl,by simp [aW],lS,by simp,by simp,hn,by simp [aA.aJ,hl],fun q h _=>aA.aF _ _ h⟩
theorem pI.done{es zs:List AV}{b n w:Nat}{st:aA}{os:List AV}{bs:List Nat}{s:aA}(h:pI es zs b st n (os,bs,s))(hl:es.length=n)(hw:∀e∈es,e.width=w):Made st (.slice es) (.mslice b 0 n w) s:=by
 obtain⟨h1,h2,h3,h4,h5,h6,h7,h8⟩:=h
 simp only at h1 h2 h3 h4 h5 h7 h8
 rw[mY (by omega)] at h2
 refine⟨b::bs,yF.2 ⟨h4,h3⟩,fun q hq=>?_,?_,fun q hq=>h8 q (fun e=>hq (by simp [e])) (fun e=>hq (by simp [e]))⟩
 · rcases cQ.1 hq with rfl | hq
   · exact h6
   · exact h5 q hq
 · simp only[aV]
   refine .inr ⟨b,bs,os,w,by rw[hl],rfl,?_,h2,hw⟩
   rw[h7,hl]
   simp
theorem pI.step{es zs:List AV}{b i w:Nat}{st:aA}{os:List AV}{bs:List Nat}{s s2:aA}{e r:AV}(h:pI es zs b st i (os,bs,s))(hm:Made s e r s2)(he:es[i]?=some e)(hwe:e.width=w)(hw:∀e∈es,e.width=w)(hz:zs.length=w)
 (hst:e.cells.all AV.storable=true) (hag:e.isAgg=true∨e.cells= [e]) :
 ∃A B,s2 b=some (.cells (A++zs++B))∧A.length=i*w∧r.cells.length=w∧r.cells.all AV.storable=true∧pI es zs b st (i+1) (os++ [r],bs++hm.choose,s2.aC b (.cells (A++r.cells++B))):=by
 obtain⟨h1,h2,h3,h4,h5,h6,h7,h8⟩:=h
 simp only at h1 h2 h3 h4 h5 h7 h8
 obtain⟨m1,m2,m3,m4⟩:=hm.choose_spec
 generalize hm.choose=bx at *
 have hi:i<es.length:=(eE.1 he).1
 have hbx:b∉bx:=fun hb=>by have:=m2 b hb;rw[h7] at this;cases this
 have hs2:s2 b=s b:=m4 b hbx
 have hlt:(os.flatMap AV.cells).length=i*w:=by rw[h2.JQ (fun q hq=>hw q (pG hq)),dI,jX (by omega)]
 have xG:=aW.fZ _ _ _ h2
 have nA:∀q∈bs,q∉bx:=fun q hq hx=>by
  obtain⟨cs,e1,_⟩:=xG.2 q hq
  rw[m2 q hx] at e1;cases e1
 have aXJ:(List.replicate (es.length - i) zs).flatten=zs++(List.replicate (es.length - (i+1)) zs).flatten:=by
  rw[show es.length - i=(es.length - (i+1))+1 by omega,HL,List.flatten_cons]
 have hb2:s2 b=some (.cells (os.flatMap AV.cells++zs++(List.replicate (es.length - (i+1)) zs).flatten)):=by rw[hs2,h7,aXJ,kK]
 have hrl:r.cells.length=w:=by rw[pN,(aV.shape m3).2.1,hwe]
 have hrs:r.cells.all AV.storable=true:=by
  cases e<;>simp only[aV] at m3<;>try exact m3.elim
  case int=>rw[m3.1];try rfl
  case bool=>rw[m3.1];try rfl
  case str=>rw[m3.1];try rfl
  case slice=>rcases m3 with ⟨_,rfl,_⟩ | ⟨_,_,_,_,rfl,_⟩<;>rfl
  case agg cs=>
   obtain⟨q,rfl,m3⟩:=m3
   refine(aV.ND m3 fun c hc=>?_).1
   have hst:cs.all AV.storable=true:=hst
   have:=eD.1 hst c hc
   cases c<;>first | rfl | (simp [AV.storable] at this)
 refine⟨os.flatMap AV.cells,_,hb2,hlt,hrl,hrs,by simp [h1],?_,?_,?_,?_,h6,?_,?_⟩
 · rw[eH,he]
   have hne:∀q,q≠b→(s2.aC b (.cells (os.flatMap AV.cells++r.cells++(List.replicate (es.length - (i+1)) zs).flatten))) q=s2 q:=fun q hq=>aA.aF _ _ hq
   exact aW.snoc h2 (fun q hq=>(hne q (fun e=>h4 (e▸hq))).trans (m4 q (nA q hq))) (aV.aU _ _ _ (fun q hq=>hne q (fun e=>hbx (e▸hq))) m3)
 · exact jW.2 ⟨h3,m1,fun a ha c hc e=>nA a ha (e▸hc)⟩
 · intro hb
   rcases dS.1 hb with hb | hb
   · exact h4 hb
   · exact hbx hb
 · intro q hq
   rcases dS.1 hq with hq | hq
   · exact h5 q hq
   · by_cases hqb:q=b
     · rw[hqb];exact h6
     · by_cases hqs:q∈bs
       · exact h5 q hqs
       · rw[←h8 q hqb hqs];exact m2 q hq
 · simp only[aA.aJ]
   simp
 · intro q hq hn
   simp only[dS,kH] at hn
   exact(aA.aF _ _ hq).trans ((m4 q hn.2).trans (h8 q hq hn.1))
def TK(st:aA)(ds:List Nat)(a r:AV)(st':aA):Prop:=∃bs:List Nat,bs.Nodup∧(∀b∈bs,st b=none)∧(∀d∈ds,st d=none∧d∉bs)∧aV st' a r bs∧∀b,b∉bs→b∉ds→st' b=st b
theorem aD.KH{P:Program}{g:FuncId}{args:List AV}{st:aA}{a:AV}(x:aD P g args st (fun r st'=>∃ds,TK st ds a r st')):aD P g args st (Made st a):=
 x.kP fun r st' ⟨ds,bs,h1,h2,hd,h3,h4⟩=>by
  refine⟨r,fun q=>if q∈ds then none else st' q,?_,?_,bs,h1,h2,?_,fun b hb=>?_⟩
  · have D:aM st' (fun q=>if q∈ds then none else st' q):=fun q=>by
     by_cases hq:q∈ds
     · simp only[hq,dX];exact⟨fun _=>trivial,fun o h=>by cases h⟩
     · simp only[hq,cS];exact⟨id,fun o h=>h⟩
    exact D.rX
  · have D:aM st' (fun q=>if q∈ds then none else st' q):=fun q=>by
     by_cases hq:q∈ds
     · simp only[hq,dX];exact⟨fun _=>trivial,fun o h=>by cases h⟩
     · simp only[hq,cS];exact⟨id,fun o h=>h⟩
    exact D.kP r
  · exact aV.aU _ _ _ (fun q hq=>aG fun h=>(hd q h).2 hq) h3
  · by_cases hq:b∈ds
    · simp only[hq,dX];exact(hd b hq).1.symm
    · simp only[hq,cS];exact h4 b hb hq
def uS(b:Nat):List AV→List Nat
 | []=>[]
 | _::_=>[b]
theorem aZ8{s:aA}{b w:Nat}{es os:List AV}{bs:List Nat}(x:aW (bV s b os) es os bs)(hw:∀e∈es,e.width=w):aV (bV s b os) (.slice es) (bS w b os) (uS b os++bs):=by
 have hl:=x.length
 cases os with
 | nil=>
  have:es= []:=nG (by simpa using hl.symm)
  subst this
  simp only[aW] at x
  simp only[aV,bS,uS,x.2]
  exact .inl ⟨trivial,trivial,rfl⟩
 | cons o os=>
  simp only[aV,bS,uS]
  refine .inr ⟨b,bs,o::os,w,by rw[hl],rfl,?_,x,hw⟩
  simp only[bV,aA.aJ]
def AV.flat:AV→Bool
 | .int _ _ | .bool _ | .str _=>true
 | _=>false
theorem aW.flat{s:aA}:∀ {es:List AV},es.all AV.flat=true→aW s es es []
 | [],_=>⟨rfl,rfl⟩
 | e::es,h=>by
  simp only[jI,cT] at h
  simp only[aW]
  refine⟨e,es,[],[],rfl,rfl,?_,aW.flat h.2⟩
  cases e<;>simp [AV.flat] at h<;>simp [aV]
theorem Seen.nil{st s0:aA}:Seen st s0 [] []:=rfl
theorem Seen.same{st s0:aA}{x:AV}{os as:List AV}(h:Seen st s0 os as):Seen st s0 (x::os) (x::as):=⟨x,as,rfl,.inl rfl,h⟩
theorem Seen.own{st:aA}{a o:AV}{bs:List Nat}{os as:List AV}(hO:aV st a o bs)(h:Seen st dH os as):Seen st dH (o::os) (a::as):=⟨a,as,rfl,.inr ⟨bs,hO,fun _ _=>rfl⟩,h⟩
theorem aD.see{P:Program}{g:FuncId}{args args':List AV}{st:aA}{r:AV}(x:∀s,aD P g args s (fun r' s'=>r'=r∧s'=s))(hv:Seen st dH args' args)(hs:r.fZ=true):aD P g args' st (fun r' s'=>r'=r∧s'=st):=
 aD.OP hs (x dH) (Seen.rel (aM.dH st) hv)
theorem aD.pQ{P:Program}{g:FuncId}{args:List AV}{st:aA}{r:AV}(x:aD P g args st (fun r' st'=>r'=r∧aM st' st)):aD P g args st (fun r' st'=>r'=r∧st'=st):=
 (x.mono fun _ _ h=>⟨h.2,h.1⟩).drop
theorem aOJ{P:Program}{t:TypeId}{st:aA}{s x:AV}{K K':AV→aA→Prop}(h:∀r s,K r s→K' r s)(e:iZ P t st s x K):iZ P t st s x K':=by
 unfold iZ at *
 split at e
 case h_2=>exact e.elim
 refine⟨e.1,e.2.1,?_⟩
 have e:=e.2.2
 split at e
 · exact⟨e.1,e.2.1,e.2.2.1,fun q=>h _ _ (e.2.2.2.1 q),fun q b hb=>h _ _ (e.2.2.2.2 q b hb)⟩
 · refine⟨e.1,e.2.1,e.2.2.1,?_⟩
   have e:=e.2.2.2
   split at e
   · exact⟨e.1,h _ _ e.2.1,fun b hb=>h _ _ (e.2.2 b hb)⟩
   · exact e.elim
 · exact e.elim
theorem aOI{P:Program}{t t':TypeId}{st:aA}{s x:AV}{K K':AV→aA→Prop}(h:∀r s,K r s→K' r s)(e:sB P t t' st s x K):sB P t t' st s x K':=by
 unfold sB at *
 split at e
 case h_2=>exact e.elim
 refine⟨e.1,e.2.1,e.2.2.1,e.2.2.2.1,?_⟩
 have e:=e.2.2.2.2
 split at e
 · exact⟨e.1,e.2.1,e.2.2.1,fun q=>h _ _ (e.2.2.2.1 q),fun q b hb=>h _ _ (e.2.2.2.2 q b hb)⟩
 · refine⟨e.1,e.2.1,e.2.2.1,?_⟩
   have e:=e.2.2.2
   split at e
   · exact⟨e.1,h _ _ e.2.1,fun b hb=>h _ _ (e.2.2 b hb)⟩
   · exact e.elim
 · exact e.elim
theorem BM{P:Program}{mt:List Nat}{φ:AF}{st:aA}{o:Oper}{K K':AV→aA→Prop}(h:∀r s,K r s→K' r s)(e:eV P mt φ st o K):eV P mt φ st o K':=by
 unfold eV at *
 split at e
 · split at e
   · exact e.mono h
   · exact e.elim
 · split at e
   · split at e
     · rename_i ht;rw[aH ht];exact aOJ h e
     · rename_i ht;rw[aG ht];exact aOI h e
   · exact e.elim
 · split at e
   · unfold yN at *
     split at e
     · split at e
       · exact h _ _ e
       · exact e.elim
     · exact e.elim
   · exact e.elim
 · split at e
   · unfold uP at *
     split at e
     · obtain⟨e1,e2,e3,e4,e5⟩:=e
       refine⟨e1,e2,e3,e4,?_⟩
       split at e5
       · exact⟨e5.1,h _ _ e5.2⟩
       · exact e5.elim
     · exact h _ _ e
     · exact e.elim
   · exact e.elim
 · split at e
   · rename_i hm
     rw[aH hm]
     exact⟨e.1,fun b hb=>h _ _ (e.2 b hb)⟩
   · rename_i hm
     rw[aG hm]
     split at e
     · exact h _ _ e
     · exact e.elim
 · split at e
   · exact fun b hb=>h _ _ (e b hb)
   · exact e.elim
 · split at e
   · split at e
     · exact⟨e.1,e.2.1,e.2.2.1,h _ _ e.2.2.2⟩
     · exact e.elim
   · exact e.elim
 · exact fun b hb=>h _ _ (e b hb)
 · unfold sC at *
   split at e
   · exact⟨e.1,e.2.1,e.2.2.1,e.2.2.2.1,e.2.2.2.2.1,e.2.2.2.2.2.1,fun b hb=>h _ _ (e.2.2.2.2.2.2 b hb)⟩
   · exact e.elim
 · unfold sD at *
   split at e
   · split at e
     · exact⟨e.1,h _ _ e.2⟩
     · exact e.elim
   · exact e.elim
 · split at e
   · exact h _ _ e
   · exact e.elim
def jM(P:Program)(ops:Array Oper)(o:Oper)(φ:AF)(st:aA)(K:AV→aA→Prop):Prop:=match iS ops φ o with
 | some true=>eV P [] φ st o K
 | some false=>K .undef st
 | none=>False
theorem wO{P:Program}{ops:Array Oper}{o:Oper}{φ:AF}{st:aA}{K K':AV→aA→Prop}(h:∀r s,K r s→K' r s)(e:jM P ops o φ st K):jM P ops o φ st K':=by
 unfold jM at *
 split at e
 · exact BM h e
 · exact h _ _ e
 · exact e.elim
section
variable {P:Program}
theorem aON{ops:Array Oper}{oi oj:Oper}(φ:AF)(v:AV)(h:∀d,oj.dst=some d→d∉oi.looksAt ops):iS ops (φ.put oj.dst v) oi=iS ops φ oi:=by
 unfold iS
 cases hg:oi.guard with
 | none=>rfl
 | some gw=>
  obtain⟨g,want⟩:=gw
  cases ht:(ops[g]?).bind (·.dst) with
  | none=>simp only[ht]
  | some t=>
   simp only[ht]
   have:(φ.put oj.dst v) t=φ t:=by
    have:=KT (φ:=φ) (dst:=oj.dst) (v:=v) (x:=.tmp t) (fun d hd hxd=>h d hd (by
     cases hxd
     simp [Oper.looksAt,hg,ht]))
    exact this
   rw[this]
theorem M9{ops:Array Oper}{oi oj:Oper}(φ:AF)(v:AV){st:aA}{K:AV→aA→Prop}(h:∀d,oj.dst=some d→d∉oi.looksAt ops):jM P ops oi (φ.put oj.dst v) st K↔jM P ops oi φ st K:=by
 have h1:eV P [] (φ.put oj.dst v) st oi K=eV P [] φ st oi K:=
  UB fun x hx=>KT fun d hd hxd=>h d hd (by
   subst hxd
   exact List.mem_append_left _ (List.mem_filterMap.2 ⟨.tmp d,by simpa using hx,rfl⟩))
 unfold jM
 rw[h1,aON φ v h]
theorem aHY(n j:Nat):(Array.replicate n false).getD j false=false:=by
 rcases lI j n with h | h<;>simp [h]
def HW(P:Program)(ops:Array Oper)(K:AF→aA→Prop):Nat→Array Bool→AF→aA→Prop
 | 0,listed,φ,st=>Region.ready .any ops listed= []∧K φ st
 | f+1,listed,φ,st=>(Region.ready .any ops listed= []→K φ st)∧∀i∈Region.ready .any ops listed,∃o,ops[i]?=some o∧jM P ops o φ st (fun r st'=>HW P ops K f (listed.setIfInBounds i true) (φ.put o.dst r) st')
theorem aOW{N:Nat}{ops:Array Oper}(hN:∀(j d:Nat),(ops[j]?).bind (·.dst)=some d→d<N){o:Oper}{i:Nat}{a:Act}{w:World}{φ:AF}{st:aA}{G:AV→aA→Prop}{K:Act→World→Prop}{Q:Exit→Act→World→Prop}(hi:ops[i]?=some o)
 (R:Rel N a w φ st) (hd:nM N o=true) (y:jM P ops o φ st G) (h:∀a' w' r st',Rel N a' w' (φ.put o.dst r) st'→bU w.heap st w'.heap st'→eW w w'→G r st'→K a' w'):wpOp P ops Q i K a w:=by
 unfold jM at y
 unfold wpOp
 simp only[hi]
 split at y
 · rename_i hg
   rw[aH (wK R hN hg)]
   refine .inl (H0 R.frame R.store y fun v w' ⟨r',st',x1,x2,x3,x4,x5⟩=>?_)
   exact h _ _ r' st' (R.put hd x3 x2 x1) x3 x4 x5
 · rename_i hg
   rw[aG (by rw[wK R hN hg];simp)]
   exact h _ _ .undef st (R.put (r:=.undef) hd (bU.refl _ _) R.store ⟨rfl,rfl⟩) (bU.refl _ _) (eW.refl _) y
 · exact y.elim
theorem M3{N:Nat}{ops:Array Oper}(hN:∀(j d:Nat),(ops[j]?).bind (·.dst)=some d→d<N)(hD:∀o∈ops.toList,nM N o=true){K:AF→aA→Prop}{Q:Exit→Act→World→Prop}{w0:World}{st0:aA}
 (hK:∀φ st a w,K φ st→Rel N a w φ st→bU w0.heap st0 w.heap st→eW w0 w→Q .normal a w) :
 ∀(f:Nat) (listed:Array Bool) (φ:AF) (st:aA) (a:Act) (w:World),HW P ops K f listed φ st→Rel N a w φ st→bU w0.heap st0 w.heap st→eW w0 w→wpAny P .any ops Q f listed a w
 | 0,listed,φ,st,a,w,h,R,T,s=>⟨h.1,hK φ st a w h.2 R T s⟩
 | f+1,listed,φ,st,a,w,h,R,T,s=>by
  refine⟨fun h0=>hK φ st a w (h.1 h0) R T s,fun i hi=>?_⟩
  obtain⟨o,ho,y⟩:=h.2 i hi
  exact aOW hN ho R (hD o (nF.2 (AR ho))) y fun a' w' r st' R' T' s' g=>M3 hN hD hK f _ _ _ a' w' g R' (T.trans T') (s.trans s')
def TZ(P:Program)(ops:Array Oper)(o:Oper)(r:AV)(φ:AF):Prop:=∀st,jN P st ops o r φ
theorem a42{ops:Array Oper}{o:Oper}{r:AV}{φ:AF}(h:TZ P ops o r φ){st:aA}{K:AV→aA→Prop}(k:K r st):jM P ops o φ st K:=by
 unfold jM
 rcases h st with ⟨hg,hs⟩ | ⟨hg,rfl⟩
 · rw[hg];exact BM (fun r' s' ⟨e1,e2⟩=>by rw[e1,e2];exact k) hs
 · rw[hg];exact k
theorem UE{ops:Array Oper}{o:Oper}{r:AV}{φ:AF}{st:aA}(h:jN P st ops o r φ){K:AV→aA→Prop}(k:K r st):jM P ops o φ st K:=by
 unfold jM
 rcases h with ⟨hg,hs⟩ | ⟨hg,rfl⟩
 · rw[hg];exact BM (fun r' s' ⟨e1,e2⟩=>by rw[e1,e2];exact k) hs
 · rw[hg];exact k
def BE(P:Program)(ops:Array Oper)(S:List Nat)(K:AF→aA→Prop):Nat→Array Bool→AF→aA→Prop
 | 0,listed,φ,st=>Region.ready .any ops listed= []∧K φ st
 | f+1,listed,φ,st=>(Region.ready .any ops listed= []→K φ st)∧∀i∈Region.ready .any ops listed,∃o,ops[i]?=some o ∧
  ((S.contains i=true∧∃r,jN P st ops o r φ∧BE P ops S K f (listed.setIfInBounds i true) (φ.put o.dst r) st) ∨
   (S.contains i=false∧jM P ops o φ st (fun r st'=>BE P ops S K f (listed.setIfInBounds i true) (φ.put o.dst r) st')))
theorem M4{ops:Array Oper}{S:List Nat}{K:AF→aA→Prop}:∀(f:Nat) (listed:Array Bool) (φ:AF) (st:aA),BE P ops S K f listed φ st→HW P ops K f listed φ st
 | 0,_,_,_,h=>h
 | f+1,listed,φ,st,h=>by
  refine⟨h.1,fun i hi=>?_⟩
  obtain⟨o,ho,h2⟩:=h.2 i hi
  refine⟨o,ho,?_⟩
  rcases h2 with ⟨_,r,y,k⟩ | ⟨_,k⟩
  · exact UE y (M4 f _ _ _ k)
  · exact wO (fun r s q=>M4 f _ _ _ q) k
def wC(ops:Array Oper)(listed:Array Bool):Prop:=∀j o,ops[j]?=some o→listed.getD j false=true→∀e∈o.after,Region.binds .any e=true→listed.getD e.on false=true
theorem wC.set{ops:Array Oper}{listed:Array Bool}{i:Nat}(h:wC ops listed)(hr:i∈Region.ready .any ops listed):wC ops (listed.setIfInBounds i true):=by
 intro j o ho hl e he hb
 by_cases hji:i=j
 · subst hji
   obtain⟨_,o',ho',dC⟩:=mem_ready.1 hr
   rw[ho'] at ho;cases ho
   exact getD_set_true (dC e he hb)
 · rw[getD_set_ne false hji] at hl
   exact getD_set_true (h j o ho hl e he hb)
def tO(ops:Array Oper):Nat→Nat→Nat→Bool
 | 0,_,_=>false
 | f+1,j,i=>match ops[j]? with
  | some o=>o.after.any fun e=>Region.binds .any e&&(e.on == i||tO ops f e.on i)
  | none=>false
theorem IY{ops:Array Oper}{listed:Array Bool}{i:Nat}(h:wC ops listed)(hi:listed.getD i false=false):∀(f j:Nat) (o:Oper),ops[j]?=some o→tO ops f j i=true→¬ ∀e∈o.after,Region.binds .any e=true→listed.getD e.on false=true
 | 0,j,o,_,hd=>by simp [tO] at hd
 | f+1,j,o,ho,hd=>by
  intro dC
  simp only[tO,ho] at hd
  obtain⟨e,he,h2⟩:=Array.any_eq_true'.1 hd
  simp only[cT,n7,beq_iff_eq] at h2
  obtain⟨hb,h3⟩:=h2
  have hl:=dC e he hb
  rcases h3 with h3 | h3
  · rw[h3,hi] at hl;cases hl
  · cases hk:ops[e.on]? with
    | none=>cases f<;>simp [tO,hk] at h3
    | some o2=>exact IY h hi f e.on o2 hk h3 (h e.on o2 hk hl)
def fJ(st s:aA):Prop:=∀b o,st b=some o→s b=some o
theorem fJ.refl(st:aA):fJ st st:=fun _ _ h=>h
theorem fJ.trans{a b c:aA}(x:fJ a b)(y:fJ b c):fJ a c:=fun q o h=>y q o (x q o h)
def H5(o:Oper):Bool:=match o.op with
 | .alloc _=>true
 | _=>false
theorem aOV{ops:Array Oper}{o:Oper}{φ:AF}{st:aA}{K:AV→aA→Prop}(ho:H5 o=true)(e:jM P ops o φ st K):jM P ops o φ st (fun r st'=>fJ st st'∧K r st'):=by
 obtain⟨dst,op,type,pos,after,guard⟩:=o
 cases op<;>simp only[H5,jF] at ho
 unfold jM at e ⊢
 split at e
 · simp only[eV] at e ⊢
   split at e
   · intro b hb
     refine⟨fun q o hq=>?_,e b hb⟩
     rw[aA.aF _ _ (by rintro rfl;rw[hb] at hq;cases hq)]
     exact hq
   · cases e
 · exact⟨fJ.refl _,e⟩
 · cases e
theorem M5{ops:Array Oper}{S:List Nat}{i:Nat}{oi:Oper}{v:AV}{K:AF→aA→Prop}(hi:ops[i]?=some oi)(hS:S.contains i=true) :
 ∀(f:Nat) (listed:Array Bool) (φ:AF) (st:aA),wC ops listed →
  (∀j oj,ops[j]?=some oj→j≠i→listed.getD j true=false→(∀e∈oj.after,Region.binds .any e=true→e.on≠i)→oi.apart ops oj=true) →
  i∈Region.ready .any ops listed→((∀s,jN P s ops oi v φ)∨(jN P st ops oi v φ∧∀j oj,ops[j]?=some oj→listed.getD j true=false→S.contains j=false→∃g,tO ops g j i=true)∨((∀s,fJ st s→jN P s ops oi v φ)∧∀j oj,ops[j]?=some oj→listed.getD j true=false→S.contains j=false→(∃g,tO ops g j i=true)∨H5 oj=true)) →
  BE P ops S K f (listed.setIfInBounds i true) (φ.put oi.dst v) st→BE P ops S K (f+1) listed φ st:=by
 intro f
 induction f with
 | zero=>
  intro listed φ st hcl _ hr hy H
  have hy0:jN P st ops oi v φ:=by
   rcases hy with h | h | h
   · exact h st
   · exact h.1
   · exact h.1 st (fJ.refl st)
  refine⟨fun h=>(by rw[h] at hr;cases hr),fun j hj=>?_⟩
  by_cases hji:j=i
  · subst hji;exact⟨oi,hi,.inl ⟨hS,v,hy0,H⟩⟩
  · have:=ready_mono hj hji
    rw[H.1] at this
    cases this
 | succ f ih=>
  intro listed φ st hcl pZ hr hy H
  have hy0:jN P st ops oi v φ:=by
   rcases hy with h | h | h
   · exact h st
   · exact h.1
   · exact h.1 st (fJ.refl st)
  refine⟨fun h=>(by rw[h] at hr;cases hr),fun j hj=>?_⟩
  by_cases hji:j=i
  · subst hji;exact⟨oi,hi,.inl ⟨hS,v,hy0,H⟩⟩
  · obtain⟨oj,hoj,h1⟩:=H.2 j (ready_mono hj hji)
    obtain⟨oP,oj',zC,dC⟩:=mem_ready.1 hj
    have:oj'=oj:=mZ (zC.symm.trans hoj)
    subst this
    have hun:=(mem_ready.1 hr).1
    have sT:∀e∈oj'.after,Region.binds .any e=true→e.on≠i:=fun e he hb heq=>by
     have h1:=dC e he hb
     rw[heq,getD_both hun] at h1
     cases h1
    obtain⟨a1,a2,a3⟩:=Oper.apart_spec (pZ j oj' hoj hji oP sT)
    have tX:∀k ok,ops[k]?=some ok→k≠i→(listed.setIfInBounds j true).getD k true=false →
     (∀e∈ok.after,Region.binds .any e=true→e.on≠i)→oi.apart ops ok=true:=fun k ok hk hki hun hno=>by
     refine pZ k ok hk hki ?_ hno
     by_cases hjk:j=k
     · subst hjk;exact oP
     · rw[getD_set_ne true hjk] at hun;exact hun
    have PX:∀k,(listed.setIfInBounds j true).getD k true=false→listed.getD k true=false:=fun k hk=>by
     by_cases hjk:j=k
     · subst hjk;exact oP
     · rw[getD_set_ne true hjk] at hk;exact hk
    refine⟨oj',hoj,?_⟩
    rcases h1 with ⟨hSj,r,yj,h2⟩ | ⟨hSj,h2⟩
    · refine .inl ⟨hSj,r,(pL φ v a1).1 yj,ih (listed.setIfInBounds j true) (φ.put oj'.dst r) st (hcl.set hj) tX (ready_mono hr (dF hji)) ?_ ?_⟩
      · rcases hy with h | h | h
        · exact .inl fun s=>(pL φ r a3).2 (h s)
        · exact .inr (.inl ⟨(pL φ r a3).2 h.1,fun k ok hk hl hs=>h.2 k ok hk (PX k hl) hs⟩)
        · exact .inr (.inr ⟨fun s hs=>(pL φ r a3).2 (h.1 s hs),fun k ok hk hl hs=>h.2 k ok hk (PX k hl) hs⟩)
      · rw[AS _ _ hji,←put_comm φ v r a2]
        exact h2
    · rcases hy with hf | ⟨_,hd⟩ | ⟨hx,hd⟩
      · refine .inr ⟨hSj,wO (fun r st' h3=>?_) ((M9 φ v a1).1 h2)⟩
        refine ih (listed.setIfInBounds j true) (φ.put oj'.dst r) st' (hcl.set hj) tX (ready_mono hr (dF hji)) (.inl fun s=>(pL φ r a3).2 (hf s)) ?_
        rw[AS _ _ hji,←put_comm φ v r a2]
        exact h3
      · obtain⟨g,hg⟩:=hd j oj' hoj oP hSj
        exact absurd dC (IY hcl (getD_both hun) g j oj' hoj hg)
      · rcases hd j oj' hoj oP hSj with ⟨g,hg⟩ | hal
        · exact absurd dC (IY hcl (getD_both hun) g j oj' hoj hg)
        · refine .inr ⟨hSj,wO (fun r st' h3=>?_) (aOV hal ((M9 φ v a1).1 h2))⟩
          refine ih (listed.setIfInBounds j true) (φ.put oj'.dst r) st' (hcl.set hj) tX (ready_mono hr (dF hji)) (.inr (.inr ⟨fun s hs=>(pL φ r a3).2 (hx s (h3.1.trans hs)),fun k ok hk hl hs=>hd k ok hk (PX k hl) hs⟩)) ?_
          rw[AS _ _ hji,←put_comm φ v r a2]
          exact h3.2
def aLX(ops:Array Oper)(S:List Nat)(listed:Array Bool)(i:Nat):Bool:=(List.range ops.size).all fun j=>listed.getD j true||S.contains j||tO ops ops.size j i
def aLW(ops:Array Oper)(S:List Nat)(listed:Array Bool)(i:Nat):Bool:=(List.range ops.size).all fun j=>listed.getD j true||S.contains j||tO ops ops.size j i||((ops[j]?).map H5).getD false
def aKU(ops:Array Oper)(i:Nat):Bool:=((ops[i]?).map kB).getD false
def sV(ops:Array Oper)(S:List Nat):List (Nat×Nat)→Array Bool→Bool
 | [],listed=>(Region.ready .any ops listed).isEmpty
 | (i,0)::r,listed=>decide (Region.ready .any ops listed= [i])&& !S.contains i&&sV ops S r (listed.setIfInBounds i true)
 | (i,1)::r,listed=>(Region.ready .any ops listed).contains i&&Region.free .any ops listed i&&S.contains i&&sV ops S r (listed.setIfInBounds i true)
 | (i,_)::r,listed=>(Region.ready .any ops listed).contains i&&Region.free .any ops listed i&&S.contains i&&(aLX ops S listed i||(aKU ops i&&aLW ops S listed i))&&sV ops S r (listed.setIfInBounds i true)
def BJ(P:Program)(ops:Array Oper)(K:AF→aA→Prop):List (Nat×Nat)→AF→aA→Prop
 | [],φ,st=>K φ st
 | (i,0)::r,φ,st=>∃o,ops[i]?=some o∧jM P ops o φ st (fun v st'=>BJ P ops K r (φ.put o.dst v) st')
 | (i,1)::r,φ,st=>∃o,ops[i]?=some o∧∃v,TZ P ops o v φ∧BJ P ops K r (φ.put o.dst v) st
 | (i,_)::r,φ,st=>∃o,ops[i]?=some o∧∃v,jN P st ops o v φ∧BJ P ops K r (φ.put o.dst v) st
theorem aY2{t:TypeId}{ok:Bool}{x i r:AV}{st s:aA}(hs:fJ st s)(h:oC P st t ok x i=some r):oC P s t ok x i=some r:=by
 unfold oC at *
 split at h
 · rename_i b n
   cases hb:st b with
   | none=>rw[hb] at h;cases h
   | some o=>rw[hs b o hb,←hb];exact h
 · cases h
theorem aYX{t:TypeId}{x r:AV}{st s:aA}(hs:fJ st s)(h:gN P st t x=some r):gN P s t x=some r:=by
 unfold gN at *
 split at h
 · exact h
 · rename_i b o
   cases hb:st b with
   | none=>rw[hb] at h;split at h<;>simp_all
   | some o=>rw[hs b o hb,←hb];exact h
 · cases h
theorem UC{φ:AF}{o:Oper}{r:AV}{st s:aA}(hs:fJ st s)(h:kT P φ st o=some r):kT P φ s o=some r:=by
 obtain⟨dst,op,type,pos,after,guard⟩:=o
 cases op
 case makeFunc fn a b=>cases fn<;>exact h
 case call c=>
  obtain⟨callee,args,ats⟩:=c
  cases callee
  case builtin b=>cases b<;>exact h
  all_goals exact h
 case load=>exact aYX hs h
 case lookup=>exact aY2 hs h
 all_goals exact h
theorem aO0{ops:Array Oper}{o:Oper}{v:AV}{φ:AF}{st s:aA}(hp:kB o=true)(hs:fJ st s)(h:jN P st ops o v φ):jN P s ops o v φ:=by
 rcases h with ⟨h1,h2⟩ | h
 · refine .inl ⟨h1,?_⟩
   rw[sE hp] at h2 ⊢
   cases hv:kT P φ st o with
   | none=>rw[hv] at h2;cases h2
   | some r=>
    rw[hv] at h2
    rw[UC hs hv]
    exact⟨h2.1,rfl⟩
 · exact .inr h
theorem EG{ops:Array Oper}{S:List Nat}{K:AF→aA→Prop}:∀(p:List (Nat×Nat)) (listed:Array Bool) (φ:AF) (st:aA),wC ops listed→sV ops S p listed=true→BJ P ops K p φ st→BE P ops S K p.length listed φ st
 | [],listed,φ,st,_,hB,h=>⟨by simpa [sV] using hB,h⟩
 | (i,0)::r,listed,φ,st,hcl,hB,h=>by
  simp only[sV,cT,bM,gW] at hB
  obtain⟨o,ho,h'⟩:=h
  have hr:i∈Region.ready .any ops listed:=by rw[hB.1.1];simp
  refine⟨fun h0=>(by rw[hB.1.1] at h0;cases h0),fun j hj=>?_⟩
  rw[hB.1.1] at hj
  obtain rfl:j=i:=by simpa using hj
  exact⟨o,ho,.inr ⟨hB.1.2,wO (fun v st' q=>EG r _ _ _ (hcl.set hr) hB.2 q) h'⟩⟩
 | (i,1)::r,listed,φ,st,hcl,hB,h=>by
  simp only[sV,cT] at hB
  obtain⟨⟨⟨hr,hf⟩,hS⟩,hB'⟩:=hB
  obtain⟨o,ho,v,hv,h'⟩:=h
  have hr':i∈Region.ready .any ops listed:=by simpa using hr
  exact M5 ho hS _ listed φ st hcl (Region.free_spec ho hf) hr' (.inl hv) (EG r _ _ _ (hcl.set hr') hB' h')
 | (i,k+2)::r,listed,φ,st,hcl,hB,h=>by
  simp only[sV,cT] at hB
  obtain⟨⟨⟨⟨hr,hf⟩,hS⟩,hd⟩,hB'⟩:=hB
  obtain⟨o,ho,v,hv,h'⟩:=h
  have hr':i∈Region.ready .any ops listed:=by simpa using hr
  rw[n7] at hd
  rcases hd with hd | hd
  · refine M5 ho hS _ listed φ st hcl (Region.free_spec ho hf) hr' (.inr (.inl ⟨hv,fun j oj hj hl hs=>⟨ops.size,?_⟩⟩)) (EG r _ _ _ (hcl.set hr') hB' h')
    simp only[aLX,eD,uL] at hd
    have:=hd j (DW.1 hj).1
    simpa only[hl,hs,qL] using this
  · rw[cT] at hd
    obtain⟨hp,hd⟩:=hd
    simp only[aKU,ho,oB,D6] at hp
    refine M5 ho hS _ listed φ st hcl (Region.free_spec ho hf) hr' (.inr (.inr ⟨fun s hs=>aO0 hp hs hv,fun j oj hj hl hs=>?_⟩)) (EG r _ _ _ (hcl.set hr') hB' h')
    simp only[aLW,eD,uL] at hd
    have:=hd j (DW.1 hj).1
    simp only[hl,hs,qL,hj,oB,D6,n7] at this
    exact this.imp (fun h=>⟨ops.size,h⟩) id
theorem aPP{N:Nat}{id:Nat}{ops:Array Oper}{Q:Exit→AF→aA→Prop}{φ:AF}{st:aA}(p:List (Nat×Nat))(S:List Nat)(hm:P.follows .mixedOrders=true)(hok:qA N ops=true)(hl:p.length=ops.size)(hB:sV ops S p (Array.replicate ops.size false)=true)
 (h:BJ P ops (Q .normal) p φ st):fC P N (.region id ops true) Q φ st:=by
 intro a w R
 refine wp_region_any hm ?_
 have R0:Rel N a { w with drawn:=w.drawn+1 } φ st:=⟨R.size,R.defers,R.frame,R.store⟩
 have:=M4 _ _ _ _ (EG p _ φ st (fun j o _ hl=>(by rw[aHY] at hl;cases hl)) hB h)
 rw[hl] at this
 exact M3 (zS hok) (xL hok) (w0:=w) (st0:=st) (fun φ' st' a' w' k R' T s=>⟨φ',st',R',T,s,k⟩) _ _ _ _ _ _ this R0 (bU.refl _ _) ⟨rfl,rfl,rfl⟩
theorem aY1{t:TypeId}{ok:Bool}{x i r:AV}(h:oC P dH t ok x i=some r)(st:aA):oC P st t ok x i=some r:=by
 unfold oC at *
 split at h
 · simp only[dH] at h;cases h
 · cases h
theorem aYW{t:TypeId}{x r:AV}(h:gN P dH t x=some r)(st:aA):gN P st t x=some r:=by
 unfold gN at *
 split at h
 · exact h
 · split at h
   · rename_i h1;simp only[dH] at h1;cases h1
   · cases h
 · cases h
theorem aOX{φ:AF}{o:Oper}{r:AV}(h:kT P φ dH o=some r)(st:aA):kT P φ st o=some r:=by
 obtain⟨dst,op,type,pos,after,guard⟩:=o
 cases op
 case makeFunc fn a b=>cases fn<;>exact h
 case call c=>
  obtain⟨callee,args,ats⟩:=c
  cases callee
  case builtin b=>cases b<;>exact h
  all_goals exact h
 case load=>exact aYW h st
 case lookup=>exact aY1 h st
 all_goals exact h
def jL(P:Program)(ops:Array Oper)(K:AF→aA→Prop):List (Nat×Nat)→AF→aA→Prop
 | [],φ,st=>K φ st
 | (i,0)::r,φ,st=>match ops[i]? with
  | none=>False
  | some o=>bE P [] ops [o] (fun φ' st'=>jL P ops K r φ' st') φ st
 | (i,1)::r,φ,st=>match ops[i]? with
  | none=>False
  | some o=>if kB o=true then bE P [] ops [o] (fun φ' _=>jL P ops K r φ' st) φ dH else
   match o.guard,o.op with
   | none,.call { callee:=.value f,args,.. }=>∃v,(∀s,sI P (φ.eval f) (args.toList.map φ.eval) s (fun r' s'=>r'=v∧s'=s))∧jL P ops K r (φ.put o.dst v) st
   | _,_=>False
 | (i,_)::r,φ,st=>match ops[i]? with
  | none=>False
  | some o=>if kB o=true then bE P [] ops [o] (fun φ' _=>jL P ops K r φ' st) φ st else
   match o.guard,o.op with
   | none,.call { callee:=.value f,args,.. }=>∃v,sI P (φ.eval f) (args.toList.map φ.eval) st (fun r' s'=>r'=v∧s'=st)∧jL P ops K r (φ.put o.dst v) st
   | _,_=>False
theorem uR{ops:Array Oper}{K:AF→aA→Prop}:∀(p:List (Nat×Nat)) (φ:AF) (st:aA),jL P ops K p φ st→BJ P ops K p φ st
 | [],_,_,h=>h
 | (i,0)::r,φ,st,h=>by
  simp only[jL] at h
  split at h
  · exact h.elim
  · rename_i o ho
    refine⟨o,ho,?_⟩
    simp only[bE] at h
    unfold jM
    split at h
    · rename_i hg
      rw[hg]
      exact BM (fun v s q=>uR r _ _ q) h
    · rename_i hg
      rw[hg]
      exact uR r _ _ h
    · exact h.elim
 | (i,1)::r,φ,st,h=>by
  simp only[jL] at h
  split at h
  · exact h.elim
  · rename_i o ho
    split at h
    · rename_i hp
      simp only[bE] at h
      split at h
      · rename_i hg
        rw[sE hp] at h
        split at h
        · rename_i v hv
          exact⟨o,ho,v,fun s=>.inl ⟨hg,by rw[sE hp,aOX hv s];exact⟨rfl,rfl⟩⟩,uR r _ _ h⟩
        · exact h.elim
      · rename_i hg
        exact⟨o,ho,.undef,fun s=>.inr ⟨hg,rfl⟩,uR r _ _ h⟩
      · exact h.elim
    · split at h
      · rename_i f args ats hg hop
        obtain⟨v,h1,h2⟩:=h
        refine⟨o,ho,v,fun s=>.inl ⟨by simp only[iS,hg],?_⟩,uR r _ _ h2⟩
        simp only[eV,hop]
        exact h1 s
      · exact h.elim
 | (i,k+2)::r,φ,st,h=>by
  simp only[jL] at h
  split at h
  · exact h.elim
  · rename_i o ho
    split at h
    · rename_i hp
      simp only[bE] at h
      split at h
      · rename_i hg
        rw[sE hp] at h
        split at h
        · rename_i v hv
          exact⟨o,ho,v,.inl ⟨hg,by rw[sE hp,hv];exact⟨rfl,rfl⟩⟩,uR r _ _ h⟩
        · exact h.elim
      · rename_i hg
        exact⟨o,ho,.undef,.inr ⟨hg,rfl⟩,uR r _ _ h⟩
      · exact h.elim
    · split at h
      · rename_i f args ats hg hop
        obtain⟨v,h1,h2⟩:=h
        refine⟨o,ho,v,.inl ⟨by simp only[iS,hg],?_⟩,uR r _ _ h2⟩
        simp only[eV,hop]
        exact h1
      · exact h.elim
end
def QT(P:Program)(ops:Array Oper)(K:AF→aA→Prop)(r:List (Nat×Nat))(φ:AF)(st:aA):Prop:=jL P ops K r φ st
def GJ(P:Program)(ops:Array Oper)(K:AF→aA→Prop)(r:List (Nat×Nat))(st:aA)(φ:AF)(_:aA):Prop:=jL P ops K r φ st
def zU(P:Program)(ops:Array Oper)(K:AF→aA→Prop)(r:List (Nat×Nat))(φ:AF)(dst:Option Tmp)(st:aA)(v:AV):Prop:=jL P ops K r (φ.put dst v) st
def EX(P:Program)(f:AV)(args:List AV)(K:AV→Prop):Prop:=∃v,(∀s,sI P f args s (fun r' s'=>r'=v∧s'=s))∧K v
def C7(P:Program)(ops:Array Oper)(K:AF→aA→Prop)(r:List (Nat×Nat))(φ:AF)(st:aA):Nat→Option Oper→Prop
 | 0,some o=>bE P [] ops [o] (QT P ops K r) φ st
 | 1,some o=>if kB o=true then bE P [] ops [o] (GJ P ops K r st) φ dH else
  match o.guard,o.op with
  | none,.call { callee:=.value f,args,.. }=>EX P (φ.eval f) (args.toList.map φ.eval) (zU P ops K r φ o.dst st)
  | _,_=>False
 | _,some o=>if kB o=true then bE P [] ops [o] (GJ P ops K r st) φ st else
  match o.guard,o.op with
  | none,.call { callee:=.value f,args,.. }=>wT P (φ.eval f) (args.toList.map φ.eval) st (zU P ops K r φ o.dst st)
  | _,_=>False
 | _,none=>False
theorem aDE{P:Program}{ops:Array Oper}{K:AF→aA→Prop}{φ:AF}{st:aA}:jL P ops K [] φ st=K φ st:=rfl
theorem aDF{P:Program}{l:List Oper}{K:AF→aA→Prop}{φ:AF}{st:aA}{i b:Nat}{r:List (Nat×Nat)}:jL P l.toArray K ((i,b)::r) φ st=C7 P l.toArray K r φ st b l[i]?:=by
 match b with
 | 0=>simp only[jL,yD];cases l[i]?<;>rfl
 | 1=>simp only[jL,yD];cases l[i]?<;>rfl
 | b+2=>simp only[jL,yD];cases l[i]?<;>rfl
theorem aDJ{P:Program}{ops:Array Oper}{K:AF→aA→Prop}{φ:AF}{st:aA}{r:List (Nat×Nat)}{o:Oper}:C7 P ops K r φ st 0 (some o)=bE P [] ops [o] (QT P ops K r) φ st:=rfl
theorem aDK{P:Program}{ops:Array Oper}{K:AF→aA→Prop}{φ:AF}{st:aA}{r:List (Nat×Nat)}{o:Oper}:C7 P ops K r φ st 1 (some o)=if kB o=true then bE P [] ops [o] (GJ P ops K r st) φ dH else
      match o.guard,o.op with
      | none,.call { callee:=.value f,args,.. }=>EX P (φ.eval f) (args.toList.map φ.eval) (zU P ops K r φ o.dst st)
      | _,_=>False:=rfl
theorem aDL{P:Program}{ops:Array Oper}{K:AF→aA→Prop}{φ:AF}{st:aA}{r:List (Nat×Nat)}{o:Oper}:C7 P ops K r φ st 2 (some o)=if kB o=true then bE P [] ops [o] (GJ P ops K r st) φ st else
      match o.guard,o.op with
      | none,.call { callee:=.value f,args,.. }=>wT P (φ.eval f) (args.toList.map φ.eval) st (zU P ops K r φ o.dst st)
      | _,_=>False:=rfl
theorem aDI{P:Program}{ops:Array Oper}{K:AF→aA→Prop}{φ:AF}{st:aA}{r:List (Nat×Nat)}:QT P ops K r φ st=jL P ops K r φ st:=rfl
theorem aDH{P:Program}{ops:Array Oper}{K:AF→aA→Prop}{φ:AF}{st s:aA}{r:List (Nat×Nat)}:GJ P ops K r st φ s=jL P ops K r φ st:=rfl
theorem aDG{P:Program}{ops:Array Oper}{K:AF→aA→Prop}{φ:AF}{st:aA}{r:List (Nat×Nat)}{dst:Option Tmp}{v:AV}:zU P ops K r φ dst st v=jL P ops K r (φ.put dst v) st:=rfl
theorem N7{P:Program}{g:FuncId}{args:List AV}{r:AV}{K:AV→Prop}(x:∀st,aD P g args st (fun r' st'=>r'=r∧st'=st))(h:K r):EX P (.func g []) args K:=⟨r,fun st=>by show aD P g (args++ []) st _;rw[fA];exact x st,h⟩
@[congr] theorem a5H {P:Program} {ops:Array Oper} {K:AF→aA→Prop} {p:List (Nat×Nat)} {φ φ':AF} {st st':aA} (h1:φ=φ') (h2:st=st'):jL P ops K p φ st=jL P ops K p φ' st':=by rw[h1,h2]
@[congr] theorem a5V {P:Program} {ops:Array Oper} {K:AF→aA→Prop} {p:List (Nat×Nat)} {φ φ':AF} {st st':aA} {b:Nat} {o o':Option Oper} (h1:φ=φ') (h2:st=st') (h3:o=o'):C7 P ops K p φ st b o=C7 P ops K p φ' st' b o':=by rw[h1,h2,h3]
@[congr] theorem a5U {P:Program} {ops:Array Oper} {K:AF→aA→Prop} {p:List (Nat×Nat)} {φ φ':AF} {dst:Option Tmp} {st st':aA} {v v':AV} (h1:φ=φ') (h2:st=st') (h3:v=v'):zU P ops K p φ dst st v=zU P ops K p φ' dst st' v':=by rw[h1,h2,h3]
@[congr] theorem a5L {P:Program} {f f':AV} {args args':List AV} {K:AV→Prop} (h0:f=f') (h1:args=args'):EX P f args K=EX P f' args' K:=by rw[h0,h1]
theorem zx5{P:Program}{N:Nat}{id:Nat}{l:List Oper}{Q:Exit→AF→aA→Prop}{φ:AF}{st:aA}(p:List (Nat×Nat))(S:List Nat)(hm:P.follows .mixedOrders=true)(hok:qA N l.toArray=true)(hl:p.length=l.length)(hB:sV l.toArray S p (Array.replicate l.length false)=true)
 (h:jL P l.toArray (Q .normal) p φ st):fC P N (.region id l.toArray true) Q φ st:=
 aPP p S hm hok (by simpa using hl) (by simpa using hB) (uR p φ st h)
theorem aO4{P:Program}{t:TypeId}{ag:Bool}{w bytes:Nat}{zs:List AV}{s:aA}{b:Nat}{l xs:List AV}{x:AV}{K:AV→aA→Prop}
 (hI:eI P t=some (ag,w)) (hB:eB P t=some bytes) (hZ:eZ P t=some zs) (hz:zs.length=w) (hx:wJ x=some xs) (eL:uV w xs) (hw:∀e∈l,e.width=w) (hb:l≠[]→s b=some (.cells (l.flatMap AV.cells)))
 (h1:(l.length+xs.length)*bytes≤140737488355328) (h2:l.length+xs.length≤9223372036854775807)
 (hK:∀b' s',(l++xs≠[]→s' b'=some (.cells ((l++xs).flatMap AV.cells)))→(l++xs≠[]→b'=b∧l≠[]∨s b'=none)→(∀q,(l++xs≠[]→q≠b')→(l≠[]→q≠b)→s' q=s q)→(l≠[]→b'≠b→s' b=none)→K (bS w b' (l++xs)) s'):iZ P t s (bS w b l) x K:=by
 unfold iZ
 rw[hI,hB,hZ,hx]
 refine⟨hz,eL,?_⟩
 cases l with
 | nil=>
  show _∧_∧_∧_∧_
  refine⟨by simpa using h1,by simpa using h2,by simp,?_,?_⟩
  · rintro rfl
    have:=hK b s (by simp) (by simp) (fun _ _ _=>rfl) (by simp)
    simpa [bS] using this
  · intro hne b' hb'
    have:=hK b' (s.aC b' (.cells (xs.flatMap AV.cells))) (fun _=>by rw[aA.aJ];simp) (fun _=>.inr hb') (fun q h _=>aA.aF _ _ (h (by simpa using hne))) (by simp)
    rw[eU,oF hne] at this
    simpa using this
 | cons y l=>
  have hb:=hb (by simp)
  show w=w∧_∧_∧_
  refine⟨rfl,h1,h2,?_⟩
  have hfl:((y::l).flatMap AV.cells).length=(y::l).length*w:=lK hw
  rw[hb]
  refine⟨by rw[hfl];exact cO _,?_,?_⟩
  · have:=hK b (s.aC b (.cells ((y::l++xs).flatMap AV.cells))) (fun _=>aA.aJ _ _ _) (fun _=>.inl ⟨rfl,by simp⟩) (fun q h _=>aA.aF _ _ (h (by simp))) (fun _ h=>absurd rfl h)
    rw[oF (by simp),r7,dP] at this
    rw[←hfl,dQ]
    exact this
  · intro b' hb'
    have hne:b'≠b:=by rintro rfl;rw[hb] at hb';cases hb'
    have:=hK b' ((s.erase b).aC b' (.cells ((y::l++xs).flatMap AV.cells))) (fun _=>aA.aJ _ _ _) (fun _=>.inr hb') (fun q h h'=>by
     rw[aA.aF _ _ (h (by simp))]
     simp only[aA.erase,h' (by simp),cS]) (fun _ _=>by rw[aA.aF _ _ (dF hne)];exact aA.W6 _ _)
    rw[oF (by simp),r7,dP] at this
    rw[←hfl,dQ]
    exact this
def uJ(es:List AV)(st:aA)(i:Nat)(os:List AV)(bs:List Nat)(b:Nat)(s:aA):Prop:=
 os.length=i∧aW s (es.take i) os bs∧bs.Nodup∧(∀q∈bs,st q=none)∧(os≠[]→st b=none∧b∉bs∧s b=some (.cells (os.flatMap AV.cells)))∧∀q,q∉bs→(os≠[]→q≠b)→s q=st q
theorem uJ.start{es:List AV}{st:aA}{b:Nat}:uJ es st 0 [] [] b st:=⟨rfl,by simp [aW],lS,by simp,by simp,fun _ _ _=>rfl⟩
theorem QB{b x:Nat}{l:List AV}:x∈uS b l↔x=b∧l≠[]:=by cases l<;>simp [uS]
theorem uJ.done{es:List AV}{st:aA}{n w:Nat}{os:List AV}{bs:List Nat}{b:Nat}{s:aA}(h:uJ es st n os bs b s)(hl:es.length=n)(hw:∀e∈es,e.width=w):Made st (.slice es) (bS w b os) s:=by
 obtain⟨h1,h2,h3,h4,h5,h6⟩:=h
 rw[mY (by omega)] at h2
 refine⟨uS b os++bs,?_,fun q hq=>?_,?_,fun q hq=>?_⟩
 · rw[jW]
   refine⟨by cases os<;>simp [uS],h3,fun x hx y hy e=>?_⟩
   obtain⟨rfl,hne⟩:=QB.1 hx
   exact(h5 hne).2.1 (e▸hy)
 · rcases dS.1 hq with hq | hq
   · obtain⟨rfl,hne⟩:=QB.1 hq
     exact(h5 hne).1
   · exact h4 q hq
 · cases os with
   | nil=>
    have:es= []:=by simpa using h2.length.symm
    subst this
    simp only[aW] at h2
    simp only[aV,bS,uS,h2.2]
    exact .inl ⟨trivial,trivial,rfl⟩
   | cons o os=>
    simp only[aV,bS,uS]
    refine .inr ⟨b,bs,o::os,w,by rw[h2.length],rfl,(h5 (by simp)).2.2,h2,hw⟩
 · simp only[dS,QB,kH,not_and] at hq
   exact h6 q hq.2 (fun hne e=>hq.1 e hne)
theorem aW.S8{st:aA}{w:Nat}:∀ {as os:List AV} {bs:List Nat},aW st as os bs→(∀e∈as,e.width=w)→∀o∈os,o.width=w
 | [],os,bs,x,_=>by simp only[aW] at x;rw[x.1];simp
 | a::as,os,bs,x,h=>by
  simp only[aW] at x
  obtain⟨o,os',b1,b2,rfl,rfl,x1,x2⟩:=x
  intro q hq
  rcases cQ.1 hq with rfl | hq
  · rw[(aV.shape x1).2.1,h a (by simp)]
  · exact aW.S8 x2 (fun e he=>h e (by simp [he])) q hq
theorem aV.aTD{st:aA}{e r:AV}{bs:List Nat}{w:Nat}(m3:aV st e r bs)(hwe:e.width=w)(hst:e.cells.all AV.storable=true):r.width=w∧r.cells.length=w∧r.cells.all AV.storable=true:=by
 refine⟨(aV.shape m3).2.1.trans hwe,by rw[pN,(aV.shape m3).2.1,hwe],?_⟩
 cases e<;>simp only[aV] at m3<;>try exact m3.elim
 case int=>rw[m3.1];try rfl
 case bool=>rw[m3.1];try rfl
 case str=>rw[m3.1];try rfl
 case slice=>rcases m3 with ⟨_,rfl,_⟩ | ⟨_,_,_,_,rfl,_⟩<;>rfl
 case agg cs=>
  obtain⟨q,rfl,m3⟩:=m3
  refine(aV.ND m3 fun c hc=>?_).1
  have hst:cs.all AV.storable=true:=hst
  have:=eD.1 hst c hc
  cases c<;>first | rfl | (simp [AV.storable] at this)
theorem uJ.step{es:List AV}{st:aA}{i:Nat}{os:List AV}{bs bx:List Nat}{b x b':Nat}{s s2 s':aA}{o:AO}{e r:AV}(h:uJ es st i os bs b s)(hx:s x=none)(he:es[i]?=some e)
 (m1:bx.Nodup) (m2:∀q∈bx,(s.aC x o) q=none) (m3:aV s2 e r bx) (m4:∀q,q∉bx→s2 q=(s.aC x o) q)
 (k1:s' b'=some (.cells ((os++ [r]).flatMap AV.cells))) (k2:b'=b∧os≠[]∨s2 b'=none) (k3:∀q,q≠b'→(os≠[]→q≠b)→s' q=s2 q) (k4:os≠[]→b'≠b→s' b=none) :
 uJ es st (i+1) (os++ [r]) (bs++bx) b' (s'.erase x):=by
 obtain⟨h1,h2,h3,h4,h5,h6⟩:=h
 have xG:=aW.fZ _ _ _ h2
 have hi:i<es.length:=(eE.1 he).1
 have zG:∀q∈bs,s q≠none:=fun q hq=>by obtain⟨cs,e1,_⟩:=xG.2 q hq;rw[e1];simp
 have aXU:x∉bs:=fun hq=>zG x hq hx
 have hxb:os≠[]→x≠b:=fun hne e=>by have:=(h5 hne).2.2;rw[←e,hx] at this;cases this
 have PZ:x∉bx:=fun hq=>by have:=m2 x hq;rw[aA.aJ] at this;cases this
 have hbx:∀q∈bx,s q=none:=fun q hq=>by
  have:=m2 q hq
  have hne:q≠x:=fun e=>PZ (e▸hq)
  rwa [aA.aF _ _ hne] at this
 have nA:∀q∈bs,q∉bx:=fun q hq hq'=>zG q hq (hbx q hq')
 have aIE:os≠[]→b∉bx:=fun hne hq=>by have:=hbx b hq;rw[(h5 hne).2.2] at this;cases this
 have aXL:s2 x=some o:=by rw[m4 x PZ,aA.aJ]
 have hs2:∀q,q∉bx→q≠x→s2 q=s q:=fun q h1 h2=>by rw[m4 q h1,aA.aF _ _ h2]
 have O7:b'≠x:=by
  rcases k2 with ⟨rfl,hne⟩ | hn
  · exact dF (hxb hne)
  · rintro rfl;rw[aXL] at hn;cases hn
 have JX:b'∉bx:=by
  rcases k2 with ⟨rfl,hne⟩ | hn
  · exact aIE hne
  · intro hq
    obtain⟨cs,e1,_⟩:=(aV.fZ _ _ _ m3).2.2 b' hq
    rw[e1] at hn;cases hn
 have O6:b'∉bs:=by
  rcases k2 with ⟨rfl,hne⟩ | hn
  · exact(h5 hne).2.1
  · intro hq
    rw[hs2 b' JX O7] at hn
    exact zG b' hq hn
 have aXM:st b'=none:=by
  rcases k2 with ⟨rfl,hne⟩ | hn
  · exact(h5 hne).1
  · rw[hs2 b' JX O7] at hn
    by_cases hbb:os≠[]∧b'=b
    · rw[hbb.2];exact(h5 hbb.1).1
    · rw[←h6 b' O6 (fun hne e=>hbb ⟨hne,e⟩)];exact hn
 have aVY:os≠[]→∀q∈bs,q≠b:=fun hne q hq e=>(h5 hne).2.1 (e▸hq)
 have CL:∀q∈bs,(s'.erase x) q=s q:=fun q hq=>by
  have hqx:q≠x:=fun e=>aXU (e▸hq)
  simp only[aA.erase,hqx,cS]
  rw[k3 q (fun e=>O6 (e▸hq)) (fun hne=>aVY hne q hq),hs2 q (nA q hq) hqx]
 have aWS:∀q∈bx,(s'.erase x) q=s2 q:=fun q hq=>by
  have hqx:q≠x:=fun e=>PZ (e▸hq)
  simp only[aA.erase,hqx,cS]
  exact k3 q (fun e=>JX (e▸hq)) (fun hne e=>aIE hne (e▸hq))
 refine⟨by simp [h1],?_,jW.2 ⟨h3,m1,fun a ha c hc e=>nA a ha (e▸hc)⟩,fun q hq=>?_,fun _=>⟨aXM,?_,?_⟩,fun q hq hqb=>?_⟩
 · rw[eH,he]
   exact aW.snoc h2 CL (aV.aU _ _ _ aWS m3)
 · rcases dS.1 hq with hq | hq
   · exact h4 q hq
   · by_cases hbb:os≠[]∧q=b
     · rw[hbb.2];exact(h5 hbb.1).1
     · by_cases hqs:q∈bs
       · exact h4 q hqs
       · rw[←h6 q hqs (fun hne e=>hbb ⟨hne,e⟩)];exact hbx q hq
 · intro hq
   rcases dS.1 hq with hq | hq
   · exact O6 hq
   · exact JX hq
 · simp only[aA.erase,O7,cS]
   exact k1
 · simp only[dS,kH] at hq
   have aI4:=hqb (by simp)
   by_cases hqx:q=x
   · subst hqx
     simp only[aA.erase,dX]
     rw[←h6 q hq.1 hxb,hx]
   · simp only[aA.erase,hqx,cS]
     by_cases hbb:os≠[]∧q=b
     · rw[hbb.2,k4 hbb.1 (fun e=>aI4 (hbb.2.trans e.symm)),(h5 hbb.1).1]
     · rw[k3 q aI4 (fun hne e=>hbb ⟨hne,e⟩),hs2 q hq.2 hqx]
       exact h6 q hq.1 (fun hne e=>hbb ⟨hne,e⟩)
theorem aD.done{P:Program}{g:FuncId}{args:List AV}{st:aA}{r:AV}(x:aD P g args st (fun r' st'=>r'.soft=r∧aM st' st)):aD P g args st (fun r' st'=>r'=r∧st'=st):=
 aD.pQ (aD.soft x)
theorem aD.oJ{P:Program}{g:FuncId}{args:List AV}{st:aA}{Q:AV→aA→Prop}(x:aD P g args st (fun r st'=>∃s2,aM st' s2∧Q r s2)):aD P g args st Q:=
 x.kP fun r _ ⟨s2,D,q⟩=>⟨r,s2,D.rX,D.kP r,q⟩
theorem rM{cs:List AV}:(AV.agg cs).soft=.agg (cs.map AV.soft):=by simp only[AV.soft,z8]
theorem sZ{cs:List AV}:(AV.tup cs).soft=.tup (cs.map AV.soft):=by simp only[AV.soft,z8]
theorem uB{k:IntKind}{n:Int}:(AV.int k n).soft=.int k n:=rfl
theorem vV{b:Bool}:(AV.bool b).soft=.bool b:=rfl
theorem AA{s:ByteArray}:(AV.str s).soft=.str s:=rfl
theorem DE{es:List AV}:(AV.slice es).soft=.slice es:=rfl
theorem GV{es:List AV}:(AV.fslice es).soft=.slice es:=rfl
def vB(b:Nat)(l:List AV):List (Nat×AV)→List (Nat×AV)
 | []=>[]
 | p::r=>(p.1,p.2.fin b l)::vB b l r
theorem aA4{b:Nat}{l:List AV}:vB b l []= []:=rfl
theorem aA5{b d:Nat}{l:List AV}{v:AV}{r:List (Nat×AV)}:vB b l ((d,v)::r)=(d,v.fin b l)::vB b l r:=rfl
theorem aU4{b:Nat}{l:List AV}:AV.junk.fin b l=.junk:=by unfold AV.fin;split<;>rfl
theorem nN{w b:Nat}{l:List AV}:(bS w b l).fin b l=.slice l:=nL
theorem aYR{st:aA}(b:Nat)(l:List AV)(hb:l≠[]→st b=none)(hj:∀e∈l,e.cD=false)(hE:jG l)(L:List (Nat×AV)):fL (jQ L) (bV st b l) (jQ (vB b l L)) st:=by
 have key:∀L d,jQ (vB b l L) d=(jQ L d).fin b l:=by
  intro L
  induction L with
  | nil=>intro d;exact aU4.symm
  | cons p r ih=>
   obtain⟨e,v⟩:=p
   intro d
   show((jQ (vB b l r)).aC e (v.fin b l)) d=(((jQ r).aC e v) d).fin b l
   simp only[AF.aC]
   split
   · rfl
   · exact ih d
 intro h tmps S F
 cases l with
 | nil=>exact⟨S,bU.refl _ _,fun d=>by rw[key];exact(F d).soft⟩
 | cons y l=>
  have hst:(bV st b (y::l)) b=some (.cells ((y::l).flatMap AV.cells)):=aA.aJ _ _ _
  have he:(bV st b (y::l)).erase b=st:=aA.yX st b _ (hb (by simp))
  have L1:fL (jQ L) (bV st b (y::l)) (fun d=>(jQ L d).fz b (y::l)) st:=by
   have:=fL.freeze (φ:=jQ L) hst hj hE
   rwa [he] at this
  obtain⟨a1,a2,a3⟩:=L1 h tmps S F
  exact⟨a1,a2,fun d=>by rw[key];exact(a3 d).soft⟩
theorem qJ{P:Program}{N:Nat}{c:Code}{Q:Exit→AF→aA→Prop}{φ:AF}{st:aA}{α σ:Type}(mt:List Nat)(aU:List Nat)(l:List α)(w d:Nat)(acc:Nat→σ→List AV)(inv:Nat→σ→Prop)(ch:Nat→σ→List (Nat×AV))(so:Nat→σ→aA)
 (hw:∀i s,inv i s→∀e∈acc i s,e.cD=false∧e.width=w)
 (hok:codeOk N c=true)
 (h0:∃s b,inv 0 s∧(acc 0 s≠[]→so 0 s b=none)∧aN φ st (kF φ aU ((d,bS w b (acc 0 s))::ch 0 s)) (bV (so 0 s) b (acc 0 s)))
 (h1:∀i x s b,l[i]?=some x→i<l.length→((i:Int)<(l.length:Int))→l.drop i=x::l.drop (i+1)→inv i s→(acc i s≠[]→so i s b=none) →
  fT P N mt c (oT (fun φ' st'=>∃s' b',inv (i+1) s'∧(acc (i+1) s'≠[]→so (i+1) s' b'=none)∧aN φ' st' (kF φ aU ((d,bS w b' (acc (i+1) s'))::ch (i+1) s')) (bV (so (i+1) s') b' (acc (i+1) s'))) Q) (vE (kF φ aU ((d,bS w b (acc i s))::ch i s))) (bV (so i s) b (acc i s)))
 (h2:∀s b,¬((l.length:Int)<(l.length:Int))→inv l.length s→fT P N mt c (oT (fun _ _=>False) Q) (vE (vB b (acc l.length s) (kF φ aU ((d,bS w b (acc l.length s))::ch l.length s)))) (so l.length s)):fC P N (.loop c) Q φ st:=by
 have kP:∀(k:AF→aA→Prop) (φ0:AF) (st0:aA) (k':AF→aA→Prop),(∀φ' st',k' φ' st'→k φ' st') →
  fC P N c (oT k' Q) φ0 st0→fC P N c (oT k Q) φ0 st0:=by
  intro k φ0 st0 k' hk hr a w R
  refine wp_mono (hr a w R) ?_
  rintro e a' w' ⟨φ',st',R',T,sm,q⟩
  refine⟨φ',st',R',T,sm,?_⟩
  cases e with
  | normal=>exact hk _ _ q
  | _=>exact q
 refine NL (α:=Nat×σ×Nat) (fun p=>p.1≤l.length∧inv p.1 p.2.1∧(acc p.1 p.2.1≠[]→so p.1 p.2.1 p.2.2=none)) (fun p=>jQ (kF φ aU ((d,bS w p.2.2 (acc p.1 p.2.1))::ch p.1 p.2.1))) (fun p=>bV (so p.1 p.2.1) p.2.2 (acc p.1 p.2.1)) (fun p=>l.length - p.1) ?_ ?_
 · obtain⟨s,b,hs,hb,hl⟩:=h0
   exact⟨(0,s,b),⟨nI _,hs,hb⟩,hl⟩
 · rintro⟨i,s,b⟩ ⟨hi,hs,hb⟩
   simp only at hi hs hb ⊢
   rcases lI i l.length with hlt | hge
   · refine kP _ _ _ _ ?_ (wQ mt hok (h1 i l[i] s b (dZ hlt) hlt (by omega) (pE hlt) hs hb))
     rintro φ' st' ⟨s',b',h1',h2',h3'⟩
     exact⟨(i+1,s',b'),by simp only;omega,⟨by simp only;omega,h1',h2'⟩,h3'⟩
   · obtain rfl:i=l.length:=by omega
     refine fC.less (aYR b (acc l.length s) hb (fun e he=>(hw _ s hs e he).1) ⟨w,fun e he=>(hw _ s hs e he).2⟩ _) ?_
     refine kP _ _ _ _ ?_ (wQ mt hok (h2 s b (by omega) hs))
     exact fun _ _ h=>h.elim
section
variable {P:Program}
def OE(ops:Array Oper)(S:List Nat)(j:Nat):Bool:=S.all fun i=>tO ops ops.size j i
def BF(P:Program)(ops:Array Oper)(S:List Nat)(s0:aA)(K:AF→aA→Prop):Nat→Array Bool→AF→aA→Prop
 | 0,listed,φ,st=>Region.ready .any ops listed= []∧K φ st
 | f+1,listed,φ,st=>(Region.ready .any ops listed= []→K φ st)∧∀i∈Region.ready .any ops listed,∃o,ops[i]?=some o ∧
  ((S.contains i=true∧∃r,jN P st ops o r φ∧BF P ops S s0 K f (listed.setIfInBounds i true) (φ.put o.dst r) st) ∨
   (S.contains i=false∧jM P ops o φ st (fun r st'=>(OE ops S i=true∨fJ s0 st')∧BF P ops S s0 K f (listed.setIfInBounds i true) (φ.put o.dst r) st')))
theorem M6{ops:Array Oper}{S:List Nat}{s0:aA}{K:AF→aA→Prop}:∀(f:Nat) (listed:Array Bool) (φ:AF) (st:aA),BF P ops S s0 K f listed φ st→HW P ops K f listed φ st
 | 0,_,_,_,h=>h
 | f+1,listed,φ,st,h=>by
  refine⟨h.1,fun i hi=>?_⟩
  obtain⟨o,ho,h2⟩:=h.2 i hi
  refine⟨o,ho,?_⟩
  rcases h2 with ⟨_,r,y,k⟩ | ⟨_,k⟩
  · exact UE y (M6 f _ _ _ k)
  · exact wO (fun r s q=>M6 f _ _ _ q.2) k
theorem aOH{ops:Array Oper}{S:List Nat}{s0:aA}{i:Nat}{oi:Oper}{v:AV}{K:AF→aA→Prop}(hi:ops[i]?=some oi)(hS:S.contains i=true) :
 ∀(f:Nat) (listed:Array Bool) (φ:AF) (st:aA),wC ops listed →
  (∀j oj,ops[j]?=some oj→j≠i→listed.getD j true=false→(∀e∈oj.after,Region.binds .any e=true→e.on≠i)→oi.apart ops oj=true) →
  i∈Region.ready .any ops listed→(∀s,fJ s0 s→jN P s ops oi v φ)→fJ s0 st →
  BF P ops S s0 K f (listed.setIfInBounds i true) (φ.put oi.dst v) st→BF P ops S s0 K (f+1) listed φ st:=by
 intro f
 induction f with
 | zero=>
  intro listed φ st hcl _ hr hy hx H
  refine⟨fun h=>(by rw[h] at hr;cases hr),fun j hj=>?_⟩
  by_cases hji:j=i
  · subst hji;exact⟨oi,hi,.inl ⟨hS,v,hy st hx,H⟩⟩
  · have:=ready_mono hj hji
    rw[H.1] at this
    cases this
 | succ f ih=>
  intro listed φ st hcl pZ hr hy hx H
  refine⟨fun h=>(by rw[h] at hr;cases hr),fun j hj=>?_⟩
  by_cases hji:j=i
  · subst hji;exact⟨oi,hi,.inl ⟨hS,v,hy st hx,H⟩⟩
  · obtain⟨oj,hoj,h1⟩:=H.2 j (ready_mono hj hji)
    obtain⟨oP,oj',zC,dC⟩:=mem_ready.1 hj
    have:oj'=oj:=mZ (zC.symm.trans hoj)
    subst this
    have hun:=(mem_ready.1 hr).1
    have sT:∀e∈oj'.after,Region.binds .any e=true→e.on≠i:=fun e he hb heq=>by
     have h1:=dC e he hb
     rw[heq,getD_both hun] at h1
     cases h1
    obtain⟨a1,a2,a3⟩:=Oper.apart_spec (pZ j oj' hoj hji oP sT)
    have tX:∀k ok,ops[k]?=some ok→k≠i→(listed.setIfInBounds j true).getD k true=false →
     (∀e∈ok.after,Region.binds .any e=true→e.on≠i)→oi.apart ops ok=true:=fun k ok hk hki hun hno=>by
     refine pZ k ok hk hki ?_ hno
     by_cases hjk:j=k
     · subst hjk;exact oP
     · rw[getD_set_ne true hjk] at hun;exact hun
    refine⟨oj',hoj,?_⟩
    rcases h1 with ⟨hSj,r,yj,h2⟩ | ⟨hSj,h2⟩
    · refine .inl ⟨hSj,r,(pL φ v a1).1 yj,ih (listed.setIfInBounds j true) (φ.put oj'.dst r) st (hcl.set hj) tX (ready_mono hr (dF hji)) (fun s hs=>(pL φ r a3).2 (hy s hs)) hx ?_⟩
      rw[AS _ _ hji,←put_comm φ v r a2]
      exact h2
    · refine .inr ⟨hSj,wO (fun r st' h3=>?_) ((M9 φ v a1).1 h2)⟩
      refine⟨h3.1,?_⟩
      have hx':fJ s0 st':=by
       rcases h3.1 with he | he
       · exfalso
         unfold OE at he
         have hd:=eD.1 he i (by simpa using hS)
         exact IY hcl (getD_both hun) _ j oj' hoj hd dC
       · exact he
      refine ih (listed.setIfInBounds j true) (φ.put oj'.dst r) st' (hcl.set hj) tX (ready_mono hr (dF hji)) (fun s hs=>(pL φ r a3).2 (hy s hs)) hx' ?_
      rw[AS _ _ hji,←put_comm φ v r a2]
      exact h3.2
def sW(ops:Array Oper)(S:List Nat):List (Nat×Nat)→Array Bool→Bool
 | [],listed=>(Region.ready .any ops listed).isEmpty
 | (i,0)::r,listed=>decide (Region.ready .any ops listed= [i])&& !S.contains i&&sW ops S r (listed.setIfInBounds i true)
 | (i,1)::r,listed=>(Region.ready .any ops listed).contains i&&Region.free .any ops listed i&&S.contains i&&sW ops S r (listed.setIfInBounds i true)
 | (i,_)::r,listed=>decide (Region.ready .any ops listed= [i])&& !S.contains i&&OE ops S i&&sW ops S r (listed.setIfInBounds i true)
def BK(P:Program)(ops:Array Oper)(s0:aA)(K:AF→aA→Prop):List (Nat×Nat)→AF→aA→Prop
 | [],φ,st=>K φ st
 | (i,0)::r,φ,st=>∃o,ops[i]?=some o∧jM P ops o φ st (fun v st'=>fJ s0 st'∧BK P ops s0 K r (φ.put o.dst v) st')
 | (i,1)::r,φ,st=>∃o,ops[i]?=some o∧∃v,(∀s,fJ s0 s→jN P s ops o v φ)∧BK P ops s0 K r (φ.put o.dst v) st
 | (i,_)::r,φ,st=>∃o,ops[i]?=some o∧jM P ops o φ st (fun v st'=>BK P ops s0 K r (φ.put o.dst v) st')
def CR:List (Nat×Nat)→Bool
 | []=>true
 | (_,0)::r=>CR r
 | (_,1)::r=>CR r
 | (_,_)::r=>r.all fun p=>p.2 != 1
theorem HZ{ops:Array Oper}{S:List Nat}{s0:aA}{K:AF→aA→Prop}:∀(p:List (Nat×Nat)) (listed:Array Bool) (φ:AF) (st:aA),wC ops listed→sW ops S p listed=true→(CR p=true∧fJ s0 st∨(p.all fun q=>q.2 != 1)=true)→BK P ops s0 K p φ st→BF P ops S s0 K p.length listed φ st
 | [],listed,φ,st,_,hB,hx,h=>⟨by simpa [sW] using hB,h⟩
 | (i,0)::r,listed,φ,st,hcl,hB,hx,h=>by
  simp only[sW,cT,bM,gW] at hB
  obtain⟨o,ho,h'⟩:=h
  have hr:i∈Region.ready .any ops listed:=by rw[hB.1.1];simp
  refine⟨fun h0=>(by rw[hB.1.1] at h0;cases h0),fun j hj=>?_⟩
  rw[hB.1.1] at hj
  obtain rfl:j=i:=by simpa using hj
  refine⟨o,ho,.inr ⟨hB.1.2,wO (fun v st' q=>⟨.inr q.1,HZ r _ _ _ (hcl.set hr) hB.2 ?_ q.2⟩) h'⟩⟩
  rcases hx with hx | hx
  · exact .inl ⟨hx.1,q.1⟩
  · refine .inr ?_
    simp only[jI,cT] at hx
    exact hx.2
 | (i,1)::r,listed,φ,st,hcl,hB,hx,h=>by
  simp only[sW,cT] at hB
  obtain⟨⟨⟨hr,hf⟩,hS⟩,hB'⟩:=hB
  obtain⟨o,ho,v,hv,h'⟩:=h
  have hr':i∈Region.ready .any ops listed:=by simpa using hr
  rcases hx with hx | hx
  · exact aOH ho hS _ listed φ st hcl (Region.free_spec ho hf) hr' hv hx.2 (HZ r _ _ _ (hcl.set hr') hB' (.inl hx) h')
  · simp at hx
 | (i,k+2)::r,listed,φ,st,hcl,hB,hx,h=>by
  simp only[sW,cT,bM,gW] at hB
  obtain⟨o,ho,h'⟩:=h
  have hr:i∈Region.ready .any ops listed:=by rw[hB.1.1.1];simp
  refine⟨fun h0=>(by rw[hB.1.1.1] at h0;cases h0),fun j hj=>?_⟩
  rw[hB.1.1.1] at hj
  obtain rfl:j=i:=by simpa using hj
  refine⟨o,ho,.inr ⟨hB.1.1.2,wO (fun v st' q=>⟨.inl hB.1.2,HZ r _ _ _ (hcl.set hr) hB.2 (.inr ?_) q⟩) h'⟩⟩
  rcases hx with hx | hx
  · exact hx.1
  · simp only[jI,cT] at hx
    exact hx.2
theorem aPQ{N:Nat}{id:Nat}{ops:Array Oper}{Q:Exit→AF→aA→Prop}{φ:AF}{st:aA}(p:List (Nat×Nat))(S:List Nat)(s0:aA)(hm:P.follows .mixedOrders=true)(hok:qA N ops=true)(hl:p.length=ops.size)(hB:sW ops S p (Array.replicate ops.size false)=true)(hf:CR p=true)(hs:fJ s0 st)
 (h:BK P ops s0 (Q .normal) p φ st):fC P N (.region id ops true) Q φ st:=by
 intro a w R
 refine wp_region_any hm ?_
 have R0:Rel N a { w with drawn:=w.drawn+1 } φ st:=⟨R.size,R.defers,R.frame,R.store⟩
 have:=M6 _ _ _ _ (HZ p _ φ st (fun j o _ hl=>(by rw[aHY] at hl;cases hl)) hB (.inl ⟨hf,hs⟩) h)
 rw[hl] at this
 exact M3 (zS hok) (xL hok) (w0:=w) (st0:=st) (fun φ' st' a' w' k R' T s=>⟨φ',st',R',T,s,k⟩) _ _ _ _ _ _ this R0 (bU.refl _ _) ⟨rfl,rfl,rfl⟩
def i8(P:Program)(ops:Array Oper)(s0:aA)(K:AF→aA→Prop):List (Nat×Nat)→AF→aA→Prop
 | [],φ,st=>K φ st
 | (i,0)::r,φ,st=>match ops[i]? with
  | none=>False
  | some o=>bE P [] ops [o] (fun φ' st'=>fJ s0 st'∧i8 P ops s0 K r φ' st') φ st
 | (i,1)::r,φ,st=>match ops[i]? with
  | none=>False
  | some o=>if kB o=true then bE P [] ops [o] (fun φ' _=>i8 P ops s0 K r φ' st) φ s0 else
   match o.guard,o.op with
   | none,.call { callee:=.value f,args,.. }=>∃v,(∀s,fJ s0 s→sI P (φ.eval f) (args.toList.map φ.eval) s (fun r' s'=>r'=v∧s'=s))∧i8 P ops s0 K r (φ.put o.dst v) st
   | _,_=>False
 | (i,_)::r,φ,st=>match ops[i]? with
  | none=>False
  | some o=>bE P [] ops [o] (fun φ' st'=>i8 P ops s0 K r φ' st') φ st
theorem wN{ops:Array Oper}{s0:aA}{K:AF→aA→Prop}:∀(p:List (Nat×Nat)) (φ:AF) (st:aA),i8 P ops s0 K p φ st→BK P ops s0 K p φ st
 | [],_,_,h=>h
 | (i,0)::r,φ,st,h=>by
  simp only[i8] at h
  split at h
  · exact h.elim
  · rename_i o ho
    refine⟨o,ho,?_⟩
    simp only[bE] at h
    unfold jM
    split at h
    · rename_i hg
      rw[hg]
      exact BM (fun v s q=>⟨q.1,wN r _ _ q.2⟩) h
    · rename_i hg
      rw[hg]
      exact⟨h.1,wN r _ _ h.2⟩
    · exact h.elim
 | (i,1)::r,φ,st,h=>by
  simp only[i8] at h
  split at h
  · exact h.elim
  · rename_i o ho
    split at h
    · rename_i hp
      simp only[bE] at h
      split at h
      · rename_i hg
        rw[sE hp] at h
        split at h
        · rename_i v hv
          refine⟨o,ho,v,fun s hs=>.inl ⟨hg,?_⟩,wN r _ _ h⟩
          rw[sE hp,UC hs hv]
          exact⟨rfl,rfl⟩
        · exact h.elim
      · rename_i hg
        exact⟨o,ho,.undef,fun s _=>.inr ⟨hg,rfl⟩,wN r _ _ h⟩
      · exact h.elim
    · split at h
      · rename_i f args ats hg hop
        obtain⟨v,h1,h2⟩:=h
        refine⟨o,ho,v,fun s hs=>.inl ⟨by simp only[iS,hg],?_⟩,wN r _ _ h2⟩
        simp only[eV,hop]
        exact h1 s hs
      · exact h.elim
 | (i,k+2)::r,φ,st,h=>by
  simp only[i8] at h
  split at h
  · exact h.elim
  · rename_i o ho
    refine⟨o,ho,?_⟩
    simp only[bE] at h
    unfold jM
    split at h
    · rename_i hg
      rw[hg]
      exact BM (fun v s q=>wN r _ _ q) h
    · rename_i hg
      rw[hg]
      exact wN r _ _ h
    · exact h.elim
end
def QU(P:Program)(ops:Array Oper)(s0:aA)(K:AF→aA→Prop)(r:List (Nat×Nat))(φ:AF)(st:aA):Prop:=fJ s0 st∧i8 P ops s0 K r φ st
def QS(P:Program)(ops:Array Oper)(s0:aA)(K:AF→aA→Prop)(r:List (Nat×Nat))(φ:AF)(st:aA):Prop:=i8 P ops s0 K r φ st
def QR(P:Program)(ops:Array Oper)(s0:aA)(K:AF→aA→Prop)(r:List (Nat×Nat))(st:aA)(φ:AF)(_:aA):Prop:=i8 P ops s0 K r φ st
def QQ(P:Program)(ops:Array Oper)(s0:aA)(K:AF→aA→Prop)(r:List (Nat×Nat))(φ:AF)(dst:Option Tmp)(st:aA)(v:AV):Prop:=i8 P ops s0 K r (φ.put dst v) st
def EY(P:Program)(s0:aA)(f:AV)(args:List AV)(K:AV→Prop):Prop:=∃v,(∀s,fJ s0 s→sI P f args s (fun r' s'=>r'=v∧s'=s))∧K v
theorem WL{P:Program}{s0:aA}{g:FuncId}{args:List AV}{r:AV}{K:AV→Prop}(x:∀st,fJ s0 st→aD P g args st (fun r' st'=>r'=r∧st'=st))(h:K r):EY P s0 (.func g []) args K:=⟨r,fun st hs=>by show aD P g (args++ []) st _;rw[fA];exact x st hs,h⟩
@[congr] theorem a5M {P:Program} {s0:aA} {f f':AV} {args args':List AV} {K:AV→Prop} (h0:f=f') (h1:args=args'):EY P s0 f args K=EY P s0 f' args' K:=by rw[h0,h1]
def C8(P:Program)(ops:Array Oper)(s0:aA)(K:AF→aA→Prop)(r:List (Nat×Nat))(φ:AF)(st:aA):Nat→Option Oper→Prop
 | 0,some o=>bE P [] ops [o] (QU P ops s0 K r) φ st
 | 1,some o=>if kB o=true then bE P [] ops [o] (QR P ops s0 K r st) φ s0 else
  match o.guard,o.op with
  | none,.call { callee:=.value f,args,.. }=>EY P s0 (φ.eval f) (args.toList.map φ.eval) (QQ P ops s0 K r φ o.dst st)
  | _,_=>False
 | _,some o=>bE P [] ops [o] (QS P ops s0 K r) φ st
 | _,none=>False
theorem aDM{P:Program}{ops:Array Oper}{s0:aA}{K:AF→aA→Prop}{φ:AF}{st:aA}:i8 P ops s0 K [] φ st=K φ st:=rfl
theorem aDN{P:Program}{l:List Oper}{s0:aA}{K:AF→aA→Prop}{φ:AF}{st:aA}{i b:Nat}{r:List (Nat×Nat)}:i8 P l.toArray s0 K ((i,b)::r) φ st=C8 P l.toArray s0 K r φ st b l[i]?:=by
 match b with
 | 0=>simp only[i8,yD];cases l[i]?<;>rfl
 | 1=>simp only[i8,yD];cases l[i]?<;>rfl
 | b+2=>simp only[i8,yD];cases l[i]?<;>rfl
theorem aDS{P:Program}{ops:Array Oper}{s0:aA}{K:AF→aA→Prop}{φ:AF}{st:aA}{r:List (Nat×Nat)}{o:Oper}:C8 P ops s0 K r φ st 0 (some o)=bE P [] ops [o] (QU P ops s0 K r) φ st:=rfl
theorem aDT{P:Program}{ops:Array Oper}{s0:aA}{K:AF→aA→Prop}{φ:AF}{st:aA}{r:List (Nat×Nat)}{o:Oper}:C8 P ops s0 K r φ st 1 (some o)=if kB o=true then bE P [] ops [o] (QR P ops s0 K r st) φ s0 else
      match o.guard,o.op with
      | none,.call { callee:=.value f,args,.. }=>EY P s0 (φ.eval f) (args.toList.map φ.eval) (QQ P ops s0 K r φ o.dst st)
      | _,_=>False:=rfl
theorem aDU{P:Program}{ops:Array Oper}{s0:aA}{K:AF→aA→Prop}{φ:AF}{st:aA}{r:List (Nat×Nat)}{o:Oper}:C8 P ops s0 K r φ st 2 (some o)=bE P [] ops [o] (QS P ops s0 K r) φ st:=rfl
theorem aDR{P:Program}{ops:Array Oper}{s0:aA}{K:AF→aA→Prop}{φ:AF}{st:aA}{r:List (Nat×Nat)}:QU P ops s0 K r φ st=(fJ s0 st∧i8 P ops s0 K r φ st):=rfl
theorem aDQ{P:Program}{ops:Array Oper}{s0:aA}{K:AF→aA→Prop}{φ:AF}{st:aA}{r:List (Nat×Nat)}:QS P ops s0 K r φ st=i8 P ops s0 K r φ st:=rfl
theorem aDP{P:Program}{ops:Array Oper}{s0:aA}{K:AF→aA→Prop}{φ:AF}{st s:aA}{r:List (Nat×Nat)}:QR P ops s0 K r st φ s=i8 P ops s0 K r φ st:=rfl
theorem aDO{P:Program}{ops:Array Oper}{s0:aA}{K:AF→aA→Prop}{φ:AF}{st:aA}{r:List (Nat×Nat)}{dst:Option Tmp}{v:AV}:QQ P ops s0 K r φ dst st v=i8 P ops s0 K r (φ.put dst v) st:=rfl
@[congr] theorem a5I {P:Program} {ops:Array Oper} {s0:aA} {K:AF→aA→Prop} {p:List (Nat×Nat)} {φ φ':AF} {st st':aA} (h1:φ=φ') (h2:st=st'):i8 P ops s0 K p φ st=i8 P ops s0 K p φ' st':=by rw[h1,h2]
@[congr] theorem a5W {P:Program} {ops:Array Oper} {s0:aA} {K:AF→aA→Prop} {p:List (Nat×Nat)} {φ φ':AF} {st st':aA} {b:Nat} {o o':Option Oper} (h1:φ=φ') (h2:st=st') (h3:o=o'):C8 P ops s0 K p φ st b o=C8 P ops s0 K p φ' st' b o':=by rw[h1,h2,h3]
theorem xZ{P:Program}{N:Nat}{id:Nat}{l:List Oper}{Q:Exit→AF→aA→Prop}{φ:AF}{st:aA}(p:List (Nat×Nat))(S:List Nat)(s0:aA)(hm:P.follows .mixedOrders=true)(hok:qA N l.toArray=true)(hl:p.length=l.length)(hB:sW l.toArray S p (Array.replicate l.length false)=true)(hf:CR p=true)(hs:fJ s0 st)
 (h:i8 P l.toArray s0 (Q .normal) p φ st):fC P N (.region id l.toArray true) Q φ st:=
 aPQ p S s0 hm hok (by simpa using hl) (by simpa using hB) hf hs (wN p φ st h)
def aK4(K:AV→aA→Prop)(st:aA):Option AV→Option AV→Prop
 | some r,some s=>kQ [r,s]=true∧K (.tup [r,s]) st
 | _,_=>False
theorem aEA{P:Program}{φ:AF}{st:aA}{p q:Tmp}{t u:TypeId}{K:AV→aA→Prop}:nE P [.cell p t,.cell q u] K φ st=aK4 K st (gN P st t (φ p)) (gN P st u (φ q)):=by
 simp only[nE,oD,BL]
 cases gN P st t (φ p)<;>cases gN P st u (φ q)<;>rfl
theorem aEB{st:aA}{K:AV→aA→Prop}{r s:AV}:aK4 K st (some r) (some s)=(kQ [r,s]=true∧K (.tup [r,s]) st):=rfl
def one(b:Nat)(o:AO):aA:=dH.aC b o
theorem vP{b:Nat}{o:AO}:one b o b=some o:=aA.aJ _ _ _
theorem g8{b:Nat}{o:AO}{st:aA}(h:st b=some o):fJ (one b o) st:=fun x p hx=>by
 simp only[one,aA.aC] at hx
 split at hx
 · rename_i e;cases hx;rw[e];exact h
 · cases hx
theorem fV{st:aA}:fJ dH st:=fun x p hx=>by cases hx
end Go.AW
