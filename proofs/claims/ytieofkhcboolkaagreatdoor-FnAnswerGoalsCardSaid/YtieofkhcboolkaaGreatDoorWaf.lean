/- Loops whose frame is kept, lists that are walked, lists that grow. -/
import Derived.Test.YtieofkhcboolkaaGreatDoorWae
set_option linter.unusedSimpArgs false
set_option linter.unusedVariables false
set_option maxRecDepth 100000
namespace Go.AW
def kR(φ:AF):List Nat→List (Nat×AV)→List (Nat×AV)
 | [],l=>l
 | d::ds,l=>(d,φ d)::kR φ ds l
theorem aEY{φ:AF}{l:List (Nat×AV)}:kR φ [] l=l:=rfl
theorem aEZ{φ:AF}{d:Nat}{ds:List Nat}{l:List (Nat×AV)}:kR φ (d::ds) l=(d,φ d)::kR φ ds l:=rfl
theorem dV{P:Program}{N:Nat}{c:Code}{Q:Exit→AF→aB→Prop}{φ:AF}{st:aB}{α σ:Type}(mt:List Nat)(bB:List Nat)(l:List α)(inv:Nat→σ→Prop)(ch:Nat→σ→List (Nat×AV))(so:Nat→σ→aB)
 (hok:codeOk N c=true)
 (h0:∃s,inv 0 s∧aN φ st (kR φ bB (ch 0 s)) (so 0 s))
 (h1:∀i x s,l[i]?=some x→i<l.length→((i:Int)<(l.length:Int))→l.drop i=x::l.drop (i+1)→inv i s→gH P N mt c (pN (fun φ' st'=>∃s',inv (i+1) s'∧aN φ' st' (kR φ bB (ch (i+1) s')) (so (i+1) s')) Q) (v8 (kR φ bB (ch i s))) (so i s))
 (h2:∀s,¬((l.length:Int)<(l.length:Int))→inv l.length s→gH P N mt c (pN (fun _ _=>False) Q) (v8 (kR φ bB (ch l.length s))) (so l.length s)):gP P N (.loop c) Q φ st:=by
 have mV:∀(k:AF→aB→Prop) (i:Nat) (s:σ),(∀φ' st',(∃s',inv (i+1) s'∧aN φ' st' (kR φ bB (ch (i+1) s')) (so (i+1) s'))→k φ' st') →
  gP P N c (pN (fun φ' st'=>∃s',inv (i+1) s'∧aN φ' st' (kR φ bB (ch (i+1) s')) (so (i+1) s')) Q) (kG (kR φ bB (ch i s))) (so i s) →
  gP P N c (pN k Q) (kG (kR φ bB (ch i s))) (so i s):=by
  intro k i s hk hr a w R
  refine wp_mono (hr a w R) ?_
  rintro e a' w' ⟨φ',st',R',T,sm,q⟩
  refine⟨φ',st',R',T,sm,?_⟩
  cases e with
  | normal=>exact hk _ _ q
  | _=>exact q
 refine OH (α:=Nat×σ) (fun p=>p.1≤l.length∧inv p.1 p.2) (fun p=>kG (kR φ bB (ch p.1 p.2))) (fun p=>so p.1 p.2) (fun p=>l.length - p.1) ?_ ?_
 · obtain⟨s,hs,hl⟩:=h0
   exact⟨(0,s),⟨jH _,hs⟩,hl⟩
 · rintro⟨i,s⟩ ⟨hi,hs⟩
   simp only at hi hs ⊢
   rcases lD i l.length with hlt | hge
   · refine mV _ i s ?_ (FU mt hok (h1 i l[i] s (eN hlt) hlt (by omega) (rF hlt) hs))
     rintro φ' st' ⟨s',h1',h2'⟩
     exact⟨(i+1,s'),by simp only;omega,⟨by simp only;omega,h1'⟩,h2'⟩
   · obtain rfl:i=l.length:=by omega
     intro a w R
     refine wp_mono (FU mt hok (h2 s (by omega) hs) a w R) ?_
     rintro e a' w' ⟨φ',st',R',T,sm,q⟩
     refine⟨φ',st',R',T,sm,?_⟩
     cases e with
     | normal=>exact q.elim
     | _=>exact q
theorem iG{P:Program}{N:Nat}{c:Code}{Q:Exit→AF→aB→Prop}{φ:AF}{st:aB}{σ:Type}(mt:List Nat)(bB:List Nat)(inv:σ→Prop)(ch:σ→List (Nat×AV))(so:σ→aB)(μ:σ→Nat)
 (hok:codeOk N c=true)
 (h0:∃s,inv s∧aN φ st (kR φ bB (ch s)) (so s))
 (h1:∀s,inv s→gH P N mt c (pN (fun φ' st'=>∃s',μ s'<μ s∧inv s'∧aN φ' st' (kR φ bB (ch s')) (so s')) Q) (v8 (kR φ bB (ch s))) (so s)):gP P N (.loop c) Q φ st:=
 w9 mt inv (fun s=>kR φ bB (ch s)) so μ hok h0 h1
theorem aP{b:Bool}{p q:Prop}(h1:b=true→p)(h2:b=false→q):(b=true→p)∧(b=false→q):=⟨h1,h2⟩
theorem aE4{P:Program}{t:TypeId}{s:ByteArray}:oE P t (.str s)=match P.underlying t with | some .string=>some (.int .i64 s.size) | _=>none:=rfl
theorem aE3{P:Program}{t:TypeId}{es:List AV}:oE P t (.slice es)=match P.underlying t with | some (.slice _)=>some (.int .i64 es.length) | _=>none:=rfl
theorem aE1{P:Program}{t:TypeId}{es:List AV}:oE P t (.fslice es)=match P.underlying t with | some (.slice _)=>some (.int .i64 es.length) | _=>none:=rfl
theorem aE2{P:Program}{t:TypeId}{b o n w:Nat}:oE P t (.mslice b o n w)=match P.underlying t with | some (.slice _)=>some (.int .i64 n) | _=>none:=rfl
def bE(w b:Nat):List AV→AV
 | []=>.fslice []
 | x::l=>.mslice b 0 (x::l).length w
def a7(st:aB)(b:Nat):List AV→aB
 | []=>st
 | x::l=>st.aC b (.cells ((x::l).flatMap AV.cells))
theorem iK{w b:Nat}:bE w b []=.fslice []:=rfl
theorem xR{st:aB}{b:Nat}:a7 st b []=st:=rfl
theorem pA{w b:Nat}{l:List AV}(h:l≠[]):bE w b l=.mslice b 0 l.length w:=by cases l<;>first | exact absurd rfl h | rfl
theorem jR{st:aB}{b:Nat}{l:List AV}(h:l≠[]):a7 st b l=st.aC b (.cells (l.flatMap AV.cells)):=by cases l<;>first | exact absurd rfl h | rfl
theorem o7{st:aB}{b x:Nat}{l:List AV}(h:x≠b):a7 st b l x=st x:=by cases l<;>first | rfl | exact aB.aM _ _ h
theorem CM{st:aB}{b x:Nat}{l:List AV}(h:a7 st b l x=none):st x=none∧(l≠[]→x≠b):=by
 cases l with
 | nil=>exact⟨h,fun h=>absurd rfl h⟩
 | cons y l=>
  simp only[a7,aB.aC] at h
  split at h
  · cases h
  · rename_i hn;exact⟨h,fun _=>hn⟩
theorem nQ{w b:Nat}{l:List AV}:(bE w b l).cE=false:=by cases l<;>rfl
theorem lQ{w b:Nat}{l:List AV}:(bE w b l).isAgg=false:=by cases l<;>rfl
theorem lR{w b:Nat}{l:List AV}:(bE w b l).cells= [bE w b l]:=by cases l<;>rfl
theorem eT{w b:Nat}{l:List AV}:(bE w b l).storable=true:=by cases l<;>rfl
theorem t7{P:Program}{t e:TypeId}{w b:Nat}{l:List AV}(h:P.underlying t=some (.slice e)):oE P t (bE w b l)=some (.int .i64 (l.length:Int)):=by
 cases l<;>simp [bE,oE,h]
theorem aL.a7{st st':aB}(x:aL st st'){b:Nat}{l:List AV}(h:l≠[]→st' b=none):aL (a7 st b l) st':=by
 cases l with
 | nil=>exact x
 | cons y l=>exact x.aC (h (by simp))
theorem eD{P:Program}{t:TypeId}{ag:Bool}{w bytes:Nat}{zs:List AV}{st:aB}{b:Nat}{l xs:List AV}{x:AV}{K:AV→aB→Prop}
 (hI:eI P t=some (ag,w)) (hB:eB P t=some bytes) (hZ:eZ P t=some zs) (hz:zs.length=w) (hx:zT x=some xs) (fF:vO w xs) (hw:∀e∈l,e.width=w) (hb:l≠[]→st b=none)
 (h1:(l.length+xs.length)*bytes≤140737488355328) (h2:l.length+xs.length≤9223372036854775807)
 (hK:∀b',(l++xs≠[]→st b'=none)→K (bE w b' (l++xs)) (a7 st b' (l++xs))):kD P t (a7 st b l) (bE w b l) x K:=by
 unfold kD
 rw[hI,hB,hZ,hx]
 refine⟨hz,fF,?_⟩
 cases l with
 | nil=>
  show _∧_∧_∧_∧_
  refine⟨by simpa using h1,by simpa using h2,by simp,?_,?_⟩
  · rintro rfl
    have:=hK b (by simp)
    simpa [bE,a7] using this
  · intro hne b' hb'
    have:=hK b' (fun _=>hb')
    rw[eL,pA hne,jR hne] at this
    simpa [a7] using this
 | cons y l=>
  have hb:=hb (by simp)
  show w=w∧_∧_∧_
  refine⟨rfl,h1,h2,?_⟩
  have hfl:((y::l).flatMap AV.cells).length=(y::l).length*w:=pE hw
  simp only[a7,aB.aO]
  refine⟨by rw[hfl];exact cZ _,?_,?_⟩
  · have:=hK b (fun _=>hb)
    rw[pA (by simp),jR (by simp),zH,dM] at this
    rw[cY,←hfl,dW]
    exact this
  · intro b' hb'
    have hne:b'≠b:=by rintro rfl;rw[aB.aO] at hb';cases hb'
    rw[aB.aM _ _ hne] at hb'
    have:=hK b' (fun _=>hb')
    rw[pA (by simp),jR (by simp),zH,dM] at this
    rw[aB.vX _ _ _ hb,←hfl,dW]
    exact this
def AV.fin(b:Nat)(l:List AV)(r:AV):AV:=if l.isEmpty=true then r.soft else(r.fz b l).soft
theorem iJ{w b:Nat}{l:List AV}:(bE w b l).fin b l=.slice l:=by cases l<;>simp [bE,AV.fin,AV.fz,AV.soft]
theorem yQ:∀cs:List AV,hH cs=cs.map AV.soft
 | []=>rfl
 | c::cs=>by simp [hH,yQ cs]
theorem KY{b:Nat}{l:List AV}:∀cs:List AV,lI b l cs=cs.map (AV.fz b l)
 | []=>rfl
 | c::cs=>by simp [lI,KY cs]
theorem fO{b:Nat}{l:List AV}{cs:List AV}:(AV.agg cs).fin b l=.agg (cs.map (AV.fin b l)):=by
 unfold AV.fin
 split
 · simp [AV.soft,yQ]
 · simp [AV.fz,AV.soft,yQ,KY]
theorem jS{b:Nat}{l:List AV}{cs:List AV}:(AV.tup cs).fin b l=.tup (cs.map (AV.fin b l)):=by
 unfold AV.fin
 split
 · simp [AV.soft,yQ]
 · simp [AV.fz,AV.soft,yQ,KY]
theorem dZ{b:Nat}{l:List AV}{k:IntKind}{n:Int}:(AV.int k n).fin b l=.int k n:=by unfold AV.fin;split<;>rfl
theorem nV{b:Nat}{l:List AV}{n:Bool}:(AV.bool n).fin b l=.bool n:=by unfold AV.fin;split<;>rfl
theorem iD{b:Nat}{l:List AV}{s:ByteArray}:(AV.str s).fin b l=.str s:=by unfold AV.fin;split<;>rfl
theorem gV{b:Nat}{l:List AV}{s:List AV}:(AV.slice s).fin b l=.slice s:=by unfold AV.fin;split<;>rfl
theorem nW{b:Nat}{l:List AV}{s:List AV}:(AV.fslice s).fin b l=.slice s:=by unfold AV.fin;split<;>rfl
theorem uJ{b:Nat}{l:List AV}{e:AV}:(AV.pptr e).fin b l=.pptr e:=by unfold AV.fin;split<;>rfl
theorem GD{b c o:Nat}{l:List AV}:(AV.ptr c o).fin b l=.ptr c o:=by unfold AV.fin;split<;>rfl
theorem P0{b:Nat}{l:List AV}{g:FuncId}{cs:List AV}:(AV.func g cs).fin b l=.func g cs:=by unfold AV.fin;split<;>rfl
theorem aD.fin{P:Program}{g:FuncId}{args:List AV}{st:aB}{Q:AV→aB→Prop}
 (x:aD P g args st (fun r st'=>∃b l s0,st'=a7 s0 b l∧(l≠[]→s0 b=none)∧(∀e∈l,e.cE=false)∧iI l∧Q (r.fin b l) s0)):aD P g args st Q:=
 x.mV fun r st' ⟨b,l,s0,h1,h0,h2,h3,h4⟩=>by
  cases l with
  | nil=>
   exact⟨r.fin b [],st',(aL.refl _).tU,fun h v S y=>y.soft,by have e:st'=s0:=h1;rw[e];exact h4⟩
  | cons e l=>
   have hb:=h0 (by simp)
   subst h1
   have h1:a7 s0 b (e::l) b=some (.cells ((e::l).flatMap AV.cells)):=by simp only[a7,aB.aO]
   have e1:(a7 s0 b (e::l)).erase b=s0:=by simp only[a7];exact aB.vX _ _ _ hb
   refine⟨r.fin b (e::l),s0,?_,fun h v S y=>?_,h4⟩
   · have:=(jK (a7 s0 b (e::l)) b).tU
     rwa [e1] at this
   · have:=y.fz S h1 h2 h3
     rw[e1] at this
     exact this.soft
mutual
def AV.iU:AV→Bool
 | .slice _=>false
 | .fslice es=>es.isEmpty
 | .pptr _=>false
 | .agg cs=>lK cs
 | .tup vs=>lK vs
 | .func _ cs=>lK cs
 | _=>true
def lK:List AV→Bool
 | []=>true
 | a::as=>a.iU&&lK as
end
def AO.iU:AO→Prop
 | .cells cs=>lK cs=true
 | .map f=>∀n a,f n=some a→a.iU=true
 | .tab _=>True
section
variable {h:bM} {st st':aB}
mutual
theorem VC.anyS:∀(a:AV) (cs:List Value),a.iU=true→VC h st a cs→VC h st' a cs
 | .junk,_,_,x=>x
 | .undef,_,_,x=>x
 | .int _ _,_,_,x=>x
 | .bool _,_,_,x=>x
 | .str _,_,_,x=>x
 | .agg as,cs,s,x=>by simp only[VC] at x ⊢;exact bA.anyS as cs (by simpa [AV.iU] using s) x
 | .tup as,cs,s,x=>by
  simp only[VC] at x ⊢
  obtain⟨vs,e,r⟩:=x
  exact⟨vs,e,dT.anyS as vs (by simpa [AV.iU] using s) r⟩
 | .slice es,_,s,_=>by simp [AV.iU] at s
 | .fslice es,cs,s,x=>by
  have he:es= []:=by simpa [AV.iU] using s
  subst he
  unfold VC at x ⊢
  rcases x with x | ⟨b,off,e,_⟩
  · exact .inl x
  · exact .inl ⟨⟨_,e⟩,rfl⟩
 | .mslice b off len n,_,_,x=>x
 | .nilptr,_,_,x=>x
 | .ptr _ _,_,_,x=>x
 | .pptr e,_,s,_=>by simp [AV.iU] at s
 | .nilmap,_,_,x=>x
 | .map _,_,_,x=>x
 | .func _ as,cs,s,x=>by
  simp only[VC] at x ⊢
  obtain⟨vs,e,r⟩:=x
  exact⟨vs,e,dT.anyS as vs (by simpa [AV.iU] using s) r⟩
 | .raw _,_,_,x=>x
 | .eslice,_,_,x=>x
theorem bA.anyS:∀(as:List AV) (cs:List Value),lK as=true→bA h st as cs→bA h st' as cs
 | [],_,_,x=>x
 | a::as,cs,s,x=>by
  simp only[bA] at x ⊢
  simp only[lK,cB] at s
  obtain⟨c,r,e,x1,x2⟩:=x
  exact⟨c,r,e,VC.anyS a [c] s.1 x1,bA.anyS as r s.2 x2⟩
theorem dT.anyS:∀(as:List AV) (cs:List Value),lK as=true→dT h st as cs→dT h st' as cs
 | [],_,_,x=>x
 | a::as,cs,s,x=>by
  simp only[dT] at x ⊢
  simp only[lK,cB] at s
  obtain⟨v,r,e,x1,x2⟩:=x
  exact⟨v,r,e,⟨x1.1,VC.anyS a _ s.1 x1.2⟩,dT.anyS as r s.2 x2⟩
end
theorem aQ.anyS{a:AV}{v:Value}(s:a.iU=true)(x:aQ h st a v):aQ h st' a v:=by
 cases a<;>first | trivial | exact⟨x.1,VC.anyS _ _ s x.2⟩
theorem kY.anyS{b:Nat}:∀ {o:AO},o.iU→kY h st b o→kY h st' b o
 | .cells as,s,x=>by
  obtain⟨c,t,e,l,vs,x1,x2⟩:=x
  exact⟨c,t,e,l,vs,x1,bA.anyS as vs s x2⟩
 | .map f,s,x=>by
  obtain⟨es,cl,e,x1,x2,x3⟩:=x
  refine⟨es,cl,e,x1,x2,fun n=>?_⟩
  have:=x3 n
  split
  · rename_i a ha
    rw[ha] at this
    obtain⟨e,he,hk,hv⟩:=this
    exact⟨e,he,hk,hv.anyS (s n a ha)⟩
  · rename_i ha
    rw[ha] at this
    exact this
 | .tab cs,_,x=>x
end
def aB.frame(st s0 s1:aB):aB:=fun b=>match s0 b,st b with
 | none,some o=>some o
 | _,_=>s1 b
theorem aD.frame{P:Program}{g:FuncId}{args args':List AV}{st s0:aB}{Q:AV→aB→Prop}(D:aL st s0)
 (x:aD P g args s0 (fun r s1=>(∀b,s0 b=none→s1 b≠none→st b=none)→r.iU=true∧(∀b o,s1 b=some o→o.iU)∧Q r (st.frame s0 s1)))
 (hv:∀h vs,cW h st→dA h st args' vs→dA h s0 args vs):aD P g args' st Q:=by
 refine⟨x.1,fun w vs S V=>(x.2 w vs (D.HO S) (hv _ _ S V)).mono ?_⟩
 rintro _ w' ⟨v,r,s1,rfl,hr,S1,T,sm,q⟩
 have hfr:∀b,s0 b=none→s1 b≠none→st b=none:=fun b h0 h1=>by
  cases hb:st b with
  | none=>rfl
  | some o=>exact absurd (T.bB b (S b o hb).1 h0).2 h1
 obtain⟨hs,ho,hq⟩:=q hfr
 have T':b7 w.heap st w'.heap (st.frame s0 s1):=by
  refine⟨T.size,fun b hb e=>?_,T.shape⟩
  obtain⟨k1,k2⟩:=T.bB b hb ((D b).1 e)
  exact⟨k1,by simp only[aB.frame,e,k2];split<;>first | rfl | (rename_i h;cases h)⟩
 refine⟨v,r,st.frame s0 s1,rfl,hr.anyS hs,fun b o hb=>?_,T',sm,hq⟩
 simp only[aB.frame] at hb
 split at hb
 · rename_i o' h0 h1
   cases hb
   obtain⟨l,y⟩:=S b _ h1
   exact⟨tZ l T.size,kY.mono T' (T.bB b l h0).1 y⟩
 · obtain⟨l,y⟩:=S1 b o hb
   exact⟨l,y.anyS (ho b o hb)⟩
def eR:aB:=fun _=>none
theorem aL.eR(st:aB):aL st eR:=fun _=>⟨fun _=>rfl,fun _ h=>by cases h⟩
theorem aZI(st:aB):st.frame eR eR=st:=by
 funext b;simp only[aB.frame,eR];split
 · rename_i h;exact h.symm
 · rename_i h;cases hb:st b with
   | none=>rfl
   | some o=>exact absurd hb (h o rfl)
theorem aD.aJV{P:Program}{g:FuncId}{args args':List AV}{st:aB}{r:AV}(hs:r.iU=true)
 (x:aD P g args eR (fun r' s1=>r'=r∧s1=eR))
 (hv:∀h vs,cW h st→dA h st args' vs→dA h eR args vs):aD P g args' st (fun r' st'=>r'=r∧st'=st):=
 aD.frame (aL.eR st) (x.mono fun r' s1 ⟨e1,e2⟩ _=>⟨by rw[e1];exact hs,(by rw[e2];intro b o h;cases h),e1,by rw[e2,aZI]⟩) hv
mutual
def cO(st:aB):AV→AV→List Nat→Prop
 | .int k n,o,bs=>o=.int k n∧bs= []
 | .bool b,o,bs=>o=.bool b∧bs= []
 | .str s,o,bs=>o=.str s∧bs= []
 | .agg cs,o,bs=>∃os,o=.agg os∧cP st cs os bs
 | .slice es,o,bs=>(es= []∧o=.fslice []∧bs= [])∨∃b bs' os w,o=.mslice b 0 es.length w∧bs=b::bs'∧st b=some (.cells (os.flatMap AV.cells))∧cP st es os bs'∧(∀e∈es,e.width=w)
 | _,_,_=>False
def cP(st:aB):List AV→List AV→List Nat→Prop
 | [],os,bs=>os= []∧bs= []
 | a::as,os,bs=>∃o os' b1 b2,os=o::os'∧bs=b1++b2∧cO st a o b1∧cP st as os' b2
end
theorem cP.length{st:aB}:∀ {as os:List AV} {bs:List Nat},cP st as os bs→os.length=as.length
 | [],os,bs,x=>by simp only[cP] at x;simp [x.1]
 | a::as,os,bs,x=>by
  simp only[cP] at x
  obtain⟨o,os',b1,b2,rfl,rfl,_,x2⟩:=x
  simp [cP.length x2]
theorem cO.shape{st:aB}:∀ {a o:AV} {bs:List Nat},cO st a o bs→o.isAgg=a.isAgg∧o.width=a.width∧o.cE=false∧(∀cs,a=.agg cs→∃os,o=.agg os)
 | .int k n,o,bs,x=>by simp only[cO] at x;rw[x.1];exact⟨rfl,rfl,rfl,by simp⟩
 | .bool b,o,bs,x=>by simp only[cO] at x;rw[x.1];exact⟨rfl,rfl,rfl,by simp⟩
 | .str s,o,bs,x=>by simp only[cO] at x;rw[x.1];exact⟨rfl,rfl,rfl,by simp⟩
 | .agg cs,o,bs,x=>by
  simp only[cO] at x
  obtain⟨os,rfl,x⟩:=x
  exact⟨rfl,x.length,rfl,fun _ _=>⟨os,rfl⟩⟩
 | .slice es,o,bs,x=>by
  simp only[cO] at x
  rcases x with ⟨_,rfl,_⟩ | ⟨b,bs',os,w,rfl,_⟩<;>exact⟨rfl,rfl,rfl,by simp⟩
 | .junk,_,_,x=>x.elim
 | .undef,_,_,x=>x.elim
 | .tup _,_,_,x=>x.elim
 | .fslice _,_,_,x=>x.elim
 | .mslice _ _ _ _,_,_,x=>x.elim
 | .nilptr,_,_,x=>x.elim
 | .ptr _ _,_,_,x=>x.elim
 | .pptr _,_,_,x=>x.elim
 | .nilmap,_,_,x=>x.elim
 | .map _,_,_,x=>x.elim
 | .func _ _,_,_,x=>x.elim
 | .raw _,_,_,x=>x.elim
 | .eslice,_,_,x=>x.elim
section
variable {st st':aB}
mutual
theorem cO.bB:∀(a o:AV) (bs:List Nat),(∀b∈bs,st' b=st b)→cO st a o bs→cO st' a o bs
 | .int k n,o,bs,_,x=>x
 | .bool b,o,bs,_,x=>x
 | .str s,o,bs,_,x=>x
 | .agg cs,o,bs,h,x=>by
  simp only[cO] at x ⊢
  obtain⟨os,e,x⟩:=x
  exact⟨os,e,cP.bB cs os bs h x⟩
 | .slice es,o,bs,h,x=>by
  simp only[cO] at x ⊢
  rcases x with x | ⟨b,bs',os,w,e1,rfl,e2,x,e3⟩
  · exact .inl x
  · exact .inr ⟨b,bs',os,w,e1,rfl,(h b (by simp)).trans e2,cP.bB es os bs' (fun q hq=>h q (by simp [hq])) x,e3⟩
 | .junk,_,_,_,x=>x
 | .undef,_,_,_,x=>x
 | .tup _,_,_,_,x=>x
 | .fslice _,_,_,_,x=>x
 | .mslice _ _ _ _,_,_,_,x=>x
 | .nilptr,_,_,_,x=>x
 | .ptr _ _,_,_,_,x=>x
 | .pptr _,_,_,_,x=>x
 | .nilmap,_,_,_,x=>x
 | .map _,_,_,_,x=>x
 | .func _ _,_,_,_,x=>x
 | .raw _,_,_,_,x=>x
 | .eslice,_,_,_,x=>x
theorem cP.bB:∀(as os:List AV) (bs:List Nat),(∀b∈bs,st' b=st b)→cP st as os bs→cP st' as os bs
 | [],os,bs,_,x=>x
 | a::as,os,bs,h,x=>by
  simp only[cP] at x ⊢
  obtain⟨o,os',b1,b2,e1,rfl,x1,x2⟩:=x
  exact⟨o,os',b1,b2,e1,rfl,cO.bB a o b1 (fun q hq=>h q (by simp [hq])) x1,cP.bB as os' b2 (fun q hq=>h q (by simp [hq])) x2⟩
end
mutual
theorem cO.iU:∀(a o:AV) (bs:List Nat),cO st a o bs→o.iU=true∧o.cells.all AV.storable=o.cells.all AV.storable∧∀b∈bs,∃cs,st b=some (.cells cs)∧lK cs=true
 | .int k n,o,bs,x=>by simp only[cO] at x;rw[x.1,x.2];exact⟨rfl,rfl,by simp⟩
 | .bool b,o,bs,x=>by simp only[cO] at x;rw[x.1,x.2];exact⟨rfl,rfl,by simp⟩
 | .str s,o,bs,x=>by simp only[cO] at x;rw[x.1,x.2];exact⟨rfl,rfl,by simp⟩
 | .agg cs,o,bs,x=>by
  simp only[cO] at x
  obtain⟨os,rfl,x⟩:=x
  obtain⟨h1,h2⟩:=cP.iU cs os bs x
  exact⟨by simpa [AV.iU] using h1.1,rfl,h2⟩
 | .slice es,o,bs,x=>by
  simp only[cO] at x
  rcases x with ⟨_,rfl,rfl⟩ | ⟨b,bs',os,w,rfl,rfl,e2,x,e3⟩
  · exact⟨rfl,rfl,by simp⟩
  · obtain⟨h1,h2⟩:=cP.iU es os bs' x
    refine⟨rfl,rfl,fun q hq=>?_⟩
    rcases c8.1 hq with rfl | hq
    · exact⟨_,e2,h1.2⟩
    · exact h2 q hq
 | .junk,_,_,x=>x.elim
 | .undef,_,_,x=>x.elim
 | .tup _,_,_,x=>x.elim
 | .fslice _,_,_,x=>x.elim
 | .mslice _ _ _ _,_,_,x=>x.elim
 | .nilptr,_,_,x=>x.elim
 | .ptr _ _,_,_,x=>x.elim
 | .pptr _,_,_,x=>x.elim
 | .nilmap,_,_,x=>x.elim
 | .map _,_,_,x=>x.elim
 | .func _ _,_,_,x=>x.elim
 | .raw _,_,_,x=>x.elim
 | .eslice,_,_,x=>x.elim
theorem cP.iU:∀(as os:List AV) (bs:List Nat),cP st as os bs→(lK os=true∧lK (os.flatMap AV.cells)=true)∧∀b∈bs,∃cs,st b=some (.cells cs)∧lK cs=true
 | [],os,bs,x=>by simp only[cP] at x;rw[x.1,x.2];exact⟨⟨rfl,rfl⟩,by simp⟩
 | a::as,os,bs,x=>by
  simp only[cP] at x
  obtain⟨o,os',b1,b2,rfl,rfl,x1,x2⟩:=x
  obtain⟨h1,_,h2⟩:=cO.iU a o b1 x1
  obtain⟨⟨h3,h4⟩,h5⟩:=cP.iU as os' b2 x2
  have x9:∀(p q:List AV),lK p=true→lK q=true→lK (p++q)=true:=by
   intro p q hp hq
   induction p with
   | nil=>exact hq
   | cons c p ih=>simp only[lK,cB,fC] at hp ⊢;exact⟨hp.1,ih hp.2⟩
  have hc:lK o.cells=true:=by cases o<;>first | (simpa [AV.cells,lK] using h1) | (simpa [AV.cells,AV.iU] using h1)
  refine⟨⟨by simp [lK,h1,h3],by rw[sJ];exact x9 _ _ hc h4⟩,fun q hq=>?_⟩
  rcases fQ.1 hq with hq | hq
  · exact h2 q hq
  · exact h5 q hq
end
end
section
variable {h:bM} {st s0:aB}
mutual
theorem cO.view(S:cW h st)(D:aL st s0):∀(a o:AV) (bs:List Nat) (cs:List Value),cO st a o bs→(∀b∈bs,s0 b=none)→VC h st o cs→VC h s0 a cs
 | .int k n,o,bs,cs,x,_,y=>by simp only[cO] at x;rw[x.1] at y;exact y
 | .bool b,o,bs,cs,x,_,y=>by simp only[cO] at x;rw[x.1] at y;exact y
 | .str s,o,bs,cs,x,_,y=>by simp only[cO] at x;rw[x.1] at y;exact y
 | .agg as,o,bs,cs,x,hb,y=>by
  simp only[cO] at x
  obtain⟨os,rfl,x⟩:=x
  simp only[VC] at y ⊢
  exact cP.aPS S D as os bs cs x hb y
 | .slice es,o,bs,cs,x,hb,y=>by
  simp only[cO] at x
  rcases x with ⟨rfl,rfl,rfl⟩ | ⟨b,bs',os,w,rfl,rfl,e2,x,e3⟩
  · unfold VC at y ⊢
    rcases y with y | ⟨b,off,e,_⟩
    · exact .inl y
    · exact .inl ⟨⟨_,e⟩,rfl⟩
  · simp only[VC] at y
    obtain⟨cap,e,l1,l2,_⟩:=y
    obtain⟨hlt,c,t,q1,q2,vs,q3,q4⟩:=S b _ e2
    have hsh:=cP.aM7 x
    unfold VC
    refine .inr ⟨b,0,cap,e,l1,l2,hb b (by simp),hlt,⟨w,e3⟩,cP.aPT S D b es os bs' 0 x (fun q hq=>hb q (by simp [hq])) (JB (fun q hq=>hsh q hq) q3 q4)⟩
 | .junk,_,_,_,x,_,_=>x.elim
 | .undef,_,_,_,x,_,_=>x.elim
 | .tup _,_,_,_,x,_,_=>x.elim
 | .fslice _,_,_,_,x,_,_=>x.elim
 | .mslice _ _ _ _,_,_,_,x,_,_=>x.elim
 | .nilptr,_,_,_,x,_,_=>x.elim
 | .ptr _ _,_,_,_,x,_,_=>x.elim
 | .pptr _,_,_,_,x,_,_=>x.elim
 | .nilmap,_,_,_,x,_,_=>x.elim
 | .map _,_,_,_,x,_,_=>x.elim
 | .func _ _,_,_,_,x,_,_=>x.elim
 | .raw _,_,_,_,x,_,_=>x.elim
 | .eslice,_,_,_,x,_,_=>x.elim
theorem cP.aPS(S:cW h st)(D:aL st s0):∀(as os:List AV) (bs:List Nat) (cs:List Value),cP st as os bs→(∀b∈bs,s0 b=none)→bA h st os cs→bA h s0 as cs
 | [],os,bs,cs,x,_,y=>by simp only[cP] at x;rw[x.1] at y;exact y
 | a::as,os,bs,cs,x,hb,y=>by
  simp only[cP] at x
  obtain⟨o,os',b1,b2,rfl,rfl,x1,x2⟩:=x
  simp only[bA] at y ⊢
  obtain⟨c,r,e,y1,y2⟩:=y
  exact⟨c,r,e,cO.view S D a o b1 [c] x1 (fun q hq=>hb q (by simp [hq])) y1,cP.aPS S D as os' b2 r x2 (fun q hq=>hb q (by simp [hq])) y2⟩
theorem cP.aPT(S:cW h st)(D:aL st s0)(b:Nat):∀(as os:List AV) (bs:List Nat) (off:Nat),cP st as os bs→(∀b∈bs,s0 b=none)→dH h st b off os→dH h s0 b off as
 | [],os,bs,off,x,_,y=>by simp only[dH]
 | a::as,os,bs,off,x,hb,y=>by
  simp only[cP] at x
  obtain⟨o,os',b1,b2,rfl,rfl,x1,x2⟩:=x
  simp only[dH] at y ⊢
  obtain⟨⟨cs,y1,y2,y3⟩,y4⟩:=y
  have hw:=(cO.shape x1).2.1
  rw[hw] at y2 y4
  exact⟨⟨cs,y1,y2,cO.view S D a o b1 cs x1 (fun q hq=>hb q (by simp [hq])) y3⟩,cP.aPT S D b as os' b2 _ x2 (fun q hq=>hb q (by simp [hq])) y4⟩
theorem cP.aM7:∀ {as os:List AV} {bs:List Nat},cP st as os bs→∀o∈os,o.cE=false
 | [],os,bs,x=>by simp only[cP] at x;rw[x.1];simp
 | a::as,os,bs,x=>by
  simp only[cP] at x
  obtain⟨o,os',b1,b2,rfl,rfl,x1,x2⟩:=x
  intro q hq
  rcases c8.1 hq with rfl | hq
  · exact(cO.shape x1).2.2.1
  · exact cP.aM7 x2 q hq
end
theorem cO.a7U(S:cW h st)(D:aL st s0){a o:AV}{bs:List Nat}{v:Value}(x:cO st a o bs)(hb:∀b∈bs,s0 b=none)(y:aQ h st o v):aQ h s0 a v:=by
 have hs:=x.shape
 have key:o.isAgg=mC v∧VC h st o v.cells.toList:=by
  cases o<;>first | exact y | simp [AV.cE] at hs
 have z:a.isAgg=mC v∧VC h s0 a v.cells.toList:=⟨hs.1.symm.trans key.1,cO.view S D _ _ _ _ x hb key.2⟩
 cases ha:a<;>rw[ha] at z<;>first | trivial | exact z
end
def Seen(st s0:aB):List AV→List AV→Prop
 | [],as=>as= []
 | o::os,as=>∃a as',as=a::as'∧(o=a∨∃bs,cO st a o bs∧∀b∈bs,s0 b=none)∧Seen st s0 os as'
theorem Seen.rel{st s0:aB}(D:aL st s0):∀ {os as:List AV},Seen st s0 os as→∀h vs,cW h st→dA h st os vs→dA h s0 as vs
 | [],as,x,h,vs,_,y=>by simp only[Seen] at x;rw[x];exact y
 | o::os,as,x,h,vs,S,y=>by
  simp only[Seen] at x
  obtain⟨a,as',rfl,x1,x2⟩:=x
  simp only[dA] at y ⊢
  obtain⟨v,r,rfl,y1,y2⟩:=y
  refine⟨v,r,rfl,?_,Seen.rel D x2 h r S y2⟩
  rcases x1 with rfl | ⟨bs,x1,hb⟩
  · exact y1.mono (D.step h)
  · exact x1.a7U S D hb y1
def Made(st:aB)(a r:AV)(st':aB):Prop:=∃bs:List Nat,bs.Nodup∧(∀b∈bs,st b=none)∧cO st' a r bs∧∀b,b∉bs→st' b=st b
theorem cP.aJP{st:aB}{w:Nat}:∀ {as os:List AV} {bs:List Nat},cP st as os bs→(∀e∈as,e.width=w)→(os.flatMap AV.cells).length=as.length*w
 | [],os,bs,x,_=>by simp only[cP] at x;rw[x.1];simp
 | a::as,os,bs,x,h=>by
  simp only[cP] at x
  obtain⟨o,os',b1,b2,rfl,rfl,x1,x2⟩:=x
  have:=cP.aJP x2 (fun e he=>h e (by simp [he]))
  rw[sJ,dM,this,vT,(cO.shape x1).2.1,h a (by simp),aS,oY]
  omega
theorem aM3{A C B x:List AV}{n j:Nat}(hA:A.length=n)(hj:j+x.length≤C.length):aK (A++C++B) (n+j) x=A++aK C j x++B:=by
 subst hA
 unfold aK
 have h1:(A++C++B).take (A.length+j)=A++C.take j:=by
  rw[nP,List.take_length_add_append,B4 (by omega)]
 have h2:(A++C++B).drop (A.length+j+x.length)=C.drop (j+x.length)++B:=by
  rw[nP,xH,List.drop_length_add_append,List.drop_append_of_le_length (by omega)]
 rw[h1,h2]
 simp
theorem RQ{A B:List AV}{n:Nat}(hA:A.length=n):(∀(C:List AV) (v:AV) (j:Nat),j<C.length→aK (A++C++B) (n+j) [v]=A++C.set j v++B)∧(∀(C:List AV) (c:Nat),c<C.length→n+c+1≤(A++C++B).length) ∧
 (∀(C:List AV) (c:Nat),c<C.length→(A++C++B)[n+c]?=C[c]?)∧(∀(C:List AV) (v:AV),0<C.length→aK (A++C++B) n [v]=A++C.set 0 v++B)∧(∀(C:List AV),0<C.length→n+1≤(A++C++B).length) ∧
 ∀(C:List AV),0<C.length→(A++C++B)[n]?=C[0]?:=by
 have k1:(∀(C:List AV) (v:AV) (j:Nat),j<C.length→aK (A++C++B) (n+j) [v]=A++C.set j v++B)∧(∀(C:List AV) (c:Nat),c<C.length→n+c+1≤(A++C++B).length)∧∀(C:List AV) (c:Nat),c<C.length→(A++C++B)[n+c]?=C[c]?:=?_
 · exact⟨k1.1,k1.2.1,k1.2.2,fun C v h=>k1.1 C v 0 h,fun C h=>k1.2.1 C 0 h,fun C h=>k1.2.2 C 0 h⟩
 refine⟨fun C v j h=>?_,fun C c h=>?_,fun C c h=>?_⟩
 · rw[aM3 hA (by simp;omega),List.set_eq_take_append_cons_drop,aJ h]
   unfold aK
   simp
 · simp only[dM];omega
 · subst hA
   rw[nP,UZ (by omega),Nat.add_sub_cancel_left,UY h]
theorem a34{A B C x:List AV}{n w:Nat}(hA:A.length=n)(hC:C.length=w)(hx:x.length=w):aK (A++C++B) n x=A++x++B∧n+w≤(A++C++B).length:=by
 have h:=aM3 (A:=A) (C:=C) (B:=B) (x:=x) (n:=n) (j:=0) hA (by omega)
 rw[B5] at h
 refine⟨?_,by simp only[dM];omega⟩
 rw[h]
 unfold aK
 simp [hC,hx]
theorem uL{P:Program}{t:TypeId}{ag:Bool}{b len w i:Nat}(hI:eI P t=some (ag,w))(hi:i<len):c9 P t (.mslice b 0 len w) (.int .i64 (i:Int))=some (.ptr b (i*w)):=by
 simp only[c9,hI,kX,fZ]
 rw[aJ ⟨by omega,by omega,trivial⟩]
theorem cO.WG{st:aB}:∀ {cs os:List AV} {bs:List Nat},cP st cs os bs→(∀c∈cs,c.isAgg=false)→os.all AV.storable=true∧os.flatMap AV.cells=os
 | [],os,bs,x,_=>by simp only[cP] at x;rw[x.1];simp
 | a::as,os,bs,x,h=>by
  simp only[cP] at x
  obtain⟨o,os',b1,b2,rfl,rfl,x1,x2⟩:=x
  have ih:=cO.WG x2 (fun c hc=>h c (by simp [hc]))
  have ha:=h a (by simp)
  have ho:o.storable=true∧o.cells= [o]:=by
   cases a<;>simp only[cO] at x1<;>try exact x1.elim
   case int=>rw[x1.1];exact⟨rfl,rfl⟩
   case bool=>rw[x1.1];exact⟨rfl,rfl⟩
   case str=>rw[x1.1];exact⟨rfl,rfl⟩
   case agg=>simp [AV.isAgg] at ha
   case slice=>rcases x1 with ⟨_,rfl,_⟩ | ⟨b,bs',os,w,rfl,_⟩<;>exact⟨rfl,rfl⟩
  rw[j3,ho.1,ih.1,sJ,ih.2,ho.2]
  exact⟨rfl,rfl⟩
theorem cP.snoc{st st':aB}{a o:AV}{b2:List Nat}:∀ {as os:List AV} {b1:List Nat},cP st as os b1→(∀b∈b1,st' b=st b)→cO st' a o b2→cP st' (as++ [a]) (os++ [o]) (b1++b2)
 | [],os,b1,x,_,y=>by
  simp only[cP] at x
  rw[x.1,x.2]
  simp only[eL,cP]
  exact⟨o,[],b2,[],rfl,by simp,y,rfl,rfl⟩
 | c::as,os,b1,x,h,y=>by
  simp only[cP] at x
  obtain⟨o1,os',b3,b4,rfl,rfl,x1,x2⟩:=x
  simp only[fC,cP]
  exact⟨o1,os'++ [o],b3,b4++b2,rfl,by simp,cO.bB _ _ _ (fun q hq=>h q (by simp [hq])) x1,cP.snoc x2 (fun q hq=>h q (by simp [hq])) y⟩
def aP3(st:aB)(ds:List Nat)(a r:AV)(st':aB):Prop:=∃bs:List Nat,bs.Nodup∧(∀b∈bs,st b=none)∧(∀d∈ds,st d=none∧d∉bs)∧cO st' a r bs∧∀b,b∉bs→b∉ds→st' b=st b
theorem aD.a24{P:Program}{g:FuncId}{args:List AV}{st:aB}{a:AV}(x:aD P g args st (fun r st'=>∃ds,aP3 st ds a r st')):aD P g args st (Made st a):=
 x.mV fun r st' ⟨ds,bs,h1,h2,hd,h3,h4⟩=>by
  refine⟨r,fun q=>if q∈ds then none else st' q,?_,?_,bs,h1,h2,?_,fun b hb=>?_⟩
  · have D:aL st' (fun q=>if q∈ds then none else st' q):=fun q=>by
     by_cases hq:q∈ds
     · simp only[hq,gB];exact⟨fun _=>trivial,fun o h=>by cases h⟩
     · simp only[hq,d5];exact⟨id,fun o h=>h⟩
    exact D.tU
  · have D:aL st' (fun q=>if q∈ds then none else st' q):=fun q=>by
     by_cases hq:q∈ds
     · simp only[hq,gB];exact⟨fun _=>trivial,fun o h=>by cases h⟩
     · simp only[hq,d5];exact⟨id,fun o h=>h⟩
    exact D.mV r
  · exact cO.bB _ _ _ (fun q hq=>aF fun h=>(hd q h).2 hq) h3
  · by_cases hq:b∈ds
    · simp only[hq,gB];exact(hd b hq).1.symm
    · simp only[hq,d5];exact h4 b hb hq
def vM(b:Nat):List AV→List Nat
 | []=>[]
 | _::_=>[b]
theorem a3Z{s:aB}{b w:Nat}{es os:List AV}{bs:List Nat}(x:cP (a7 s b os) es os bs)(hw:∀e∈es,e.width=w):cO (a7 s b os) (.slice es) (bE w b os) (vM b os++bs):=by
 have hl:=x.length
 cases os with
 | nil=>
  have:es= []:=rH (by simpa using hl.symm)
  subst this
  simp only[cP] at x
  simp only[cO,bE,vM,x.2]
  exact .inl ⟨trivial,trivial,rfl⟩
 | cons o os=>
  simp only[cO,bE,vM]
  refine .inr ⟨b,bs,o::os,w,by rw[hl],rfl,?_,x,hw⟩
  simp only[a7,aB.aO]
def AV.flat:AV→Bool
 | .int _ _ | .bool _ | .str _=>true
 | _=>false
theorem cP.flat{s:aB}:∀ {es:List AV},es.all AV.flat=true→cP s es es []
 | [],_=>⟨rfl,rfl⟩
 | e::es,h=>by
  simp only[j3,cB] at h
  simp only[cP]
  refine⟨e,es,[],[],rfl,rfl,?_,cP.flat h.2⟩
  cases e<;>simp [AV.flat] at h<;>simp [cO]
theorem Seen.nil{st s0:aB}:Seen st s0 [] []:=rfl
theorem Seen.same{st s0:aB}{x:AV}{os as:List AV}(h:Seen st s0 os as):Seen st s0 (x::os) (x::as):=⟨x,as,rfl,.inl rfl,h⟩
theorem Seen.own{st:aB}{a o:AV}{bs:List Nat}{os as:List AV}(hO:cO st a o bs)(h:Seen st eR os as):Seen st eR (o::os) (a::as):=⟨a,as,rfl,.inr ⟨bs,hO,fun _ _=>rfl⟩,h⟩
theorem aD.see{P:Program}{g:FuncId}{args args':List AV}{st:aB}{r:AV}(x:∀s,aD P g args s (fun r' s'=>r'=r∧s'=s))(hv:Seen st eR args' args)(hs:r.iU=true):aD P g args' st (fun r' s'=>r'=r∧s'=st):=
 aD.aJV hs (x eR) (Seen.rel (aL.eR st) hv)
theorem aD.oH{P:Program}{g:FuncId}{args:List AV}{st:aB}{r:AV}(x:aD P g args st (fun r' st'=>r'=r∧aL st' st)):aD P g args st (fun r' st'=>r'=r∧st'=st):=
 (x.mono fun _ _ h=>⟨h.2,h.1⟩).drop
theorem aQF{P:Program}{t:TypeId}{st:aB}{s x:AV}{K K':AV→aB→Prop}(h:∀r s,K r s→K' r s)(e:kD P t st s x K):kD P t st s x K':=by
 unfold kD at *
 split at e
 case h_2=>exact e.elim
 refine⟨e.1,e.2.1,?_⟩
 have e:=e.2.2
 split at e
 · exact⟨e.1,e.2.1,e.2.2.1,fun q=>h _ _ (e.2.2.2.1 q),fun q b hb=>h _ _ (e.2.2.2.2 q b hb)⟩
 · refine⟨e.1,e.2.1,e.2.2.1,?_⟩
   have e:=e.2.2.2
   split at e
   · exact⟨e.1,h _ _ e.2.1,fun b hb=>h _ _ (e.2.2 b hb)⟩
   · exact e.elim
 · exact e.elim
theorem aQE{P:Program}{t t':TypeId}{st:aB}{s x:AV}{K K':AV→aB→Prop}(h:∀r s,K r s→K' r s)(e:sN P t t' st s x K):sN P t t' st s x K':=by
 unfold sN at *
 split at e
 case h_2=>exact e.elim
 refine⟨e.1,e.2.1,e.2.2.1,e.2.2.2.1,?_⟩
 have e:=e.2.2.2.2
 split at e
 · exact⟨e.1,e.2.1,e.2.2.1,fun q=>h _ _ (e.2.2.2.1 q),fun q b hb=>h _ _ (e.2.2.2.2 q b hb)⟩
 · refine⟨e.1,e.2.1,e.2.2.1,?_⟩
   have e:=e.2.2.2
   split at e
   · exact⟨e.1,h _ _ e.2.1,fun b hb=>h _ _ (e.2.2 b hb)⟩
   · exact e.elim
 · exact e.elim
theorem CL{P:Program}{mt:List Nat}{φ:AF}{st:aB}{o:Oper}{K K':AV→aB→Prop}(h:∀r s,K r s→K' r s)(e:fH P mt φ st o K):fH P mt φ st o K':=by
 unfold fH at *
 split at e
 · split at e
   · exact e.mono h
   · exact e.elim
 · split at e
   · split at e
     · rename_i ht;rw[aJ ht];exact aQF h e
     · rename_i ht;rw[aF ht];exact aQE h e
   · exact e.elim
 · split at e
   · unfold zS at *
     split at e
     · split at e
       · exact h _ _ e
       · exact e.elim
     · exact e.elim
   · exact e.elim
 · split at e
   · unfold vJ at *
     split at e
     · obtain⟨e1,e2,e3,e4,e5⟩:=e
       refine⟨e1,e2,e3,e4,?_⟩
       split at e5
       · exact⟨e5.1,h _ _ e5.2⟩
       · exact e5.elim
     · exact h _ _ e
     · exact e.elim
   · exact e.elim
 · split at e
   · rename_i hm
     rw[aJ hm]
     exact⟨e.1,fun b hb=>h _ _ (e.2 b hb)⟩
   · rename_i hm
     rw[aF hm]
     split at e
     · exact h _ _ e
     · exact e.elim
 · split at e
   · exact fun b hb=>h _ _ (e b hb)
   · exact e.elim
 · split at e
   · split at e
     · exact⟨e.1,e.2.1,e.2.2.1,h _ _ e.2.2.2⟩
     · exact e.elim
   · exact e.elim
 · exact fun b hb=>h _ _ (e b hb)
 · unfold xN at *
   split at e
   · exact⟨e.1,e.2.1,e.2.2.1,e.2.2.2.1,e.2.2.2.2.1,e.2.2.2.2.2.1,fun b hb=>h _ _ (e.2.2.2.2.2.2 b hb)⟩
   · exact e.elim
 · unfold sP at *
   split at e
   · split at e
     · exact⟨e.1,h _ _ e.2⟩
     · exact e.elim
   · exact e.elim
 · split at e
   · exact h _ _ e
   · exact e.elim
def j6(P:Program)(ops:Array Oper)(o:Oper)(φ:AF)(st:aB)(K:AV→aB→Prop):Prop:=match jJ ops φ o with
 | some true=>fH P [] φ st o K
 | some false=>K .undef st
 | none=>False
theorem xQ{P:Program}{ops:Array Oper}{o:Oper}{φ:AF}{st:aB}{K K':AV→aB→Prop}(h:∀r s,K r s→K' r s)(e:j6 P ops o φ st K):j6 P ops o φ st K':=by
 unfold j6 at *
 split at e
 · exact CL h e
 · exact h _ _ e
 · exact e.elim
section
variable {P:Program}
theorem aQI{ops:Array Oper}{oi oj:Oper}(φ:AF)(v:AV)(h:∀d,oj.dst=some d→d∉oi.looksAt ops):jJ ops (φ.put oj.dst v) oi=jJ ops φ oi:=by
 unfold jJ
 cases hg:oi.guard with
 | none=>rfl
 | some gw=>
  obtain⟨g,want⟩:=gw
  cases ht:(ops[g]?).bind (·.dst) with
  | none=>simp only[ht]
  | some t=>
   simp only[ht]
   have:(φ.put oj.dst v) t=φ t:=by
    have:=LZ (φ:=φ) (dst:=oj.dst) (v:=v) (x:=.tmp t) (fun d hd hxd=>h d hd (by
     cases hxd
     simp [Oper.looksAt,hg,ht]))
    exact this
   rw[this]
theorem OC{ops:Array Oper}{oi oj:Oper}(φ:AF)(v:AV){st:aB}{K:AV→aB→Prop}(h:∀d,oj.dst=some d→d∉oi.looksAt ops):j6 P ops oi (φ.put oj.dst v) st K↔j6 P ops oi φ st K:=by
 have h1:fH P [] (φ.put oj.dst v) st oi K=fH P [] φ st oi K:=
  V4 fun x hx=>LZ fun d hd hxd=>h d hd (by
   subst hxd
   exact List.mem_append_left _ (List.mem_filterMap.2 ⟨.tmp d,by simpa using hx,rfl⟩))
 unfold j6
 rw[h1,aQI φ v h]
theorem aJZ(n j:Nat):(Array.replicate n false).getD j false=false:=by
 rcases lD j n with h | h<;>simp [h]
def JF(P:Program)(ops:Array Oper)(K:AF→aB→Prop):Nat→Array Bool→AF→aB→Prop
 | 0,listed,φ,st=>Region.ready .any ops listed= []∧K φ st
 | f+1,listed,φ,st=>(Region.ready .any ops listed= []→K φ st)∧∀i∈Region.ready .any ops listed,∃o,ops[i]?=some o∧j6 P ops o φ st (fun r st'=>JF P ops K f (listed.setIfInBounds i true) (φ.put o.dst r) st')
theorem aQM{N:Nat}{ops:Array Oper}(hN:∀(j d:Nat),(ops[j]?).bind (·.dst)=some d→d<N){o:Oper}{i:Nat}{a:Act}{w:World}{φ:AF}{st:aB}{G:AV→aB→Prop}{K:Act→World→Prop}{Q:Exit→Act→World→Prop}(hi:ops[i]?=some o)
 (R:Rel N a w φ st) (hd:qB N o=true) (y:j6 P ops o φ st G) (h:∀a' w' r st',Rel N a' w' (φ.put o.dst r) st'→b7 w.heap st w'.heap st'→fJ w w'→G r st'→K a' w'):wpOp P ops Q i K a w:=by
 unfold j6 at y
 unfold wpOp
 simp only[hi]
 split at y
 · rename_i hg
   rw[aJ (xM R hN hg)]
   refine .inl (JJ R.frame R.store y fun v w' ⟨r',st',x1,x2,x3,x4,x5⟩=>?_)
   exact h _ _ r' st' (R.put hd x3 x2 x1) x3 x4 x5
 · rename_i hg
   rw[aF (by rw[xM R hN hg];simp)]
   exact h _ _ .undef st (R.put (r:=.undef) hd (b7.refl _ _) R.store ⟨rfl,rfl⟩) (b7.refl _ _) (fJ.refl _) y
 · exact y.elim
theorem N6{N:Nat}{ops:Array Oper}(hN:∀(j d:Nat),(ops[j]?).bind (·.dst)=some d→d<N)(hD:∀o∈ops.toList,qB N o=true){K:AF→aB→Prop}{Q:Exit→Act→World→Prop}{w0:World}{st0:aB}
 (hK:∀φ st a w,K φ st→Rel N a w φ st→b7 w0.heap st0 w.heap st→fJ w0 w→Q .normal a w) :
 ∀(f:Nat) (listed:Array Bool) (φ:AF) (st:aB) (a:Act) (w:World),JF P ops K f listed φ st→Rel N a w φ st→b7 w0.heap st0 w.heap st→fJ w0 w→wpAny P .any ops Q f listed a w
 | 0,listed,φ,st,a,w,h,R,T,s=>⟨h.1,hK φ st a w h.2 R T s⟩
 | f+1,listed,φ,st,a,w,h,R,T,s=>by
  refine⟨fun h0=>hK φ st a w (h.1 h0) R T s,fun i hi=>?_⟩
  obtain⟨o,ho,y⟩:=h.2 i hi
  exact aQM hN ho R (hD o (oB.2 (zD ho))) y fun a' w' r st' R' T' s' g=>N6 hN hD hK f _ _ _ a' w' g R' (T.trans T') (s.trans s')
def VX(P:Program)(ops:Array Oper)(o:Oper)(r:AV)(φ:AF):Prop:=∀st,j7 P st ops o r φ
theorem a8Q{ops:Array Oper}{o:Oper}{r:AV}{φ:AF}(h:VX P ops o r φ){st:aB}{K:AV→aB→Prop}(k:K r st):j6 P ops o φ st K:=by
 unfold j6
 rcases h st with ⟨hg,hs⟩ | ⟨hg,rfl⟩
 · rw[hg];exact CL (fun r' s' ⟨e1,e2⟩=>by rw[e1,e2];exact k) hs
 · rw[hg];exact k
theorem WA{ops:Array Oper}{o:Oper}{r:AV}{φ:AF}{st:aB}(h:j7 P st ops o r φ){K:AV→aB→Prop}(k:K r st):j6 P ops o φ st K:=by
 unfold j6
 rcases h with ⟨hg,hs⟩ | ⟨hg,rfl⟩
 · rw[hg];exact CL (fun r' s' ⟨e1,e2⟩=>by rw[e1,e2];exact k) hs
 · rw[hg];exact k
def CC(P:Program)(ops:Array Oper)(S:List Nat)(K:AF→aB→Prop):Nat→Array Bool→AF→aB→Prop
 | 0,listed,φ,st=>Region.ready .any ops listed= []∧K φ st
 | f+1,listed,φ,st=>(Region.ready .any ops listed= []→K φ st)∧∀i∈Region.ready .any ops listed,∃o,ops[i]?=some o ∧
  ((S.contains i=true∧∃r,j7 P st ops o r φ∧CC P ops S K f (listed.setIfInBounds i true) (φ.put o.dst r) st) ∨
   (S.contains i=false∧j6 P ops o φ st (fun r st'=>CC P ops S K f (listed.setIfInBounds i true) (φ.put o.dst r) st')))
theorem N7{ops:Array Oper}{S:List Nat}{K:AF→aB→Prop}:∀(f:Nat) (listed:Array Bool) (φ:AF) (st:aB),CC P ops S K f listed φ st→JF P ops K f listed φ st
 | 0,_,_,_,h=>h
 | f+1,listed,φ,st,h=>by
  refine⟨h.1,fun i hi=>?_⟩
  obtain⟨o,ho,h2⟩:=h.2 i hi
  refine⟨o,ho,?_⟩
  rcases h2 with ⟨_,r,y,k⟩ | ⟨_,k⟩
  · exact WA y (N7 f _ _ _ k)
  · exact xQ (fun r s q=>N7 f _ _ _ q) k
def xC(ops:Array Oper)(listed:Array Bool):Prop:=∀j o,ops[j]?=some o→listed.getD j false=true→∀e∈o.after,Region.binds .any e=true→listed.getD e.on false=true
theorem xC.set{ops:Array Oper}{listed:Array Bool}{i:Nat}(h:xC ops listed)(hr:i∈Region.ready .any ops listed):xC ops (listed.setIfInBounds i true):=by
 intro j o ho hl e he hb
 by_cases hji:i=j
 · subst hji
   obtain⟨_,o',ho',dJ⟩:=mem_ready.1 hr
   rw[ho'] at ho;cases ho
   exact getD_set_true (dJ e he hb)
 · rw[getD_set_ne false hji] at hl
   exact getD_set_true (h j o ho hl e he hb)
def uF(ops:Array Oper):Nat→Nat→Nat→Bool
 | 0,_,_=>false
 | f+1,j,i=>match ops[j]? with
  | some o=>o.after.any fun e=>Region.binds .any e&&(e.on == i||uF ops f e.on i)
  | none=>false
theorem KD{ops:Array Oper}{listed:Array Bool}{i:Nat}(h:xC ops listed)(hi:listed.getD i false=false):∀(f j:Nat) (o:Oper),ops[j]?=some o→uF ops f j i=true→¬ ∀e∈o.after,Region.binds .any e=true→listed.getD e.on false=true
 | 0,j,o,_,hd=>by simp [uF] at hd
 | f+1,j,o,ho,hd=>by
  intro dJ
  simp only[uF,ho] at hd
  obtain⟨e,he,h2⟩:=Array.any_eq_true'.1 hd
  simp only[cB,rE,beq_iff_eq] at h2
  obtain⟨hb,h3⟩:=h2
  have hl:=dJ e he hb
  rcases h3 with h3 | h3
  · rw[h3,hi] at hl;cases hl
  · cases hk:ops[e.on]? with
    | none=>cases f<;>simp [uF,hk] at h3
    | some o2=>exact KD h hi f e.on o2 hk h3 (h e.on o2 hk hl)
def fP(st s:aB):Prop:=∀b o,st b=some o→s b=some o
theorem fP.refl(st:aB):fP st st:=fun _ _ h=>h
theorem fP.trans{a b c:aB}(x:fP a b)(y:fP b c):fP a c:=fun q o h=>y q o (x q o h)
def JN(o:Oper):Bool:=match o.op with
 | .alloc _=>true
 | _=>false
theorem aQL{ops:Array Oper}{o:Oper}{φ:AF}{st:aB}{K:AV→aB→Prop}(ho:JN o=true)(e:j6 P ops o φ st K):j6 P ops o φ st (fun r st'=>fP st st'∧K r st'):=by
 obtain⟨dst,op,type,pos,after,guard⟩:=o
 cases op<;>simp only[JN,gE] at ho
 unfold j6 at e ⊢
 split at e
 · simp only[fH] at e ⊢
   split at e
   · intro b hb
     refine⟨fun q o hq=>?_,e b hb⟩
     rw[aB.aM _ _ (by rintro rfl;rw[hb] at hq;cases hq)]
     exact hq
   · cases e
 · exact⟨fP.refl _,e⟩
 · cases e
theorem N8{ops:Array Oper}{S:List Nat}{i:Nat}{oi:Oper}{v:AV}{K:AF→aB→Prop}(hi:ops[i]?=some oi)(hS:S.contains i=true) :
 ∀(f:Nat) (listed:Array Bool) (φ:AF) (st:aB),xC ops listed →
  (∀j oj,ops[j]?=some oj→j≠i→listed.getD j true=false→(∀e∈oj.after,Region.binds .any e=true→e.on≠i)→oi.apart ops oj=true) →
  i∈Region.ready .any ops listed→((∀s,j7 P s ops oi v φ)∨(j7 P st ops oi v φ∧∀j oj,ops[j]?=some oj→listed.getD j true=false→S.contains j=false→∃g,uF ops g j i=true)∨((∀s,fP st s→j7 P s ops oi v φ)∧∀j oj,ops[j]?=some oj→listed.getD j true=false→S.contains j=false→(∃g,uF ops g j i=true)∨JN oj=true)) →
  CC P ops S K f (listed.setIfInBounds i true) (φ.put oi.dst v) st→CC P ops S K (f+1) listed φ st:=by
 intro f
 induction f with
 | zero=>
  intro listed φ st hcl _ hr hy H
  have hy0:j7 P st ops oi v φ:=by
   rcases hy with h | h | h
   · exact h st
   · exact h.1
   · exact h.1 st (fP.refl st)
  refine⟨fun h=>(by rw[h] at hr;cases hr),fun j hj=>?_⟩
  by_cases hji:j=i
  · subst hji;exact⟨oi,hi,.inl ⟨hS,v,hy0,H⟩⟩
  · have:=ready_mono hj hji
    rw[H.1] at this
    cases this
 | succ f ih=>
  intro listed φ st hcl qL hr hy H
  have hy0:j7 P st ops oi v φ:=by
   rcases hy with h | h | h
   · exact h st
   · exact h.1
   · exact h.1 st (fP.refl st)
  refine⟨fun h=>(by rw[h] at hr;cases hr),fun j hj=>?_⟩
  by_cases hji:j=i
  · subst hji;exact⟨oi,hi,.inl ⟨hS,v,hy0,H⟩⟩
  · obtain⟨oj,hoj,h1⟩:=H.2 j (ready_mono hj hji)
    obtain⟨pH,oj',AP,dJ⟩:=mem_ready.1 hj
    have:oj'=oj:=kZ (AP.symm.trans hoj)
    subst this
    have hun:=(mem_ready.1 hr).1
    have tD:∀e∈oj'.after,Region.binds .any e=true→e.on≠i:=fun e he hb heq=>by
     have h1:=dJ e he hb
     rw[heq,getD_both hun] at h1
     cases h1
    obtain⟨a1,a2,a3⟩:=Oper.apart_spec (qL j oj' hoj hji pH tD)
    have uM:∀k ok,ops[k]?=some ok→k≠i→(listed.setIfInBounds j true).getD k true=false →
     (∀e∈ok.after,Region.binds .any e=true→e.on≠i)→oi.apart ops ok=true:=fun k ok hk hki hun hno=>by
     refine qL k ok hk hki ?_ hno
     by_cases hjk:j=k
     · subst hjk;exact pH
     · rw[getD_set_ne true hjk] at hun;exact hun
    have Q4:∀k,(listed.setIfInBounds j true).getD k true=false→listed.getD k true=false:=fun k hk=>by
     by_cases hjk:j=k
     · subst hjk;exact pH
     · rw[getD_set_ne true hjk] at hk;exact hk
    refine⟨oj',hoj,?_⟩
    rcases h1 with ⟨hSj,r,yj,h2⟩ | ⟨hSj,h2⟩
    · refine .inl ⟨hSj,r,(p7 φ v a1).1 yj,ih (listed.setIfInBounds j true) (φ.put oj'.dst r) st (hcl.set hj) uM (ready_mono hr (c7 hji)) ?_ ?_⟩
      · rcases hy with h | h | h
        · exact .inl fun s=>(p7 φ r a3).2 (h s)
        · exact .inr (.inl ⟨(p7 φ r a3).2 h.1,fun k ok hk hl hs=>h.2 k ok hk (Q4 k hl) hs⟩)
        · exact .inr (.inr ⟨fun s hs=>(p7 φ r a3).2 (h.1 s hs),fun k ok hk hl hs=>h.2 k ok hk (Q4 k hl) hs⟩)
      · rw[BX _ _ hji,←put_comm φ v r a2]
        exact h2
    · rcases hy with hf | ⟨_,hd⟩ | ⟨hx,hd⟩
      · refine .inr ⟨hSj,xQ (fun r st' h3=>?_) ((OC φ v a1).1 h2)⟩
        refine ih (listed.setIfInBounds j true) (φ.put oj'.dst r) st' (hcl.set hj) uM (ready_mono hr (c7 hji)) (.inl fun s=>(p7 φ r a3).2 (hf s)) ?_
        rw[BX _ _ hji,←put_comm φ v r a2]
        exact h3
      · obtain⟨g,hg⟩:=hd j oj' hoj pH hSj
        exact absurd dJ (KD hcl (getD_both hun) g j oj' hoj hg)
      · rcases hd j oj' hoj pH hSj with ⟨g,hg⟩ | hal
        · exact absurd dJ (KD hcl (getD_both hun) g j oj' hoj hg)
        · refine .inr ⟨hSj,xQ (fun r st' h3=>?_) (aQL hal ((OC φ v a1).1 h2))⟩
          refine ih (listed.setIfInBounds j true) (φ.put oj'.dst r) st' (hcl.set hj) uM (ready_mono hr (c7 hji)) (.inr (.inr ⟨fun s hs=>(p7 φ r a3).2 (hx s (h3.1.trans hs)),fun k ok hk hl hs=>hd k ok hk (Q4 k hl) hs⟩)) ?_
          rw[BX _ _ hji,←put_comm φ v r a2]
          exact h3.2
def aNK(ops:Array Oper)(S:List Nat)(listed:Array Bool)(i:Nat):Bool:=(List.range ops.size).all fun j=>listed.getD j true||S.contains j||uF ops ops.size j i
def aNJ(ops:Array Oper)(S:List Nat)(listed:Array Bool)(i:Nat):Bool:=(List.range ops.size).all fun j=>listed.getD j true||S.contains j||uF ops ops.size j i||((ops[j]?).map JN).getD false
def aMI(ops:Array Oper)(i:Nat):Bool:=((ops[i]?).map kL).getD false
def tJ(ops:Array Oper)(S:List Nat):List (Nat×Nat)→Array Bool→Bool
 | [],listed=>(Region.ready .any ops listed).isEmpty
 | (i,0)::r,listed=>decide (Region.ready .any ops listed= [i])&& !S.contains i&&tJ ops S r (listed.setIfInBounds i true)
 | (i,1)::r,listed=>(Region.ready .any ops listed).contains i&&Region.free .any ops listed i&&S.contains i&&tJ ops S r (listed.setIfInBounds i true)
 | (i,_)::r,listed=>(Region.ready .any ops listed).contains i&&Region.free .any ops listed i&&S.contains i&&(aNK ops S listed i||(aMI ops i&&aNJ ops S listed i))&&tJ ops S r (listed.setIfInBounds i true)
def CI(P:Program)(ops:Array Oper)(K:AF→aB→Prop):List (Nat×Nat)→AF→aB→Prop
 | [],φ,st=>K φ st
 | (i,0)::r,φ,st=>∃o,ops[i]?=some o∧j6 P ops o φ st (fun v st'=>CI P ops K r (φ.put o.dst v) st')
 | (i,1)::r,φ,st=>∃o,ops[i]?=some o∧∃v,VX P ops o v φ∧CI P ops K r (φ.put o.dst v) st
 | (i,_)::r,φ,st=>∃o,ops[i]?=some o∧∃v,j7 P st ops o v φ∧CI P ops K r (φ.put o.dst v) st
theorem a21{t:TypeId}{ok:Bool}{x i r:AV}{st s:aB}(hs:fP st s)(h:o0 P st t ok x i=some r):o0 P s t ok x i=some r:=by
 unfold o0 at *
 split at h
 · rename_i b n
   cases hb:st b with
   | none=>rw[hb] at h;cases h
   | some o=>rw[hs b o hb,←hb];exact h
 · cases h
theorem a2W{t:TypeId}{x r:AV}{st s:aB}(hs:fP st s)(h:iA P st t x=some r):iA P s t x=some r:=by
 unfold iA at *
 split at h
 · exact h
 · rename_i b o
   cases hb:st b with
   | none=>rw[hb] at h;split at h<;>simp_all
   | some o=>rw[hs b o hb,←hb];exact h
 · cases h
theorem V8{φ:AF}{o:Oper}{r:AV}{st s:aB}(hs:fP st s)(h:lG P φ st o=some r):lG P φ s o=some r:=by
 obtain⟨dst,op,type,pos,after,guard⟩:=o
 cases op
 case makeFunc fn a b=>cases fn<;>exact h
 case call c=>
  obtain⟨callee,args,ats⟩:=c
  cases callee
  case builtin b=>cases b<;>exact h
  all_goals exact h
 case load=>exact a2W hs h
 case lookup=>exact a21 hs h
 all_goals exact h
theorem aQR{ops:Array Oper}{o:Oper}{v:AV}{φ:AF}{st s:aB}(hp:kL o=true)(hs:fP st s)(h:j7 P st ops o v φ):j7 P s ops o v φ:=by
 rcases h with ⟨h1,h2⟩ | h
 · refine .inl ⟨h1,?_⟩
   rw[sR hp] at h2 ⊢
   cases hv:lG P φ st o with
   | none=>rw[hv] at h2;cases h2
   | some r=>
    rw[hv] at h2
    rw[V8 hs hv]
    exact⟨h2.1,rfl⟩
 · exact .inr h
theorem FM{ops:Array Oper}{S:List Nat}{K:AF→aB→Prop}:∀(p:List (Nat×Nat)) (listed:Array Bool) (φ:AF) (st:aB),xC ops listed→tJ ops S p listed=true→CI P ops K p φ st→CC P ops S K p.length listed φ st
 | [],listed,φ,st,_,hB,h=>⟨by simpa [tJ] using hB,h⟩
 | (i,0)::r,listed,φ,st,hcl,hB,h=>by
  simp only[tJ,cB,bO,iV] at hB
  obtain⟨o,ho,h'⟩:=h
  have hr:i∈Region.ready .any ops listed:=by rw[hB.1.1];simp
  refine⟨fun h0=>(by rw[hB.1.1] at h0;cases h0),fun j hj=>?_⟩
  rw[hB.1.1] at hj
  obtain rfl:j=i:=by simpa using hj
  exact⟨o,ho,.inr ⟨hB.1.2,xQ (fun v st' q=>FM r _ _ _ (hcl.set hr) hB.2 q) h'⟩⟩
 | (i,1)::r,listed,φ,st,hcl,hB,h=>by
  simp only[tJ,cB] at hB
  obtain⟨⟨⟨hr,hf⟩,hS⟩,hB'⟩:=hB
  obtain⟨o,ho,v,hv,h'⟩:=h
  have hr':i∈Region.ready .any ops listed:=by simpa using hr
  exact N8 ho hS _ listed φ st hcl (Region.free_spec ho hf) hr' (.inl hv) (FM r _ _ _ (hcl.set hr') hB' h')
 | (i,k+2)::r,listed,φ,st,hcl,hB,h=>by
  simp only[tJ,cB] at hB
  obtain⟨⟨⟨⟨hr,hf⟩,hS⟩,hd⟩,hB'⟩:=hB
  obtain⟨o,ho,v,hv,h'⟩:=h
  have hr':i∈Region.ready .any ops listed:=by simpa using hr
  rw[rE] at hd
  rcases hd with hd | hd
  · refine N8 ho hS _ listed φ st hcl (Region.free_spec ho hf) hr' (.inr (.inl ⟨hv,fun j oj hj hl hs=>⟨ops.size,?_⟩⟩)) (FM r _ _ _ (hcl.set hr') hB' h')
    simp only[aNK,dQ,vC] at hd
    have:=hd j (EY.1 hj).1
    simpa only[hl,hs,pU] using this
  · rw[cB] at hd
    obtain⟨hp,hd⟩:=hd
    simp only[aMI,ho,oZ,B6] at hp
    refine N8 ho hS _ listed φ st hcl (Region.free_spec ho hf) hr' (.inr (.inr ⟨fun s hs=>aQR hp hs hv,fun j oj hj hl hs=>?_⟩)) (FM r _ _ _ (hcl.set hr') hB' h')
    simp only[aNJ,dQ,vC] at hd
    have:=hd j (EY.1 hj).1
    simp only[hl,hs,pU,hj,oZ,B6,rE] at this
    exact this.imp (fun h=>⟨ops.size,h⟩) id
theorem aRE{N:Nat}{id:Nat}{ops:Array Oper}{Q:Exit→AF→aB→Prop}{φ:AF}{st:aB}(p:List (Nat×Nat))(S:List Nat)(hm:P.follows .mixedOrders=true)(hok:qV N ops=true)(hl:p.length=ops.size)(hB:tJ ops S p (Array.replicate ops.size false)=true)
 (h:CI P ops (Q .normal) p φ st):gP P N (.region id ops true) Q φ st:=by
 intro a w R
 refine wp_region_any hm ?_
 have R0:Rel N a { w with drawn:=w.drawn+1 } φ st:=⟨R.size,R.defers,R.frame,R.store⟩
 have:=N7 _ _ _ _ (FM p _ φ st (fun j o _ hl=>(by rw[aJZ] at hl;cases hl)) hB h)
 rw[hl] at this
 exact N6 (A5 hok) (yI hok) (w0:=w) (st0:=st) (fun φ' st' a' w' k R' T s=>⟨φ',st',R',T,s,k⟩) _ _ _ _ _ _ this R0 (b7.refl _ _) ⟨rfl,rfl,rfl⟩
theorem a2Z{t:TypeId}{ok:Bool}{x i r:AV}(h:o0 P eR t ok x i=some r)(st:aB):o0 P st t ok x i=some r:=by
 unfold o0 at *
 split at h
 · simp only[eR] at h;cases h
 · cases h
theorem a2V{t:TypeId}{x r:AV}(h:iA P eR t x=some r)(st:aB):iA P st t x=some r:=by
 unfold iA at *
 split at h
 · exact h
 · split at h
   · rename_i h1;simp only[eR] at h1;cases h1
   · cases h
 · cases h
theorem aQN{φ:AF}{o:Oper}{r:AV}(h:lG P φ eR o=some r)(st:aB):lG P φ st o=some r:=by
 obtain⟨dst,op,type,pos,after,guard⟩:=o
 cases op
 case makeFunc fn a b=>cases fn<;>exact h
 case call c=>
  obtain⟨callee,args,ats⟩:=c
  cases callee
  case builtin b=>cases b<;>exact h
  all_goals exact h
 case load=>exact a2V h st
 case lookup=>exact a2Z h st
 all_goals exact h
def j5(P:Program)(ops:Array Oper)(K:AF→aB→Prop):List (Nat×Nat)→AF→aB→Prop
 | [],φ,st=>K φ st
 | (i,0)::r,φ,st=>match ops[i]? with
  | none=>False
  | some o=>bJ P [] ops [o] (fun φ' st'=>j5 P ops K r φ' st') φ st
 | (i,1)::r,φ,st=>match ops[i]? with
  | none=>False
  | some o=>if kL o=true then bJ P [] ops [o] (fun φ' _=>j5 P ops K r φ' st) φ eR else
   match o.guard,o.op with
   | none,.call { callee:=.value f,args,.. }=>∃v,(∀s,sU P (φ.eval f) (args.toList.map φ.eval) s (fun r' s'=>r'=v∧s'=s))∧j5 P ops K r (φ.put o.dst v) st
   | _,_=>False
 | (i,_)::r,φ,st=>match ops[i]? with
  | none=>False
  | some o=>if kL o=true then bJ P [] ops [o] (fun φ' _=>j5 P ops K r φ' st) φ st else
   match o.guard,o.op with
   | none,.call { callee:=.value f,args,.. }=>∃v,sU P (φ.eval f) (args.toList.map φ.eval) st (fun r' s'=>r'=v∧s'=st)∧j5 P ops K r (φ.put o.dst v) st
   | _,_=>False
theorem vL{ops:Array Oper}{K:AF→aB→Prop}:∀(p:List (Nat×Nat)) (φ:AF) (st:aB),j5 P ops K p φ st→CI P ops K p φ st
 | [],_,_,h=>h
 | (i,0)::r,φ,st,h=>by
  simp only[j5] at h
  split at h
  · exact h.elim
  · rename_i o ho
    refine⟨o,ho,?_⟩
    simp only[bJ] at h
    unfold j6
    split at h
    · rename_i hg
      rw[hg]
      exact CL (fun v s q=>vL r _ _ q) h
    · rename_i hg
      rw[hg]
      exact vL r _ _ h
    · exact h.elim
 | (i,1)::r,φ,st,h=>by
  simp only[j5] at h
  split at h
  · exact h.elim
  · rename_i o ho
    split at h
    · rename_i hp
      simp only[bJ] at h
      split at h
      · rename_i hg
        rw[sR hp] at h
        split at h
        · rename_i v hv
          exact⟨o,ho,v,fun s=>.inl ⟨hg,by rw[sR hp,aQN hv s];exact⟨rfl,rfl⟩⟩,vL r _ _ h⟩
        · exact h.elim
      · rename_i hg
        exact⟨o,ho,.undef,fun s=>.inr ⟨hg,rfl⟩,vL r _ _ h⟩
      · exact h.elim
    · split at h
      · rename_i f args ats hg hop
        obtain⟨v,h1,h2⟩:=h
        refine⟨o,ho,v,fun s=>.inl ⟨by simp only[jJ,hg],?_⟩,vL r _ _ h2⟩
        simp only[fH,hop]
        exact h1 s
      · exact h.elim
 | (i,k+2)::r,φ,st,h=>by
  simp only[j5] at h
  split at h
  · exact h.elim
  · rename_i o ho
    split at h
    · rename_i hp
      simp only[bJ] at h
      split at h
      · rename_i hg
        rw[sR hp] at h
        split at h
        · rename_i v hv
          exact⟨o,ho,v,.inl ⟨hg,by rw[sR hp,hv];exact⟨rfl,rfl⟩⟩,vL r _ _ h⟩
        · exact h.elim
      · rename_i hg
        exact⟨o,ho,.undef,.inr ⟨hg,rfl⟩,vL r _ _ h⟩
      · exact h.elim
    · split at h
      · rename_i f args ats hg hop
        obtain⟨v,h1,h2⟩:=h
        refine⟨o,ho,v,.inl ⟨by simp only[jJ,hg],?_⟩,vL r _ _ h2⟩
        simp only[fH,hop]
        exact h1
      · exact h.elim
end
def SI(P:Program)(ops:Array Oper)(K:AF→aB→Prop)(r:List (Nat×Nat))(φ:AF)(st:aB):Prop:=j5 P ops K r φ st
def HD(P:Program)(ops:Array Oper)(K:AF→aB→Prop)(r:List (Nat×Nat))(st:aB)(φ:AF)(_:aB):Prop:=j5 P ops K r φ st
def A7(P:Program)(ops:Array Oper)(K:AF→aB→Prop)(r:List (Nat×Nat))(φ:AF)(dst:Option Tmp)(st:aB)(v:AV):Prop:=j5 P ops K r (φ.put dst v) st
def F6(P:Program)(f:AV)(args:List AV)(K:AV→Prop):Prop:=∃v,(∀s,sU P f args s (fun r' s'=>r'=v∧s'=s))∧K v
def D5(P:Program)(ops:Array Oper)(K:AF→aB→Prop)(r:List (Nat×Nat))(φ:AF)(st:aB):Nat→Option Oper→Prop
 | 0,some o=>bJ P [] ops [o] (SI P ops K r) φ st
 | 1,some o=>if kL o=true then bJ P [] ops [o] (HD P ops K r st) φ eR else
  match o.guard,o.op with
  | none,.call { callee:=.value f,args,.. }=>F6 P (φ.eval f) (args.toList.map φ.eval) (A7 P ops K r φ o.dst st)
  | _,_=>False
 | _,some o=>if kL o=true then bJ P [] ops [o] (HD P ops K r st) φ st else
  match o.guard,o.op with
  | none,.call { callee:=.value f,args,.. }=>xV P (φ.eval f) (args.toList.map φ.eval) st (A7 P ops K r φ o.dst st)
  | _,_=>False
 | _,none=>False
theorem aFV{P:Program}{ops:Array Oper}{K:AF→aB→Prop}{φ:AF}{st:aB}:j5 P ops K [] φ st=K φ st:=rfl
theorem aFW{P:Program}{l:List Oper}{K:AF→aB→Prop}{φ:AF}{st:aB}{i b:Nat}{r:List (Nat×Nat)}:j5 P l.toArray K ((i,b)::r) φ st=D5 P l.toArray K r φ st b l[i]?:=by
 match b with
 | 0=>simp only[j5,zJ];cases l[i]?<;>rfl
 | 1=>simp only[j5,zJ];cases l[i]?<;>rfl
 | b+2=>simp only[j5,zJ];cases l[i]?<;>rfl
theorem aF0{P:Program}{ops:Array Oper}{K:AF→aB→Prop}{φ:AF}{st:aB}{r:List (Nat×Nat)}{o:Oper}:D5 P ops K r φ st 0 (some o)=bJ P [] ops [o] (SI P ops K r) φ st:=rfl
theorem aF1{P:Program}{ops:Array Oper}{K:AF→aB→Prop}{φ:AF}{st:aB}{r:List (Nat×Nat)}{o:Oper}:D5 P ops K r φ st 1 (some o)=if kL o=true then bJ P [] ops [o] (HD P ops K r st) φ eR else
      match o.guard,o.op with
      | none,.call { callee:=.value f,args,.. }=>F6 P (φ.eval f) (args.toList.map φ.eval) (A7 P ops K r φ o.dst st)
      | _,_=>False:=rfl
theorem aF2{P:Program}{ops:Array Oper}{K:AF→aB→Prop}{φ:AF}{st:aB}{r:List (Nat×Nat)}{o:Oper}:D5 P ops K r φ st 2 (some o)=if kL o=true then bJ P [] ops [o] (HD P ops K r st) φ st else
      match o.guard,o.op with
      | none,.call { callee:=.value f,args,.. }=>xV P (φ.eval f) (args.toList.map φ.eval) st (A7 P ops K r φ o.dst st)
      | _,_=>False:=rfl
theorem aFZ{P:Program}{ops:Array Oper}{K:AF→aB→Prop}{φ:AF}{st:aB}{r:List (Nat×Nat)}:SI P ops K r φ st=j5 P ops K r φ st:=rfl
theorem aFY{P:Program}{ops:Array Oper}{K:AF→aB→Prop}{φ:AF}{st s:aB}{r:List (Nat×Nat)}:HD P ops K r st φ s=j5 P ops K r φ st:=rfl
theorem aFX{P:Program}{ops:Array Oper}{K:AF→aB→Prop}{φ:AF}{st:aB}{r:List (Nat×Nat)}{dst:Option Tmp}{v:AV}:A7 P ops K r φ dst st v=j5 P ops K r (φ.put dst v) st:=rfl
theorem O8{P:Program}{g:FuncId}{args:List AV}{r:AV}{K:AV→Prop}(x:∀st,aD P g args st (fun r' st'=>r'=r∧st'=st))(h:K r):F6 P (.func g []) args K:=⟨r,fun st=>by show aD P g (args++ []) st _;rw[iB];exact x st,h⟩
@[congr] theorem a83 {P:Program} {ops:Array Oper} {K:AF→aB→Prop} {p:List (Nat×Nat)} {φ φ':AF} {st st':aB} (h1:φ=φ') (h2:st=st'):j5 P ops K p φ st=j5 P ops K p φ' st':=by rw[h1,h2]
@[congr] theorem a9H {P:Program} {ops:Array Oper} {K:AF→aB→Prop} {p:List (Nat×Nat)} {φ φ':AF} {st st':aB} {b:Nat} {o o':Option Oper} (h1:φ=φ') (h2:st=st') (h3:o=o'):D5 P ops K p φ st b o=D5 P ops K p φ' st' b o':=by rw[h1,h2,h3]
@[congr] theorem a9G {P:Program} {ops:Array Oper} {K:AF→aB→Prop} {p:List (Nat×Nat)} {φ φ':AF} {dst:Option Tmp} {st st':aB} {v v':AV} (h1:φ=φ') (h2:st=st') (h3:v=v'):A7 P ops K p φ dst st v=A7 P ops K p φ' dst st' v':=by rw[h1,h2,h3]
@[congr] theorem a87 {P:Program} {f f':AV} {args args':List AV} {K:AV→Prop} (h0:f=f') (h1:args=args'):F6 P f args K=F6 P f' args' K:=by rw[h0,h1]
theorem zx5{P:Program}{N:Nat}{id:Nat}{l:List Oper}{Q:Exit→AF→aB→Prop}{φ:AF}{st:aB}(p:List (Nat×Nat))(S:List Nat)(hm:P.follows .mixedOrders=true)(hok:qV N l.toArray=true)(hl:p.length=l.length)(hB:tJ l.toArray S p (Array.replicate l.length false)=true)
 (h:j5 P l.toArray (Q .normal) p φ st):gP P N (.region id l.toArray true) Q φ st:=
 aRE p S hm hok (by simpa using hl) (by simpa using hB) (vL p φ st h)
theorem aQT{P:Program}{t:TypeId}{ag:Bool}{w bytes:Nat}{zs:List AV}{s:aB}{b:Nat}{l xs:List AV}{x:AV}{K:AV→aB→Prop}
 (hI:eI P t=some (ag,w)) (hB:eB P t=some bytes) (hZ:eZ P t=some zs) (hz:zs.length=w) (hx:zT x=some xs) (fF:vO w xs) (hw:∀e∈l,e.width=w) (hb:l≠[]→s b=some (.cells (l.flatMap AV.cells)))
 (h1:(l.length+xs.length)*bytes≤140737488355328) (h2:l.length+xs.length≤9223372036854775807)
 (hK:∀b' s',(l++xs≠[]→s' b'=some (.cells ((l++xs).flatMap AV.cells)))→(l++xs≠[]→b'=b∧l≠[]∨s b'=none)→(∀q,(l++xs≠[]→q≠b')→(l≠[]→q≠b)→s' q=s q)→(l≠[]→b'≠b→s' b=none)→K (bE w b' (l++xs)) s'):kD P t s (bE w b l) x K:=by
 unfold kD
 rw[hI,hB,hZ,hx]
 refine⟨hz,fF,?_⟩
 cases l with
 | nil=>
  show _∧_∧_∧_∧_
  refine⟨by simpa using h1,by simpa using h2,by simp,?_,?_⟩
  · rintro rfl
    have:=hK b s (by simp) (by simp) (fun _ _ _=>rfl) (by simp)
    simpa [bE] using this
  · intro hne b' hb'
    have:=hK b' (s.aC b' (.cells (xs.flatMap AV.cells))) (fun _=>by rw[aB.aO];simp) (fun _=>.inr hb') (fun q h _=>aB.aM _ _ (h (by simpa using hne))) (by simp)
    rw[eL,pA hne] at this
    simpa using this
 | cons y l=>
  have hb:=hb (by simp)
  show w=w∧_∧_∧_
  refine⟨rfl,h1,h2,?_⟩
  have hfl:((y::l).flatMap AV.cells).length=(y::l).length*w:=pE hw
  rw[hb]
  refine⟨by rw[hfl];exact cZ _,?_,?_⟩
  · have:=hK b (s.aC b (.cells ((y::l++xs).flatMap AV.cells))) (fun _=>aB.aO _ _ _) (fun _=>.inl ⟨rfl,by simp⟩) (fun q h _=>aB.aM _ _ (h (by simp))) (fun _ h=>absurd rfl h)
    rw[pA (by simp),zH,dM] at this
    rw[←hfl,dW]
    exact this
  · intro b' hb'
    have hne:b'≠b:=by rintro rfl;rw[hb] at hb';cases hb'
    have:=hK b' ((s.erase b).aC b' (.cells ((y::l++xs).flatMap AV.cells))) (fun _=>aB.aO _ _ _) (fun _=>.inr hb') (fun q h h'=>by
     rw[aB.aM _ _ (h (by simp))]
     simp only[aB.erase,h' (by simp),d5]) (fun _ _=>by rw[aB.aM _ _ (c7 hne)];exact aB.ZM _ _)
    rw[pA (by simp),zH,dM] at this
    rw[←hfl,dW]
    exact this
def vB(es:List AV)(st:aB)(i:Nat)(os:List AV)(bs:List Nat)(b:Nat)(s:aB):Prop:=
 os.length=i∧cP s (es.take i) os bs∧bs.Nodup∧(∀q∈bs,st q=none)∧(os≠[]→st b=none∧b∉bs∧s b=some (.cells (os.flatMap AV.cells)))∧∀q,q∉bs→(os≠[]→q≠b)→s q=st q
theorem vB.start{es:List AV}{st:aB}{b:Nat}:vB es st 0 [] [] b st:=⟨rfl,by simp [cP],oX,by simp,by simp,fun _ _ _=>rfl⟩
theorem RP{b x:Nat}{l:List AV}:x∈vM b l↔x=b∧l≠[]:=by cases l<;>simp [vM]
theorem vB.done{es:List AV}{st:aB}{n w:Nat}{os:List AV}{bs:List Nat}{b:Nat}{s:aB}(h:vB es st n os bs b s)(hl:es.length=n)(hw:∀e∈es,e.width=w):Made st (.slice es) (bE w b os) s:=by
 obtain⟨h1,h2,h3,h4,h5,h6⟩:=h
 rw[lC (by omega)] at h2
 refine⟨vM b os++bs,?_,fun q hq=>?_,?_,fun q hq=>?_⟩
 · rw[tY]
   refine⟨by cases os<;>simp [vM],h3,fun x hx y hy e=>?_⟩
   obtain⟨rfl,hne⟩:=RP.1 hx
   exact(h5 hne).2.1 (e▸hy)
 · rcases fQ.1 hq with hq | hq
   · obtain⟨rfl,hne⟩:=RP.1 hq
     exact(h5 hne).1
   · exact h4 q hq
 · cases os with
   | nil=>
    have:es= []:=by simpa using h2.length.symm
    subst this
    simp only[cP] at h2
    simp only[cO,bE,vM,h2.2]
    exact .inl ⟨trivial,trivial,rfl⟩
   | cons o os=>
    simp only[cO,bE,vM]
    refine .inr ⟨b,bs,o::os,w,by rw[h2.length],rfl,(h5 (by simp)).2.2,h2,hw⟩
 · simp only[fQ,RP,not_or,not_and] at hq
   exact h6 q hq.2 (fun hne e=>hq.1 e hne)
theorem cP.aPX{st:aB}{w:Nat}:∀ {as os:List AV} {bs:List Nat},cP st as os bs→(∀e∈as,e.width=w)→∀o∈os,o.width=w
 | [],os,bs,x,_=>by simp only[cP] at x;rw[x.1];simp
 | a::as,os,bs,x,h=>by
  simp only[cP] at x
  obtain⟨o,os',b1,b2,rfl,rfl,x1,x2⟩:=x
  intro q hq
  rcases c8.1 hq with rfl | hq
  · rw[(cO.shape x1).2.1,h a (by simp)]
  · exact cP.aPX x2 (fun e he=>h e (by simp [he])) q hq
theorem cO.aVZ{st:aB}{e r:AV}{bs:List Nat}{w:Nat}(m3:cO st e r bs)(hwe:e.width=w)(hst:e.cells.all AV.storable=true):r.width=w∧r.cells.length=w∧r.cells.all AV.storable=true:=by
 refine⟨(cO.shape m3).2.1.trans hwe,by rw[vT,(cO.shape m3).2.1,hwe],?_⟩
 cases e<;>simp only[cO] at m3<;>try exact m3.elim
 case int=>rw[m3.1];try rfl
 case bool=>rw[m3.1];try rfl
 case str=>rw[m3.1];try rfl
 case slice=>rcases m3 with ⟨_,rfl,_⟩ | ⟨_,_,_,_,rfl,_⟩<;>rfl
 case agg cs=>
  obtain⟨q,rfl,m3⟩:=m3
  refine(cO.WG m3 fun c hc=>?_).1
  have hst:cs.all AV.storable=true:=hst
  have:=dQ.1 hst c hc
  cases c<;>first | rfl | (simp [AV.storable] at this)
theorem vB.step{es:List AV}{st:aB}{i:Nat}{os:List AV}{bs bx:List Nat}{b x b':Nat}{s s2 s':aB}{o:AO}{e r:AV}(h:vB es st i os bs b s)(hx:s x=none)(he:es[i]?=some e)
 (m1:bx.Nodup) (m2:∀q∈bx,(s.aC x o) q=none) (m3:cO s2 e r bx) (m4:∀q,q∉bx→s2 q=(s.aC x o) q)
 (k1:s' b'=some (.cells ((os++ [r]).flatMap AV.cells))) (k2:b'=b∧os≠[]∨s2 b'=none) (k3:∀q,q≠b'→(os≠[]→q≠b)→s' q=s2 q) (k4:os≠[]→b'≠b→s' b=none) :
 vB es st (i+1) (os++ [r]) (bs++bx) b' (s'.erase x):=by
 obtain⟨h1,h2,h3,h4,h5,h6⟩:=h
 have DO:=cP.iU _ _ _ h2
 have hi:i<es.length:=(gS.1 he).1
 have yD:∀q∈bs,s q≠none:=fun q hq=>by obtain⟨cs,e1,_⟩:=DO.2 q hq;rw[e1];simp
 have a1U:x∉bs:=fun hq=>yD x hq hx
 have hxb:os≠[]→x≠b:=fun hne e=>by have:=(h5 hne).2.2;rw[←e,hx] at this;cases this
 have RA:x∉bx:=fun hq=>by have:=m2 x hq;rw[aB.aO] at this;cases this
 have hbx:∀q∈bx,s q=none:=fun q hq=>by
  have:=m2 q hq
  have hne:q≠x:=fun e=>RA (e▸hq)
  rwa [aB.aM _ _ hne] at this
 have DK:∀q∈bs,q∉bx:=fun q hq hq'=>yD q hq (hbx q hq')
 have aKE:os≠[]→b∉bx:=fun hne hq=>by have:=hbx b hq;rw[(h5 hne).2.2] at this;cases this
 have a1K:s2 x=some o:=by rw[m4 x RA,aB.aO]
 have hs2:∀q,q∉bx→q≠x→s2 q=s q:=fun q h1 h2=>by rw[m4 q h1,aB.aM _ _ h2]
 have QF:b'≠x:=by
  rcases k2 with ⟨rfl,hne⟩ | hn
  · exact c7 (hxb hne)
  · rintro rfl;rw[a1K] at hn;cases hn
 have K5:b'∉bx:=by
  rcases k2 with ⟨rfl,hne⟩ | hn
  · exact aKE hne
  · intro hq
    obtain⟨cs,e1,_⟩:=(cO.iU _ _ _ m3).2.2 b' hq
    rw[e1] at hn;cases hn
 have QE:b'∉bs:=by
  rcases k2 with ⟨rfl,hne⟩ | hn
  · exact(h5 hne).2.1
  · intro hq
    rw[hs2 b' K5 QF] at hn
    exact yD b' hq hn
 have a1L:st b'=none:=by
  rcases k2 with ⟨rfl,hne⟩ | hn
  · exact(h5 hne).1
  · rw[hs2 b' K5 QF] at hn
    by_cases hbb:os≠[]∧b'=b
    · rw[hbb.2];exact(h5 hbb.1).1
    · rw[←h6 b' QE (fun hne e=>hbb ⟨hne,e⟩)];exact hn
 have aZ4:os≠[]→∀q∈bs,q≠b:=fun hne q hq e=>(h5 hne).2.1 (e▸hq)
 have a0U:∀q∈bs,(s'.erase x) q=s q:=fun q hq=>by
  have hqx:q≠x:=fun e=>a1U (e▸hq)
  simp only[aB.erase,hqx,d5]
  rw[k3 q (fun e=>QE (e▸hq)) (fun hne=>aZ4 hne q hq),hs2 q (DK q hq) hqx]
 have a0V:∀q∈bx,(s'.erase x) q=s2 q:=fun q hq=>by
  have hqx:q≠x:=fun e=>RA (e▸hq)
  simp only[aB.erase,hqx,d5]
  exact k3 q (fun e=>K5 (e▸hq)) (fun hne e=>aKE hne (e▸hq))
 refine⟨by simp [h1],?_,tY.2 ⟨h3,m1,fun a ha c hc e=>DK a ha (e▸hc)⟩,fun q hq=>?_,fun _=>⟨a1L,?_,?_⟩,fun q hq hqb=>?_⟩
 · rw[eA,he]
   exact cP.snoc h2 a0U (cO.bB _ _ _ a0V m3)
 · rcases fQ.1 hq with hq | hq
   · exact h4 q hq
   · by_cases hbb:os≠[]∧q=b
     · rw[hbb.2];exact(h5 hbb.1).1
     · by_cases hqs:q∈bs
       · exact h4 q hqs
       · rw[←h6 q hqs (fun hne e=>hbb ⟨hne,e⟩)];exact hbx q hq
 · intro hq
   rcases fQ.1 hq with hq | hq
   · exact QE hq
   · exact K5 hq
 · simp only[aB.erase,QF,d5]
   exact k1
 · simp only[fQ,not_or] at hq
   have aKZ:=hqb (by simp)
   by_cases hqx:q=x
   · subst hqx
     simp only[aB.erase,gB]
     rw[←h6 q hq.1 hxb,hx]
   · simp only[aB.erase,hqx,d5]
     by_cases hbb:os≠[]∧q=b
     · rw[hbb.2,k4 hbb.1 (fun e=>aKZ (hbb.2.trans e.symm)),(h5 hbb.1).1]
     · rw[k3 q aKZ (fun hne e=>hbb ⟨hne,e⟩),hs2 q hq.2 hqx]
       exact h6 q hq.1 (fun hne e=>hbb ⟨hne,e⟩)
theorem aD.done{P:Program}{g:FuncId}{args:List AV}{st:aB}{r:AV}(x:aD P g args st (fun r' st'=>r'.soft=r∧aL st' st)):aD P g args st (fun r' st'=>r'=r∧st'=st):=
 aD.oH (aD.soft x)
theorem aD.mL{P:Program}{g:FuncId}{args:List AV}{st:aB}{Q:AV→aB→Prop}(x:aD P g args st (fun r st'=>∃s2,aL st' s2∧Q r s2)):aD P g args st Q:=
 x.mV fun r _ ⟨s2,D,q⟩=>⟨r,s2,D.tU,D.mV r,q⟩
theorem jC{cs:List AV}:(AV.agg cs).soft=.agg (cs.map AV.soft):=by simp only[AV.soft,yQ]
theorem iT{cs:List AV}:(AV.tup cs).soft=.tup (cs.map AV.soft):=by simp only[AV.soft,yQ]
theorem jN{k:IntKind}{n:Int}:(AV.int k n).soft=.int k n:=rfl
theorem oT{b:Bool}:(AV.bool b).soft=.bool b:=rfl
theorem k8{s:ByteArray}:(AV.str s).soft=.str s:=rfl
theorem nG{es:List AV}:(AV.slice es).soft=.slice es:=rfl
theorem k7{es:List AV}:(AV.fslice es).soft=.slice es:=rfl
def vZ(b:Nat)(l:List AV):List (Nat×AV)→List (Nat×AV)
 | []=>[]
 | p::r=>(p.1,p.2.fin b l)::vZ b l r
theorem aDL{b:Nat}{l:List AV}:vZ b l []= []:=rfl
theorem aDM{b d:Nat}{l:List AV}{v:AV}{r:List (Nat×AV)}:vZ b l ((d,v)::r)=(d,v.fin b l)::vZ b l r:=rfl
theorem aZB{b:Nat}{l:List AV}:AV.junk.fin b l=.junk:=by unfold AV.fin;split<;>rfl
theorem kF{w b:Nat}{l:List AV}:(bE w b l).fin b l=.slice l:=iJ
theorem a2R{st:aB}(b:Nat)(l:List AV)(hb:l≠[]→st b=none)(hj:∀e∈l,e.cE=false)(hE:iI l)(L:List (Nat×AV)):fV (kG L) (a7 st b l) (kG (vZ b l L)) st:=by
 have key:∀L d,kG (vZ b l L) d=(kG L d).fin b l:=by
  intro L
  induction L with
  | nil=>intro d;exact aZB.symm
  | cons p r ih=>
   obtain⟨e,v⟩:=p
   intro d
   show((kG (vZ b l r)).aC e (v.fin b l)) d=(((kG r).aC e v) d).fin b l
   simp only[AF.aC]
   split
   · rfl
   · exact ih d
 intro h tmps S F
 cases l with
 | nil=>exact⟨S,b7.refl _ _,fun d=>by rw[key];exact(F d).soft⟩
 | cons y l=>
  have hst:(a7 st b (y::l)) b=some (.cells ((y::l).flatMap AV.cells)):=aB.aO _ _ _
  have he:(a7 st b (y::l)).erase b=st:=aB.vX st b _ (hb (by simp))
  have L1:fV (kG L) (a7 st b (y::l)) (fun d=>(kG L d).fz b (y::l)) st:=by
   have:=fV.freeze (φ:=kG L) hst hj hE
   rwa [he] at this
  obtain⟨a1,a2,a3⟩:=L1 h tmps S F
  exact⟨a1,a2,fun d=>by rw[key];exact(a3 d).soft⟩
theorem oA{P:Program}{N:Nat}{c:Code}{Q:Exit→AF→aB→Prop}{φ:AF}{st:aB}{α σ:Type}(mt:List Nat)(bB:List Nat)(l:List α)(w d:Nat)(acc:Nat→σ→List AV)(inv:Nat→σ→Prop)(ch:Nat→σ→List (Nat×AV))(so:Nat→σ→aB)
 (hw:∀i s,inv i s→∀e∈acc i s,e.cE=false∧e.width=w)
 (hok:codeOk N c=true)
 (h0:∃s b,inv 0 s∧(acc 0 s≠[]→so 0 s b=none)∧aN φ st (kR φ bB ((d,bE w b (acc 0 s))::ch 0 s)) (a7 (so 0 s) b (acc 0 s)))
 (h1:∀i x s b,l[i]?=some x→i<l.length→((i:Int)<(l.length:Int))→l.drop i=x::l.drop (i+1)→inv i s→(acc i s≠[]→so i s b=none) →
  gH P N mt c (pN (fun φ' st'=>∃s' b',inv (i+1) s'∧(acc (i+1) s'≠[]→so (i+1) s' b'=none)∧aN φ' st' (kR φ bB ((d,bE w b' (acc (i+1) s'))::ch (i+1) s')) (a7 (so (i+1) s') b' (acc (i+1) s'))) Q) (v8 (kR φ bB ((d,bE w b (acc i s))::ch i s))) (a7 (so i s) b (acc i s)))
 (h2:∀s b,¬((l.length:Int)<(l.length:Int))→inv l.length s→gH P N mt c (pN (fun _ _=>False) Q) (v8 (vZ b (acc l.length s) (kR φ bB ((d,bE w b (acc l.length s))::ch l.length s)))) (so l.length s)):gP P N (.loop c) Q φ st:=by
 have mV:∀(k:AF→aB→Prop) (φ0:AF) (st0:aB) (k':AF→aB→Prop),(∀φ' st',k' φ' st'→k φ' st') →
  gP P N c (pN k' Q) φ0 st0→gP P N c (pN k Q) φ0 st0:=by
  intro k φ0 st0 k' hk hr a w R
  refine wp_mono (hr a w R) ?_
  rintro e a' w' ⟨φ',st',R',T,sm,q⟩
  refine⟨φ',st',R',T,sm,?_⟩
  cases e with
  | normal=>exact hk _ _ q
  | _=>exact q
 refine OH (α:=Nat×σ×Nat) (fun p=>p.1≤l.length∧inv p.1 p.2.1∧(acc p.1 p.2.1≠[]→so p.1 p.2.1 p.2.2=none)) (fun p=>kG (kR φ bB ((d,bE w p.2.2 (acc p.1 p.2.1))::ch p.1 p.2.1))) (fun p=>a7 (so p.1 p.2.1) p.2.2 (acc p.1 p.2.1)) (fun p=>l.length - p.1) ?_ ?_
 · obtain⟨s,b,hs,hb,hl⟩:=h0
   exact⟨(0,s,b),⟨jH _,hs,hb⟩,hl⟩
 · rintro⟨i,s,b⟩ ⟨hi,hs,hb⟩
   simp only at hi hs hb ⊢
   rcases lD i l.length with hlt | hge
   · refine mV _ _ _ _ ?_ (FU mt hok (h1 i l[i] s b (eN hlt) hlt (by omega) (rF hlt) hs hb))
     rintro φ' st' ⟨s',b',h1',h2',h3'⟩
     exact⟨(i+1,s',b'),by simp only;omega,⟨by simp only;omega,h1',h2'⟩,h3'⟩
   · obtain rfl:i=l.length:=by omega
     refine gP.less (a2R b (acc l.length s) hb (fun e he=>(hw _ s hs e he).1) ⟨w,fun e he=>(hw _ s hs e he).2⟩ _) ?_
     refine mV _ _ _ _ ?_ (FU mt hok (h2 s b (by omega) hs))
     exact fun _ _ h=>h.elim
section
variable {P:Program}
def PX(ops:Array Oper)(S:List Nat)(j:Nat):Bool:=S.all fun i=>uF ops ops.size j i
def CD(P:Program)(ops:Array Oper)(S:List Nat)(s0:aB)(K:AF→aB→Prop):Nat→Array Bool→AF→aB→Prop
 | 0,listed,φ,st=>Region.ready .any ops listed= []∧K φ st
 | f+1,listed,φ,st=>(Region.ready .any ops listed= []→K φ st)∧∀i∈Region.ready .any ops listed,∃o,ops[i]?=some o ∧
  ((S.contains i=true∧∃r,j7 P st ops o r φ∧CD P ops S s0 K f (listed.setIfInBounds i true) (φ.put o.dst r) st) ∨
   (S.contains i=false∧j6 P ops o φ st (fun r st'=>(PX ops S i=true∨fP s0 st')∧CD P ops S s0 K f (listed.setIfInBounds i true) (φ.put o.dst r) st')))
theorem N9{ops:Array Oper}{S:List Nat}{s0:aB}{K:AF→aB→Prop}:∀(f:Nat) (listed:Array Bool) (φ:AF) (st:aB),CD P ops S s0 K f listed φ st→JF P ops K f listed φ st
 | 0,_,_,_,h=>h
 | f+1,listed,φ,st,h=>by
  refine⟨h.1,fun i hi=>?_⟩
  obtain⟨o,ho,h2⟩:=h.2 i hi
  refine⟨o,ho,?_⟩
  rcases h2 with ⟨_,r,y,k⟩ | ⟨_,k⟩
  · exact WA y (N9 f _ _ _ k)
  · exact xQ (fun r s q=>N9 f _ _ _ q.2) k
theorem aQD{ops:Array Oper}{S:List Nat}{s0:aB}{i:Nat}{oi:Oper}{v:AV}{K:AF→aB→Prop}(hi:ops[i]?=some oi)(hS:S.contains i=true) :
 ∀(f:Nat) (listed:Array Bool) (φ:AF) (st:aB),xC ops listed →
  (∀j oj,ops[j]?=some oj→j≠i→listed.getD j true=false→(∀e∈oj.after,Region.binds .any e=true→e.on≠i)→oi.apart ops oj=true) →
  i∈Region.ready .any ops listed→(∀s,fP s0 s→j7 P s ops oi v φ)→fP s0 st →
  CD P ops S s0 K f (listed.setIfInBounds i true) (φ.put oi.dst v) st→CD P ops S s0 K (f+1) listed φ st:=by
 intro f
 induction f with
 | zero=>
  intro listed φ st hcl _ hr hy hx H
  refine⟨fun h=>(by rw[h] at hr;cases hr),fun j hj=>?_⟩
  by_cases hji:j=i
  · subst hji;exact⟨oi,hi,.inl ⟨hS,v,hy st hx,H⟩⟩
  · have:=ready_mono hj hji
    rw[H.1] at this
    cases this
 | succ f ih=>
  intro listed φ st hcl qL hr hy hx H
  refine⟨fun h=>(by rw[h] at hr;cases hr),fun j hj=>?_⟩
  by_cases hji:j=i
  · subst hji;exact⟨oi,hi,.inl ⟨hS,v,hy st hx,H⟩⟩
  · obtain⟨oj,hoj,h1⟩:=H.2 j (ready_mono hj hji)
    obtain⟨pH,oj',AP,dJ⟩:=mem_ready.1 hj
    have:oj'=oj:=kZ (AP.symm.trans hoj)
    subst this
    have hun:=(mem_ready.1 hr).1
    have tD:∀e∈oj'.after,Region.binds .any e=true→e.on≠i:=fun e he hb heq=>by
     have h1:=dJ e he hb
     rw[heq,getD_both hun] at h1
     cases h1
    obtain⟨a1,a2,a3⟩:=Oper.apart_spec (qL j oj' hoj hji pH tD)
    have uM:∀k ok,ops[k]?=some ok→k≠i→(listed.setIfInBounds j true).getD k true=false →
     (∀e∈ok.after,Region.binds .any e=true→e.on≠i)→oi.apart ops ok=true:=fun k ok hk hki hun hno=>by
     refine qL k ok hk hki ?_ hno
     by_cases hjk:j=k
     · subst hjk;exact pH
     · rw[getD_set_ne true hjk] at hun;exact hun
    refine⟨oj',hoj,?_⟩
    rcases h1 with ⟨hSj,r,yj,h2⟩ | ⟨hSj,h2⟩
    · refine .inl ⟨hSj,r,(p7 φ v a1).1 yj,ih (listed.setIfInBounds j true) (φ.put oj'.dst r) st (hcl.set hj) uM (ready_mono hr (c7 hji)) (fun s hs=>(p7 φ r a3).2 (hy s hs)) hx ?_⟩
      rw[BX _ _ hji,←put_comm φ v r a2]
      exact h2
    · refine .inr ⟨hSj,xQ (fun r st' h3=>?_) ((OC φ v a1).1 h2)⟩
      refine⟨h3.1,?_⟩
      have hx':fP s0 st':=by
       rcases h3.1 with he | he
       · exfalso
         unfold PX at he
         have hd:=dQ.1 he i (by simpa using hS)
         exact KD hcl (getD_both hun) _ j oj' hoj hd dJ
       · exact he
      refine ih (listed.setIfInBounds j true) (φ.put oj'.dst r) st' (hcl.set hj) uM (ready_mono hr (c7 hji)) (fun s hs=>(p7 φ r a3).2 (hy s hs)) hx' ?_
      rw[BX _ _ hji,←put_comm φ v r a2]
      exact h3.2
def tK(ops:Array Oper)(S:List Nat):List (Nat×Nat)→Array Bool→Bool
 | [],listed=>(Region.ready .any ops listed).isEmpty
 | (i,0)::r,listed=>decide (Region.ready .any ops listed= [i])&& !S.contains i&&tK ops S r (listed.setIfInBounds i true)
 | (i,1)::r,listed=>(Region.ready .any ops listed).contains i&&Region.free .any ops listed i&&S.contains i&&tK ops S r (listed.setIfInBounds i true)
 | (i,_)::r,listed=>decide (Region.ready .any ops listed= [i])&& !S.contains i&&PX ops S i&&tK ops S r (listed.setIfInBounds i true)
def CJ(P:Program)(ops:Array Oper)(s0:aB)(K:AF→aB→Prop):List (Nat×Nat)→AF→aB→Prop
 | [],φ,st=>K φ st
 | (i,0)::r,φ,st=>∃o,ops[i]?=some o∧j6 P ops o φ st (fun v st'=>fP s0 st'∧CJ P ops s0 K r (φ.put o.dst v) st')
 | (i,1)::r,φ,st=>∃o,ops[i]?=some o∧∃v,(∀s,fP s0 s→j7 P s ops o v φ)∧CJ P ops s0 K r (φ.put o.dst v) st
 | (i,_)::r,φ,st=>∃o,ops[i]?=some o∧j6 P ops o φ st (fun v st'=>CJ P ops s0 K r (φ.put o.dst v) st')
def DU:List (Nat×Nat)→Bool
 | []=>true
 | (_,0)::r=>DU r
 | (_,1)::r=>DU r
 | (_,_)::r=>r.all fun p=>p.2 != 1
theorem JI{ops:Array Oper}{S:List Nat}{s0:aB}{K:AF→aB→Prop}:∀(p:List (Nat×Nat)) (listed:Array Bool) (φ:AF) (st:aB),xC ops listed→tK ops S p listed=true→(DU p=true∧fP s0 st∨(p.all fun q=>q.2 != 1)=true)→CJ P ops s0 K p φ st→CD P ops S s0 K p.length listed φ st
 | [],listed,φ,st,_,hB,hx,h=>⟨by simpa [tK] using hB,h⟩
 | (i,0)::r,listed,φ,st,hcl,hB,hx,h=>by
  simp only[tK,cB,bO,iV] at hB
  obtain⟨o,ho,h'⟩:=h
  have hr:i∈Region.ready .any ops listed:=by rw[hB.1.1];simp
  refine⟨fun h0=>(by rw[hB.1.1] at h0;cases h0),fun j hj=>?_⟩
  rw[hB.1.1] at hj
  obtain rfl:j=i:=by simpa using hj
  refine⟨o,ho,.inr ⟨hB.1.2,xQ (fun v st' q=>⟨.inr q.1,JI r _ _ _ (hcl.set hr) hB.2 ?_ q.2⟩) h'⟩⟩
  rcases hx with hx | hx
  · exact .inl ⟨hx.1,q.1⟩
  · refine .inr ?_
    simp only[j3,cB] at hx
    exact hx.2
 | (i,1)::r,listed,φ,st,hcl,hB,hx,h=>by
  simp only[tK,cB] at hB
  obtain⟨⟨⟨hr,hf⟩,hS⟩,hB'⟩:=hB
  obtain⟨o,ho,v,hv,h'⟩:=h
  have hr':i∈Region.ready .any ops listed:=by simpa using hr
  rcases hx with hx | hx
  · exact aQD ho hS _ listed φ st hcl (Region.free_spec ho hf) hr' hv hx.2 (JI r _ _ _ (hcl.set hr') hB' (.inl hx) h')
  · simp at hx
 | (i,k+2)::r,listed,φ,st,hcl,hB,hx,h=>by
  simp only[tK,cB,bO,iV] at hB
  obtain⟨o,ho,h'⟩:=h
  have hr:i∈Region.ready .any ops listed:=by rw[hB.1.1.1];simp
  refine⟨fun h0=>(by rw[hB.1.1.1] at h0;cases h0),fun j hj=>?_⟩
  rw[hB.1.1.1] at hj
  obtain rfl:j=i:=by simpa using hj
  refine⟨o,ho,.inr ⟨hB.1.1.2,xQ (fun v st' q=>⟨.inl hB.1.2,JI r _ _ _ (hcl.set hr) hB.2 (.inr ?_) q⟩) h'⟩⟩
  rcases hx with hx | hx
  · exact hx.1
  · simp only[j3,cB] at hx
    exact hx.2
theorem aRF{N:Nat}{id:Nat}{ops:Array Oper}{Q:Exit→AF→aB→Prop}{φ:AF}{st:aB}(p:List (Nat×Nat))(S:List Nat)(s0:aB)(hm:P.follows .mixedOrders=true)(hok:qV N ops=true)(hl:p.length=ops.size)(hB:tK ops S p (Array.replicate ops.size false)=true)(hf:DU p=true)(hs:fP s0 st)
 (h:CJ P ops s0 (Q .normal) p φ st):gP P N (.region id ops true) Q φ st:=by
 intro a w R
 refine wp_region_any hm ?_
 have R0:Rel N a { w with drawn:=w.drawn+1 } φ st:=⟨R.size,R.defers,R.frame,R.store⟩
 have:=N9 _ _ _ _ (JI p _ φ st (fun j o _ hl=>(by rw[aJZ] at hl;cases hl)) hB (.inl ⟨hf,hs⟩) h)
 rw[hl] at this
 exact N6 (A5 hok) (yI hok) (w0:=w) (st0:=st) (fun φ' st' a' w' k R' T s=>⟨φ',st',R',T,s,k⟩) _ _ _ _ _ _ this R0 (b7.refl _ _) ⟨rfl,rfl,rfl⟩
def jQ(P:Program)(ops:Array Oper)(s0:aB)(K:AF→aB→Prop):List (Nat×Nat)→AF→aB→Prop
 | [],φ,st=>K φ st
 | (i,0)::r,φ,st=>match ops[i]? with
  | none=>False
  | some o=>bJ P [] ops [o] (fun φ' st'=>fP s0 st'∧jQ P ops s0 K r φ' st') φ st
 | (i,1)::r,φ,st=>match ops[i]? with
  | none=>False
  | some o=>if kL o=true then bJ P [] ops [o] (fun φ' _=>jQ P ops s0 K r φ' st) φ s0 else
   match o.guard,o.op with
   | none,.call { callee:=.value f,args,.. }=>∃v,(∀s,fP s0 s→sU P (φ.eval f) (args.toList.map φ.eval) s (fun r' s'=>r'=v∧s'=s))∧jQ P ops s0 K r (φ.put o.dst v) st
   | _,_=>False
 | (i,_)::r,φ,st=>match ops[i]? with
  | none=>False
  | some o=>bJ P [] ops [o] (fun φ' st'=>jQ P ops s0 K r φ' st') φ st
theorem xP{ops:Array Oper}{s0:aB}{K:AF→aB→Prop}:∀(p:List (Nat×Nat)) (φ:AF) (st:aB),jQ P ops s0 K p φ st→CJ P ops s0 K p φ st
 | [],_,_,h=>h
 | (i,0)::r,φ,st,h=>by
  simp only[jQ] at h
  split at h
  · exact h.elim
  · rename_i o ho
    refine⟨o,ho,?_⟩
    simp only[bJ] at h
    unfold j6
    split at h
    · rename_i hg
      rw[hg]
      exact CL (fun v s q=>⟨q.1,xP r _ _ q.2⟩) h
    · rename_i hg
      rw[hg]
      exact⟨h.1,xP r _ _ h.2⟩
    · exact h.elim
 | (i,1)::r,φ,st,h=>by
  simp only[jQ] at h
  split at h
  · exact h.elim
  · rename_i o ho
    split at h
    · rename_i hp
      simp only[bJ] at h
      split at h
      · rename_i hg
        rw[sR hp] at h
        split at h
        · rename_i v hv
          refine⟨o,ho,v,fun s hs=>.inl ⟨hg,?_⟩,xP r _ _ h⟩
          rw[sR hp,V8 hs hv]
          exact⟨rfl,rfl⟩
        · exact h.elim
      · rename_i hg
        exact⟨o,ho,.undef,fun s _=>.inr ⟨hg,rfl⟩,xP r _ _ h⟩
      · exact h.elim
    · split at h
      · rename_i f args ats hg hop
        obtain⟨v,h1,h2⟩:=h
        refine⟨o,ho,v,fun s hs=>.inl ⟨by simp only[jJ,hg],?_⟩,xP r _ _ h2⟩
        simp only[fH,hop]
        exact h1 s hs
      · exact h.elim
 | (i,k+2)::r,φ,st,h=>by
  simp only[jQ] at h
  split at h
  · exact h.elim
  · rename_i o ho
    refine⟨o,ho,?_⟩
    simp only[bJ] at h
    unfold j6
    split at h
    · rename_i hg
      rw[hg]
      exact CL (fun v s q=>xP r _ _ q) h
    · rename_i hg
      rw[hg]
      exact xP r _ _ h
    · exact h.elim
end
def SJ(P:Program)(ops:Array Oper)(s0:aB)(K:AF→aB→Prop)(r:List (Nat×Nat))(φ:AF)(st:aB):Prop:=fP s0 st∧jQ P ops s0 K r φ st
def SH(P:Program)(ops:Array Oper)(s0:aB)(K:AF→aB→Prop)(r:List (Nat×Nat))(φ:AF)(st:aB):Prop:=jQ P ops s0 K r φ st
def SG(P:Program)(ops:Array Oper)(s0:aB)(K:AF→aB→Prop)(r:List (Nat×Nat))(st:aB)(φ:AF)(_:aB):Prop:=jQ P ops s0 K r φ st
def SF(P:Program)(ops:Array Oper)(s0:aB)(K:AF→aB→Prop)(r:List (Nat×Nat))(φ:AF)(dst:Option Tmp)(st:aB)(v:AV):Prop:=jQ P ops s0 K r (φ.put dst v) st
def F7(P:Program)(s0:aB)(f:AV)(args:List AV)(K:AV→Prop):Prop:=∃v,(∀s,fP s0 s→sU P f args s (fun r' s'=>r'=v∧s'=s))∧K v
theorem J6{P:Program}{s0:aB}{g:FuncId}{args:List AV}{r:AV}{K:AV→Prop}(x:∀st,fP s0 st→aD P g args st (fun r' st'=>r'=r∧st'=st))(h:K r):F7 P s0 (.func g []) args K:=⟨r,fun st hs=>by show aD P g (args++ []) st _;rw[iB];exact x st hs,h⟩
@[congr] theorem a88 {P:Program} {s0:aB} {f f':AV} {args args':List AV} {K:AV→Prop} (h0:f=f') (h1:args=args'):F7 P s0 f args K=F7 P s0 f' args' K:=by rw[h0,h1]
def D6(P:Program)(ops:Array Oper)(s0:aB)(K:AF→aB→Prop)(r:List (Nat×Nat))(φ:AF)(st:aB):Nat→Option Oper→Prop
 | 0,some o=>bJ P [] ops [o] (SJ P ops s0 K r) φ st
 | 1,some o=>if kL o=true then bJ P [] ops [o] (SG P ops s0 K r st) φ s0 else
  match o.guard,o.op with
  | none,.call { callee:=.value f,args,.. }=>F7 P s0 (φ.eval f) (args.toList.map φ.eval) (SF P ops s0 K r φ o.dst st)
  | _,_=>False
 | _,some o=>bJ P [] ops [o] (SH P ops s0 K r) φ st
 | _,none=>False
theorem aF3{P:Program}{ops:Array Oper}{s0:aB}{K:AF→aB→Prop}{φ:AF}{st:aB}:jQ P ops s0 K [] φ st=K φ st:=rfl
theorem aF4{P:Program}{l:List Oper}{s0:aB}{K:AF→aB→Prop}{φ:AF}{st:aB}{i b:Nat}{r:List (Nat×Nat)}:jQ P l.toArray s0 K ((i,b)::r) φ st=D6 P l.toArray s0 K r φ st b l[i]?:=by
 match b with
 | 0=>simp only[jQ,zJ];cases l[i]?<;>rfl
 | 1=>simp only[jQ,zJ];cases l[i]?<;>rfl
 | b+2=>simp only[jQ,zJ];cases l[i]?<;>rfl
theorem aF9{P:Program}{ops:Array Oper}{s0:aB}{K:AF→aB→Prop}{φ:AF}{st:aB}{r:List (Nat×Nat)}{o:Oper}:D6 P ops s0 K r φ st 0 (some o)=bJ P [] ops [o] (SJ P ops s0 K r) φ st:=rfl
theorem aGA{P:Program}{ops:Array Oper}{s0:aB}{K:AF→aB→Prop}{φ:AF}{st:aB}{r:List (Nat×Nat)}{o:Oper}:D6 P ops s0 K r φ st 1 (some o)=if kL o=true then bJ P [] ops [o] (SG P ops s0 K r st) φ s0 else
      match o.guard,o.op with
      | none,.call { callee:=.value f,args,.. }=>F7 P s0 (φ.eval f) (args.toList.map φ.eval) (SF P ops s0 K r φ o.dst st)
      | _,_=>False:=rfl
theorem aGB{P:Program}{ops:Array Oper}{s0:aB}{K:AF→aB→Prop}{φ:AF}{st:aB}{r:List (Nat×Nat)}{o:Oper}:D6 P ops s0 K r φ st 2 (some o)=bJ P [] ops [o] (SH P ops s0 K r) φ st:=rfl
theorem aF8{P:Program}{ops:Array Oper}{s0:aB}{K:AF→aB→Prop}{φ:AF}{st:aB}{r:List (Nat×Nat)}:SJ P ops s0 K r φ st=(fP s0 st∧jQ P ops s0 K r φ st):=rfl
theorem aF7{P:Program}{ops:Array Oper}{s0:aB}{K:AF→aB→Prop}{φ:AF}{st:aB}{r:List (Nat×Nat)}:SH P ops s0 K r φ st=jQ P ops s0 K r φ st:=rfl
theorem aF6{P:Program}{ops:Array Oper}{s0:aB}{K:AF→aB→Prop}{φ:AF}{st s:aB}{r:List (Nat×Nat)}:SG P ops s0 K r st φ s=jQ P ops s0 K r φ st:=rfl
theorem aF5{P:Program}{ops:Array Oper}{s0:aB}{K:AF→aB→Prop}{φ:AF}{st:aB}{r:List (Nat×Nat)}{dst:Option Tmp}{v:AV}:SF P ops s0 K r φ dst st v=jQ P ops s0 K r (φ.put dst v) st:=rfl
@[congr] theorem a84 {P:Program} {ops:Array Oper} {s0:aB} {K:AF→aB→Prop} {p:List (Nat×Nat)} {φ φ':AF} {st st':aB} (h1:φ=φ') (h2:st=st'):jQ P ops s0 K p φ st=jQ P ops s0 K p φ' st':=by rw[h1,h2]
@[congr] theorem a9I {P:Program} {ops:Array Oper} {s0:aB} {K:AF→aB→Prop} {p:List (Nat×Nat)} {φ φ':AF} {st st':aB} {b:Nat} {o o':Option Oper} (h1:φ=φ') (h2:st=st') (h3:o=o'):D6 P ops s0 K p φ st b o=D6 P ops s0 K p φ' st' b o':=by rw[h1,h2,h3]
theorem w8{P:Program}{N:Nat}{id:Nat}{l:List Oper}{Q:Exit→AF→aB→Prop}{φ:AF}{st:aB}(p:List (Nat×Nat))(S:List Nat)(s0:aB)(hm:P.follows .mixedOrders=true)(hok:qV N l.toArray=true)(hl:p.length=l.length)(hB:tK l.toArray S p (Array.replicate l.length false)=true)(hf:DU p=true)(hs:fP s0 st)
 (h:jQ P l.toArray s0 (Q .normal) p φ st):gP P N (.region id l.toArray true) Q φ st:=
 aRF p S s0 hm hok (by simpa using hl) (by simpa using hB) hf hs (xP p φ st h)
def aMS(K:AV→aB→Prop)(st:aB):Option AV→Option AV→Prop
 | some r,some s=>kW [r,s]=true∧K (.tup [r,s]) st
 | _,_=>False
theorem aGR{P:Program}{φ:AF}{st:aB}{p q:Tmp}{t u:TypeId}{K:AV→aB→Prop}:nE P [.cell p t,.cell q u] K φ st=aMS K st (iA P st t (φ p)) (iA P st u (φ q)):=by
 simp only[nE,p6,CK]
 cases iA P st t (φ p)<;>cases iA P st u (φ q)<;>rfl
theorem aGS{st:aB}{K:AV→aB→Prop}{r s:AV}:aMS K st (some r) (some s)=(kW [r,s]=true∧K (.tup [r,s]) st):=rfl
def one(b:Nat)(o:AO):aB:=eR.aC b o
theorem qT{b:Nat}{o:AO}:one b o b=some o:=aB.aO _ _ _
theorem fY{b:Nat}{o:AO}{st:aB}(h:st b=some o):fP (one b o) st:=fun x p hx=>by
 simp only[one,aB.aC] at hx
 split at hx
 · rename_i e;cases hx;rw[e];exact h
 · cases hx
theorem fN{st:aB}:fP eR st:=fun x p hx=>by cases hx
section
variable {α:Type}
def lV(f:α→α→Bool):List α→List α→Bool
 | [],[]=>true
 | x::xs,y::ys=>f x y&&lV f xs ys
 | _,_=>false
theorem PV(f:α→α→Bool):∀ {a b:List α},a.length≠b.length→lV f a b=false
 | [],[],h=>absurd rfl h
 | [],_::_,_=>rfl
 | _::_,[],_=>rfl
 | x::xs,y::ys,h=>by simp only[lV,PV f (a:=xs) (b:=ys) (by simpa using h),lN]
theorem PT(f:α→α→Bool):∀ {a b:List α} (i:Nat) (x y:α),a[i]?=some x→b[i]?=some y→f x y=false→lV f a b=false
 | [],_,i,x,y,h,_,_=>by simp at h
 | _::_,[],i,x,y,_,h,_=>by simp at h
 | t::ts,t'::ts',0,x,y,h1,h2,h=>by
  simp at h1 h2;subst h1;subst h2
  simp only[lV,h,fB]
 | t::ts,t'::ts',i+1,x,y,h1,h2,h=>by
  simp only[lV,PT f (a:=ts) (b:=ts') i x y (by simpa using h1) (by simpa using h2) h,lN]
theorem PS(f:α→α→Bool):∀ {a b:List α},a.length=b.length→(∀(i:Nat) (x y:α),a[i]?=some x→b[i]?=some y→f x y=true)→lV f a b=true
 | [],[],_,_=>rfl
 | t::ts,t'::ts',h,g=>by
  simp only[lV,cB]
  exact⟨g 0 t t' rfl rfl,PS f (by simpa using h) fun i x y h1 h2=>g (i+1) x y (by simpa using h1) (by simpa using h2)⟩
theorem PU{f:α→α→Bool}:∀ {a b:List α},(∀x∈a,∀y,f x y=true↔x=y)→(lV f a b=true↔a=b)
 | [],[],_=>by simp [lV]
 | [],_::_,_=>by simp [lV]
 | _::_,[],_=>by simp [lV]
 | x::xs,y::ys,h=>by
  simp only[lV,cB,List.cons.injEq,h x (by simp) y,PU (a:=xs) (b:=ys) fun z hz=>h z (by simp [hz])]
def bK(f:α→Nat):List α→Nat
 | []=>0
 | x::xs=>f x+bK f xs
theorem HR(f:α→Nat):∀ {l:List α} {i:Nat} {x:α},l[i]?=some x→bK f (l.take (i+1))=bK f (l.take i)+f x∧bK f (l.take (i+1))≤bK f l
 | [],i,x,h=>by simp at h
 | y::ys,0,x,h=>by simp at h;subst h;simp [bK]
 | y::ys,i+1,x,h=>by
  have:=HR f (l:=ys) (i:=i) (x:=x) (by simpa using h)
  simp only[vD,bK] at this ⊢
  omega
theorem HQ{f:α→Nat}:∀ {l:List α} {x:α},x∈l→f x≤bK f l
 | y::ys,x,h=>by
  simp only[c8] at h
  simp only[bK]
  rcases h with rfl | h
  · omega
  · have:=HQ (f:=f) h;omega
theorem bD{P:Program}{t:TypeId}{ag:Bool}{w:Nat}{av:α→AV}{l:List α}{i:Nat}{x:α}(hI:eI P t=some (ag,w))(h:l[i]?=some x)(hw:(av x).width=w):c9 P t (.slice (l.map av)) (.int .i64 (i:Int))=some (.pptr (av x)):=by
 simp only[c9,hI,kX,mD,h,oZ,hw]
 simp
theorem aXB{av:α→AV}{w:Nat}(hw:∀x,(av x).width=w)(l:List α):iI (l.map av):=⟨w,by intro e h;simp only[cI] at h;obtain⟨t,_,rfl⟩:=h;exact hw t⟩
theorem aLQ(zs:List AV)(hz:zs≠[])(n:Nat):jX zs n=(List.replicate n zs).flatten:=by
 have hl:0<zs.length:=by cases zs with | nil=>exact absurd rfl hz | cons=>simp
 apply I4
 intro i
 unfold jX
 induction n generalizing i with
 | zero=>simp
 | succ n ih=>
  rw[List.replicate_succ,List.flatten_cons]
  rcases lD i zs.length with h | h
  · rw[UY h]
    have:i<(n+1)*zs.length:=by rw[oY];omega
    simp [this,Nat.mod_eq_of_lt h,h]
  · rw[UZ h,←ih]
    have e1:i % zs.length=(i - zs.length) % zs.length:=by rw[Nat.mod_eq_sub_mod h]
    simp only[mD]
    by_cases h2:i - zs.length<n*zs.length
    · have h3:i<(n+1)*zs.length:=by rw[oY];omega
      simp [h2,h3,e1]
    · have h3:¬i<(n+1)*zs.length:=by rw[oY];omega
      simp [h2,h3]
end
theorem BE{zs:List AV}{x:List AV}{w:Nat}(h1:x.length=w)(h2:zs.length=w):aK zs 0 x=x:=by
 unfold aK
 simp [h1,h2]
theorem eE{x:AV}(h:x.isAgg=true):AV.agg x.cells=x:=by cases x<;>simp [AV.isAgg] at h<;>rfl
theorem eJ{x:List AV}{w:Nat}(h:x.length=w):x.take w=x:=by rw[←h];exact dW
inductive Tm where
 | mk (kind n:Int) (name:ByteArray) (kids:List Tm)
mutual
def Tm.av:Tm→AV
 | .mk k n s ts=>.agg [.int .i64 k,.int .i64 n,.str s,.slice (MU ts)]
def MU:List Tm→List AV
 | []=>[]
 | t::ts=>t.av::MU ts
end
theorem aOY:∀(ts:List Tm),MU ts=ts.map Tm.av
 | []=>rfl
 | t::ts=>by simp only[MU,aZ,aOY ts]
theorem aU(k n:Int)(s:ByteArray)(ts:List Tm):(Tm.mk k n s ts).av=.agg [.int .i64 k,.int .i64 n,.str s,.slice (ts.map Tm.av)]:=by simp only[Tm.av,aOY]
mutual
def Tm.same:Tm→Tm→Bool
 | .mk k n s ts,.mk k' n' s' ts'=>decide (k=k')&&decide (n=n')&&decide (s=s')&&M3 ts ts'
def M3:List Tm→List Tm→Bool
 | [],[]=>true
 | t::ts,t'::ts'=>t.same t'&&M3 ts ts'
 | _,_=>false
end
theorem aO5:∀(a b:List Tm),M3 a b=lV Tm.same a b
 | [],[]=>rfl
 | [],_::_=>rfl
 | _::_,[]=>rfl
 | t::ts,t'::ts'=>by simp only[M3,lV,aO5 ts ts']
theorem Tm.SW(k n:Int)(s:ByteArray)(ts:List Tm)(k' n':Int)(s':ByteArray)(ts':List Tm):(Tm.mk k n s ts).same (Tm.mk k' n' s' ts')=(decide (k=k')&&decide (n=n')&&decide (s=s')&&lV Tm.same ts ts'):=by simp only[Tm.same,aO5]
theorem Tm.BD:∀(a b:Tm),a.same b=true↔a=b
 | .mk k n s ts,.mk k' n' s' ts'=>by
  have:=PU (f:=Tm.same) (a:=ts) (b:=ts') fun x hx y=>Tm.BD x y
  simp only[Tm.SW,cB,bO,Tm.mk.injEq,and_assoc,this]
termination_by a=>SizeOf.sizeOf a
decreasing_by have:=List.sizeOf_lt_of_mem hx;simp only[Tm.mk.sizeOf_spec];omega
theorem aT(t:Tm):t.av.isAgg=true:=by cases t;rfl
theorem aH(t:Tm):t.av.width=4:=by cases t;rfl
theorem bR(t:Tm):t.av.cells.length=4:=by cases t;rfl
theorem bT(t:Tm):t.av.cells.all AV.storable=true:=by cases t;rfl
theorem cC(t:Tm):t.av.cE=false:=by cases t;rfl
theorem aIJ{t:Tm}:t.av.isAgg=true:=aT t
theorem aIS{t:Tm}:t.av.width=4:=aH t
theorem aIQ{t:Tm}:t.av.cells.all AV.storable=true:=bT t
theorem aIM{t:Tm}:t.av.cE=false:=cC t
theorem aIN{t:Tm}:t.av.cells.length=4:=bR t
theorem aIR{t:Tm}:t.av.cells.take 4=t.av.cells:=eJ (bR t)
theorem aIK{t:Tm}:AV.agg t.av.cells=t.av:=eE (aT t)
theorem aIO{t:Tm}{a b c d:AV}:aK [a,b,c,d] 0 t.av.cells=t.av.cells:=BE (bR t) rfl
theorem aIP{t u:Tm}:aK u.av.cells 0 t.av.cells=t.av.cells:=BE (bR t) (bR u)
theorem aIB{st:aB}{b:Nat}{o o':AO}:(st.aC b o).aC b o'=st.aC b o':=cY st b o o'
theorem aIA{st:aB}{b:Nat}{o:AO}:(st.aC b o) b=some o:=aB.aO st b o
theorem aH9{st:aB}{b x:Nat}{o:AO}(h:x≠b):(st.aC b o) x=st x:=aB.aM st o h
theorem aIL{t:Tm}:t.av.cells.drop 4= []:=List.drop_of_length_le (by rw[bR];exact cZ _)
inductive Pf where
 | mk (goal:Tm) (clause:Int) (kids:List Pf)
def aLW(k:Nat)(acc:List UInt8):List UInt8:=if k=0 then acc else aLW (k / 10) (UInt8.ofNat (48+k % 10)::acc)
termination_by k
decreasing_by omega
def mt(k:Int):ByteArray:=if k≤0 then⟨#[109,48]⟩ else⟨(109::aLW k.toNat []).toArray⟩
theorem a3Y{st:aB}{k n:Int}{s:ByteArray}{ts:List Tm}{o:AV}{bs:List Nat} :
 cO st (Tm.mk k n s ts).av o bs↔∃q,o=.agg [.int .i64 k,.int .i64 n,.str s,q]∧cO st (.slice (ts.map Tm.av)) q bs:=by
 rw[aU]
 generalize AV.slice (ts.map Tm.av)=x
 simp only[cO,cP]
 constructor
 · rintro⟨os,rfl,o1,os1,b1,b1',rfl,rfl,⟨rfl,rfl⟩,o2,os2,b2,b2',rfl,rfl,⟨rfl,rfl⟩,o3,os3,b3,b3',rfl,rfl,⟨rfl,rfl⟩,o4,os4,b4,b4',rfl,rfl,h,rfl,rfl⟩
   exact⟨o4,rfl,by simpa using h⟩
 · rintro⟨q,rfl,h⟩
   exact⟨_,rfl,_,_,[],bs,rfl,rfl,⟨rfl,rfl⟩,_,_,[],bs,rfl,rfl,⟨rfl,rfl⟩,_,_,[],bs,rfl,rfl,⟨rfl,rfl⟩,q,[],bs,[],rfl,by simp,h,rfl,rfl⟩
abbrev iv (n:Int):AV:=.int .i64 n
theorem aLE(l:List Int):∀e∈l.map iv,e.width=1:=by intro e h;simp only[cI] at h;obtain⟨t,_,rfl⟩:=h;rfl
def bY(s:ByteArray):Nat:=
 cond (decide (s=⟨#[61]⟩)||decide (s=⟨#[92,61]⟩)||decide (s=⟨#[61,61]⟩)||decide (s=⟨#[60]⟩)||decide (s=⟨#[62]⟩)||decide (s=⟨#[61,60]⟩)||decide (s=⟨#[62,61]⟩)||decide (s=⟨#[61,58,61]⟩)||decide (s=⟨#[105,115]⟩)) 3 (cond (decide (s=⟨#[43]⟩)||decide (s=⟨#[45]⟩)) 2 (cond (decide (s=⟨#[42]⟩)||decide (s=⟨#[47,47]⟩)||decide (s=⟨#[109,111,100]⟩)) 1 0))
def isBuiltin(s:ByteArray)(n:Int):Bool:=
 cond (decide (s=⟨#[61]⟩)||decide (s=⟨#[92,61]⟩)||decide (s=⟨#[61,61]⟩)||decide (s=⟨#[60]⟩)||decide (s=⟨#[62]⟩)||decide (s=⟨#[61,60]⟩)||decide (s=⟨#[62,61]⟩)||decide (s=⟨#[61,58,61]⟩)||decide (s=⟨#[105,115]⟩)) (decide (n=2)) (cond (decide (s=⟨#[116,114,117,101]⟩)||decide (s=⟨#[102,97,105,108]⟩)) (decide (n=0)) (cond (decide (s=⟨#[118,97,114]⟩)||decide (s=⟨#[110,111,110,118,97,114]⟩)||decide (s=⟨#[97,116,111,109]⟩)||decide (s=⟨#[105,110,116]⟩)) (decide (n=1)) (cond (decide (s=⟨#[97,114,103]⟩)) (decide (n=3)) false)))
abbrev sb (s:ByteArray):List UInt8:=s.data.toList
theorem cQ(s:ByteArray):(sb s).length=s.size:=by simp only[sb,Array.length_toList];rfl
theorem rZ{P:Program}{t:TypeId}{s:ByteArray}{i:Nat}{c:UInt8}(hu:P.underlying t=some .string)(h:(sb s)[i]?=some c):CF P t (.str s) (.int .i64 (i:Int))=some (.int .u8 (c.toNat:Int)):=by
 have hi:i<s.size:=by rw[←cQ];exact(gS.1 h).1
 have:s[i]?=some c:=by
  rw[getElem?_pos s i hi]
  obtain⟨h1,h2⟩:=gS.1 h
  rw[←h2]
  try rfl
 simp only[CF,hu,kX,this]
 simp
def letter(c:UInt8):Bool:=decide (97≤c.toNat)&&decide (c.toNat≤122)
def r7(s:ByteArray):Bool:=(sb s).all letter&&(decide ((1:Int)≤(s.size:Int))&&decide ((s.size:Int)≤6))
theorem vN{α:Type}{p:α→Bool}{l:List α}{i:Nat}{x:α}(h:l[i]?=some x)(hp:p x=false):l.all p=false:=by
 rw[List.all_eq_false]
 exact⟨x,cD h,by simp [hp]⟩
theorem JL{α:Type}{p:α→Bool}{l:List α}(h:∀(i:Nat) x,l[i]?=some x→p x=true):l.all p=true:=by
 rw[dQ]
 intro x hx
 obtain⟨i,hi⟩:=B3 hx
 exact h i x hi
end Go.AW
