/- Loops whose frame is kept, lists that are walked, lists that grow. -/
import Derived.Test.YtkkihpokegenbaaGreatDoorVae
set_option linter.unusedSimpArgs false
set_option linter.unusedVariables false
set_option maxRecDepth 100000
namespace Go.AW
def jU(φ:AF):List Nat→List (Nat×AV)→List (Nat×AV)
 | [],l=>l
 | d::ds,l=>(d,φ d)::jU φ ds l
theorem aAU{φ:AF}{l:List (Nat×AV)}:jU φ [] l=l:=rfl
theorem aAV{φ:AF}{d:Nat}{ds:List Nat}{l:List (Nat×AV)}:jU φ (d::ds) l=(d,φ d)::jU φ ds l:=rfl
theorem dX{P:Program}{N:Nat}{c:Code}{Q:Exit→AF→aA→Prop}{φ:AF}{st:aA}{α σ:Type}(mt:List Nat)(aY:List Nat)(l:List α)(inv:Nat→σ→Prop)(ch:Nat→σ→List (Nat×AV))(so:Nat→σ→aA)
 (hok:codeOk N c=true)
 (h0:∃s,inv 0 s∧aO φ st (jU φ aY (ch 0 s)) (so 0 s))
 (h1:∀i x s,l[i]?=some x→i<l.length→((i:Int)<(l.length:Int))→l.drop i=x::l.drop (i+1)→inv i s→eW P N mt c (oA (fun φ' st'=>∃s',inv (i+1) s'∧aO φ' st' (jU φ aY (ch (i+1) s')) (so (i+1) s')) Q) (u7 (jU φ aY (ch i s))) (so i s))
 (h2:∀s,¬((l.length:Int)<(l.length:Int))→inv l.length s→eW P N mt c (oA (fun _ _=>False) Q) (u7 (jU φ aY (ch l.length s))) (so l.length s)):eG P N (.loop c) Q φ st:=by
 have mH:∀(k:AF→aA→Prop) (i:Nat) (s:σ),(∀φ' st',(∃s',inv (i+1) s'∧aO φ' st' (jU φ aY (ch (i+1) s')) (so (i+1) s'))→k φ' st') →
  eG P N c (oA (fun φ' st'=>∃s',inv (i+1) s'∧aO φ' st' (jU φ aY (ch (i+1) s')) (so (i+1) s')) Q) (jD (jU φ aY (ch i s))) (so i s) →
  eG P N c (oA k Q) (jD (jU φ aY (ch i s))) (so i s):=by
  intro k i s hk hr a w R
  refine wp_mono (hr a w R) ?_
  rintro e a' w' ⟨φ',st',R',T,sm,q⟩
  refine⟨φ',st',R',T,sm,?_⟩
  cases e with
  | normal=>exact hk _ _ q
  | _=>exact q
 refine MK (α:=Nat×σ) (fun p=>p.1≤l.length∧inv p.1 p.2) (fun p=>jD (jU φ aY (ch p.1 p.2))) (fun p=>so p.1 p.2) (fun p=>l.length - p.1) ?_ ?_
 · obtain⟨s,hs,hl⟩:=h0
   exact⟨(0,s),⟨iI _,hs⟩,hl⟩
 · rintro⟨i,s⟩ ⟨hi,hs⟩
   simp only at hi hs ⊢
   rcases kK i l.length with hlt | hge
   · refine mH _ i s ?_ (nW mt hok (h1 i l[i] s (eL hlt) hlt (by omega) (uA hlt) hs))
     rintro φ' st' ⟨s',h1',h2'⟩
     exact⟨(i+1,s'),by simp only;omega,⟨by simp only;omega,h1'⟩,h2'⟩
   · obtain rfl:i=l.length:=by omega
     intro a w R
     refine wp_mono (nW mt hok (h2 s (by omega) hs) a w R) ?_
     rintro e a' w' ⟨φ',st',R',T,sm,q⟩
     refine⟨φ',st',R',T,sm,?_⟩
     cases e with
     | normal=>exact q.elim
     | _=>exact q
theorem i8{P:Program}{N:Nat}{c:Code}{Q:Exit→AF→aA→Prop}{φ:AF}{st:aA}{σ:Type}(mt:List Nat)(aY:List Nat)(inv:σ→Prop)(ch:σ→List (Nat×AV))(so:σ→aA)(μ:σ→Nat)
 (hok:codeOk N c=true)
 (h0:∃s,inv s∧aO φ st (jU φ aY (ch s)) (so s))
 (h1:∀s,inv s→eW P N mt c (oA (fun φ' st'=>∃s',μ s'<μ s∧inv s'∧aO φ' st' (jU φ aY (ch s')) (so s')) Q) (u7 (jU φ aY (ch s))) (so s)):eG P N (.loop c) Q φ st:=
 v4 mt inv (fun s=>jU φ aY (ch s)) so μ hok h0 h1
theorem aQ{b:Bool}{p q:Prop}(h1:b=true→p)(h2:b=false→q):(b=true→p)∧(b=false→q):=⟨h1,h2⟩
theorem aA0{P:Program}{t:TypeId}{s:ByteArray}:oW P t (.str s)=match P.underlying t with | some .string=>some (.int .i64 s.size) | _=>none:=rfl
theorem aAZ{P:Program}{t:TypeId}{es:List AV}:oW P t (.slice es)=match P.underlying t with | some (.slice _)=>some (.int .i64 es.length) | _=>none:=rfl
theorem aAX{P:Program}{t:TypeId}{es:List AV}:oW P t (.fslice es)=match P.underlying t with | some (.slice _)=>some (.int .i64 es.length) | _=>none:=rfl
theorem YL{P:Program}{t:TypeId}{es:List AV}:ED P t (.fslice es)=match P.underlying t with | some (.slice _)=>some (.int .i64 es.length) | _=>none:=rfl
theorem aAY{P:Program}{t:TypeId}{b o n w:Nat}:oW P t (.mslice b o n w)=match P.underlying t with | some (.slice _)=>some (.int .i64 n) | _=>none:=rfl
def bK(w b:Nat):List AV→AV
 | []=>.fslice []
 | x::l=>.mslice b 0 (x::l).length w
def a9(st:aA)(b:Nat):List AV→aA
 | []=>st
 | x::l=>st.aC b (.cells ((x::l).flatMap AV.cells))
theorem j8{w b:Nat}:bK w b []=.fslice []:=rfl
theorem rQ{st:aA}{b:Nat}:a9 st b []=st:=rfl
theorem rR{w b:Nat}{l:List AV}(h:l≠[]):bK w b l=.mslice b 0 l.length w:=by cases l<;>first | exact absurd rfl h | rfl
theorem l5{st:aA}{b:Nat}{l:List AV}(h:l≠[]):a9 st b l=st.aC b (.cells (l.flatMap AV.cells)):=by cases l<;>first | exact absurd rfl h | rfl
theorem sU{st:aA}{b x:Nat}{l:List AV}(h:x≠b):a9 st b l x=st x:=by cases l<;>first | rfl | exact aA.aJ _ _ h
theorem aMX{st:aA}{b x:Nat}{l:List AV}(h:a9 st b l x=none):st x=none∧(l≠[]→x≠b):=by
 cases l with
 | nil=>exact⟨h,fun h=>absurd rfl h⟩
 | cons y l=>
  simp only[a9,aA.aC] at h
  split at h
  · cases h
  · rename_i hn;exact⟨h,fun _=>hn⟩
theorem l6{w b:Nat}{l:List AV}:(bK w b l).bR=false:=by cases l<;>rfl
theorem sV{w b:Nat}{l:List AV}:(bK w b l).isAgg=false:=by cases l<;>rfl
theorem mU{w b:Nat}{l:List AV}:(bK w b l).cells= [bK w b l]:=by cases l<;>rfl
theorem iJ{w b:Nat}{l:List AV}:(bK w b l).storable=true:=by cases l<;>rfl
theorem EN{P:Program}{t e:TypeId}{w b:Nat}{l:List AV}(h:P.underlying t=some (.slice e)):oW P t (bK w b l)=some (.int .i64 (l.length:Int)):=by
 cases l<;>simp [bK,oW,h]
theorem aL.a9{st st':aA}(x:aL st st'){b:Nat}{l:List AV}(h:l≠[]→st' b=none):aL (a9 st b l) st':=by
 cases l with
 | nil=>exact x
 | cons y l=>exact x.aC (h (by simp))
theorem eY{P:Program}{t:TypeId}{ag:Bool}{w bytes:Nat}{zs:List AV}{st:aA}{b:Nat}{l xs:List AV}{x:AV}{K:AV→aA→Prop}
 (hI:eI P t=some (ag,w)) (hB:eB P t=some bytes) (hZ:eZ P t=some zs) (hz:zs.length=w) (hx:AR x=some xs) (eU:uO w xs) (hw:∀e∈l,e.width=w) (hb:l≠[]→st b=none)
 (h1:(l.length+xs.length)*bytes≤140737488355328) (h2:l.length+xs.length≤9223372036854775807)
 (hK:∀b',(l++xs≠[]→st b'=none)→K (bK w b' (l++xs)) (a9 st b' (l++xs))):iT P t (a9 st b l) (bK w b l) x K:=by
 unfold iT
 rw[hI,hB,hZ,hx]
 refine⟨hz,eU,?_⟩
 cases l with
 | nil=>
  show _∧_∧_∧_∧_
  refine⟨by simpa using h1,by simpa using h2,by simp,?_,?_⟩
  · rintro rfl
    have:=hK b (by simp)
    simpa [bK,a9] using this
  · intro hne b' hb'
    have:=hK b' (fun _=>hb')
    rw[dL,rR hne,l5 hne] at this
    simpa [a9] using this
 | cons y l=>
  have hb:=hb (by simp)
  show w=w∧_∧_∧_
  refine⟨rfl,h1,h2,?_⟩
  have hfl:((y::l).flatMap AV.cells).length=(y::l).length*w:=lQ hw
  simp only[a9,aA.aH]
  refine⟨by rw[hfl];exact cX _,?_,?_⟩
  · have:=hK b (fun _=>hb)
    rw[rR (by simp),l5 (by simp),uB,dO] at this
    rw[dW,←hfl,d6]
    exact this
  · intro b' hb'
    have hne:b'≠b:=by rintro rfl;rw[aA.aH] at hb';cases hb'
    rw[aA.aJ _ _ hne] at hb'
    have:=hK b' (fun _=>hb')
    rw[rR (by simp),l5 (by simp),uB,dO] at this
    rw[aA.yI _ _ _ hb,←hfl,d6]
    exact this
def AV.fin(b:Nat)(l:List AV)(r:AV):AV:=if l.isEmpty=true then r.soft else(r.fz b l).soft
theorem mV{w b:Nat}{l:List AV}:(bK w b l).fin b l=.slice l:=by cases l<;>simp [bK,AV.fin,AV.fz,AV.soft]
theorem zO:∀cs:List AV,fT cs=cs.map AV.soft
 | []=>rfl
 | c::cs=>by simp [fT,zO cs]
theorem yO{b:Nat}{l:List AV}:∀cs:List AV,jE b l cs=cs.map (AV.fz b l)
 | []=>rfl
 | c::cs=>by simp [jE,yO cs]
theorem hY{b:Nat}{l:List AV}{cs:List AV}:(AV.agg cs).fin b l=.agg (cs.map (AV.fin b l)):=by
 unfold AV.fin
 split
 · simp [AV.soft,zO]
 · simp [AV.fz,AV.soft,zO,yO]
theorem gB{b:Nat}{l:List AV}{cs:List AV}:(AV.tup cs).fin b l=.tup (cs.map (AV.fin b l)):=by
 unfold AV.fin
 split
 · simp [AV.soft,zO]
 · simp [AV.fz,AV.soft,zO,yO]
theorem fW{b:Nat}{l:List AV}{k:IntKind}{n:Int}:(AV.int k n).fin b l=.int k n:=by unfold AV.fin;split<;>rfl
theorem pE{b:Nat}{l:List AV}{n:Bool}:(AV.bool n).fin b l=.bool n:=by unfold AV.fin;split<;>rfl
theorem rZ{b:Nat}{l:List AV}{s:ByteArray}:(AV.str s).fin b l=.str s:=by unfold AV.fin;split<;>rfl
theorem kC{b:Nat}{l:List AV}{s:List AV}:(AV.slice s).fin b l=.slice s:=by unfold AV.fin;split<;>rfl
theorem pF{b:Nat}{l:List AV}{s:List AV}:(AV.fslice s).fin b l=.slice s:=by unfold AV.fin;split<;>rfl
theorem aV8{b:Nat}{l:List AV}{e:AV}:(AV.pptr e).fin b l=.pptr e:=by unfold AV.fin;split<;>rfl
theorem aFM{b c o:Nat}{l:List AV}:(AV.ptr c o).fin b l=.ptr c o:=by unfold AV.fin;split<;>rfl
theorem aD.fin{P:Program}{g:FuncId}{args:List AV}{st:aA}{Q:AV→aA→Prop}
 (x:aD P g args st (fun r st'=>∃b l s0,st'=a9 s0 b l∧(l≠[]→s0 b=none)∧(∀e∈l,e.bR=false)∧gW l∧Q (r.fin b l) s0)):aD P g args st Q:=
 x.mH fun r st' ⟨b,l,s0,h1,h0,h2,h3,h4⟩=>by
  cases l with
  | nil=>
   exact⟨r.fin b [],st',(aL.refl _).pY,fun h v S y=>y.soft,by have e:st'=s0:=h1;rw[e];exact h4⟩
  | cons e l=>
   have hb:=h0 (by simp)
   subst h1
   have h1:a9 s0 b (e::l) b=some (.cells ((e::l).flatMap AV.cells)):=by simp only[a9,aA.aH]
   have e1:(a9 s0 b (e::l)).erase b=s0:=by simp only[a9];exact aA.yI _ _ _ hb
   refine⟨r.fin b (e::l),s0,?_,fun h v S y=>?_,h4⟩
   · have:=(hH (a9 s0 b (e::l)) b).pY
     rwa [e1] at this
   · have:=y.fz S h1 h2 h3
     rw[e1] at this
     exact this.soft
mutual
def AV.fZ:AV→Bool
 | .slice _=>false
 | .fslice es=>es.isEmpty
 | .pptr _=>false
 | .agg cs=>kW cs
 | .tup vs=>kW vs
 | .func _ cs=>kW cs
 | _=>true
def kW:List AV→Bool
 | []=>true
 | a::as=>a.fZ&&kW as
end
def AO.fZ:AO→Prop
 | .cells cs=>kW cs=true
 | .map f=>∀n a,f n=some a→a.fZ=true
 | .tab _=>True
section
variable {h:a7} {st st':aA}
mutual
theorem VC.anyS:∀(a:AV) (cs:List Value),a.fZ=true→VC h st a cs→VC h st' a cs
 | .junk,_,_,x=>x
 | .undef,_,_,x=>x
 | .int _ _,_,_,x=>x
 | .bool _,_,_,x=>x
 | .str _,_,_,x=>x
 | .agg as,cs,s,x=>by simp only[VC] at x ⊢;exact aR.anyS as cs (by simpa [AV.fZ] using s) x
 | .tup as,cs,s,x=>by
  simp only[VC] at x ⊢
  obtain⟨vs,e,r⟩:=x
  exact⟨vs,e,c7.anyS as vs (by simpa [AV.fZ] using s) r⟩
 | .slice es,_,s,_=>by simp [AV.fZ] at s
 | .fslice es,cs,s,x=>by
  have he:es= []:=by simpa [AV.fZ] using s
  subst he
  unfold VC at x ⊢
  rcases x with x | ⟨b,off,e,_⟩
  · exact .inl x
  · exact .inl ⟨⟨_,e⟩,rfl⟩
 | .mslice b off len n,_,_,x=>x
 | .nilptr,_,_,x=>x
 | .ptr _ _,_,_,x=>x
 | .pptr e,_,s,_=>by simp [AV.fZ] at s
 | .nilmap,_,_,x=>x
 | .map _,_,_,x=>x
 | .func _ as,cs,s,x=>by
  simp only[VC] at x ⊢
  obtain⟨vs,e,r⟩:=x
  exact⟨vs,e,c7.anyS as vs (by simpa [AV.fZ] using s) r⟩
 | .raw _,_,_,x=>x
 | .eslice,_,_,x=>x
theorem aR.anyS:∀(as:List AV) (cs:List Value),kW as=true→aR h st as cs→aR h st' as cs
 | [],_,_,x=>x
 | a::as,cs,s,x=>by
  simp only[aR] at x ⊢
  simp only[kW,bD] at s
  obtain⟨c,r,e,x1,x2⟩:=x
  exact⟨c,r,e,VC.anyS a [c] s.1 x1,aR.anyS as r s.2 x2⟩
theorem c7.anyS:∀(as:List AV) (cs:List Value),kW as=true→c7 h st as cs→c7 h st' as cs
 | [],_,_,x=>x
 | a::as,cs,s,x=>by
  simp only[c7] at x ⊢
  simp only[kW,bD] at s
  obtain⟨v,r,e,x1,x2⟩:=x
  exact⟨v,r,e,⟨x1.1,VC.anyS a _ s.1 x1.2⟩,c7.anyS as r s.2 x2⟩
end
theorem aM.anyS{a:AV}{v:Value}(s:a.fZ=true)(x:aM h st a v):aM h st' a v:=by
 cases a<;>first | trivial | exact⟨x.1,VC.anyS _ _ s x.2⟩
theorem lA.anyS{b:Nat}:∀ {o:AO},o.fZ→lA h st b o→lA h st' b o
 | .cells as,s,x=>by
  obtain⟨c,t,e,l,vs,x1,x2⟩:=x
  exact⟨c,t,e,l,vs,x1,aR.anyS as vs s x2⟩
 | .map f,s,x=>by
  obtain⟨es,cl,e,x1,x2,x3⟩:=x
  refine⟨es,cl,e,x1,x2,fun n=>?_⟩
  have:=x3 n
  split
  · rename_i a ha
    rw[ha] at this
    obtain⟨e,he,hk,hv⟩:=this
    exact⟨e,he,hk,hv.anyS (s n a ha)⟩
  · rename_i ha
    rw[ha] at this
    exact this
 | .tab cs,_,x=>x
end
def aA.frame(st s0 s1:aA):aA:=fun b=>match s0 b,st b with
 | none,some o=>some o
 | _,_=>s1 b
theorem aD.frame{P:Program}{g:FuncId}{args args':List AV}{st s0:aA}{Q:AV→aA→Prop}(D:aL st s0)
 (x:aD P g args s0 (fun r s1=>(∀b,s0 b=none→s1 b≠none→st b=none)→r.fZ=true∧(∀b o,s1 b=some o→o.fZ)∧Q r (st.frame s0 s1)))
 (hv:∀h vs,cA h st→cO h st args' vs→cO h s0 args vs):aD P g args' st Q:=by
 refine⟨x.1,fun w vs S V=>(x.2 w vs (D.CY S) (hv _ _ S V)).mono ?_⟩
 rintro _ w' ⟨v,r,s1,rfl,hr,S1,T,sm,q⟩
 have hfr:∀b,s0 b=none→s1 b≠none→st b=none:=fun b h0 h1=>by
  cases hb:st b with
  | none=>rfl
  | some o=>exact absurd (T.aY b (S b o hb).1 h0).2 h1
 obtain⟨hs,ho,hq⟩:=q hfr
 have T':bQ w.heap st w'.heap (st.frame s0 s1):=by
  refine⟨T.size,fun b hb e=>?_,T.shape⟩
  obtain⟨k1,k2⟩:=T.aY b hb ((D b).1 e)
  exact⟨k1,by simp only[aA.frame,e,k2];split<;>first | rfl | (rename_i h;cases h)⟩
 refine⟨v,r,st.frame s0 s1,rfl,hr.anyS hs,fun b o hb=>?_,T',sm,hq⟩
 simp only[aA.frame] at hb
 split at hb
 · rename_i o' h0 h1
   cases hb
   obtain⟨l,y⟩:=S b _ h1
   exact⟨uF l T.size,lA.mono T' (T.aY b l h0).1 y⟩
 · obtain⟨l,y⟩:=S1 b o hb
   exact⟨l,y.anyS (ho b o hb)⟩
def eF:aA:=fun _=>none
theorem aL.eF(st:aA):aL st eF:=fun _=>⟨fun _=>rfl,fun _ h=>by cases h⟩
theorem aWG(st:aA):st.frame eF eF=st:=by
 funext b;simp only[aA.frame,eF];split
 · rename_i h;exact h.symm
 · rename_i h;cases hb:st b with
   | none=>rfl
   | some o=>exact absurd hb (h o rfl)
theorem aD.aWF{P:Program}{g:FuncId}{args args':List AV}{st:aA}{r:AV}(hs:r.fZ=true)
 (x:aD P g args eF (fun r' s1=>r'=r∧s1=eF))
 (hv:∀h vs,cA h st→cO h st args' vs→cO h eF args vs):aD P g args' st (fun r' st'=>r'=r∧st'=st):=
 aD.frame (aL.eF st) (x.mono fun r' s1 ⟨e1,e2⟩ _=>⟨by rw[e1];exact hs,(by rw[e2];intro b o h;cases h),e1,by rw[e2,aWG]⟩) hv
mutual
def bX(st:aA):AV→AV→List Nat→Prop
 | .int k n,o,bs=>o=.int k n∧bs= []
 | .bool b,o,bs=>o=.bool b∧bs= []
 | .str s,o,bs=>o=.str s∧bs= []
 | .agg cs,o,bs=>∃os,o=.agg os∧bN st cs os bs
 | .slice es,o,bs=>(es= []∧o=.fslice []∧bs= [])∨∃b bs' os w,o=.mslice b 0 es.length w∧bs=b::bs'∧st b=some (.cells (os.flatMap AV.cells))∧bN st es os bs'∧(∀e∈es,e.width=w)
 | _,_,_=>False
def bN(st:aA):List AV→List AV→List Nat→Prop
 | [],os,bs=>os= []∧bs= []
 | a::as,os,bs=>∃o os' b1 b2,os=o::os'∧bs=b1++b2∧bX st a o b1∧bN st as os' b2
end
theorem bN.length{st:aA}:∀ {as os:List AV} {bs:List Nat},bN st as os bs→os.length=as.length
 | [],os,bs,x=>by simp only[bN] at x;simp [x.1]
 | a::as,os,bs,x=>by
  simp only[bN] at x
  obtain⟨o,os',b1,b2,rfl,rfl,_,x2⟩:=x
  simp [bN.length x2]
theorem bX.shape{st:aA}:∀ {a o:AV} {bs:List Nat},bX st a o bs→o.isAgg=a.isAgg∧o.width=a.width∧o.bR=false∧(∀cs,a=.agg cs→∃os,o=.agg os)
 | .int k n,o,bs,x=>by simp only[bX] at x;rw[x.1];exact⟨rfl,rfl,rfl,by simp⟩
 | .bool b,o,bs,x=>by simp only[bX] at x;rw[x.1];exact⟨rfl,rfl,rfl,by simp⟩
 | .str s,o,bs,x=>by simp only[bX] at x;rw[x.1];exact⟨rfl,rfl,rfl,by simp⟩
 | .agg cs,o,bs,x=>by
  simp only[bX] at x
  obtain⟨os,rfl,x⟩:=x
  exact⟨rfl,x.length,rfl,fun _ _=>⟨os,rfl⟩⟩
 | .slice es,o,bs,x=>by
  simp only[bX] at x
  rcases x with ⟨_,rfl,_⟩ | ⟨b,bs',os,w,rfl,_⟩<;>exact⟨rfl,rfl,rfl,by simp⟩
 | .junk,_,_,x=>x.elim
 | .undef,_,_,x=>x.elim
 | .tup _,_,_,x=>x.elim
 | .fslice _,_,_,x=>x.elim
 | .mslice _ _ _ _,_,_,x=>x.elim
 | .nilptr,_,_,x=>x.elim
 | .ptr _ _,_,_,x=>x.elim
 | .pptr _,_,_,x=>x.elim
 | .nilmap,_,_,x=>x.elim
 | .map _,_,_,x=>x.elim
 | .func _ _,_,_,x=>x.elim
 | .raw _,_,_,x=>x.elim
 | .eslice,_,_,x=>x.elim
section
variable {st st':aA}
mutual
theorem bX.aY:∀(a o:AV) (bs:List Nat),(∀b∈bs,st' b=st b)→bX st a o bs→bX st' a o bs
 | .int k n,o,bs,_,x=>x
 | .bool b,o,bs,_,x=>x
 | .str s,o,bs,_,x=>x
 | .agg cs,o,bs,h,x=>by
  simp only[bX] at x ⊢
  obtain⟨os,e,x⟩:=x
  exact⟨os,e,bN.aY cs os bs h x⟩
 | .slice es,o,bs,h,x=>by
  simp only[bX] at x ⊢
  rcases x with x | ⟨b,bs',os,w,e1,rfl,e2,x,e3⟩
  · exact .inl x
  · exact .inr ⟨b,bs',os,w,e1,rfl,(h b (by simp)).trans e2,bN.aY es os bs' (fun q hq=>h q (by simp [hq])) x,e3⟩
 | .junk,_,_,_,x=>x
 | .undef,_,_,_,x=>x
 | .tup _,_,_,_,x=>x
 | .fslice _,_,_,_,x=>x
 | .mslice _ _ _ _,_,_,_,x=>x
 | .nilptr,_,_,_,x=>x
 | .ptr _ _,_,_,_,x=>x
 | .pptr _,_,_,_,x=>x
 | .nilmap,_,_,_,x=>x
 | .map _,_,_,_,x=>x
 | .func _ _,_,_,_,x=>x
 | .raw _,_,_,_,x=>x
 | .eslice,_,_,_,x=>x
theorem bN.aY:∀(as os:List AV) (bs:List Nat),(∀b∈bs,st' b=st b)→bN st as os bs→bN st' as os bs
 | [],os,bs,_,x=>x
 | a::as,os,bs,h,x=>by
  simp only[bN] at x ⊢
  obtain⟨o,os',b1,b2,e1,rfl,x1,x2⟩:=x
  exact⟨o,os',b1,b2,e1,rfl,bX.aY a o b1 (fun q hq=>h q (by simp [hq])) x1,bN.aY as os' b2 (fun q hq=>h q (by simp [hq])) x2⟩
end
mutual
theorem bX.fZ:∀(a o:AV) (bs:List Nat),bX st a o bs→o.fZ=true∧o.cells.all AV.storable=o.cells.all AV.storable∧∀b∈bs,∃cs,st b=some (.cells cs)∧kW cs=true
 | .int k n,o,bs,x=>by simp only[bX] at x;rw[x.1,x.2];exact⟨rfl,rfl,by simp⟩
 | .bool b,o,bs,x=>by simp only[bX] at x;rw[x.1,x.2];exact⟨rfl,rfl,by simp⟩
 | .str s,o,bs,x=>by simp only[bX] at x;rw[x.1,x.2];exact⟨rfl,rfl,by simp⟩
 | .agg cs,o,bs,x=>by
  simp only[bX] at x
  obtain⟨os,rfl,x⟩:=x
  obtain⟨h1,h2⟩:=bN.fZ cs os bs x
  exact⟨by simpa [AV.fZ] using h1.1,rfl,h2⟩
 | .slice es,o,bs,x=>by
  simp only[bX] at x
  rcases x with ⟨_,rfl,rfl⟩ | ⟨b,bs',os,w,rfl,rfl,e2,x,e3⟩
  · exact⟨rfl,rfl,by simp⟩
  · obtain⟨h1,h2⟩:=bN.fZ es os bs' x
    refine⟨rfl,rfl,fun q hq=>?_⟩
    rcases cL.1 hq with rfl | hq
    · exact⟨_,e2,h1.2⟩
    · exact h2 q hq
 | .junk,_,_,x=>x.elim
 | .undef,_,_,x=>x.elim
 | .tup _,_,_,x=>x.elim
 | .fslice _,_,_,x=>x.elim
 | .mslice _ _ _ _,_,_,x=>x.elim
 | .nilptr,_,_,x=>x.elim
 | .ptr _ _,_,_,x=>x.elim
 | .pptr _,_,_,x=>x.elim
 | .nilmap,_,_,x=>x.elim
 | .map _,_,_,x=>x.elim
 | .func _ _,_,_,x=>x.elim
 | .raw _,_,_,x=>x.elim
 | .eslice,_,_,x=>x.elim
theorem bN.fZ:∀(as os:List AV) (bs:List Nat),bN st as os bs→(kW os=true∧kW (os.flatMap AV.cells)=true)∧∀b∈bs,∃cs,st b=some (.cells cs)∧kW cs=true
 | [],os,bs,x=>by simp only[bN] at x;rw[x.1,x.2];exact⟨⟨rfl,rfl⟩,by simp⟩
 | a::as,os,bs,x=>by
  simp only[bN] at x
  obtain⟨o,os',b1,b2,rfl,rfl,x1,x2⟩:=x
  obtain⟨h1,_,h2⟩:=bX.fZ a o b1 x1
  obtain⟨⟨h3,h4⟩,h5⟩:=bN.fZ as os' b2 x2
  have IZ:∀(p q:List AV),kW p=true→kW q=true→kW (p++q)=true:=by
   intro p q hp hq
   induction p with
   | nil=>exact hq
   | cons c p ih=>simp only[kW,bD,fU] at hp ⊢;exact⟨hp.1,ih hp.2⟩
  have hc:kW o.cells=true:=by cases o<;>first | (simpa [AV.cells,kW] using h1) | (simpa [AV.cells,AV.fZ] using h1)
  refine⟨⟨by simp [kW,h1,h3],by rw[AE];exact IZ _ _ hc h4⟩,fun q hq=>?_⟩
  rcases fG.1 hq with hq | hq
  · exact h2 q hq
  · exact h5 q hq
end
end
section
variable {h:a7} {st s0:aA}
mutual
theorem bX.view(S:cA h st)(D:aL st s0):∀(a o:AV) (bs:List Nat) (cs:List Value),bX st a o bs→(∀b∈bs,s0 b=none)→VC h st o cs→VC h s0 a cs
 | .int k n,o,bs,cs,x,_,y=>by simp only[bX] at x;rw[x.1] at y;exact y
 | .bool b,o,bs,cs,x,_,y=>by simp only[bX] at x;rw[x.1] at y;exact y
 | .str s,o,bs,cs,x,_,y=>by simp only[bX] at x;rw[x.1] at y;exact y
 | .agg as,o,bs,cs,x,hb,y=>by
  simp only[bX] at x
  obtain⟨os,rfl,x⟩:=x
  simp only[VC] at y ⊢
  exact bN.aLL S D as os bs cs x hb y
 | .slice es,o,bs,cs,x,hb,y=>by
  simp only[bX] at x
  rcases x with ⟨rfl,rfl,rfl⟩ | ⟨b,bs',os,w,rfl,rfl,e2,x,e3⟩
  · unfold VC at y ⊢
    rcases y with y | ⟨b,off,e,_⟩
    · exact .inl y
    · exact .inl ⟨⟨_,e⟩,rfl⟩
  · simp only[VC] at y
    obtain⟨cap,e,l1,l2,_⟩:=y
    obtain⟨hlt,c,t,q1,q2,vs,q3,q4⟩:=S b _ e2
    have hsh:=bN.CW x
    unfold VC
    refine .inr ⟨b,0,cap,e,l1,l2,hb b (by simp),hlt,⟨w,e3⟩,bN.DR S D b es os bs' 0 x (fun q hq=>hb q (by simp [hq])) (AM (fun q hq=>hsh q hq) q3 q4)⟩
 | .junk,_,_,_,x,_,_=>x.elim
 | .undef,_,_,_,x,_,_=>x.elim
 | .tup _,_,_,_,x,_,_=>x.elim
 | .fslice _,_,_,_,x,_,_=>x.elim
 | .mslice _ _ _ _,_,_,_,x,_,_=>x.elim
 | .nilptr,_,_,_,x,_,_=>x.elim
 | .ptr _ _,_,_,_,x,_,_=>x.elim
 | .pptr _,_,_,_,x,_,_=>x.elim
 | .nilmap,_,_,_,x,_,_=>x.elim
 | .map _,_,_,_,x,_,_=>x.elim
 | .func _ _,_,_,_,x,_,_=>x.elim
 | .raw _,_,_,_,x,_,_=>x.elim
 | .eslice,_,_,_,x,_,_=>x.elim
theorem bN.aLL(S:cA h st)(D:aL st s0):∀(as os:List AV) (bs:List Nat) (cs:List Value),bN st as os bs→(∀b∈bs,s0 b=none)→aR h st os cs→aR h s0 as cs
 | [],os,bs,cs,x,_,y=>by simp only[bN] at x;rw[x.1] at y;exact y
 | a::as,os,bs,cs,x,hb,y=>by
  simp only[bN] at x
  obtain⟨o,os',b1,b2,rfl,rfl,x1,x2⟩:=x
  simp only[aR] at y ⊢
  obtain⟨c,r,e,y1,y2⟩:=y
  exact⟨c,r,e,bX.view S D a o b1 [c] x1 (fun q hq=>hb q (by simp [hq])) y1,bN.aLL S D as os' b2 r x2 (fun q hq=>hb q (by simp [hq])) y2⟩
theorem bN.DR(S:cA h st)(D:aL st s0)(b:Nat):∀(as os:List AV) (bs:List Nat) (off:Nat),bN st as os bs→(∀b∈bs,s0 b=none)→cS h st b off os→cS h s0 b off as
 | [],os,bs,off,x,_,y=>by simp only[cS]
 | a::as,os,bs,off,x,hb,y=>by
  simp only[bN] at x
  obtain⟨o,os',b1,b2,rfl,rfl,x1,x2⟩:=x
  simp only[cS] at y ⊢
  obtain⟨⟨cs,y1,y2,y3⟩,y4⟩:=y
  have hw:=(bX.shape x1).2.1
  rw[hw] at y2 y4
  exact⟨⟨cs,y1,y2,bX.view S D a o b1 cs x1 (fun q hq=>hb q (by simp [hq])) y3⟩,bN.DR S D b as os' b2 _ x2 (fun q hq=>hb q (by simp [hq])) y4⟩
theorem bN.CW:∀ {as os:List AV} {bs:List Nat},bN st as os bs→∀o∈os,o.bR=false
 | [],os,bs,x=>by simp only[bN] at x;rw[x.1];simp
 | a::as,os,bs,x=>by
  simp only[bN] at x
  obtain⟨o,os',b1,b2,rfl,rfl,x1,x2⟩:=x
  intro q hq
  rcases cL.1 hq with rfl | hq
  · exact(bX.shape x1).2.2.1
  · exact bN.CW x2 q hq
end
theorem bX.DS(S:cA h st)(D:aL st s0){a o:AV}{bs:List Nat}{v:Value}(x:bX st a o bs)(hb:∀b∈bs,s0 b=none)(y:aM h st o v):aM h s0 a v:=by
 have hs:=x.shape
 have key:o.isAgg=jY v∧VC h st o v.cells.toList:=by
  cases o<;>first | exact y | simp [AV.bR] at hs
 have z:a.isAgg=jY v∧VC h s0 a v.cells.toList:=⟨hs.1.symm.trans key.1,bX.view S D _ _ _ _ x hb key.2⟩
 cases ha:a<;>rw[ha] at z<;>first | trivial | exact z
end
def Made(st:aA)(a r:AV)(st':aA):Prop:=∃bs:List Nat,bs.Nodup∧(∀b∈bs,st b=none)∧bX st' a r bs∧∀b,b∉bs→st' b=st b
theorem aD.made{P:Program}{g:FuncId}{args:List AV}{st:aA}{a:AV}(x:aD P g args st (Made st a)):aD P g args st (fun r st'=>r=a∧st'=st):=
 x.mH fun r st' ⟨bs,_,h2,h3,h4⟩=>by
  have D:aL st' st:=fun b=>⟨fun e=>by
   by_cases hb:b∈bs
   · exact h2 b hb
   · rw[←h4 b hb];exact e,fun o e=>by
   by_cases hb:b∈bs
   · rw[h2 b hb] at e;cases e
   · rw[h4 b hb];exact e⟩
  exact⟨a,st,D.pY,fun h v S y=>h3.DS S D h2 y,rfl,rfl⟩
theorem aIV{A C B x:List AV}{n j:Nat}(hA:A.length=n)(hj:j+x.length≤C.length):aG (A++C++B) (n+j) x=A++aG C j x++B:=by
 subst hA
 unfold aG
 have h1:(A++C++B).take (A.length+j)=A++C.take j:=by
  rw[p9,List.take_length_add_append,HC (by omega)]
 have h2:(A++C++B).drop (A.length+j+x.length)=C.drop (j+x.length)++B:=by
  rw[p9,AI,List.drop_length_add_append,List.drop_append_of_le_length (by omega)]
 rw[h1,h2]
 simp
theorem aY9{A B:List AV}{n:Nat}(hA:A.length=n):(∀(C:List AV) (v:AV) (j:Nat),j<C.length→aG (A++C++B) (n+j) [v]=A++C.set j v++B)∧(∀(C:List AV) (c:Nat),c<C.length→n+c+1≤(A++C++B).length) ∧
 (∀(C:List AV) (c:Nat),c<C.length→(A++C++B)[n+c]?=C[c]?)∧(∀(C:List AV) (v:AV),0<C.length→aG (A++C++B) n [v]=A++C.set 0 v++B)∧(∀(C:List AV),0<C.length→n+1≤(A++C++B).length) ∧
 ∀(C:List AV),0<C.length→(A++C++B)[n]?=C[0]?:=by
 have k1:(∀(C:List AV) (v:AV) (j:Nat),j<C.length→aG (A++C++B) (n+j) [v]=A++C.set j v++B)∧(∀(C:List AV) (c:Nat),c<C.length→n+c+1≤(A++C++B).length)∧∀(C:List AV) (c:Nat),c<C.length→(A++C++B)[n+c]?=C[c]?:=?_
 · exact⟨k1.1,k1.2.1,k1.2.2,fun C v h=>k1.1 C v 0 h,fun C h=>k1.2.1 C 0 h,fun C h=>k1.2.2 C 0 h⟩
 refine⟨fun C v j h=>?_,fun C c h=>?_,fun C c h=>?_⟩
 · rw[aIV hA (by simp;omega),HB,aN h]
   unfold aG
   simp
 · simp only[dO];omega
 · subst hA
   rw[p9,LQ (by omega),Nat.add_sub_cancel_left,RH h]
theorem PF{A B C x:List AV}{n w:Nat}(hA:A.length=n)(hC:C.length=w)(hx:x.length=w):aG (A++C++B) n x=A++x++B∧n+w≤(A++C++B).length:=by
 have h:=aIV (A:=A) (C:=C) (B:=B) (x:=x) (n:=n) (j:=0) hA (by omega)
 rw[D0] at h
 refine⟨?_,by simp only[dO];omega⟩
 rw[h]
 unfold aG
 simp [hC,hx]
theorem B3{P:Program}{t:TypeId}{ag:Bool}{b len w i:Nat}(hI:eI P t=some (ag,w))(hi:i<len):dT P t (.mslice b 0 len w) (.int .i64 (i:Int))=some (.ptr b (i*w)):=by
 simp only[dT,hI,gI,j7]
 rw[aN ⟨by omega,by omega,trivial⟩]
theorem bX.SN{st:aA}:∀ {cs os:List AV} {bs:List Nat},bN st cs os bs→(∀c∈cs,c.isAgg=false)→os.all AV.storable=true∧os.flatMap AV.cells=os
 | [],os,bs,x,_=>by simp only[bN] at x;rw[x.1];simp
 | a::as,os,bs,x,h=>by
  simp only[bN] at x
  obtain⟨o,os',b1,b2,rfl,rfl,x1,x2⟩:=x
  have ih:=bX.SN x2 (fun c hc=>h c (by simp [hc]))
  have ha:=h a (by simp)
  have ho:o.storable=true∧o.cells= [o]:=by
   cases a<;>simp only[bX] at x1<;>try exact x1.elim
   case int=>rw[x1.1];exact⟨rfl,rfl⟩
   case bool=>rw[x1.1];exact⟨rfl,rfl⟩
   case str=>rw[x1.1];exact⟨rfl,rfl⟩
   case agg=>simp [AV.isAgg] at ha
   case slice=>rcases x1 with ⟨_,rfl,_⟩ | ⟨b,bs',os,w,rfl,_⟩<;>exact⟨rfl,rfl⟩
  rw[iS,ho.1,ih.1,AE,ih.2,ho.2]
  exact⟨rfl,rfl⟩
theorem bN.snoc{st st':aA}{a o:AV}{b2:List Nat}:∀ {as os:List AV} {b1:List Nat},bN st as os b1→(∀b∈b1,st' b=st b)→bX st' a o b2→bN st' (as++ [a]) (os++ [o]) (b1++b2)
 | [],os,b1,x,_,y=>by
  simp only[bN] at x
  rw[x.1,x.2]
  simp only[dL,bN]
  exact⟨o,[],b2,[],rfl,by simp,y,rfl,rfl⟩
 | c::as,os,b1,x,h,y=>by
  simp only[bN] at x
  obtain⟨o1,os',b3,b4,rfl,rfl,x1,x2⟩:=x
  simp only[fU,bN]
  exact⟨o1,os'++ [o],b3,b4++b2,rfl,by simp,bX.aY _ _ _ (fun q hq=>h q (by simp [hq])) x1,bN.snoc x2 (fun q hq=>h q (by simp [hq])) y⟩
def RK(st:aA)(ds:List Nat)(a r:AV)(st':aA):Prop:=∃bs:List Nat,bs.Nodup∧(∀b∈bs,st b=none)∧(∀d∈ds,st d=none∧d∉bs)∧bX st' a r bs∧∀b,b∉bs→b∉ds→st' b=st b
theorem aD.O1{P:Program}{g:FuncId}{args:List AV}{st:aA}{a:AV}(x:aD P g args st (fun r st'=>∃ds,RK st ds a r st')):aD P g args st (Made st a):=
 x.mH fun r st' ⟨ds,bs,h1,h2,hd,h3,h4⟩=>by
  refine⟨r,fun q=>if q∈ds then none else st' q,?_,?_,bs,h1,h2,?_,fun b hb=>?_⟩
  · have D:aL st' (fun q=>if q∈ds then none else st' q):=fun q=>by
     by_cases hq:q∈ds
     · simp only[hq,eN];exact⟨fun _=>trivial,fun o h=>by cases h⟩
     · simp only[hq,dA];exact⟨id,fun o h=>h⟩
    exact D.pY
  · have D:aL st' (fun q=>if q∈ds then none else st' q):=fun q=>by
     by_cases hq:q∈ds
     · simp only[hq,eN];exact⟨fun _=>trivial,fun o h=>by cases h⟩
     · simp only[hq,dA];exact⟨id,fun o h=>h⟩
    exact D.mH r
  · exact bX.aY _ _ _ (fun q hq=>aK fun h=>(hd q h).2 hq) h3
  · by_cases hq:b∈ds
    · simp only[hq,eN];exact(hd b hq).1.symm
    · simp only[hq,dA];exact h4 b hb hq
def nV(b:Nat):List AV→List Nat
 | []=>[]
 | _::_=>[b]
theorem aH4{s:aA}{b w:Nat}{es os:List AV}{bs:List Nat}(x:bN (a9 s b os) es os bs)(hw:∀e∈es,e.width=w):bX (a9 s b os) (.slice es) (bK w b os) (nV b os++bs):=by
 have hl:=x.length
 cases os with
 | nil=>
  have:es= []:=oQ (by simpa using hl.symm)
  subst this
  simp only[bN] at x
  simp only[bX,bK,nV,x.2]
  exact .inl ⟨trivial,trivial,rfl⟩
 | cons o os=>
  simp only[bX,bK,nV]
  refine .inr ⟨b,bs,o::os,w,by rw[hl],rfl,?_,x,hw⟩
  simp only[a9,aA.aH]
def AV.flat:AV→Bool
 | .int _ _ | .bool _ | .str _=>true
 | _=>false
theorem bN.flat{s:aA}:∀ {es:List AV},es.all AV.flat=true→bN s es es []
 | [],_=>⟨rfl,rfl⟩
 | e::es,h=>by
  simp only[iS,bD] at h
  simp only[bN]
  refine⟨e,es,[],[],rfl,rfl,?_,bN.flat h.2⟩
  cases e<;>simp [AV.flat] at h<;>simp [bX]
theorem aD.jT{P:Program}{g:FuncId}{args:List AV}{st:aA}{r:AV}(x:aD P g args st (fun r' st'=>r'=r∧aL st' st)):aD P g args st (fun r' st'=>r'=r∧st'=st):=
 (x.mono fun _ _ h=>⟨h.2,h.1⟩).drop
theorem aMI{P:Program}{t:TypeId}{st:aA}{s x:AV}{K K':AV→aA→Prop}(h:∀r s,K r s→K' r s)(e:iT P t st s x K):iT P t st s x K':=by
 unfold iT at *
 split at e
 case h_2=>exact e.elim
 refine⟨e.1,e.2.1,?_⟩
 have e:=e.2.2
 split at e
 · exact⟨e.1,e.2.1,e.2.2.1,fun q=>h _ _ (e.2.2.2.1 q),fun q b hb=>h _ _ (e.2.2.2.2 q b hb)⟩
 · refine⟨e.1,e.2.1,e.2.2.1,?_⟩
   have e:=e.2.2.2
   split at e
   · exact⟨e.1,h _ _ e.2.1,fun b hb=>h _ _ (e.2.2 b hb)⟩
   · exact e.elim
 · exact e.elim
theorem aMH{P:Program}{t t':TypeId}{st:aA}{s x:AV}{K K':AV→aA→Prop}(h:∀r s,K r s→K' r s)(e:sR P t t' st s x K):sR P t t' st s x K':=by
 rcases e with ⟨tx,hx,e⟩ | e
 · refine .inl ⟨tx,hx,?_⟩
   unfold EB at *
   split at e
   case h_2=>exact e.elim
   obtain⟨e1,e2,e3,e4,e5,e6,e7,e8⟩:=e
   exact⟨e1,e2,e3,e4,e5,e6,fun q=>h _ _ (e7 q),fun q b hb=>h _ _ (e8 q b hb)⟩
 refine .inr ?_
 unfold EC at *
 split at e
 case h_2=>exact e.elim
 refine⟨e.1,e.2.1,e.2.2.1,e.2.2.2.1,?_⟩
 have e:=e.2.2.2.2
 split at e
 · exact⟨e.1,e.2.1,e.2.2.1,fun q=>h _ _ (e.2.2.2.1 q),fun q b hb=>h _ _ (e.2.2.2.2 q b hb)⟩
 · refine⟨e.1,e.2.1,e.2.2.1,?_⟩
   have e:=e.2.2.2
   split at e
   · exact⟨e.1,h _ _ e.2.1,fun b hb=>h _ _ (e.2.2 b hb)⟩
   · exact e.elim
 · exact e.elim
theorem x8{P:Program}{mt:List Nat}{φ:AF}{st:aA}{o:Oper}{K K':AV→aA→Prop}(h:∀r s,K r s→K' r s)(e:eE P mt φ st o K):eE P mt φ st o K':=by
 unfold eE at *
 split at e
 · split at e
   · exact e.mono h
   · exact e.elim
 · split at e
   · split at e
     · rename_i ht;rw[aN ht];exact aMI h e
     · rename_i ht;rw[aK ht];exact aMH h e
   · exact e.elim
 · split at e
   · unfold EF at *
     split at e
     · split at e
       · exact h _ _ e
       · exact e.elim
     · exact e.elim
   · exact e.elim
 · split at e
   · unfold EE at *
     split at e
     · obtain⟨e1,e2,e3,e4,e5⟩:=e
       refine⟨e1,e2,e3,e4,?_⟩
       split at e5
       · exact⟨e5.1,h _ _ e5.2⟩
       · exact e5.elim
     · exact h _ _ e
     · exact e.elim
   · exact e.elim
 · split at e
   · rename_i hm
     rw[aN hm]
     exact⟨e.1,fun b hb=>h _ _ (e.2 b hb)⟩
   · rename_i hm
     rw[aK hm]
     split at e
     · exact h _ _ e
     · exact e.elim
 · split at e
   · exact fun b hb=>h _ _ (e b hb)
   · exact e.elim
 · split at e
   · split at e
     · exact⟨e.1,e.2.1,e.2.2.1,h _ _ e.2.2.2⟩
     · exact e.elim
   · exact e.elim
 · exact fun b hb=>h _ _ (e b hb)
 · unfold uM at *
   split at e
   · exact⟨e.1,e.2.1,e.2.2.1,e.2.2.2.1,e.2.2.2.2.1,e.2.2.2.2.2.1,fun b hb=>h _ _ (e.2.2.2.2.2.2 b hb)⟩
   · exact e.elim
 · unfold EG at *
   split at e
   · split at e
     · exact⟨e.1,h _ _ e.2⟩
     · exact e.elim
   · exact e.elim
 · split at e
   · exact h _ _ e
   · exact e.elim
def gY(P:Program)(ops:Array Oper)(o:Oper)(φ:AF)(st:aA)(K:AV→aA→Prop):Prop:=match gX ops φ o with
 | some true=>eE P [] φ st o K
 | some false=>K .undef st
 | none=>False
theorem rO{P:Program}{ops:Array Oper}{o:Oper}{φ:AF}{st:aA}{K K':AV→aA→Prop}(h:∀r s,K r s→K' r s)(e:gY P ops o φ st K):gY P ops o φ st K':=by
 unfold gY at *
 split at e
 · exact x8 h e
 · exact h _ _ e
 · exact e.elim
section
variable {P:Program}
theorem aMM{ops:Array Oper}{oi oj:Oper}(φ:AF)(v:AV)(h:∀d,oj.dst=some d→d∉oi.looksAt ops):gX ops (φ.put oj.dst v) oi=gX ops φ oi:=by
 unfold gX
 cases hg:oi.guard with
 | none=>rfl
 | some gw=>
  obtain⟨g,want⟩:=gw
  cases ht:(ops[g]?).bind (·.dst) with
  | none=>simp only[ht]
  | some t=>
   simp only[ht]
   have:(φ.put oj.dst v) t=φ t:=by
    have:=JV (φ:=φ) (dst:=oj.dst) (v:=v) (x:=.tmp t) (fun d hd hxd=>h d hd (by
     cases hxd
     simp [Oper.looksAt,hg,ht]))
    exact this
   rw[this]
theorem MA{ops:Array Oper}{oi oj:Oper}(φ:AF)(v:AV){st:aA}{K:AV→aA→Prop}(h:∀d,oj.dst=some d→d∉oi.looksAt ops):gY P ops oi (φ.put oj.dst v) st K↔gY P ops oi φ st K:=by
 have h1:eE P [] (φ.put oj.dst v) st oi K=eE P [] φ st oi K:=
  SC fun x hx=>JV fun d hd hxd=>h d hd (by
   subst hxd
   exact List.mem_append_left _ (List.mem_filterMap.2 ⟨.tmp d,by simpa using hx,rfl⟩))
 unfold gY
 rw[h1,aMM φ v h]
theorem N4(n j:Nat):(Array.replicate n false).getD j false=false:=by
 rcases kK j n with h | h<;>simp [h]
def HH(P:Program)(ops:Array Oper)(K:AF→aA→Prop):Nat→Array Bool→AF→aA→Prop
 | 0,listed,φ,st=>Region.ready .any ops listed= []∧K φ st
 | f+1,listed,φ,st=>(Region.ready .any ops listed= []→K φ st)∧∀i∈Region.ready .any ops listed,∃o,ops[i]?=some o∧gY P ops o φ st (fun r st'=>HH P ops K f (listed.setIfInBounds i true) (φ.put o.dst r) st')
theorem aMQ{N:Nat}{ops:Array Oper}(hN:∀(j d:Nat),(ops[j]?).bind (·.dst)=some d→d<N){o:Oper}{i:Nat}{a:Act}{w:World}{φ:AF}{st:aA}{G:AV→aA→Prop}{K:Act→World→Prop}{Q:Exit→Act→World→Prop}(hi:ops[i]?=some o)
 (R:Rel N a w φ st) (hd:m8 N o=true) (y:gY P ops o φ st G) (h:∀a' w' r st',Rel N a' w' (φ.put o.dst r) st'→bQ w.heap st w'.heap st'→eD w w'→G r st'→K a' w'):wpOp P ops Q i K a w:=by
 unfold gY at y
 unfold wpOp
 simp only[hi]
 split at y
 · rename_i hg
   rw[aN (wD R hN hg)]
   refine .inl (HM R.frame R.store y fun v w' ⟨r',st',x1,x2,x3,x4,x5⟩=>?_)
   exact h _ _ r' st' (R.put hd x3 x2 x1) x3 x4 x5
 · rename_i hg
   rw[aK (by rw[wD R hN hg];simp)]
   exact h _ _ .undef st (R.put (r:=.undef) hd (bQ.refl _ _) R.store ⟨rfl,rfl⟩) (bQ.refl _ _) (eD.refl _) y
 · exact y.elim
theorem HI{N:Nat}{ops:Array Oper}(hN:∀(j d:Nat),(ops[j]?).bind (·.dst)=some d→d<N)(hD:∀o∈ops.toList,m8 N o=true){K:AF→aA→Prop}{Q:Exit→Act→World→Prop}{w0:World}{st0:aA}
 (hK:∀φ st a w,K φ st→Rel N a w φ st→bQ w0.heap st0 w.heap st→eD w0 w→Q .normal a w) :
 ∀(f:Nat) (listed:Array Bool) (φ:AF) (st:aA) (a:Act) (w:World),HH P ops K f listed φ st→Rel N a w φ st→bQ w0.heap st0 w.heap st→eD w0 w→wpAny P .any ops Q f listed a w
 | 0,listed,φ,st,a,w,h,R,T,s=>⟨h.1,hK φ st a w h.2 R T s⟩
 | f+1,listed,φ,st,a,w,h,R,T,s=>by
  refine⟨fun h0=>hK φ st a w (h.1 h0) R T s,fun i hi=>?_⟩
  obtain⟨o,ho,y⟩:=h.2 i hi
  exact aMQ hN ho R (hD o (mS.2 (z9 ho))) y fun a' w' r st' R' T' s' g=>HI hN hD hK f _ _ _ a' w' g R' (T.trans T') (s.trans s')
def R7(P:Program)(ops:Array Oper)(o:Oper)(r:AV)(φ:AF):Prop:=∀st,iW P st ops o r φ
theorem a3Z{ops:Array Oper}{o:Oper}{r:AV}{φ:AF}(h:R7 P ops o r φ){st:aA}{K:AV→aA→Prop}(k:K r st):gY P ops o φ st K:=by
 unfold gY
 rcases h st with ⟨hg,hs⟩ | ⟨hg,rfl⟩
 · rw[hg];exact x8 (fun r' s' ⟨e1,e2⟩=>by rw[e1,e2];exact k) hs
 · rw[hg];exact k
theorem SF{ops:Array Oper}{o:Oper}{r:AV}{φ:AF}{st:aA}(h:iW P st ops o r φ){K:AV→aA→Prop}(k:K r st):gY P ops o φ st K:=by
 unfold gY
 rcases h with ⟨hg,hs⟩ | ⟨hg,rfl⟩
 · rw[hg];exact x8 (fun r' s' ⟨e1,e2⟩=>by rw[e1,e2];exact k) hs
 · rw[hg];exact k
def AQ(P:Program)(ops:Array Oper)(S:List Nat)(K:AF→aA→Prop):Nat→Array Bool→AF→aA→Prop
 | 0,listed,φ,st=>Region.ready .any ops listed= []∧K φ st
 | f+1,listed,φ,st=>(Region.ready .any ops listed= []→K φ st)∧∀i∈Region.ready .any ops listed,∃o,ops[i]?=some o ∧
  ((S.contains i=true∧∃r,iW P st ops o r φ∧AQ P ops S K f (listed.setIfInBounds i true) (φ.put o.dst r) st) ∨
   (S.contains i=false∧gY P ops o φ st (fun r st'=>AQ P ops S K f (listed.setIfInBounds i true) (φ.put o.dst r) st')))
theorem L5{ops:Array Oper}{S:List Nat}{K:AF→aA→Prop}:∀(f:Nat) (listed:Array Bool) (φ:AF) (st:aA),AQ P ops S K f listed φ st→HH P ops K f listed φ st
 | 0,_,_,_,h=>h
 | f+1,listed,φ,st,h=>by
  refine⟨h.1,fun i hi=>?_⟩
  obtain⟨o,ho,h2⟩:=h.2 i hi
  refine⟨o,ho,?_⟩
  rcases h2 with ⟨_,r,y,k⟩ | ⟨_,k⟩
  · exact SF y (L5 f _ _ _ k)
  · exact rO (fun r s q=>L5 f _ _ _ q) k
def rK(ops:Array Oper)(listed:Array Bool):Prop:=∀j o,ops[j]?=some o→listed.getD j false=true→∀e∈o.after,Region.binds .any e=true→listed.getD e.on false=true
theorem rK.set{ops:Array Oper}{listed:Array Bool}{i:Nat}(h:rK ops listed)(hr:i∈Region.ready .any ops listed):rK ops (listed.setIfInBounds i true):=by
 intro j o ho hl e he hb
 by_cases hji:i=j
 · subst hji
   obtain⟨_,o',ho',c9⟩:=mem_ready.1 hr
   rw[ho'] at ho;cases ho
   exact getD_set_true (c9 e he hb)
 · rw[getD_set_ne false hji] at hl
   exact getD_set_true (h j o ho hl e he hb)
def tB(ops:Array Oper):Nat→Nat→Nat→Bool
 | 0,_,_=>false
 | f+1,j,i=>match ops[j]? with
  | some o=>o.after.any fun e=>Region.binds .any e&&(e.on == i||tB ops f e.on i)
  | none=>false
theorem II{ops:Array Oper}{listed:Array Bool}{i:Nat}(h:rK ops listed)(hi:listed.getD i false=false):∀(f j:Nat) (o:Oper),ops[j]?=some o→tB ops f j i=true→¬ ∀e∈o.after,Region.binds .any e=true→listed.getD e.on false=true
 | 0,j,o,_,hd=>by simp [tB] at hd
 | f+1,j,o,ho,hd=>by
  intro c9
  simp only[tB,ho] at hd
  obtain⟨e,he,h2⟩:=Array.any_eq_true'.1 hd
  simp only[bD,kZ,beq_iff_eq] at h2
  obtain⟨hb,h3⟩:=h2
  have hl:=c9 e he hb
  rcases h3 with h3 | h3
  · rw[h3,hi] at hl;cases hl
  · cases hk:ops[e.on]? with
    | none=>cases f<;>simp [tB,hk] at h3
    | some o2=>exact II h hi f e.on o2 hk h3 (h e.on o2 hk hl)
def eC(st s:aA):Prop:=∀b o,st b=some o→s b=some o
theorem eC.refl(st:aA):eC st st:=fun _ _ h=>h
theorem eC.trans{a b c:aA}(x:eC a b)(y:eC b c):eC a c:=fun q o h=>y q o (x q o h)
def HQ(o:Oper):Bool:=match o.op with
 | .alloc _=>true
 | _=>false
theorem aMP{ops:Array Oper}{o:Oper}{φ:AF}{st:aA}{K:AV→aA→Prop}(ho:HQ o=true)(e:gY P ops o φ st K):gY P ops o φ st (fun r st'=>eC st st'∧K r st'):=by
 obtain⟨dst,op,type,pos,after,guard⟩:=o
 cases op<;>simp only[HQ,iF] at ho
 unfold gY at e ⊢
 split at e
 · simp only[eE] at e ⊢
   split at e
   · intro b hb
     refine⟨fun q o hq=>?_,e b hb⟩
     rw[aA.aJ _ _ (by rintro rfl;rw[hb] at hq;cases hq)]
     exact hq
   · cases e
 · exact⟨eC.refl _,e⟩
 · cases e
theorem L6{ops:Array Oper}{S:List Nat}{i:Nat}{oi:Oper}{v:AV}{K:AF→aA→Prop}(hi:ops[i]?=some oi)(hS:S.contains i=true) :
 ∀(f:Nat) (listed:Array Bool) (φ:AF) (st:aA),rK ops listed →
  (∀j oj,ops[j]?=some oj→j≠i→listed.getD j true=false→(∀e∈oj.after,Region.binds .any e=true→e.on≠i)→oi.apart ops oj=true) →
  i∈Region.ready .any ops listed→((∀s,iW P s ops oi v φ)∨(iW P st ops oi v φ∧∀j oj,ops[j]?=some oj→listed.getD j true=false→S.contains j=false→∃g,tB ops g j i=true)∨((∀s,eC st s→iW P s ops oi v φ)∧∀j oj,ops[j]?=some oj→listed.getD j true=false→S.contains j=false→(∃g,tB ops g j i=true)∨HQ oj=true)) →
  AQ P ops S K f (listed.setIfInBounds i true) (φ.put oi.dst v) st→AQ P ops S K (f+1) listed φ st:=by
 intro f
 induction f with
 | zero=>
  intro listed φ st hcl _ hr hy H
  have hy0:iW P st ops oi v φ:=by
   rcases hy with h | h | h
   · exact h st
   · exact h.1
   · exact h.1 st (eC.refl st)
  refine⟨fun h=>(by rw[h] at hr;cases hr),fun j hj=>?_⟩
  by_cases hji:j=i
  · subst hji;exact⟨oi,hi,.inl ⟨hS,v,hy0,H⟩⟩
  · have:=ready_mono hj hji
    rw[H.1] at this
    cases this
 | succ f ih=>
  intro listed φ st hcl r8 hr hy H
  have hy0:iW P st ops oi v φ:=by
   rcases hy with h | h | h
   · exact h st
   · exact h.1
   · exact h.1 st (eC.refl st)
  refine⟨fun h=>(by rw[h] at hr;cases hr),fun j hj=>?_⟩
  by_cases hji:j=i
  · subst hji;exact⟨oi,hi,.inl ⟨hS,v,hy0,H⟩⟩
  · obtain⟨oj,hoj,h1⟩:=H.2 j (ready_mono hj hji)
    obtain⟨n5,oj',yV,c9⟩:=mem_ready.1 hj
    have:oj'=oj:=mL (yV.symm.trans hoj)
    subst this
    have hun:=(mem_ready.1 hr).1
    have vI:∀e∈oj'.after,Region.binds .any e=true→e.on≠i:=fun e he hb heq=>by
     have h1:=c9 e he hb
     rw[heq,getD_both hun] at h1
     cases h1
    obtain⟨a1,a2,a3⟩:=Oper.apart_spec (r8 j oj' hoj hji n5 vI)
    have tG:∀k ok,ops[k]?=some ok→k≠i→(listed.setIfInBounds j true).getD k true=false →
     (∀e∈ok.after,Region.binds .any e=true→e.on≠i)→oi.apart ops ok=true:=fun k ok hk hki hun hno=>by
     refine r8 k ok hk hki ?_ hno
     by_cases hjk:j=k
     · subst hjk;exact n5
     · rw[getD_set_ne true hjk] at hun;exact hun
    have OU:∀k,(listed.setIfInBounds j true).getD k true=false→listed.getD k true=false:=fun k hk=>by
     by_cases hjk:j=k
     · subst hjk;exact n5
     · rw[getD_set_ne true hjk] at hk;exact hk
    refine⟨oj',hoj,?_⟩
    rcases h1 with ⟨hSj,r,yj,h2⟩ | ⟨hSj,h2⟩
    · refine .inl ⟨hSj,r,(oX φ v a1).1 yj,ih (listed.setIfInBounds j true) (φ.put oj'.dst r) st (hcl.set hj) tG (ready_mono hr (dM hji)) ?_ ?_⟩
      · rcases hy with h | h | h
        · exact .inl fun s=>(oX φ r a3).2 (h s)
        · exact .inr (.inl ⟨(oX φ r a3).2 h.1,fun k ok hk hl hs=>h.2 k ok hk (OU k hl) hs⟩)
        · exact .inr (.inr ⟨fun s hs=>(oX φ r a3).2 (h.1 s hs),fun k ok hk hl hs=>h.2 k ok hk (OU k hl) hs⟩)
      · rw[AA _ _ hji,←put_comm φ v r a2]
        exact h2
    · rcases hy with hf | ⟨_,hd⟩ | ⟨hx,hd⟩
      · refine .inr ⟨hSj,rO (fun r st' h3=>?_) ((MA φ v a1).1 h2)⟩
        refine ih (listed.setIfInBounds j true) (φ.put oj'.dst r) st' (hcl.set hj) tG (ready_mono hr (dM hji)) (.inl fun s=>(oX φ r a3).2 (hf s)) ?_
        rw[AA _ _ hji,←put_comm φ v r a2]
        exact h3
      · obtain⟨g,hg⟩:=hd j oj' hoj n5 hSj
        exact absurd c9 (II hcl (getD_both hun) g j oj' hoj hg)
      · rcases hd j oj' hoj n5 hSj with ⟨g,hg⟩ | hal
        · exact absurd c9 (II hcl (getD_both hun) g j oj' hoj hg)
        · refine .inr ⟨hSj,rO (fun r st' h3=>?_) (aMP hal ((MA φ v a1).1 h2))⟩
          refine ih (listed.setIfInBounds j true) (φ.put oj'.dst r) st' (hcl.set hj) tG (ready_mono hr (dM hji)) (.inr (.inr ⟨fun s hs=>(oX φ r a3).2 (hx s (h3.1.trans hs)),fun k ok hk hl hs=>hd k ok hk (OU k hl) hs⟩)) ?_
          rw[AA _ _ hji,←put_comm φ v r a2]
          exact h3.2
def aI7(ops:Array Oper)(S:List Nat)(listed:Array Bool)(i:Nat):Bool:=(List.range ops.size).all fun j=>listed.getD j true||S.contains j||tB ops ops.size j i
def aI6(ops:Array Oper)(S:List Nat)(listed:Array Bool)(i:Nat):Bool:=(List.range ops.size).all fun j=>listed.getD j true||S.contains j||tB ops ops.size j i||((ops[j]?).map HQ).getD false
def aIC(ops:Array Oper)(i:Nat):Bool:=((ops[i]?).map jM).getD false
def sB(ops:Array Oper)(S:List Nat):List (Nat×Nat)→Array Bool→Bool
 | [],listed=>(Region.ready .any ops listed).isEmpty
 | (i,0)::r,listed=>decide (Region.ready .any ops listed= [i])&& !S.contains i&&sB ops S r (listed.setIfInBounds i true)
 | (i,1)::r,listed=>(Region.ready .any ops listed).contains i&&Region.free .any ops listed i&&S.contains i&&sB ops S r (listed.setIfInBounds i true)
 | (i,_)::r,listed=>(Region.ready .any ops listed).contains i&&Region.free .any ops listed i&&S.contains i&&(aI7 ops S listed i||(aIC ops i&&aI6 ops S listed i))&&sB ops S r (listed.setIfInBounds i true)
def AZ(P:Program)(ops:Array Oper)(K:AF→aA→Prop):List (Nat×Nat)→AF→aA→Prop
 | [],φ,st=>K φ st
 | (i,0)::r,φ,st=>∃o,ops[i]?=some o∧gY P ops o φ st (fun v st'=>AZ P ops K r (φ.put o.dst v) st')
 | (i,1)::r,φ,st=>∃o,ops[i]?=some o∧∃v,R7 P ops o v φ∧AZ P ops K r (φ.put o.dst v) st
 | (i,_)::r,φ,st=>∃o,ops[i]?=some o∧∃v,iW P st ops o v φ∧AZ P ops K r (φ.put o.dst v) st
theorem aYX{t:TypeId}{ok:Bool}{x i r:AV}{st s:aA}(hs:eC st s)(h:sS P st t ok x i=some r):sS P s t ok x i=some r:=by
 unfold sS at *
 split at h
 · rename_i b n
   cases hb:st b with
   | none=>rw[hb] at h;cases h
   | some o=>rw[hs b o hb,←hb];exact h
 · cases h
theorem aYU{t:TypeId}{x r:AV}{st s:aA}(hs:eC st s)(h:f0 P st t x=some r):f0 P s t x=some r:=by
 unfold f0 at *
 split at h
 · exact h
 · rename_i b o
   cases hb:st b with
   | none=>rw[hb] at h;split at h<;>simp_all
   | some o=>rw[hs b o hb,←hb];exact h
 · cases h
theorem SD{φ:AF}{o:Oper}{r:AV}{st s:aA}(hs:eC st s)(h:kN P φ st o=some r):kN P φ s o=some r:=by
 obtain⟨dst,op,type,pos,after,guard⟩:=o
 cases op
 case makeFunc fn a b=>cases fn<;>exact h
 case call c=>
  obtain⟨callee,args,ats⟩:=c
  cases callee
  case builtin b=>cases b<;>exact h
  all_goals exact h
 case load=>exact aYU hs h
 case lookup=>exact aYX hs h
 all_goals exact h
theorem aMV{ops:Array Oper}{o:Oper}{v:AV}{φ:AF}{st s:aA}(hp:jM o=true)(hs:eC st s)(h:iW P st ops o v φ):iW P s ops o v φ:=by
 rcases h with ⟨h1,h2⟩ | h
 · refine .inl ⟨h1,?_⟩
   rw[rP hp] at h2 ⊢
   cases hv:kN P φ st o with
   | none=>rw[hv] at h2;cases h2
   | some r=>
    rw[hv] at h2
    rw[SD hs hv]
    exact⟨h2.1,rfl⟩
 · exact .inr h
theorem EK{ops:Array Oper}{S:List Nat}{K:AF→aA→Prop}:∀(p:List (Nat×Nat)) (listed:Array Bool) (φ:AF) (st:aA),rK ops listed→sB ops S p listed=true→AZ P ops K p φ st→AQ P ops S K p.length listed φ st
 | [],listed,φ,st,_,hB,h=>⟨by simpa [sB] using hB,h⟩
 | (i,0)::r,listed,φ,st,hcl,hB,h=>by
  simp only[sB,bD,bA,i9] at hB
  obtain⟨o,ho,h'⟩:=h
  have hr:i∈Region.ready .any ops listed:=by rw[hB.1.1];simp
  refine⟨fun h0=>(by rw[hB.1.1] at h0;cases h0),fun j hj=>?_⟩
  rw[hB.1.1] at hj
  obtain rfl:j=i:=by simpa using hj
  exact⟨o,ho,.inr ⟨hB.1.2,rO (fun v st' q=>EK r _ _ _ (hcl.set hr) hB.2 q) h'⟩⟩
 | (i,1)::r,listed,φ,st,hcl,hB,h=>by
  simp only[sB,bD] at hB
  obtain⟨⟨⟨hr,hf⟩,hS⟩,hB'⟩:=hB
  obtain⟨o,ho,v,hv,h'⟩:=h
  have hr':i∈Region.ready .any ops listed:=by simpa using hr
  exact L6 ho hS _ listed φ st hcl (Region.free_spec ho hf) hr' (.inl hv) (EK r _ _ _ (hcl.set hr') hB' h')
 | (i,k+2)::r,listed,φ,st,hcl,hB,h=>by
  simp only[sB,bD] at hB
  obtain⟨⟨⟨⟨hr,hf⟩,hS⟩,hd⟩,hB'⟩:=hB
  obtain⟨o,ho,v,hv,h'⟩:=h
  have hr':i∈Region.ready .any ops listed:=by simpa using hr
  rw[kZ] at hd
  rcases hd with hd | hd
  · refine L6 ho hS _ listed φ st hcl (Region.free_spec ho hf) hr' (.inr (.inl ⟨hv,fun j oj hj hl hs=>⟨ops.size,?_⟩⟩)) (EK r _ _ _ (hcl.set hr') hB' h')
    simp only[aI7,c6,xU] at hd
    have:=hd j (LI.1 hj).1
    simpa only[hl,hs,mT] using this
  · rw[bD] at hd
    obtain⟨hp,hd⟩:=hd
    simp only[aIC,ho,oT,D3] at hp
    refine L6 ho hS _ listed φ st hcl (Region.free_spec ho hf) hr' (.inr (.inr ⟨fun s hs=>aMV hp hs hv,fun j oj hj hl hs=>?_⟩)) (EK r _ _ _ (hcl.set hr') hB' h')
    simp only[aI6,c6,xU] at hd
    have:=hd j (LI.1 hj).1
    simp only[hl,hs,mT,hj,oT,D3,kZ] at this
    exact this.imp (fun h=>⟨ops.size,h⟩) id
theorem aNK{N:Nat}{id:Nat}{ops:Array Oper}{Q:Exit→AF→aA→Prop}{φ:AF}{st:aA}(p:List (Nat×Nat))(S:List Nat)(hm:P.follows .mixedOrders=true)(hok:oD N ops=true)(hl:p.length=ops.size)(hB:sB ops S p (Array.replicate ops.size false)=true)
 (h:AZ P ops (Q .normal) p φ st):eG P N (.region id ops true) Q φ st:=by
 intro a w R
 refine wp_region_any hm ?_
 have R0:Rel N a { w with drawn:=w.drawn+1 } φ st:=⟨R.size,R.defers,R.frame,R.store⟩
 have:=L5 _ _ _ _ (EK p _ φ st (fun j o _ hl=>(by rw[N4] at hl;cases hl)) hB h)
 rw[hl] at this
 exact HI (w6 hok) (vQ hok) (w0:=w) (st0:=st) (fun φ' st' a' w' k R' T s=>⟨φ',st',R',T,s,k⟩) _ _ _ _ _ _ this R0 (bQ.refl _ _) ⟨rfl,rfl,rfl⟩
theorem aYW{t:TypeId}{ok:Bool}{x i r:AV}(h:sS P eF t ok x i=some r)(st:aA):sS P st t ok x i=some r:=by
 unfold sS at *
 split at h
 · simp only[eF] at h;cases h
 · cases h
theorem aYT{t:TypeId}{x r:AV}(h:f0 P eF t x=some r)(st:aA):f0 P st t x=some r:=by
 unfold f0 at *
 split at h
 · exact h
 · split at h
   · rename_i h1;simp only[eF] at h1;cases h1
   · cases h
 · cases h
theorem aMR{φ:AF}{o:Oper}{r:AV}(h:kN P φ eF o=some r)(st:aA):kN P φ st o=some r:=by
 obtain⟨dst,op,type,pos,after,guard⟩:=o
 cases op
 case makeFunc fn a b=>cases fn<;>exact h
 case call c=>
  obtain⟨callee,args,ats⟩:=c
  cases callee
  case builtin b=>cases b<;>exact h
  all_goals exact h
 case load=>exact aYT h st
 case lookup=>exact aYW h st
 all_goals exact h
def iV(P:Program)(ops:Array Oper)(K:AF→aA→Prop):List (Nat×Nat)→AF→aA→Prop
 | [],φ,st=>K φ st
 | (i,0)::r,φ,st=>match ops[i]? with
  | none=>False
  | some o=>aW P [] ops [o] (fun φ' st'=>iV P ops K r φ' st') φ st
 | (i,1)::r,φ,st=>match ops[i]? with
  | none=>False
  | some o=>if jM o=true then aW P [] ops [o] (fun φ' _=>iV P ops K r φ' st) φ eF else
   match o.guard,o.op with
   | none,.call { callee:=.value f,args,.. }=>∃v,(∀s,rV P (φ.eval f) (args.toList.map φ.eval) s (fun r' s'=>r'=v∧s'=s))∧iV P ops K r (φ.put o.dst v) st
   | _,_=>False
 | (i,_)::r,φ,st=>match ops[i]? with
  | none=>False
  | some o=>if jM o=true then aW P [] ops [o] (fun φ' _=>iV P ops K r φ' st) φ st else
   match o.guard,o.op with
   | none,.call { callee:=.value f,args,.. }=>∃v,rV P (φ.eval f) (args.toList.map φ.eval) st (fun r' s'=>r'=v∧s'=st)∧iV P ops K r (φ.put o.dst v) st
   | _,_=>False
theorem uN{ops:Array Oper}{K:AF→aA→Prop}:∀(p:List (Nat×Nat)) (φ:AF) (st:aA),iV P ops K p φ st→AZ P ops K p φ st
 | [],_,_,h=>h
 | (i,0)::r,φ,st,h=>by
  simp only[iV] at h
  split at h
  · exact h.elim
  · rename_i o ho
    refine⟨o,ho,?_⟩
    simp only[aW] at h
    unfold gY
    split at h
    · rename_i hg
      rw[hg]
      exact x8 (fun v s q=>uN r _ _ q) h
    · rename_i hg
      rw[hg]
      exact uN r _ _ h
    · exact h.elim
 | (i,1)::r,φ,st,h=>by
  simp only[iV] at h
  split at h
  · exact h.elim
  · rename_i o ho
    split at h
    · rename_i hp
      simp only[aW] at h
      split at h
      · rename_i hg
        rw[rP hp] at h
        split at h
        · rename_i v hv
          exact⟨o,ho,v,fun s=>.inl ⟨hg,by rw[rP hp,aMR hv s];exact⟨rfl,rfl⟩⟩,uN r _ _ h⟩
        · exact h.elim
      · rename_i hg
        exact⟨o,ho,.undef,fun s=>.inr ⟨hg,rfl⟩,uN r _ _ h⟩
      · exact h.elim
    · split at h
      · rename_i f args ats hg hop
        obtain⟨v,h1,h2⟩:=h
        refine⟨o,ho,v,fun s=>.inl ⟨by simp only[gX,hg],?_⟩,uN r _ _ h2⟩
        simp only[eE,hop]
        exact h1 s
      · exact h.elim
 | (i,k+2)::r,φ,st,h=>by
  simp only[iV] at h
  split at h
  · exact h.elim
  · rename_i o ho
    split at h
    · rename_i hp
      simp only[aW] at h
      split at h
      · rename_i hg
        rw[rP hp] at h
        split at h
        · rename_i v hv
          exact⟨o,ho,v,.inl ⟨hg,by rw[rP hp,hv];exact⟨rfl,rfl⟩⟩,uN r _ _ h⟩
        · exact h.elim
      · rename_i hg
        exact⟨o,ho,.undef,.inr ⟨hg,rfl⟩,uN r _ _ h⟩
      · exact h.elim
    · split at h
      · rename_i f args ats hg hop
        obtain⟨v,h1,h2⟩:=h
        refine⟨o,ho,v,.inl ⟨by simp only[gX,hg],?_⟩,uN r _ _ h2⟩
        simp only[eE,hop]
        exact h1
      · exact h.elim
end
def PK(P:Program)(ops:Array Oper)(K:AF→aA→Prop)(r:List (Nat×Nat))(φ:AF)(st:aA):Prop:=iV P ops K r φ st
def FX(P:Program)(ops:Array Oper)(K:AF→aA→Prop)(r:List (Nat×Nat))(st:aA)(φ:AF)(_:aA):Prop:=iV P ops K r φ st
def FW(P:Program)(ops:Array Oper)(K:AF→aA→Prop)(r:List (Nat×Nat))(φ:AF)(dst:Option Tmp)(st:aA)(v:AV):Prop:=iV P ops K r (φ.put dst v) st
def EY(P:Program)(f:AV)(args:List AV)(K:AV→Prop):Prop:=∃v,(∀s,rV P f args s (fun r' s'=>r'=v∧s'=s))∧K v
def CP(P:Program)(ops:Array Oper)(K:AF→aA→Prop)(r:List (Nat×Nat))(φ:AF)(st:aA):Nat→Option Oper→Prop
 | 0,some o=>aW P [] ops [o] (PK P ops K r) φ st
 | 1,some o=>if jM o=true then aW P [] ops [o] (FX P ops K r st) φ eF else
  match o.guard,o.op with
  | none,.call { callee:=.value f,args,.. }=>EY P (φ.eval f) (args.toList.map φ.eval) (FW P ops K r φ o.dst st)
  | _,_=>False
 | _,some o=>if jM o=true then aW P [] ops [o] (FX P ops K r st) φ st else
  match o.guard,o.op with
  | none,.call { callee:=.value f,args,.. }=>wJ P (φ.eval f) (args.toList.map φ.eval) st (FW P ops K r φ o.dst st)
  | _,_=>False
 | _,none=>False
theorem aBR{P:Program}{ops:Array Oper}{K:AF→aA→Prop}{φ:AF}{st:aA}:iV P ops K [] φ st=K φ st:=rfl
theorem aBS{P:Program}{l:List Oper}{K:AF→aA→Prop}{φ:AF}{st:aA}{i b:Nat}{r:List (Nat×Nat)}:iV P l.toArray K ((i,b)::r) φ st=CP P l.toArray K r φ st b l[i]?:=by
 match b with
 | 0=>simp only[iV,v8];cases l[i]?<;>rfl
 | 1=>simp only[iV,v8];cases l[i]?<;>rfl
 | b+2=>simp only[iV,v8];cases l[i]?<;>rfl
theorem aBW{P:Program}{ops:Array Oper}{K:AF→aA→Prop}{φ:AF}{st:aA}{r:List (Nat×Nat)}{o:Oper}:CP P ops K r φ st 0 (some o)=aW P [] ops [o] (PK P ops K r) φ st:=rfl
theorem aBX{P:Program}{ops:Array Oper}{K:AF→aA→Prop}{φ:AF}{st:aA}{r:List (Nat×Nat)}{o:Oper}:CP P ops K r φ st 1 (some o)=if jM o=true then aW P [] ops [o] (FX P ops K r st) φ eF else
      match o.guard,o.op with
      | none,.call { callee:=.value f,args,.. }=>EY P (φ.eval f) (args.toList.map φ.eval) (FW P ops K r φ o.dst st)
      | _,_=>False:=rfl
theorem aBY{P:Program}{ops:Array Oper}{K:AF→aA→Prop}{φ:AF}{st:aA}{r:List (Nat×Nat)}{o:Oper}:CP P ops K r φ st 2 (some o)=if jM o=true then aW P [] ops [o] (FX P ops K r st) φ st else
      match o.guard,o.op with
      | none,.call { callee:=.value f,args,.. }=>wJ P (φ.eval f) (args.toList.map φ.eval) st (FW P ops K r φ o.dst st)
      | _,_=>False:=rfl
theorem aBV{P:Program}{ops:Array Oper}{K:AF→aA→Prop}{φ:AF}{st:aA}{r:List (Nat×Nat)}:PK P ops K r φ st=iV P ops K r φ st:=rfl
theorem aBU{P:Program}{ops:Array Oper}{K:AF→aA→Prop}{φ:AF}{st s:aA}{r:List (Nat×Nat)}:FX P ops K r st φ s=iV P ops K r φ st:=rfl
theorem aBT{P:Program}{ops:Array Oper}{K:AF→aA→Prop}{φ:AF}{st:aA}{r:List (Nat×Nat)}{dst:Option Tmp}{v:AV}:FW P ops K r φ dst st v=iV P ops K r (φ.put dst v) st:=rfl
theorem M7{P:Program}{g:FuncId}{args:List AV}{r:AV}{K:AV→Prop}(x:∀st,aD P g args st (fun r' st'=>r'=r∧st'=st))(h:K r):EY P (.func g []) args K:=⟨r,fun st=>by show aD P g (args++ []) st _;rw[jO];exact x st,h⟩
@[congr] theorem a39 {P:Program} {ops:Array Oper} {K:AF→aA→Prop} {p:List (Nat×Nat)} {φ φ':AF} {st st':aA} (h1:φ=φ') (h2:st=st'):iV P ops K p φ st=iV P ops K p φ' st':=by rw[h1,h2]
@[congr] theorem a4K {P:Program} {ops:Array Oper} {K:AF→aA→Prop} {p:List (Nat×Nat)} {φ φ':AF} {st st':aA} {b:Nat} {o o':Option Oper} (h1:φ=φ') (h2:st=st') (h3:o=o'):CP P ops K p φ st b o=CP P ops K p φ' st' b o':=by rw[h1,h2,h3]
@[congr] theorem a4D {P:Program} {f f':AV} {args args':List AV} {K:AV→Prop} (h0:f=f') (h1:args=args'):EY P f args K=EY P f' args' K:=by rw[h0,h1]
theorem zx5{P:Program}{N:Nat}{id:Nat}{l:List Oper}{Q:Exit→AF→aA→Prop}{φ:AF}{st:aA}(p:List (Nat×Nat))(S:List Nat)(hm:P.follows .mixedOrders=true)(hok:oD N l.toArray=true)(hl:p.length=l.length)(hB:sB l.toArray S p (Array.replicate l.length false)=true)
 (h:iV P l.toArray (Q .normal) p φ st):eG P N (.region id l.toArray true) Q φ st:=
 aNK p S hm hok (by simpa using hl) (by simpa using hB) (uN p φ st h)
theorem MD{P:Program}{t:TypeId}{ag:Bool}{w bytes:Nat}{zs:List AV}{s:aA}{b:Nat}{l xs:List AV}{x:AV}{K:AV→aA→Prop}
 (hI:eI P t=some (ag,w)) (hB:eB P t=some bytes) (hZ:eZ P t=some zs) (hz:zs.length=w) (hx:AR x=some xs) (eU:uO w xs) (hw:∀e∈l,e.width=w) (hb:l≠[]→s b=some (.cells (l.flatMap AV.cells)))
 (h1:(l.length+xs.length)*bytes≤140737488355328) (h2:l.length+xs.length≤9223372036854775807)
 (hK:∀b' s',(l++xs≠[]→s' b'=some (.cells ((l++xs).flatMap AV.cells)))→(l++xs≠[]→b'=b∧l≠[]∨s b'=none)→(∀q,(l++xs≠[]→q≠b')→(l≠[]→q≠b)→s' q=s q)→(l≠[]→b'≠b→s' b=none)→K (bK w b' (l++xs)) s'):iT P t s (bK w b l) x K:=by
 unfold iT
 rw[hI,hB,hZ,hx]
 refine⟨hz,eU,?_⟩
 cases l with
 | nil=>
  show _∧_∧_∧_∧_
  refine⟨by simpa using h1,by simpa using h2,by simp,?_,?_⟩
  · rintro rfl
    have:=hK b s (by simp) (by simp) (fun _ _ _=>rfl) (by simp)
    simpa [bK] using this
  · intro hne b' hb'
    have:=hK b' (s.aC b' (.cells (xs.flatMap AV.cells))) (fun _=>by rw[aA.aH];simp) (fun _=>.inr hb') (fun q h _=>aA.aJ _ _ (h (by simpa using hne))) (by simp)
    rw[dL,rR hne] at this
    simpa using this
 | cons y l=>
  have hb:=hb (by simp)
  show w=w∧_∧_∧_
  refine⟨rfl,h1,h2,?_⟩
  have hfl:((y::l).flatMap AV.cells).length=(y::l).length*w:=lQ hw
  rw[hb]
  refine⟨by rw[hfl];exact cX _,?_,?_⟩
  · have:=hK b (s.aC b (.cells ((y::l++xs).flatMap AV.cells))) (fun _=>aA.aH _ _ _) (fun _=>.inl ⟨rfl,by simp⟩) (fun q h _=>aA.aJ _ _ (h (by simp))) (fun _ h=>absurd rfl h)
    rw[rR (by simp),uB,dO] at this
    rw[←hfl,d6]
    exact this
  · intro b' hb'
    have hne:b'≠b:=by rintro rfl;rw[hb] at hb';cases hb'
    have:=hK b' ((s.erase b).aC b' (.cells ((y::l++xs).flatMap AV.cells))) (fun _=>aA.aH _ _ _) (fun _=>.inr hb') (fun q h h'=>by
     rw[aA.aJ _ _ (h (by simp))]
     simp only[aA.erase,h' (by simp),dA]) (fun _ _=>by rw[aA.aJ _ _ (dM hne)];exact aA.VA _ _)
    rw[rR (by simp),uB,dO] at this
    rw[←hfl,d6]
    exact this
def jN(es:List AV)(st:aA)(i:Nat)(os:List AV)(bs:List Nat)(b:Nat)(s:aA):Prop:=
 os.length=i∧bN s (es.take i) os bs∧bs.Nodup∧(∀q∈bs,st q=none)∧(os≠[]→st b=none∧b∉bs∧s b=some (.cells (os.flatMap AV.cells)))∧∀q,q∉bs→(os≠[]→q≠b)→s q=st q
theorem jN.start{es:List AV}{st:aA}{b:Nat}:jN es st 0 [] [] b st:=⟨rfl,by simp [bN],nR,by simp,by simp,fun _ _ _=>rfl⟩
theorem FO{b x:Nat}{l:List AV}:x∈nV b l↔x=b∧l≠[]:=by cases l<;>simp [nV]
theorem jN.done{es:List AV}{st:aA}{n w:Nat}{os:List AV}{bs:List Nat}{b:Nat}{s:aA}(h:jN es st n os bs b s)(hl:es.length=n)(hw:∀e∈es,e.width=w):Made st (.slice es) (bK w b os) s:=by
 obtain⟨h1,h2,h3,h4,h5,h6⟩:=h
 rw[oR (by omega)] at h2
 refine⟨nV b os++bs,?_,fun q hq=>?_,?_,fun q hq=>?_⟩
 · rw[xV]
   refine⟨by cases os<;>simp [nV],h3,fun x hx y hy e=>?_⟩
   obtain⟨rfl,hne⟩:=FO.1 hx
   exact(h5 hne).2.1 (e▸hy)
 · rcases fG.1 hq with hq | hq
   · obtain⟨rfl,hne⟩:=FO.1 hq
     exact(h5 hne).1
   · exact h4 q hq
 · cases os with
   | nil=>
    have:es= []:=by simpa using h2.length.symm
    subst this
    simp only[bN] at h2
    simp only[bX,bK,nV,h2.2]
    exact .inl ⟨trivial,trivial,rfl⟩
   | cons o os=>
    simp only[bX,bK,nV]
    refine .inr ⟨b,bs,o::os,w,by rw[h2.length],rfl,(h5 (by simp)).2.2,h2,hw⟩
 · simp only[fG,FO,not_or,not_and] at hq
   exact h6 q hq.2 (fun hne e=>hq.1 e hne)
theorem bN.LE{st:aA}{w:Nat}:∀ {as os:List AV} {bs:List Nat},bN st as os bs→(∀e∈as,e.width=w)→∀o∈os,o.width=w
 | [],os,bs,x,_=>by simp only[bN] at x;rw[x.1];simp
 | a::as,os,bs,x,h=>by
  simp only[bN] at x
  obtain⟨o,os',b1,b2,rfl,rfl,x1,x2⟩:=x
  intro q hq
  rcases cL.1 hq with rfl | hq
  · rw[(bX.shape x1).2.1,h a (by simp)]
  · exact bN.LE x2 (fun e he=>h e (by simp [he])) q hq
theorem bX.UO{st:aA}{e r:AV}{bs:List Nat}{w:Nat}(m3:bX st e r bs)(hwe:e.width=w)(hst:e.cells.all AV.storable=true):r.width=w∧r.cells.length=w∧r.cells.all AV.storable=true:=by
 refine⟨(bX.shape m3).2.1.trans hwe,by rw[BJ,(bX.shape m3).2.1,hwe],?_⟩
 cases e<;>simp only[bX] at m3<;>try exact m3.elim
 case int=>rw[m3.1];try rfl
 case bool=>rw[m3.1];try rfl
 case str=>rw[m3.1];try rfl
 case slice=>rcases m3 with ⟨_,rfl,_⟩ | ⟨_,_,_,_,rfl,_⟩<;>rfl
 case agg cs=>
  obtain⟨q,rfl,m3⟩:=m3
  refine(bX.SN m3 fun c hc=>?_).1
  have hst:cs.all AV.storable=true:=hst
  have:=c6.1 hst c hc
  cases c<;>first | rfl | (simp [AV.storable] at this)
theorem jN.step{es:List AV}{st:aA}{i:Nat}{os:List AV}{bs bx:List Nat}{b x b':Nat}{s s2 s':aA}{o:AO}{e r:AV}(h:jN es st i os bs b s)(hx:s x=none)(he:es[i]?=some e)
 (m1:bx.Nodup) (m2:∀q∈bx,(s.aC x o) q=none) (m3:bX s2 e r bx) (m4:∀q,q∉bx→s2 q=(s.aC x o) q)
 (k1:s' b'=some (.cells ((os++ [r]).flatMap AV.cells))) (k2:b'=b∧os≠[]∨s2 b'=none) (k3:∀q,q≠b'→(os≠[]→q≠b)→s' q=s2 q) (k4:os≠[]→b'≠b→s' b=none) :
 jN es st (i+1) (os++ [r]) (bs++bx) b' (s'.erase x):=by
 obtain⟨h1,h2,h3,h4,h5,h6⟩:=h
 have OS:=bN.fZ _ _ _ h2
 have hi:i<es.length:=(fM.1 he).1
 have wT:∀q∈bs,s q≠none:=fun q hq=>by obtain⟨cs,e1,_⟩:=OS.2 q hq;rw[e1];simp
 have aX1:x∉bs:=fun hq=>wT x hq hx
 have hxb:os≠[]→x≠b:=fun hne e=>by have:=(h5 hne).2.2;rw[←e,hx] at this;cases this
 have OV:x∉bx:=fun hq=>by have:=m2 x hq;rw[aA.aH] at this;cases this
 have hbx:∀q∈bx,s q=none:=fun q hq=>by
  have:=m2 q hq
  have hne:q≠x:=fun e=>OV (e▸hq)
  rwa [aA.aJ _ _ hne] at this
 have B2:∀q∈bs,q∉bx:=fun q hq hq'=>wT q hq (hbx q hq')
 have aF6:os≠[]→b∉bx:=fun hne hq=>by have:=hbx b hq;rw[(h5 hne).2.2] at this;cases this
 have aXS:s2 x=some o:=by rw[m4 x OV,aA.aH]
 have hs2:∀q,q∉bx→q≠x→s2 q=s q:=fun q h1 h2=>by rw[m4 q h1,aA.aJ _ _ h2]
 have OF:b'≠x:=by
  rcases k2 with ⟨rfl,hne⟩ | hn
  · exact dM (hxb hne)
  · rintro rfl;rw[aXS] at hn;cases hn
 have I0:b'∉bx:=by
  rcases k2 with ⟨rfl,hne⟩ | hn
  · exact aF6 hne
  · intro hq
    obtain⟨cs,e1,_⟩:=(bX.fZ _ _ _ m3).2.2 b' hq
    rw[e1] at hn;cases hn
 have OE:b'∉bs:=by
  rcases k2 with ⟨rfl,hne⟩ | hn
  · exact(h5 hne).2.1
  · intro hq
    rw[hs2 b' I0 OF] at hn
    exact wT b' hq hn
 have aXU:st b'=none:=by
  rcases k2 with ⟨rfl,hne⟩ | hn
  · exact(h5 hne).1
  · rw[hs2 b' I0 OF] at hn
    by_cases hbb:os≠[]∧b'=b
    · rw[hbb.2];exact(h5 hbb.1).1
    · rw[←h6 b' OE (fun hne e=>hbb ⟨hne,e⟩)];exact hn
 have aWZ:os≠[]→∀q∈bs,q≠b:=fun hne q hq e=>(h5 hne).2.1 (e▸hq)
 have aXE:∀q∈bs,(s'.erase x) q=s q:=fun q hq=>by
  have hqx:q≠x:=fun e=>aX1 (e▸hq)
  simp only[aA.erase,hqx,dA]
  rw[k3 q (fun e=>OE (e▸hq)) (fun hne=>aWZ hne q hq),hs2 q (B2 q hq) hqx]
 have aXF:∀q∈bx,(s'.erase x) q=s2 q:=fun q hq=>by
  have hqx:q≠x:=fun e=>OV (e▸hq)
  simp only[aA.erase,hqx,dA]
  exact k3 q (fun e=>I0 (e▸hq)) (fun hne e=>aF6 hne (e▸hq))
 refine⟨by simp [h1],?_,xV.2 ⟨h3,m1,fun a ha c hc e=>B2 a ha (e▸hc)⟩,fun q hq=>?_,fun _=>⟨aXU,?_,?_⟩,fun q hq hqb=>?_⟩
 · rw[eS,he]
   exact bN.snoc h2 aXE (bX.aY _ _ _ aXF m3)
 · rcases fG.1 hq with hq | hq
   · exact h4 q hq
   · by_cases hbb:os≠[]∧q=b
     · rw[hbb.2];exact(h5 hbb.1).1
     · by_cases hqs:q∈bs
       · exact h4 q hqs
       · rw[←h6 q hqs (fun hne e=>hbb ⟨hne,e⟩)];exact hbx q hq
 · intro hq
   rcases fG.1 hq with hq | hq
   · exact OE hq
   · exact I0 hq
 · simp only[aA.erase,OF,dA]
   exact k1
 · simp only[fG,not_or] at hq
   have aGP:=hqb (by simp)
   by_cases hqx:q=x
   · subst hqx
     simp only[aA.erase,eN]
     rw[←h6 q hq.1 hxb,hx]
   · simp only[aA.erase,hqx,dA]
     by_cases hbb:os≠[]∧q=b
     · rw[hbb.2,k4 hbb.1 (fun e=>aGP (hbb.2.trans e.symm)),(h5 hbb.1).1]
     · rw[k3 q aGP (fun hne e=>hbb ⟨hne,e⟩),hs2 q hq.2 hqx]
       exact h6 q hq.1 (fun hne e=>hbb ⟨hne,e⟩)
theorem aD.done{P:Program}{g:FuncId}{args:List AV}{st:aA}{r:AV}(x:aD P g args st (fun r' st'=>r'.soft=r∧aL st' st)):aD P g args st (fun r' st'=>r'=r∧st'=st):=
 aD.jT (aD.soft x)
theorem aD.o9{P:Program}{g:FuncId}{args:List AV}{st:aA}{Q:AV→aA→Prop}(x:aD P g args st (fun r st'=>∃s2,aL st' s2∧Q r s2)):aD P g args st Q:=
 x.mH fun r _ ⟨s2,D,q⟩=>⟨r,s2,D.pY,D.mH r,q⟩
theorem jV{cs:List AV}:(AV.agg cs).soft=.agg (cs.map AV.soft):=by simp only[AV.soft,zO]
theorem kG{cs:List AV}:(AV.tup cs).soft=.tup (cs.map AV.soft):=by simp only[AV.soft,zO]
theorem jW{k:IntKind}{n:Int}:(AV.int k n).soft=.int k n:=rfl
theorem sD{b:Bool}:(AV.bool b).soft=.bool b:=rfl
theorem nJ{s:ByteArray}:(AV.str s).soft=.str s:=rfl
theorem pV{es:List AV}:(AV.slice es).soft=.slice es:=rfl
theorem nI{es:List AV}:(AV.fslice es).soft=.slice es:=rfl
def u6(b:Nat)(l:List AV):List (Nat×AV)→List (Nat×AV)
 | []=>[]
 | p::r=>(p.1,p.2.fin b l)::u6 b l r
theorem ZH{b:Nat}{l:List AV}:u6 b l []= []:=rfl
theorem ZI{b d:Nat}{l:List AV}{v:AV}{r:List (Nat×AV)}:u6 b l ((d,v)::r)=(d,v.fin b l)::u6 b l r:=rfl
theorem aV7{b:Nat}{l:List AV}:AV.junk.fin b l=.junk:=by unfold AV.fin;split<;>rfl
theorem lP{w b:Nat}{l:List AV}:(bK w b l).fin b l=.slice l:=mV
theorem aYP{st:aA}(b:Nat)(l:List AV)(hb:l≠[]→st b=none)(hj:∀e∈l,e.bR=false)(hE:gW l)(L:List (Nat×AV)):fA (jD L) (a9 st b l) (jD (u6 b l L)) st:=by
 have key:∀L d,jD (u6 b l L) d=(jD L d).fin b l:=by
  intro L
  induction L with
  | nil=>intro d;exact aV7.symm
  | cons p r ih=>
   obtain⟨e,v⟩:=p
   intro d
   show((jD (u6 b l r)).aC e (v.fin b l)) d=(((jD r).aC e v) d).fin b l
   simp only[AF.aC]
   split
   · rfl
   · exact ih d
 intro h tmps S F
 cases l with
 | nil=>exact⟨S,bQ.refl _ _,fun d=>by rw[key];exact(F d).soft⟩
 | cons y l=>
  have hst:(a9 st b (y::l)) b=some (.cells ((y::l).flatMap AV.cells)):=aA.aH _ _ _
  have he:(a9 st b (y::l)).erase b=st:=aA.yI st b _ (hb (by simp))
  have L1:fA (jD L) (a9 st b (y::l)) (fun d=>(jD L d).fz b (y::l)) st:=by
   have:=fA.freeze (φ:=jD L) hst hj hE
   rwa [he] at this
  obtain⟨a1,a2,a3⟩:=L1 h tmps S F
  exact⟨a1,a2,fun d=>by rw[key];exact(a3 d).soft⟩
theorem DU{P:Program}{N:Nat}{c:Code}{Q:Exit→AF→aA→Prop}{φ:AF}{st:aA}{α σ:Type}(mt:List Nat)(aY:List Nat)(l:List α)(w d:Nat)(acc:Nat→σ→List AV)(inv:Nat→σ→Prop)(ch:Nat→σ→List (Nat×AV))(so:Nat→σ→aA)
 (hw:∀i s,inv i s→∀e∈acc i s,e.bR=false∧e.width=w)
 (hok:codeOk N c=true)
 (h0:∃s b,inv 0 s∧(acc 0 s≠[]→so 0 s b=none)∧aO φ st (jU φ aY ((d,bK w b (acc 0 s))::ch 0 s)) (a9 (so 0 s) b (acc 0 s)))
 (h1:∀i x s b,l[i]?=some x→i<l.length→((i:Int)<(l.length:Int))→l.drop i=x::l.drop (i+1)→inv i s→(acc i s≠[]→so i s b=none) →
  eW P N mt c (oA (fun φ' st'=>∃s' b',inv (i+1) s'∧(acc (i+1) s'≠[]→so (i+1) s' b'=none)∧aO φ' st' (jU φ aY ((d,bK w b' (acc (i+1) s'))::ch (i+1) s')) (a9 (so (i+1) s') b' (acc (i+1) s'))) Q) (u7 (jU φ aY ((d,bK w b (acc i s))::ch i s))) (a9 (so i s) b (acc i s)))
 (h2:∀s b,¬((l.length:Int)<(l.length:Int))→inv l.length s→eW P N mt c (oA (fun _ _=>False) Q) (u7 (u6 b (acc l.length s) (jU φ aY ((d,bK w b (acc l.length s))::ch l.length s)))) (so l.length s)):eG P N (.loop c) Q φ st:=by
 have mH:∀(k:AF→aA→Prop) (φ0:AF) (st0:aA) (k':AF→aA→Prop),(∀φ' st',k' φ' st'→k φ' st') →
  eG P N c (oA k' Q) φ0 st0→eG P N c (oA k Q) φ0 st0:=by
  intro k φ0 st0 k' hk hr a w R
  refine wp_mono (hr a w R) ?_
  rintro e a' w' ⟨φ',st',R',T,sm,q⟩
  refine⟨φ',st',R',T,sm,?_⟩
  cases e with
  | normal=>exact hk _ _ q
  | _=>exact q
 refine MK (α:=Nat×σ×Nat) (fun p=>p.1≤l.length∧inv p.1 p.2.1∧(acc p.1 p.2.1≠[]→so p.1 p.2.1 p.2.2=none)) (fun p=>jD (jU φ aY ((d,bK w p.2.2 (acc p.1 p.2.1))::ch p.1 p.2.1))) (fun p=>a9 (so p.1 p.2.1) p.2.2 (acc p.1 p.2.1)) (fun p=>l.length - p.1) ?_ ?_
 · obtain⟨s,b,hs,hb,hl⟩:=h0
   exact⟨(0,s,b),⟨iI _,hs,hb⟩,hl⟩
 · rintro⟨i,s,b⟩ ⟨hi,hs,hb⟩
   simp only at hi hs hb ⊢
   rcases kK i l.length with hlt | hge
   · refine mH _ _ _ _ ?_ (nW mt hok (h1 i l[i] s b (eL hlt) hlt (by omega) (uA hlt) hs hb))
     rintro φ' st' ⟨s',b',h1',h2',h3'⟩
     exact⟨(i+1,s',b'),by simp only;omega,⟨by simp only;omega,h1',h2'⟩,h3'⟩
   · obtain rfl:i=l.length:=by omega
     refine eG.less (aYP b (acc l.length s) hb (fun e he=>(hw _ s hs e he).1) ⟨w,fun e he=>(hw _ s hs e he).2⟩ _) ?_
     refine mH _ _ _ _ ?_ (nW mt hok (h2 s b (by omega) hs))
     exact fun _ _ h=>h.elim
section
variable {P:Program}
def NY(ops:Array Oper)(S:List Nat)(j:Nat):Bool:=S.all fun i=>tB ops ops.size j i
def uK(P:Program)(ops:Array Oper)(S:List Nat)(s0:aA)(K:AF→aA→Prop):Nat→Array Bool→AF→aA→Prop
 | 0,listed,φ,st=>Region.ready .any ops listed= []∧K φ st
 | f+1,listed,φ,st=>(Region.ready .any ops listed= []→K φ st)∧∀i∈Region.ready .any ops listed,∃o,ops[i]?=some o ∧
  ((S.contains i=true∧∃r,iW P st ops o r φ∧uK P ops S s0 K f (listed.setIfInBounds i true) (φ.put o.dst r) st) ∨
   (S.contains i=false∧gY P ops o φ st (fun r st'=>(NY ops S i=true∨eC s0 st')∧uK P ops S s0 K f (listed.setIfInBounds i true) (φ.put o.dst r) st')))
theorem HJ{ops:Array Oper}{S:List Nat}{s0:aA}{K:AF→aA→Prop}:∀(f:Nat) (listed:Array Bool) (φ:AF) (st:aA),uK P ops S s0 K f listed φ st→HH P ops K f listed φ st
 | 0,_,_,_,h=>h
 | f+1,listed,φ,st,h=>by
  refine⟨h.1,fun i hi=>?_⟩
  obtain⟨o,ho,h2⟩:=h.2 i hi
  refine⟨o,ho,?_⟩
  rcases h2 with ⟨_,r,y,k⟩ | ⟨_,k⟩
  · exact SF y (HJ f _ _ _ k)
  · exact rO (fun r s q=>HJ f _ _ _ q.2) k
theorem R5{ops:Array Oper}{S:List Nat}{s0:aA}{i:Nat}{oi:Oper}{v:AV}{K:AF→aA→Prop}(hi:ops[i]?=some oi)(hS:S.contains i=true) :
 ∀(f:Nat) (listed:Array Bool) (φ:AF) (st:aA),rK ops listed →
  (∀j oj,ops[j]?=some oj→j≠i→listed.getD j true=false→(∀e∈oj.after,Region.binds .any e=true→e.on≠i)→oi.apart ops oj=true) →
  i∈Region.ready .any ops listed→(∀s,eC s0 s→iW P s ops oi v φ)→eC s0 st →
  uK P ops S s0 K f (listed.setIfInBounds i true) (φ.put oi.dst v) st→uK P ops S s0 K (f+1) listed φ st:=by
 intro f
 induction f with
 | zero=>
  intro listed φ st hcl _ hr hy hx H
  refine⟨fun h=>(by rw[h] at hr;cases hr),fun j hj=>?_⟩
  by_cases hji:j=i
  · subst hji;exact⟨oi,hi,.inl ⟨hS,v,hy st hx,H⟩⟩
  · have:=ready_mono hj hji
    rw[H.1] at this
    cases this
 | succ f ih=>
  intro listed φ st hcl r8 hr hy hx H
  refine⟨fun h=>(by rw[h] at hr;cases hr),fun j hj=>?_⟩
  by_cases hji:j=i
  · subst hji;exact⟨oi,hi,.inl ⟨hS,v,hy st hx,H⟩⟩
  · obtain⟨oj,hoj,h1⟩:=H.2 j (ready_mono hj hji)
    obtain⟨n5,oj',yV,c9⟩:=mem_ready.1 hj
    have:oj'=oj:=mL (yV.symm.trans hoj)
    subst this
    have hun:=(mem_ready.1 hr).1
    have vI:∀e∈oj'.after,Region.binds .any e=true→e.on≠i:=fun e he hb heq=>by
     have h1:=c9 e he hb
     rw[heq,getD_both hun] at h1
     cases h1
    obtain⟨a1,a2,a3⟩:=Oper.apart_spec (r8 j oj' hoj hji n5 vI)
    have tG:∀k ok,ops[k]?=some ok→k≠i→(listed.setIfInBounds j true).getD k true=false →
     (∀e∈ok.after,Region.binds .any e=true→e.on≠i)→oi.apart ops ok=true:=fun k ok hk hki hun hno=>by
     refine r8 k ok hk hki ?_ hno
     by_cases hjk:j=k
     · subst hjk;exact n5
     · rw[getD_set_ne true hjk] at hun;exact hun
    refine⟨oj',hoj,?_⟩
    rcases h1 with ⟨hSj,r,yj,h2⟩ | ⟨hSj,h2⟩
    · refine .inl ⟨hSj,r,(oX φ v a1).1 yj,ih (listed.setIfInBounds j true) (φ.put oj'.dst r) st (hcl.set hj) tG (ready_mono hr (dM hji)) (fun s hs=>(oX φ r a3).2 (hy s hs)) hx ?_⟩
      rw[AA _ _ hji,←put_comm φ v r a2]
      exact h2
    · refine .inr ⟨hSj,rO (fun r st' h3=>?_) ((MA φ v a1).1 h2)⟩
      refine⟨h3.1,?_⟩
      have hx':eC s0 st':=by
       rcases h3.1 with he | he
       · exfalso
         unfold NY at he
         have hd:=c6.1 he i (by simpa using hS)
         exact II hcl (getD_both hun) _ j oj' hoj hd c9
       · exact he
      refine ih (listed.setIfInBounds j true) (φ.put oj'.dst r) st' (hcl.set hj) tG (ready_mono hr (dM hji)) (fun s hs=>(oX φ r a3).2 (hy s hs)) hx' ?_
      rw[AA _ _ hji,←put_comm φ v r a2]
      exact h3.2
def qZ(ops:Array Oper)(S:List Nat):List (Nat×Nat)→Array Bool→Bool
 | [],listed=>(Region.ready .any ops listed).isEmpty
 | (i,0)::r,listed=>decide (Region.ready .any ops listed= [i])&& !S.contains i&&qZ ops S r (listed.setIfInBounds i true)
 | (i,1)::r,listed=>(Region.ready .any ops listed).contains i&&Region.free .any ops listed i&&S.contains i&&qZ ops S r (listed.setIfInBounds i true)
 | (i,_)::r,listed=>decide (Region.ready .any ops listed= [i])&& !S.contains i&&NY ops S i&&qZ ops S r (listed.setIfInBounds i true)
def x7(P:Program)(ops:Array Oper)(s0:aA)(K:AF→aA→Prop):List (Nat×Nat)→AF→aA→Prop
 | [],φ,st=>K φ st
 | (i,0)::r,φ,st=>∃o,ops[i]?=some o∧gY P ops o φ st (fun v st'=>eC s0 st'∧x7 P ops s0 K r (φ.put o.dst v) st')
 | (i,1)::r,φ,st=>∃o,ops[i]?=some o∧∃v,(∀s,eC s0 s→iW P s ops o v φ)∧x7 P ops s0 K r (φ.put o.dst v) st
 | (i,_)::r,φ,st=>∃o,ops[i]?=some o∧gY P ops o φ st (fun v st'=>x7 P ops s0 K r (φ.put o.dst v) st')
def y5:List (Nat×Nat)→Bool
 | []=>true
 | (_,0)::r=>y5 r
 | (_,1)::r=>y5 r
 | (_,_)::r=>r.all fun p=>p.2 != 1
theorem EJ{ops:Array Oper}{S:List Nat}{s0:aA}{K:AF→aA→Prop}:∀(p:List (Nat×Nat)) (listed:Array Bool) (φ:AF) (st:aA),rK ops listed→qZ ops S p listed=true→(y5 p=true∧eC s0 st∨(p.all fun q=>q.2 != 1)=true)→x7 P ops s0 K p φ st→uK P ops S s0 K p.length listed φ st
 | [],listed,φ,st,_,hB,hx,h=>⟨by simpa [qZ] using hB,h⟩
 | (i,0)::r,listed,φ,st,hcl,hB,hx,h=>by
  simp only[qZ,bD,bA,i9] at hB
  obtain⟨o,ho,h'⟩:=h
  have hr:i∈Region.ready .any ops listed:=by rw[hB.1.1];simp
  refine⟨fun h0=>(by rw[hB.1.1] at h0;cases h0),fun j hj=>?_⟩
  rw[hB.1.1] at hj
  obtain rfl:j=i:=by simpa using hj
  refine⟨o,ho,.inr ⟨hB.1.2,rO (fun v st' q=>⟨.inr q.1,EJ r _ _ _ (hcl.set hr) hB.2 ?_ q.2⟩) h'⟩⟩
  rcases hx with hx | hx
  · exact .inl ⟨hx.1,q.1⟩
  · refine .inr ?_
    simp only[iS,bD] at hx
    exact hx.2
 | (i,1)::r,listed,φ,st,hcl,hB,hx,h=>by
  simp only[qZ,bD] at hB
  obtain⟨⟨⟨hr,hf⟩,hS⟩,hB'⟩:=hB
  obtain⟨o,ho,v,hv,h'⟩:=h
  have hr':i∈Region.ready .any ops listed:=by simpa using hr
  rcases hx with hx | hx
  · exact R5 ho hS _ listed φ st hcl (Region.free_spec ho hf) hr' hv hx.2 (EJ r _ _ _ (hcl.set hr') hB' (.inl hx) h')
  · simp at hx
 | (i,k+2)::r,listed,φ,st,hcl,hB,hx,h=>by
  simp only[qZ,bD,bA,i9] at hB
  obtain⟨o,ho,h'⟩:=h
  have hr:i∈Region.ready .any ops listed:=by rw[hB.1.1.1];simp
  refine⟨fun h0=>(by rw[hB.1.1.1] at h0;cases h0),fun j hj=>?_⟩
  rw[hB.1.1.1] at hj
  obtain rfl:j=i:=by simpa using hj
  refine⟨o,ho,.inr ⟨hB.1.1.2,rO (fun v st' q=>⟨.inl hB.1.2,EJ r _ _ _ (hcl.set hr) hB.2 (.inr ?_) q⟩) h'⟩⟩
  rcases hx with hx | hx
  · exact hx.1
  · simp only[iS,bD] at hx
    exact hx.2
theorem aNL{N:Nat}{id:Nat}{ops:Array Oper}{Q:Exit→AF→aA→Prop}{φ:AF}{st:aA}(p:List (Nat×Nat))(S:List Nat)(s0:aA)(hm:P.follows .mixedOrders=true)(hok:oD N ops=true)(hl:p.length=ops.size)(hB:qZ ops S p (Array.replicate ops.size false)=true)(hf:y5 p=true)(hs:eC s0 st)
 (h:x7 P ops s0 (Q .normal) p φ st):eG P N (.region id ops true) Q φ st:=by
 intro a w R
 refine wp_region_any hm ?_
 have R0:Rel N a { w with drawn:=w.drawn+1 } φ st:=⟨R.size,R.defers,R.frame,R.store⟩
 have:=HJ _ _ _ _ (EJ p _ φ st (fun j o _ hl=>(by rw[N4] at hl;cases hl)) hB (.inl ⟨hf,hs⟩) h)
 rw[hl] at this
 exact HI (w6 hok) (vQ hok) (w0:=w) (st0:=st) (fun φ' st' a' w' k R' T s=>⟨φ',st',R',T,s,k⟩) _ _ _ _ _ _ this R0 (bQ.refl _ _) ⟨rfl,rfl,rfl⟩
def fV(P:Program)(ops:Array Oper)(s0:aA)(K:AF→aA→Prop):List (Nat×Nat)→AF→aA→Prop
 | [],φ,st=>K φ st
 | (i,0)::r,φ,st=>match ops[i]? with
  | none=>False
  | some o=>aW P [] ops [o] (fun φ' st'=>eC s0 st'∧fV P ops s0 K r φ' st') φ st
 | (i,1)::r,φ,st=>match ops[i]? with
  | none=>False
  | some o=>if jM o=true then aW P [] ops [o] (fun φ' _=>fV P ops s0 K r φ' st) φ s0 else
   match o.guard,o.op with
   | none,.call { callee:=.value f,args,.. }=>∃v,(∀s,eC s0 s→rV P (φ.eval f) (args.toList.map φ.eval) s (fun r' s'=>r'=v∧s'=s))∧fV P ops s0 K r (φ.put o.dst v) st
   | _,_=>False
 | (i,_)::r,φ,st=>match ops[i]? with
  | none=>False
  | some o=>aW P [] ops [o] (fun φ' st'=>fV P ops s0 K r φ' st') φ st
theorem sT{ops:Array Oper}{s0:aA}{K:AF→aA→Prop}:∀(p:List (Nat×Nat)) (φ:AF) (st:aA),fV P ops s0 K p φ st→x7 P ops s0 K p φ st
 | [],_,_,h=>h
 | (i,0)::r,φ,st,h=>by
  simp only[fV] at h
  split at h
  · exact h.elim
  · rename_i o ho
    refine⟨o,ho,?_⟩
    simp only[aW] at h
    unfold gY
    split at h
    · rename_i hg
      rw[hg]
      exact x8 (fun v s q=>⟨q.1,sT r _ _ q.2⟩) h
    · rename_i hg
      rw[hg]
      exact⟨h.1,sT r _ _ h.2⟩
    · exact h.elim
 | (i,1)::r,φ,st,h=>by
  simp only[fV] at h
  split at h
  · exact h.elim
  · rename_i o ho
    split at h
    · rename_i hp
      simp only[aW] at h
      split at h
      · rename_i hg
        rw[rP hp] at h
        split at h
        · rename_i v hv
          refine⟨o,ho,v,fun s hs=>.inl ⟨hg,?_⟩,sT r _ _ h⟩
          rw[rP hp,SD hs hv]
          exact⟨rfl,rfl⟩
        · exact h.elim
      · rename_i hg
        exact⟨o,ho,.undef,fun s _=>.inr ⟨hg,rfl⟩,sT r _ _ h⟩
      · exact h.elim
    · split at h
      · rename_i f args ats hg hop
        obtain⟨v,h1,h2⟩:=h
        refine⟨o,ho,v,fun s hs=>.inl ⟨by simp only[gX,hg],?_⟩,sT r _ _ h2⟩
        simp only[eE,hop]
        exact h1 s hs
      · exact h.elim
 | (i,k+2)::r,φ,st,h=>by
  simp only[fV] at h
  split at h
  · exact h.elim
  · rename_i o ho
    refine⟨o,ho,?_⟩
    simp only[aW] at h
    unfold gY
    split at h
    · rename_i hg
      rw[hg]
      exact x8 (fun v s q=>sT r _ _ q) h
    · rename_i hg
      rw[hg]
      exact sT r _ _ h
    · exact h.elim
end
def PL(P:Program)(ops:Array Oper)(s0:aA)(K:AF→aA→Prop)(r:List (Nat×Nat))(φ:AF)(st:aA):Prop:=eC s0 st∧fV P ops s0 K r φ st
def PJ(P:Program)(ops:Array Oper)(s0:aA)(K:AF→aA→Prop)(r:List (Nat×Nat))(φ:AF)(st:aA):Prop:=fV P ops s0 K r φ st
def PI(P:Program)(ops:Array Oper)(s0:aA)(K:AF→aA→Prop)(r:List (Nat×Nat))(st:aA)(φ:AF)(_:aA):Prop:=fV P ops s0 K r φ st
def PH(P:Program)(ops:Array Oper)(s0:aA)(K:AF→aA→Prop)(r:List (Nat×Nat))(φ:AF)(dst:Option Tmp)(st:aA)(v:AV):Prop:=fV P ops s0 K r (φ.put dst v) st
def UM(P:Program)(s0:aA)(f:AV)(args:List AV)(K:AV→Prop):Prop:=∃v,(∀s,eC s0 s→rV P f args s (fun r' s'=>r'=v∧s'=s))∧K v
def CQ(P:Program)(ops:Array Oper)(s0:aA)(K:AF→aA→Prop)(r:List (Nat×Nat))(φ:AF)(st:aA):Nat→Option Oper→Prop
 | 0,some o=>aW P [] ops [o] (PL P ops s0 K r) φ st
 | 1,some o=>if jM o=true then aW P [] ops [o] (PI P ops s0 K r st) φ s0 else
  match o.guard,o.op with
  | none,.call { callee:=.value f,args,.. }=>UM P s0 (φ.eval f) (args.toList.map φ.eval) (PH P ops s0 K r φ o.dst st)
  | _,_=>False
 | _,some o=>aW P [] ops [o] (PJ P ops s0 K r) φ st
 | _,none=>False
theorem aBZ{P:Program}{ops:Array Oper}{s0:aA}{K:AF→aA→Prop}{φ:AF}{st:aA}:fV P ops s0 K [] φ st=K φ st:=rfl
theorem aB0{P:Program}{l:List Oper}{s0:aA}{K:AF→aA→Prop}{φ:AF}{st:aA}{i b:Nat}{r:List (Nat×Nat)}:fV P l.toArray s0 K ((i,b)::r) φ st=CQ P l.toArray s0 K r φ st b l[i]?:=by
 match b with
 | 0=>simp only[fV,v8];cases l[i]?<;>rfl
 | 1=>simp only[fV,v8];cases l[i]?<;>rfl
 | b+2=>simp only[fV,v8];cases l[i]?<;>rfl
theorem aB5{P:Program}{ops:Array Oper}{s0:aA}{K:AF→aA→Prop}{φ:AF}{st:aA}{r:List (Nat×Nat)}{o:Oper}:CQ P ops s0 K r φ st 0 (some o)=aW P [] ops [o] (PL P ops s0 K r) φ st:=rfl
theorem aB6{P:Program}{ops:Array Oper}{s0:aA}{K:AF→aA→Prop}{φ:AF}{st:aA}{r:List (Nat×Nat)}{o:Oper}:CQ P ops s0 K r φ st 1 (some o)=if jM o=true then aW P [] ops [o] (PI P ops s0 K r st) φ s0 else
      match o.guard,o.op with
      | none,.call { callee:=.value f,args,.. }=>UM P s0 (φ.eval f) (args.toList.map φ.eval) (PH P ops s0 K r φ o.dst st)
      | _,_=>False:=rfl
theorem aB7{P:Program}{ops:Array Oper}{s0:aA}{K:AF→aA→Prop}{φ:AF}{st:aA}{r:List (Nat×Nat)}{o:Oper}:CQ P ops s0 K r φ st 2 (some o)=aW P [] ops [o] (PJ P ops s0 K r) φ st:=rfl
theorem aB4{P:Program}{ops:Array Oper}{s0:aA}{K:AF→aA→Prop}{φ:AF}{st:aA}{r:List (Nat×Nat)}:PL P ops s0 K r φ st=(eC s0 st∧fV P ops s0 K r φ st):=rfl
theorem aB3{P:Program}{ops:Array Oper}{s0:aA}{K:AF→aA→Prop}{φ:AF}{st:aA}{r:List (Nat×Nat)}:PJ P ops s0 K r φ st=fV P ops s0 K r φ st:=rfl
theorem aB2{P:Program}{ops:Array Oper}{s0:aA}{K:AF→aA→Prop}{φ:AF}{st s:aA}{r:List (Nat×Nat)}:PI P ops s0 K r st φ s=fV P ops s0 K r φ st:=rfl
theorem aB1{P:Program}{ops:Array Oper}{s0:aA}{K:AF→aA→Prop}{φ:AF}{st:aA}{r:List (Nat×Nat)}{dst:Option Tmp}{v:AV}:PH P ops s0 K r φ dst st v=fV P ops s0 K r (φ.put dst v) st:=rfl
@[congr] theorem a4A {P:Program} {ops:Array Oper} {s0:aA} {K:AF→aA→Prop} {p:List (Nat×Nat)} {φ φ':AF} {st st':aA} (h1:φ=φ') (h2:st=st'):fV P ops s0 K p φ st=fV P ops s0 K p φ' st':=by rw[h1,h2]
@[congr] theorem a4L {P:Program} {ops:Array Oper} {s0:aA} {K:AF→aA→Prop} {p:List (Nat×Nat)} {φ φ':AF} {st st':aA} {b:Nat} {o o':Option Oper} (h1:φ=φ') (h2:st=st') (h3:o=o'):CQ P ops s0 K p φ st b o=CQ P ops s0 K p φ' st' b o':=by rw[h1,h2,h3]
theorem z5{P:Program}{N:Nat}{id:Nat}{l:List Oper}{Q:Exit→AF→aA→Prop}{φ:AF}{st:aA}(p:List (Nat×Nat))(S:List Nat)(s0:aA)(hm:P.follows .mixedOrders=true)(hok:oD N l.toArray=true)(hl:p.length=l.length)(hB:qZ l.toArray S p (Array.replicate l.length false)=true)(hf:y5 p=true)(hs:eC s0 st)
 (h:fV P l.toArray s0 (Q .normal) p φ st):eG P N (.region id l.toArray true) Q φ st:=
 aNL p S s0 hm hok (by simpa using hl) (by simpa using hB) hf hs (sT p φ st h)
def aIN(K:AV→aA→Prop)(st:aA):Option AV→Option AV→Prop
 | some r,some s=>kY [r,s]=true∧K (.tup [r,s]) st
 | _,_=>False
theorem aCN{P:Program}{φ:AF}{st:aA}{p q:Tmp}{t u:TypeId}{K:AV→aA→Prop}:mR P [.cell p t,.cell q u] K φ st=aIN K st (f0 P st t (φ p)) (f0 P st u (φ q)):=by
 simp only[mR,nT,A0]
 cases f0 P st t (φ p)<;>cases f0 P st u (φ q)<;>rfl
theorem aCO{st:aA}{K:AV→aA→Prop}{r s:AV}:aIN K st (some r) (some s)=(kY [r,s]=true∧K (.tup [r,s]) st):=rfl
def one(b:Nat)(o:AO):aA:=eF.aC b o
theorem FT{b:Nat}{o:AO}:one b o b=some o:=aA.aH _ _ _
theorem hJ{b:Nat}{o:AO}{st:aA}(h:st b=some o):eC (one b o) st:=fun x p hx=>by
 simp only[one,aA.aC] at hx
 split at hx
 · rename_i e;cases hx;rw[e];exact h
 · cases hx
theorem d4{st:aA}:eC eF st:=fun x p hx=>by cases hx
section
variable {α:Type}
def qQ(f:α→α→Bool):List α→List α→Bool
 | [],[]=>true
 | x::xs,y::ys=>f x y&&qQ f xs ys
 | _,_=>false
theorem NV(f:α→α→Bool):∀ {a b:List α},a.length≠b.length→qQ f a b=false
 | [],[],h=>absurd rfl h
 | [],_::_,_=>rfl
 | _::_,[],_=>rfl
 | x::xs,y::ys,h=>by simp only[qQ,NV f (a:=xs) (b:=ys) (by simpa using h),rI]
theorem NU(f:α→α→Bool):∀ {a b:List α} (i:Nat) (x y:α),a[i]?=some x→b[i]?=some y→f x y=false→qQ f a b=false
 | [],_,i,x,y,h,_,_=>by simp at h
 | _::_,[],i,x,y,_,h,_=>by simp at h
 | t::ts,t'::ts',0,x,y,h1,h2,h=>by
  simp at h1 h2;subst h1;subst h2
  simp only[qQ,h,eJ]
 | t::ts,t'::ts',i+1,x,y,h1,h2,h=>by
  simp only[qQ,NU f (a:=ts) (b:=ts') i x y (by simpa using h1) (by simpa using h2) h,rI]
theorem NT(f:α→α→Bool):∀ {a b:List α},a.length=b.length→(∀(i:Nat) (x y:α),a[i]?=some x→b[i]?=some y→f x y=true)→qQ f a b=true
 | [],[],_,_=>rfl
 | t::ts,t'::ts',h,g=>by
  simp only[qQ,bD]
  exact⟨g 0 t t' rfl rfl,NT f (by simpa using h) fun i x y h1 h2=>g (i+1) x y (by simpa using h1) (by simpa using h2)⟩
def bH(f:α→Nat):List α→Nat
 | []=>0
 | x::xs=>f x+bH f xs
theorem GE(f:α→Nat):∀ {l:List α} {i:Nat} {x:α},l[i]?=some x→bH f (l.take (i+1))=bH f (l.take i)+f x∧bH f (l.take (i+1))≤bH f l
 | [],i,x,h=>by simp at h
 | y::ys,0,x,h=>by simp at h;subst h;simp [bH]
 | y::ys,i+1,x,h=>by
  have:=GE f (l:=ys) (i:=i) (x:=x) (by simpa using h)
  simp only[uE,bH] at this ⊢
  omega
theorem GD{f:α→Nat}:∀ {l:List α} {x:α},x∈l→f x≤bH f l
 | y::ys,x,h=>by
  simp only[cL] at h
  simp only[bH]
  rcases h with rfl | h
  · omega
  · have:=GD (f:=f) h;omega
theorem bS{P:Program}{t:TypeId}{ag:Bool}{w:Nat}{av:α→AV}{l:List α}{i:Nat}{x:α}(hI:eI P t=some (ag,w))(h:l[i]?=some x)(hw:(av x).width=w):dT P t (.slice (l.map av)) (.int .i64 (i:Int))=some (.pptr (av x)):=by
 simp only[dT,hI,gI,lK,h,oT,hw]
 simp
theorem aTQ{av:α→AV}{w:Nat}(hw:∀x,(av x).width=w)(l:List α):gW (l.map av):=⟨w,by intro e h;simp only[cM] at h;obtain⟨t,_,rfl⟩:=h;exact hw t⟩
theorem O0(zs:List AV)(hz:zs≠[])(n:Nat):jG zs n=(List.replicate n zs).flatten:=by
 have hl:0<zs.length:=by cases zs with | nil=>exact absurd rfl hz | cons=>simp
 apply G9
 intro i
 unfold jG
 induction n generalizing i with
 | zero=>simp
 | succ n ih=>
  rw[LX,List.flatten_cons]
  rcases kK i zs.length with h | h
  · rw[RH h]
    have:i<(n+1)*zs.length:=by rw[qA];omega
    simp [this,D1 h,h]
  · rw[LQ h,←ih]
    have e1:i % zs.length=(i - zs.length) % zs.length:=by rw[Nat.mod_eq_sub_mod h]
    simp only[lK]
    by_cases h2:i - zs.length<n*zs.length
    · have h3:i<(n+1)*zs.length:=by rw[qA];omega
      simp [h2,h3,e1]
    · have h3:¬i<(n+1)*zs.length:=by rw[qA];omega
      simp [h2,h3]
end
theorem J2{zs:List AV}{x:List AV}{w:Nat}(h1:x.length=w)(h2:zs.length=w):aG zs 0 x=x:=by
 unfold aG
 simp [h1,h2]
theorem fJ{x:AV}(h:x.isAgg=true):AV.agg x.cells=x:=by cases x<;>simp [AV.isAgg] at h<;>rfl
theorem fL{x:List AV}{w:Nat}(h:x.length=w):x.take w=x:=by rw[←h];exact d6
inductive Tm where
 | mk (kind n:Int) (name:ByteArray) (kids:List Tm)
mutual
def Tm.av:Tm→AV
 | .mk k n s ts=>.agg [.int .i64 k,.int .i64 n,.str s,.slice (KR ts)]
def KR:List Tm→List AV
 | []=>[]
 | t::ts=>t.av::KR ts
end
theorem aKO:∀(ts:List Tm),KR ts=ts.map Tm.av
 | []=>rfl
 | t::ts=>by simp only[KR,bL,aKO ts]
theorem bU(k n:Int)(s:ByteArray)(ts:List Tm):(Tm.mk k n s ts).av=.agg [.int .i64 k,.int .i64 n,.str s,.slice (ts.map Tm.av)]:=by simp only[Tm.av,aKO]
mutual
def Tm.same:Tm→Tm→Bool
 | .mk k n s ts,.mk k' n' s' ts'=>decide (k=k')&&decide (n=n')&&decide (s=s')&&KZ ts ts'
def KZ:List Tm→List Tm→Bool
 | [],[]=>true
 | t::ts,t'::ts'=>t.same t'&&KZ ts ts'
 | _,_=>false
end
theorem aKV:∀(a b:List Tm),KZ a b=qQ Tm.same a b
 | [],[]=>rfl
 | [],_::_=>rfl
 | _::_,[]=>rfl
 | t::ts,t'::ts'=>by simp only[KZ,qQ,aKV ts ts']
theorem Tm.aIU(k n:Int)(s:ByteArray)(ts:List Tm)(k' n':Int)(s':ByteArray)(ts':List Tm):(Tm.mk k n s ts).same (Tm.mk k' n' s' ts')=(decide (k=k')&&decide (n=n')&&decide (s=s')&&qQ Tm.same ts ts'):=by simp only[Tm.same,aKV]
theorem bM(t:Tm):t.av.isAgg=true:=by cases t;rfl
theorem aP(t:Tm):t.av.width=4:=by cases t;rfl
theorem cI(t:Tm):t.av.cells.length=4:=by cases t;rfl
theorem cR(t:Tm):t.av.cells.all AV.storable=true:=by cases t;rfl
theorem cT(t:Tm):t.av.bR=false:=by cases t;rfl
theorem aEH{t:Tm}:t.av.isAgg=true:=bM t
theorem aEQ{t:Tm}:t.av.width=4:=aP t
theorem aEO{t:Tm}:t.av.cells.all AV.storable=true:=cR t
theorem aEK{t:Tm}:t.av.bR=false:=cT t
theorem aEL{t:Tm}:t.av.cells.length=4:=cI t
theorem aEP{t:Tm}:t.av.cells.take 4=t.av.cells:=fL (cI t)
theorem aEI{t:Tm}:AV.agg t.av.cells=t.av:=fJ (bM t)
theorem aEM{t:Tm}{a b c d:AV}:aG [a,b,c,d] 0 t.av.cells=t.av.cells:=J2 (cI t) rfl
theorem aEN{t u:Tm}:aG u.av.cells 0 t.av.cells=t.av.cells:=J2 (cI t) (cI u)
theorem aD9{st:aA}{b:Nat}{o o':AO}:(st.aC b o).aC b o'=st.aC b o':=dW st b o o'
theorem aD8{st:aA}{b:Nat}{o:AO}:(st.aC b o) b=some o:=aA.aH st b o
theorem aD7{st:aA}{b x:Nat}{o:AO}(h:x≠b):(st.aC b o) x=st x:=aA.aJ st o h
theorem aEJ{t:Tm}:t.av.cells.drop 4= []:=List.drop_of_length_le (by rw[cI];exact cX _)
inductive Pf where
 | mk (goal:Tm) (clause:Int) (kids:List Pf)
mutual
def Pf.av:Pf→AV
 | .mk (.mk k n s ts) c ps=>.agg [.int .i64 k,.int .i64 n,.str s,.slice (ts.map Tm.av),.int .i64 c,.slice (aIA ps)]
def aIA:List Pf→List AV
 | []=>[]
 | t::ts=>t.av::aIA ts
end
mutual
def Pf.same:Pf→Pf→Bool
 | .mk g c ps,.mk g' c' ps'=>g.same g'&&decide (c=c')&&aIB ps ps'
def aIB:List Pf→List Pf→Bool
 | [],[]=>true
 | t::ts,t'::ts'=>t.same t'&&aIB ts ts'
 | _,_=>false
end
def cV(s:ByteArray):Nat:=
 cond (decide (s=⟨#[61]⟩)||decide (s=⟨#[92,61]⟩)||decide (s=⟨#[61,61]⟩)||decide (s=⟨#[60]⟩)||decide (s=⟨#[62]⟩)||decide (s=⟨#[61,60]⟩)||decide (s=⟨#[62,61]⟩)||decide (s=⟨#[61,58,61]⟩)||decide (s=⟨#[105,115]⟩)) 3 (cond (decide (s=⟨#[43]⟩)||decide (s=⟨#[45]⟩)) 2 (cond (decide (s=⟨#[42]⟩)||decide (s=⟨#[47,47]⟩)||decide (s=⟨#[109,111,100]⟩)) 1 0))
def isBuiltin(s:ByteArray)(n:Int):Bool:=
 cond (decide (s=⟨#[61]⟩)||decide (s=⟨#[92,61]⟩)||decide (s=⟨#[61,61]⟩)||decide (s=⟨#[60]⟩)||decide (s=⟨#[62]⟩)||decide (s=⟨#[61,60]⟩)||decide (s=⟨#[62,61]⟩)||decide (s=⟨#[61,58,61]⟩)||decide (s=⟨#[105,115]⟩)) (decide (n=2)) (cond (decide (s=⟨#[116,114,117,101]⟩)||decide (s=⟨#[102,97,105,108]⟩)) (decide (n=0)) (cond (decide (s=⟨#[118,97,114]⟩)||decide (s=⟨#[110,111,110,118,97,114]⟩)||decide (s=⟨#[97,116,111,109]⟩)||decide (s=⟨#[105,110,116]⟩)) (decide (n=1)) (cond (decide (s=⟨#[97,114,103]⟩)) (decide (n=3)) false)))
abbrev sb (s:ByteArray):List UInt8:=s.data.toList
theorem b9(s:ByteArray):(sb s).length=s.size:=by simp only[sb,Array.length_toList];rfl
theorem pP{P:Program}{t:TypeId}{s:ByteArray}{i:Nat}{c:UInt8}(hu:P.underlying t=some .string)(h:(sb s)[i]?=some c):AT P t (.str s) (.int .i64 (i:Int))=some (.int .u8 (c.toNat:Int)):=by
 have hi:i<s.size:=by rw[←b9];exact(fM.1 h).1
 have:s[i]?=some c:=by
  rw[getElem?_pos s i hi]
  obtain⟨h1,h2⟩:=fM.1 h
  rw[←h2]
  try rfl
 simp only[AT,hu,gI,this]
 simp
def letter(c:UInt8):Bool:=decide (97≤c.toNat)&&decide (c.toNat≤122)
def qW(s:ByteArray):Bool:=(sb s).all letter&&(decide ((1:Int)≤(s.size:Int))&&decide ((s.size:Int)≤6))
theorem rS{α:Type}{p:α→Bool}{l:List α}{i:Nat}{x:α}(h:l[i]?=some x)(hp:p x=false):l.all p=false:=by
 rw[List.all_eq_false]
 exact⟨x,cQ h,by simp [hp]⟩
theorem HO{α:Type}{p:α→Bool}{l:List α}(h:∀(i:Nat) x,l[i]?=some x→p x=true):l.all p=true:=by
 rw[c6]
 intro x hx
 obtain⟨i,hi⟩:=DW hx
 exact h i x hi
end Go.AW
