/- Loops whose frame is kept, lists that are walked, lists that grow. -/
import Derived.Test.YtimfffmcljmfgaaGreatDoorUze
set_option linter.unusedSimpArgs false
set_option linter.unusedVariables false
set_option maxRecDepth 100000
namespace Go.AW
def lI(φ:AF):List Nat→List (Nat×AV)→List (Nat×AV)
 | [],l=>l
 | d::ds,l=>(d,φ d)::lI φ ds l
theorem aHR{φ:AF}{l:List (Nat×AV)}:lI φ [] l=l:=rfl
theorem aHS{φ:AF}{d:Nat}{ds:List Nat}{l:List (Nat×AV)}:lI φ (d::ds) l=(d,φ d)::lI φ ds l:=rfl
theorem eH{P:Program}{N:Nat}{c:Code}{Q:Exit→AF→aB→Prop}{φ:AF}{st:aB}{α σ:Type}(mt:List Nat)(aV:List Nat)(l:List α)(inv:Nat→σ→Prop)(ch:Nat→σ→List (Nat×AV))(so:Nat→σ→aB)
 (hok:codeOk N c=true)
 (h0:∃s,inv 0 s∧aN φ st (lI φ aV (ch 0 s)) (so 0 s))
 (h1:∀i x s,l[i]?=some x→i<l.length→((i:Int)<(l.length:Int))→l.drop i=x::l.drop (i+1)→inv i s→gT P N mt c (qJ (fun φ' st'=>∃s',inv (i+1) s'∧aN φ' st' (lI φ aV (ch (i+1) s')) (so (i+1) s')) Q) (xO (lI φ aV (ch i s))) (so i s))
 (h2:∀s,¬((l.length:Int)<(l.length:Int))→inv l.length s→gT P N mt c (qJ (fun _ _=>False) Q) (xO (lI φ aV (ch l.length s))) (so l.length s)):g7 P N (.loop c) Q φ st:=by
 have mT:∀(k:AF→aB→Prop) (i:Nat) (s:σ),(∀φ' st',(∃s',inv (i+1) s'∧aN φ' st' (lI φ aV (ch (i+1) s')) (so (i+1) s'))→k φ' st') →
  g7 P N c (qJ (fun φ' st'=>∃s',inv (i+1) s'∧aN φ' st' (lI φ aV (ch (i+1) s')) (so (i+1) s')) Q) (k9 (lI φ aV (ch i s))) (so i s) →
  g7 P N c (qJ k Q) (k9 (lI φ aV (ch i s))) (so i s):=by
  intro k i s hk hr a w R
  refine wp_mono (hr a w R) ?_
  rintro e a' w' ⟨φ',st',R',T,sm,q⟩
  refine⟨φ',st',R',T,sm,?_⟩
  cases e with
  | normal=>exact hk _ _ q
  | _=>exact q
 refine QX (α:=Nat×σ) (fun p=>p.1≤l.length∧inv p.1 p.2) (fun p=>k9 (lI φ aV (ch p.1 p.2))) (fun p=>so p.1 p.2) (fun p=>l.length - p.1) ?_ ?_
 · obtain⟨s,hs,hl⟩:=h0
   exact⟨(0,s),⟨kA _,hs⟩,hl⟩
 · rintro⟨i,s⟩ ⟨hi,hs⟩
   simp only at hi hs ⊢
   rcases kX i l.length with hlt | hge
   · refine mT _ i s ?_ (HA mt hok (h1 i l[i] s (dZ hlt) hlt (by omega) (pQ hlt) hs))
     rintro φ' st' ⟨s',h1',h2'⟩
     exact⟨(i+1,s'),by simp only;omega,⟨by simp only;omega,h1'⟩,h2'⟩
   · obtain rfl:i=l.length:=by omega
     intro a w R
     refine wp_mono (HA mt hok (h2 s (by omega) hs) a w R) ?_
     rintro e a' w' ⟨φ',st',R',T,sm,q⟩
     refine⟨φ',st',R',T,sm,?_⟩
     cases e with
     | normal=>exact q.elim
     | _=>exact q
theorem iN{P:Program}{N:Nat}{c:Code}{Q:Exit→AF→aB→Prop}{φ:AF}{st:aB}{σ:Type}(mt:List Nat)(aV:List Nat)(inv:σ→Prop)(ch:σ→List (Nat×AV))(so:σ→aB)(μ:σ→Nat)
 (hok:codeOk N c=true)
 (h0:∃s,inv s∧aN φ st (lI φ aV (ch s)) (so s))
 (h1:∀s,inv s→gT P N mt c (qJ (fun φ' st'=>∃s',μ s'<μ s∧inv s'∧aN φ' st' (lI φ aV (ch s')) (so s')) Q) (xO (lI φ aV (ch s))) (so s)):g7 P N (.loop c) Q φ st:=
 pP mt inv (fun s=>lI φ aV (ch s)) so μ hok h0 h1
theorem aS{b:Bool}{p q:Prop}(h1:b=true→p)(h2:b=false→q):(b=true→p)∧(b=false→q):=⟨h1,h2⟩
theorem aHX{P:Program}{t:TypeId}{s:ByteArray}:m8 P t (.str s)=match P.underlying t with | some .string=>some (.int .i64 s.size) | _=>none:=rfl
theorem aHW{P:Program}{t:TypeId}{es:List AV}:m8 P t (.slice es)=match P.underlying t with | some (.slice _)=>some (.int .i64 es.length) | _=>none:=rfl
theorem aHU{P:Program}{t:TypeId}{es:List AV}:m8 P t (.fslice es)=match P.underlying t with | some (.slice _)=>some (.int .i64 es.length) | _=>none:=rfl
theorem aHV{P:Program}{t:TypeId}{b o n w:Nat}:m8 P t (.mslice b o n w)=match P.underlying t with | some (.slice _)=>some (.int .i64 n) | _=>none:=rfl
def bM(w b:Nat):List AV→AV
 | []=>.fslice []
 | x::l=>.mslice b 0 (x::l).length w
def a8(st:aB)(b:Nat):List AV→aB
 | []=>st
 | x::l=>st.aC b (.cells ((x::l).flatMap AV.cells))
theorem kB{w b:Nat}:bM w b []=.fslice []:=rfl
theorem yY{st:aB}{b:Nat}:a8 st b []=st:=rfl
theorem pW{w b:Nat}{l:List AV}(h:l≠[]):bM w b l=.mslice b 0 l.length w:=by cases l<;>first | exact absurd rfl h | rfl
theorem jY{st:aB}{b:Nat}{l:List AV}(h:l≠[]):a8 st b l=st.aC b (.cells (l.flatMap AV.cells)):=by cases l<;>first | exact absurd rfl h | rfl
theorem pU{st:aB}{b x:Nat}{l:List AV}(h:x≠b):a8 st b l x=st x:=by cases l<;>first | rfl | exact aB.aJ _ _ h
theorem D4{st:aB}{b x:Nat}{l:List AV}(h:a8 st b l x=none):st x=none∧(l≠[]→x≠b):=by
 cases l with
 | nil=>exact⟨h,fun h=>absurd rfl h⟩
 | cons y l=>
  simp only[a8,aB.aC] at h
  split at h
  · cases h
  · rename_i hn;exact⟨h,fun _=>hn⟩
theorem vD{w b:Nat}{l:List AV}:(bM w b l).cH=false:=by cases l<;>rfl
theorem mE{w b:Nat}{l:List AV}:(bM w b l).isAgg=false:=by cases l<;>rfl
theorem m9{w b:Nat}{l:List AV}:(bM w b l).cells= [bM w b l]:=by cases l<;>rfl
theorem eP{w b:Nat}{l:List AV}:(bM w b l).storable=true:=by cases l<;>rfl
theorem vE{P:Program}{t e:TypeId}{w b:Nat}{l:List AV}(h:P.underlying t=some (.slice e)):m8 P t (bM w b l)=some (.int .i64 (l.length:Int)):=by
 cases l<;>simp [bM,m8,h]
theorem aL.a8{st st':aB}(x:aL st st'){b:Nat}{l:List AV}(h:l≠[]→st' b=none):aL (a8 st b l) st':=by
 cases l with
 | nil=>exact x
 | cons y l=>exact x.aC (h (by simp))
theorem fG{P:Program}{t:TypeId}{ag:Bool}{w bytes:Nat}{zs:List AV}{st:aB}{b:Nat}{l xs:List AV}{x:AV}{K:AV→aB→Prop}
 (hI:eI P t=some (ag,w)) (hB:eB P t=some bytes) (hZ:eZ P t=some zs) (hz:zs.length=w) (hx:BL x=some xs) (fD:w8 w xs) (hw:∀e∈l,e.width=w) (hb:l≠[]→st b=none)
 (h1:(l.length+xs.length)*bytes≤140737488355328) (h2:l.length+xs.length≤9223372036854775807)
 (hK:∀b',(l++xs≠[]→st b'=none)→K (bM w b' (l++xs)) (a8 st b' (l++xs))):kY P t (a8 st b l) (bM w b l) x K:=by
 unfold kY
 rw[hI,hB,hZ,hx]
 refine⟨hz,fD,?_⟩
 cases l with
 | nil=>
  show _∧_∧_∧_∧_
  refine⟨by simpa using h1,by simpa using h2,by simp,?_,?_⟩
  · rintro rfl
    have:=hK b (by simp)
    simpa [bM,a8] using this
  · intro hne b' hb'
    have:=hK b' (fun _=>hb')
    rw[eS,pW hne,jY hne] at this
    simpa [a8] using this
 | cons y l=>
  have hb:=hb (by simp)
  show w=w∧_∧_∧_
  refine⟨rfl,h1,h2,?_⟩
  have hfl:((y::l).flatMap AV.cells).length=(y::l).length*w:=p6 hw
  simp only[a8,aB.aP]
  refine⟨by rw[hfl];exact dB _,?_,?_⟩
  · have:=hK b (fun _=>hb)
    rw[pW (by simp),jY (by simp),yR,dL] at this
    rw[c7,←hfl,eN]
    exact this
  · intro b' hb'
    have hne:b'≠b:=by rintro rfl;rw[aB.aP] at hb';cases hb'
    rw[aB.aJ _ _ hne] at hb'
    have:=hK b' (fun _=>hb')
    rw[pW (by simp),jY (by simp),yR,dL] at this
    rw[aB.vR _ _ _ hb,←hfl,eN]
    exact this
def AV.fin(b:Nat)(l:List AV)(r:AV):AV:=if l.isEmpty=true then r.soft else(r.fz b l).soft
theorem jE{w b:Nat}{l:List AV}:(bM w b l).fin b l=.slice l:=by cases l<;>simp [bM,AV.fin,AV.fz,AV.soft]
theorem AP:∀cs:List AV,iL cs=cs.map AV.soft
 | []=>rfl
 | c::cs=>by simp [iL,AP cs]
theorem MU{b:Nat}{l:List AV}:∀cs:List AV,lZ b l cs=cs.map (AV.fz b l)
 | []=>rfl
 | c::cs=>by simp [lZ,MU cs]
theorem gJ{b:Nat}{l:List AV}{cs:List AV}:(AV.agg cs).fin b l=.agg (cs.map (AV.fin b l)):=by
 unfold AV.fin
 split
 · simp [AV.soft,AP]
 · simp [AV.fz,AV.soft,AP,MU]
theorem kS{b:Nat}{l:List AV}{cs:List AV}:(AV.tup cs).fin b l=.tup (cs.map (AV.fin b l)):=by
 unfold AV.fin
 split
 · simp [AV.soft,AP]
 · simp [AV.fz,AV.soft,AP,MU]
theorem eT{b:Nat}{l:List AV}{k:IntKind}{n:Int}:(AV.int k n).fin b l=.int k n:=by unfold AV.fin;split<;>rfl
theorem q7{b:Nat}{l:List AV}{n:Bool}:(AV.bool n).fin b l=.bool n:=by unfold AV.fin;split<;>rfl
theorem jP{b:Nat}{l:List AV}{s:ByteArray}:(AV.str s).fin b l=.str s:=by unfold AV.fin;split<;>rfl
theorem jB{b:Nat}{l:List AV}{s:List AV}:(AV.slice s).fin b l=.slice s:=by unfold AV.fin;split<;>rfl
theorem o7{b:Nat}{l:List AV}{s:List AV}:(AV.fslice s).fin b l=.slice s:=by unfold AV.fin;split<;>rfl
theorem B4{b:Nat}{l:List AV}{e:AV}:(AV.pptr e).fin b l=.pptr e:=by unfold AV.fin;split<;>rfl
theorem H1{b c o:Nat}{l:List AV}:(AV.ptr c o).fin b l=.ptr c o:=by unfold AV.fin;split<;>rfl
theorem aMZ{b:Nat}{l:List AV}{g:FuncId}{cs:List AV}:(AV.func g cs).fin b l=.func g cs:=by unfold AV.fin;split<;>rfl
theorem aD.fin{P:Program}{g:FuncId}{args:List AV}{st:aB}{Q:AV→aB→Prop}
 (x:aD P g args st (fun r st'=>∃b l s0,st'=a8 s0 b l∧(l≠[]→s0 b=none)∧(∀e∈l,e.cH=false)∧iR l∧Q (r.fin b l) s0)):aD P g args st Q:=
 x.mT fun r st' ⟨b,l,s0,h1,h0,h2,h3,h4⟩=>by
  cases l with
  | nil=>
   exact⟨r.fin b [],st',(aL.refl _).tD,fun h v S y=>y.soft,by have e:st'=s0:=h1;rw[e];exact h4⟩
  | cons e l=>
   have hb:=h0 (by simp)
   subst h1
   have h1:a8 s0 b (e::l) b=some (.cells ((e::l).flatMap AV.cells)):=by simp only[a8,aB.aP]
   have e1:(a8 s0 b (e::l)).erase b=s0:=by simp only[a8];exact aB.vR _ _ _ hb
   refine⟨r.fin b (e::l),s0,?_,fun h v S y=>?_,h4⟩
   · have:=(jZ (a8 s0 b (e::l)) b).tD
     rwa [e1] at this
   · have:=y.fz S h1 h2 h3
     rw[e1] at this
     exact this.soft
mutual
def AV.gY:AV→Bool
 | .slice _=>false
 | .fslice es=>es.isEmpty
 | .pptr _=>false
 | .agg cs=>l7 cs
 | .tup vs=>l7 vs
 | .func _ cs=>l7 cs
 | _=>true
def l7:List AV→Bool
 | []=>true
 | a::as=>a.gY&&l7 as
end
def AO.gY:AO→Prop
 | .cells cs=>l7 cs=true
 | .map f=>∀n a,f n=some a→a.gY=true
 | .tab _=>True
section
variable {h:bP} {st st':aB}
mutual
theorem VC.anyS:∀(a:AV) (cs:List Value),a.gY=true→VC h st a cs→VC h st' a cs
 | .junk,_,_,x=>x
 | .undef,_,_,x=>x
 | .int _ _,_,_,x=>x
 | .bool _,_,_,x=>x
 | .str _,_,_,x=>x
 | .agg as,cs,s,x=>by simp only[VC] at x ⊢;exact bD.anyS as cs (by simpa [AV.gY] using s) x
 | .tup as,cs,s,x=>by
  simp only[VC] at x ⊢
  obtain⟨vs,e,r⟩:=x
  exact⟨vs,e,d4.anyS as vs (by simpa [AV.gY] using s) r⟩
 | .slice es,_,s,_=>by simp [AV.gY] at s
 | .fslice es,cs,s,x=>by
  have he:es= []:=by simpa [AV.gY] using s
  subst he
  unfold VC at x ⊢
  rcases x with x | ⟨b,off,e,_⟩
  · exact .inl x
  · exact .inl ⟨⟨_,e⟩,rfl⟩
 | .mslice b off len n,_,_,x=>x
 | .nilptr,_,_,x=>x
 | .ptr _ _,_,_,x=>x
 | .pptr e,_,s,_=>by simp [AV.gY] at s
 | .nilmap,_,_,x=>x
 | .map _,_,_,x=>x
 | .func _ as,cs,s,x=>by
  simp only[VC] at x ⊢
  obtain⟨vs,e,r⟩:=x
  exact⟨vs,e,d4.anyS as vs (by simpa [AV.gY] using s) r⟩
 | .raw _,_,_,x=>x
 | .eslice,_,_,x=>x
theorem bD.anyS:∀(as:List AV) (cs:List Value),l7 as=true→bD h st as cs→bD h st' as cs
 | [],_,_,x=>x
 | a::as,cs,s,x=>by
  simp only[bD] at x ⊢
  simp only[l7,cK] at s
  obtain⟨c,r,e,x1,x2⟩:=x
  exact⟨c,r,e,VC.anyS a [c] s.1 x1,bD.anyS as r s.2 x2⟩
theorem d4.anyS:∀(as:List AV) (cs:List Value),l7 as=true→d4 h st as cs→d4 h st' as cs
 | [],_,_,x=>x
 | a::as,cs,s,x=>by
  simp only[d4] at x ⊢
  simp only[l7,cK] at s
  obtain⟨v,r,e,x1,x2⟩:=x
  exact⟨v,r,e,⟨x1.1,VC.anyS a _ s.1 x1.2⟩,d4.anyS as r s.2 x2⟩
end
theorem aT.anyS{a:AV}{v:Value}(s:a.gY=true)(x:aT h st a v):aT h st' a v:=by
 cases a<;>first | trivial | exact⟨x.1,VC.anyS _ _ s x.2⟩
theorem lK.anyS{b:Nat}:∀ {o:AO},o.gY→lK h st b o→lK h st' b o
 | .cells as,s,x=>by
  obtain⟨c,t,e,l,vs,x1,x2⟩:=x
  exact⟨c,t,e,l,vs,x1,bD.anyS as vs s x2⟩
 | .map f,s,x=>by
  obtain⟨es,cl,e,x1,x2,x3⟩:=x
  refine⟨es,cl,e,x1,x2,fun n=>?_⟩
  have:=x3 n
  split
  · rename_i a ha
    rw[ha] at this
    obtain⟨e,he,hk,hv⟩:=this
    exact⟨e,he,hk,hv.anyS (s n a ha)⟩
  · rename_i ha
    rw[ha] at this
    exact this
 | .tab cs,_,x=>x
end
def aB.frame(st s0 s1:aB):aB:=fun b=>match s0 b,st b with
 | none,some o=>some o
 | _,_=>s1 b
theorem aD.frame{P:Program}{g:FuncId}{args args':List AV}{st s0:aB}{Q:AV→aB→Prop}(D:aL st s0)
 (x:aD P g args s0 (fun r s1=>(∀b,s0 b=none→s1 b≠none→st b=none)→r.gY=true∧(∀b o,s1 b=some o→o.gY)∧Q r (st.frame s0 s1)))
 (hv:∀h vs,cX h st→dC h st args' vs→dC h s0 args vs):aD P g args' st Q:=by
 refine⟨x.1,fun w vs S V=>(x.2 w vs (D.JL S) (hv _ _ S V)).mono ?_⟩
 rintro _ w' ⟨v,r,s1,rfl,hr,S1,T,sm,q⟩
 have hfr:∀b,s0 b=none→s1 b≠none→st b=none:=fun b h0 h1=>by
  cases hb:st b with
  | none=>rfl
  | some o=>exact absurd (T.aV b (S b o hb).1 h0).2 h1
 obtain⟨hs,ho,hq⟩:=q hfr
 have T':cC w.heap st w'.heap (st.frame s0 s1):=by
  refine⟨T.size,fun b hb e=>?_,T.shape⟩
  obtain⟨k1,k2⟩:=T.aV b hb ((D b).1 e)
  exact⟨k1,by simp only[aB.frame,e,k2];split<;>first | rfl | (rename_i h;cases h)⟩
 refine⟨v,r,st.frame s0 s1,rfl,hr.anyS hs,fun b o hb=>?_,T',sm,hq⟩
 simp only[aB.frame] at hb
 split at hb
 · rename_i o' h0 h1
   cases hb
   obtain⟨l,y⟩:=S b _ h1
   exact⟨u9 l T.size,lK.mono T' (T.aV b l h0).1 y⟩
 · obtain⟨l,y⟩:=S1 b o hb
   exact⟨l,y.anyS (ho b o hb)⟩
def fE:aB:=fun _=>none
theorem aL.fE(st:aB):aL st fE:=fun _=>⟨fun _=>rfl,fun _ h=>by cases h⟩
theorem a0T(st:aB):st.frame fE fE=st:=by
 funext b;simp only[aB.frame,fE];split
 · rename_i h;exact h.symm
 · rename_i h;cases hb:st b with
   | none=>rfl
   | some o=>exact absurd hb (h o rfl)
theorem aD.aM6{P:Program}{g:FuncId}{args args':List AV}{st:aB}{r:AV}(hs:r.gY=true)
 (x:aD P g args fE (fun r' s1=>r'=r∧s1=fE))
 (hv:∀h vs,cX h st→dC h st args' vs→dC h fE args vs):aD P g args' st (fun r' st'=>r'=r∧st'=st):=
 aD.frame (aL.fE st) (x.mono fun r' s1 ⟨e1,e2⟩ _=>⟨by rw[e1];exact hs,(by rw[e2];intro b o h;cases h),e1,by rw[e2,a0T]⟩) hv
mutual
def bG(st:aB):AV→AV→List Nat→Prop
 | .int k n,o,bs=>o=.int k n∧bs= []
 | .bool b,o,bs=>o=.bool b∧bs= []
 | .str s,o,bs=>o=.str s∧bs= []
 | .agg cs,o,bs=>∃os,o=.agg os∧cA st cs os bs
 | .slice es,o,bs=>(es= []∧o=.fslice []∧bs= [])∨∃b bs' os w,o=.mslice b 0 es.length w∧bs=b::bs'∧st b=some (.cells (os.flatMap AV.cells))∧cA st es os bs'∧(∀e∈es,e.width=w)
 | _,_,_=>False
def cA(st:aB):List AV→List AV→List Nat→Prop
 | [],os,bs=>os= []∧bs= []
 | a::as,os,bs=>∃o os' b1 b2,os=o::os'∧bs=b1++b2∧bG st a o b1∧cA st as os' b2
end
theorem cA.length{st:aB}:∀ {as os:List AV} {bs:List Nat},cA st as os bs→os.length=as.length
 | [],os,bs,x=>by simp only[cA] at x;simp [x.1]
 | a::as,os,bs,x=>by
  simp only[cA] at x
  obtain⟨o,os',b1,b2,rfl,rfl,_,x2⟩:=x
  simp [cA.length x2]
theorem bG.shape{st:aB}:∀ {a o:AV} {bs:List Nat},bG st a o bs→o.isAgg=a.isAgg∧o.width=a.width∧o.cH=false∧(∀cs,a=.agg cs→∃os,o=.agg os)
 | .int k n,o,bs,x=>by simp only[bG] at x;rw[x.1];exact⟨rfl,rfl,rfl,by simp⟩
 | .bool b,o,bs,x=>by simp only[bG] at x;rw[x.1];exact⟨rfl,rfl,rfl,by simp⟩
 | .str s,o,bs,x=>by simp only[bG] at x;rw[x.1];exact⟨rfl,rfl,rfl,by simp⟩
 | .agg cs,o,bs,x=>by
  simp only[bG] at x
  obtain⟨os,rfl,x⟩:=x
  exact⟨rfl,x.length,rfl,fun _ _=>⟨os,rfl⟩⟩
 | .slice es,o,bs,x=>by
  simp only[bG] at x
  rcases x with ⟨_,rfl,_⟩ | ⟨b,bs',os,w,rfl,_⟩<;>exact⟨rfl,rfl,rfl,by simp⟩
 | .junk,_,_,x=>x.elim
 | .undef,_,_,x=>x.elim
 | .tup _,_,_,x=>x.elim
 | .fslice _,_,_,x=>x.elim
 | .mslice _ _ _ _,_,_,x=>x.elim
 | .nilptr,_,_,x=>x.elim
 | .ptr _ _,_,_,x=>x.elim
 | .pptr _,_,_,x=>x.elim
 | .nilmap,_,_,x=>x.elim
 | .map _,_,_,x=>x.elim
 | .func _ _,_,_,x=>x.elim
 | .raw _,_,_,x=>x.elim
 | .eslice,_,_,x=>x.elim
section
variable {st st':aB}
mutual
theorem bG.aV:∀(a o:AV) (bs:List Nat),(∀b∈bs,st' b=st b)→bG st a o bs→bG st' a o bs
 | .int k n,o,bs,_,x=>x
 | .bool b,o,bs,_,x=>x
 | .str s,o,bs,_,x=>x
 | .agg cs,o,bs,h,x=>by
  simp only[bG] at x ⊢
  obtain⟨os,e,x⟩:=x
  exact⟨os,e,cA.aV cs os bs h x⟩
 | .slice es,o,bs,h,x=>by
  simp only[bG] at x ⊢
  rcases x with x | ⟨b,bs',os,w,e1,rfl,e2,x,e3⟩
  · exact .inl x
  · exact .inr ⟨b,bs',os,w,e1,rfl,(h b (by simp)).trans e2,cA.aV es os bs' (fun q hq=>h q (by simp [hq])) x,e3⟩
 | .junk,_,_,_,x=>x
 | .undef,_,_,_,x=>x
 | .tup _,_,_,_,x=>x
 | .fslice _,_,_,_,x=>x
 | .mslice _ _ _ _,_,_,_,x=>x
 | .nilptr,_,_,_,x=>x
 | .ptr _ _,_,_,_,x=>x
 | .pptr _,_,_,_,x=>x
 | .nilmap,_,_,_,x=>x
 | .map _,_,_,_,x=>x
 | .func _ _,_,_,_,x=>x
 | .raw _,_,_,_,x=>x
 | .eslice,_,_,_,x=>x
theorem cA.aV:∀(as os:List AV) (bs:List Nat),(∀b∈bs,st' b=st b)→cA st as os bs→cA st' as os bs
 | [],os,bs,_,x=>x
 | a::as,os,bs,h,x=>by
  simp only[cA] at x ⊢
  obtain⟨o,os',b1,b2,e1,rfl,x1,x2⟩:=x
  exact⟨o,os',b1,b2,e1,rfl,bG.aV a o b1 (fun q hq=>h q (by simp [hq])) x1,cA.aV as os' b2 (fun q hq=>h q (by simp [hq])) x2⟩
end
mutual
theorem bG.gY:∀(a o:AV) (bs:List Nat),bG st a o bs→o.gY=true∧o.cells.all AV.storable=o.cells.all AV.storable∧∀b∈bs,∃cs,st b=some (.cells cs)∧l7 cs=true
 | .int k n,o,bs,x=>by simp only[bG] at x;rw[x.1,x.2];exact⟨rfl,rfl,by simp⟩
 | .bool b,o,bs,x=>by simp only[bG] at x;rw[x.1,x.2];exact⟨rfl,rfl,by simp⟩
 | .str s,o,bs,x=>by simp only[bG] at x;rw[x.1,x.2];exact⟨rfl,rfl,by simp⟩
 | .agg cs,o,bs,x=>by
  simp only[bG] at x
  obtain⟨os,rfl,x⟩:=x
  obtain⟨h1,h2⟩:=cA.gY cs os bs x
  exact⟨by simpa [AV.gY] using h1.1,rfl,h2⟩
 | .slice es,o,bs,x=>by
  simp only[bG] at x
  rcases x with ⟨_,rfl,rfl⟩ | ⟨b,bs',os,w,rfl,rfl,e2,x,e3⟩
  · exact⟨rfl,rfl,by simp⟩
  · obtain⟨h1,h2⟩:=cA.gY es os bs' x
    refine⟨rfl,rfl,fun q hq=>?_⟩
    rcases c8.1 hq with rfl | hq
    · exact⟨_,e2,h1.2⟩
    · exact h2 q hq
 | .junk,_,_,x=>x.elim
 | .undef,_,_,x=>x.elim
 | .tup _,_,_,x=>x.elim
 | .fslice _,_,_,x=>x.elim
 | .mslice _ _ _ _,_,_,x=>x.elim
 | .nilptr,_,_,x=>x.elim
 | .ptr _ _,_,_,x=>x.elim
 | .pptr _,_,_,x=>x.elim
 | .nilmap,_,_,x=>x.elim
 | .map _,_,_,x=>x.elim
 | .func _ _,_,_,x=>x.elim
 | .raw _,_,_,x=>x.elim
 | .eslice,_,_,x=>x.elim
theorem cA.gY:∀(as os:List AV) (bs:List Nat),cA st as os bs→(l7 os=true∧l7 (os.flatMap AV.cells)=true)∧∀b∈bs,∃cs,st b=some (.cells cs)∧l7 cs=true
 | [],os,bs,x=>by simp only[cA] at x;rw[x.1,x.2];exact⟨⟨rfl,rfl⟩,by simp⟩
 | a::as,os,bs,x=>by
  simp only[cA] at x
  obtain⟨o,os',b1,b2,rfl,rfl,x1,x2⟩:=x
  obtain⟨h1,_,h2⟩:=bG.gY a o b1 x1
  obtain⟨⟨h3,h4⟩,h5⟩:=cA.gY as os' b2 x2
  have M3:∀(p q:List AV),l7 p=true→l7 q=true→l7 (p++q)=true:=by
   intro p q hp hq
   induction p with
   | nil=>exact hq
   | cons c p ih=>simp only[l7,cK,fQ] at hp ⊢;exact⟨hp.1,ih hp.2⟩
  have hc:l7 o.cells=true:=by cases o<;>first | (simpa [AV.cells,l7] using h1) | (simpa [AV.cells,AV.gY] using h1)
  refine⟨⟨by simp [l7,h1,h3],by rw[qS];exact M3 _ _ hc h4⟩,fun q hq=>?_⟩
  rcases fF.1 hq with hq | hq
  · exact h2 q hq
  · exact h5 q hq
end
end
section
variable {h:bP} {st s0:aB}
mutual
theorem bG.view(S:cX h st)(D:aL st s0):∀(a o:AV) (bs:List Nat) (cs:List Value),bG st a o bs→(∀b∈bs,s0 b=none)→VC h st o cs→VC h s0 a cs
 | .int k n,o,bs,cs,x,_,y=>by simp only[bG] at x;rw[x.1] at y;exact y
 | .bool b,o,bs,cs,x,_,y=>by simp only[bG] at x;rw[x.1] at y;exact y
 | .str s,o,bs,cs,x,_,y=>by simp only[bG] at x;rw[x.1] at y;exact y
 | .agg as,o,bs,cs,x,hb,y=>by
  simp only[bG] at x
  obtain⟨os,rfl,x⟩:=x
  simp only[VC] at y ⊢
  exact cA.aS7 S D as os bs cs x hb y
 | .slice es,o,bs,cs,x,hb,y=>by
  simp only[bG] at x
  rcases x with ⟨rfl,rfl,rfl⟩ | ⟨b,bs',os,w,rfl,rfl,e2,x,e3⟩
  · unfold VC at y ⊢
    rcases y with y | ⟨b,off,e,_⟩
    · exact .inl y
    · exact .inl ⟨⟨_,e⟩,rfl⟩
  · simp only[VC] at y
    obtain⟨cap,e,l1,l2,_⟩:=y
    obtain⟨hlt,c,t,q1,q2,vs,q3,q4⟩:=S b _ e2
    have hsh:=cA.aQN x
    unfold VC
    refine .inr ⟨b,0,cap,e,l1,l2,hb b (by simp),hlt,⟨w,e3⟩,cA.aS8 S D b es os bs' 0 x (fun q hq=>hb q (by simp [hq])) (K0 (fun q hq=>hsh q hq) q3 q4)⟩
 | .junk,_,_,_,x,_,_=>x.elim
 | .undef,_,_,_,x,_,_=>x.elim
 | .tup _,_,_,_,x,_,_=>x.elim
 | .fslice _,_,_,_,x,_,_=>x.elim
 | .mslice _ _ _ _,_,_,_,x,_,_=>x.elim
 | .nilptr,_,_,_,x,_,_=>x.elim
 | .ptr _ _,_,_,_,x,_,_=>x.elim
 | .pptr _,_,_,_,x,_,_=>x.elim
 | .nilmap,_,_,_,x,_,_=>x.elim
 | .map _,_,_,_,x,_,_=>x.elim
 | .func _ _,_,_,_,x,_,_=>x.elim
 | .raw _,_,_,_,x,_,_=>x.elim
 | .eslice,_,_,_,x,_,_=>x.elim
theorem cA.aS7(S:cX h st)(D:aL st s0):∀(as os:List AV) (bs:List Nat) (cs:List Value),cA st as os bs→(∀b∈bs,s0 b=none)→bD h st os cs→bD h s0 as cs
 | [],os,bs,cs,x,_,y=>by simp only[cA] at x;rw[x.1] at y;exact y
 | a::as,os,bs,cs,x,hb,y=>by
  simp only[cA] at x
  obtain⟨o,os',b1,b2,rfl,rfl,x1,x2⟩:=x
  simp only[bD] at y ⊢
  obtain⟨c,r,e,y1,y2⟩:=y
  exact⟨c,r,e,bG.view S D a o b1 [c] x1 (fun q hq=>hb q (by simp [hq])) y1,cA.aS7 S D as os' b2 r x2 (fun q hq=>hb q (by simp [hq])) y2⟩
theorem cA.aS8(S:cX h st)(D:aL st s0)(b:Nat):∀(as os:List AV) (bs:List Nat) (off:Nat),cA st as os bs→(∀b∈bs,s0 b=none)→dP h st b off os→dP h s0 b off as
 | [],os,bs,off,x,_,y=>by simp only[dP]
 | a::as,os,bs,off,x,hb,y=>by
  simp only[cA] at x
  obtain⟨o,os',b1,b2,rfl,rfl,x1,x2⟩:=x
  simp only[dP] at y ⊢
  obtain⟨⟨cs,y1,y2,y3⟩,y4⟩:=y
  have hw:=(bG.shape x1).2.1
  rw[hw] at y2 y4
  exact⟨⟨cs,y1,y2,bG.view S D a o b1 cs x1 (fun q hq=>hb q (by simp [hq])) y3⟩,cA.aS8 S D b as os' b2 _ x2 (fun q hq=>hb q (by simp [hq])) y4⟩
theorem cA.aQN:∀ {as os:List AV} {bs:List Nat},cA st as os bs→∀o∈os,o.cH=false
 | [],os,bs,x=>by simp only[cA] at x;rw[x.1];simp
 | a::as,os,bs,x=>by
  simp only[cA] at x
  obtain⟨o,os',b1,b2,rfl,rfl,x1,x2⟩:=x
  intro q hq
  rcases c8.1 hq with rfl | hq
  · exact(bG.shape x1).2.2.1
  · exact cA.aQN x2 q hq
end
theorem bG.XM(S:cX h st)(D:aL st s0){a o:AV}{bs:List Nat}{v:Value}(x:bG st a o bs)(hb:∀b∈bs,s0 b=none)(y:aT h st o v):aT h s0 a v:=by
 have hs:=x.shape
 have key:o.isAgg=mB v∧VC h st o v.cells.toList:=by
  cases o<;>first | exact y | simp [AV.cH] at hs
 have z:a.isAgg=mB v∧VC h s0 a v.cells.toList:=⟨hs.1.symm.trans key.1,bG.view S D _ _ _ _ x hb key.2⟩
 cases ha:a<;>rw[ha] at z<;>first | trivial | exact z
end
def Seen(st s0:aB):List AV→List AV→Prop
 | [],as=>as= []
 | o::os,as=>∃a as',as=a::as'∧(o=a∨∃bs,bG st a o bs∧∀b∈bs,s0 b=none)∧Seen st s0 os as'
theorem Seen.rel{st s0:aB}(D:aL st s0):∀ {os as:List AV},Seen st s0 os as→∀h vs,cX h st→dC h st os vs→dC h s0 as vs
 | [],as,x,h,vs,_,y=>by simp only[Seen] at x;rw[x];exact y
 | o::os,as,x,h,vs,S,y=>by
  simp only[Seen] at x
  obtain⟨a,as',rfl,x1,x2⟩:=x
  simp only[dC] at y ⊢
  obtain⟨v,r,rfl,y1,y2⟩:=y
  refine⟨v,r,rfl,?_,Seen.rel D x2 h r S y2⟩
  rcases x1 with rfl | ⟨bs,x1,hb⟩
  · exact y1.mono (D.step h)
  · exact x1.XM S D hb y1
def Made(st:aB)(a r:AV)(st':aB):Prop:=∃bs:List Nat,bs.Nodup∧(∀b∈bs,st b=none)∧bG st' a r bs∧∀b,b∉bs→st' b=st b
theorem aD.made{P:Program}{g:FuncId}{args:List AV}{st:aB}{a:AV}(x:aD P g args st (Made st a)):aD P g args st (fun r st'=>r=a∧st'=st):=
 x.mT fun r st' ⟨bs,_,h2,h3,h4⟩=>by
  have D:aL st' st:=fun b=>⟨fun e=>by
   by_cases hb:b∈bs
   · exact h2 b hb
   · rw[←h4 b hb];exact e,fun o e=>by
   by_cases hb:b∈bs
   · rw[h2 b hb] at e;cases e
   · rw[h4 b hb];exact e⟩
  exact⟨a,st,D.tD,fun h v S y=>h3.XM S D h2 y,rfl,rfl⟩
theorem cA.focus{st:aB}:∀ {as os:List AV} {bs:List Nat},cA st as os bs→bs.Nodup→∀(i:Nat) (a:AV),as[i]?=some a →
 ∃od o orr bo,os=od++o::orr∧od.length=i∧bG st a o bo∧bo.Nodup∧(∀b∈bo,b∈bs) ∧
  ∀(st':aB) (a' o':AV),(∀b∈bs,b∉bo→st' b=st b)→bG st' a' o' bo→cA st' (as.set i a') (od++o'::orr) bs
 | [],os,bs,_,_,i,a,h=>by simp at h
 | c::as,os,bs,x,nd,0,a,h=>by
  simp only[cA] at x
  obtain⟨o,os',b1,b2,rfl,rfl,x1,x2⟩:=x
  simp at h;subst h
  rw[oV] at nd
  refine⟨[],o,os',b1,rfl,rfl,x1,nd.1,fun b hb=>by simp [hb],fun st' a' o' hk y=>?_⟩
  simp only[GO,eS,cA]
  exact⟨o',os',b1,b2,rfl,rfl,y,cA.aV _ _ _ (fun q hq=>hk q (by simp [hq]) (fun hq'=>nd.2.2 q hq' q hq rfl)) x2⟩
 | c::as,os,bs,x,nd,i+1,a,h=>by
  simp only[cA] at x
  obtain⟨o,os',b1,b2,rfl,rfl,x1,x2⟩:=x
  rw[oV] at nd
  obtain⟨od,o2,orr,bo,rfl,hl,y1,y2,y3,y4⟩:=cA.focus x2 nd.2.1 i a (by simpa using h)
  refine⟨o::od,o2,orr,bo,rfl,by simp [hl],y1,y2,fun b hb=>by simp [y3 b hb],fun st' a' o' hk y=>?_⟩
  simp only[KU,fQ,cA]
  refine⟨o,_,b1,b2,rfl,rfl,bG.aV _ _ _ (fun q hq=>hk q (by simp [hq]) (fun hq'=>nd.2.2 q hq q (y3 q hq') rfl)) x1,y4 st' a' o' (fun q hq hn=>hk q (by simp [hq]) hn) y⟩
theorem cA.MT{st:aB}{w:Nat}:∀ {as os:List AV} {bs:List Nat},cA st as os bs→(∀e∈as,e.width=w)→(os.flatMap AV.cells).length=as.length*w
 | [],os,bs,x,_=>by simp only[cA] at x;rw[x.1];simp
 | a::as,os,bs,x,h=>by
  simp only[cA] at x
  obtain⟨o,os',b1,b2,rfl,rfl,x1,x2⟩:=x
  have:=cA.MT x2 (fun e he=>h e (by simp [he]))
  rw[qS,dL,this,vL,(bG.shape x1).2.1,h a (by simp),aQ,pS]
  omega
theorem cA.take{st:aB}:∀ {as od or':List AV} {bs:List Nat},cA st as (od++or') bs→∃bs',cA st (as.take od.length) od bs'
 | as,[],or',bs,_=>⟨[],by simp [cA]⟩
 | [],o::od,or',bs,x=>by simp [cA] at x
 | a::as,o::od,or',bs,x=>by
  simp only[cA,fQ] at x
  obtain⟨o1,os',b1,b2,e,rfl,x1,x2⟩:=x
  obtain⟨rfl,rfl⟩:=yQ e
  obtain⟨bs',h⟩:=cA.take x2
  exact⟨b1++bs',by simp only[aQ,tK,cA];exact⟨o,od,b1,bs',rfl,rfl,x1,h⟩⟩
theorem bG.focus{st:aB}{es:List AV}{o:AV}{bs:List Nat}(x:bG st (.slice es) o bs)(nd:bs.Nodup){i:Nat}{e:AV}(h:es[i]?=some e) :
 ∃b bs' w A oe bo B,o=.mslice b 0 es.length w∧bs=b::bs'∧st b=some (.cells (A++oe.cells++B))∧A.length=i*w∧bG st e oe bo∧bo.Nodup∧b∉bo∧(∀q∈bo,q∈bs)∧e.width=w∧i<es.length ∧
  ∀(st':aB) (e' oe':AV),e'.width=w→(∀q∈bs,q≠b→q∉bo→st' q=st q)→st' b=some (.cells (A++oe'.cells++B))→bG st' e' oe' bo→bG st' (.slice (es.set i e')) o bs:=by
 have hi:i<es.length:=(fR.1 h).1
 simp only[bG] at x
 rcases x with ⟨rfl,_⟩ | ⟨b,bs',os,w,rfl,rfl,e2,x,e3⟩
 · simp at h
 · rw[GN] at nd
   obtain⟨od,oe,orr,bo,rfl,hl,y1,y2,y3,y4⟩:=cA.focus x nd.2 i e h
   have hA:(od.flatMap AV.cells).length=i*w:=by
    obtain⟨bs2,ht⟩:=cA.take x
    rw[ht.MT (fun q hq=>e3 q (lS hq)),dQ,hl,kN (by omega)]
   refine⟨b,bs',w,od.flatMap AV.cells,oe,bo,orr.flatMap AV.cells,rfl,rfl,by rw[e2];simp,hA,y1,y2,fun hb=>nd.1 (y3 b hb),fun q hq=>by simp [y3 q hq],e3 e (cJ h),hi,?_⟩
   intro st' e' oe' hw hk hb hO
   simp only[bG]
   refine .inr ⟨b,bs',od++oe'::orr,w,by simp,rfl,by rw[hb];simp,y4 st' e' oe' (fun q hq hn=>hk q (by simp [hq]) (fun hqb=>nd.1 (hqb▸hq)) hn) hO,fun q hq=>?_⟩
   rcases List.mem_or_eq_of_mem_set hq with hq | rfl
   · exact e3 q hq
   · exact hw
theorem aQJ{A C B x:List AV}{n j:Nat}(hA:A.length=n)(hj:j+x.length≤C.length):aG (A++C++B) (n+j) x=A++aG C j x++B:=by
 subst hA
 unfold aG
 have h1:(A++C++B).take (A.length+j)=A++C.take j:=by
  rw[mU,List.take_length_add_append,DQ (by omega)]
 have h2:(A++C++B).drop (A.length+j+x.length)=C.drop (j+x.length)++B:=by
  rw[mU,BF,List.drop_length_add_append,List.drop_append_of_le_length (by omega)]
 rw[h1,h2]
 simp
theorem FE{A B:List AV}{n:Nat}(hA:A.length=n):(∀(C:List AV) (v:AV) (j:Nat),j<C.length→aG (A++C++B) (n+j) [v]=A++C.set j v++B)∧(∀(C:List AV) (c:Nat),c<C.length→n+c+1≤(A++C++B).length) ∧
 (∀(C:List AV) (c:Nat),c<C.length→(A++C++B)[n+c]?=C[c]?)∧(∀(C:List AV) (v:AV),0<C.length→aG (A++C++B) n [v]=A++C.set 0 v++B)∧(∀(C:List AV),0<C.length→n+1≤(A++C++B).length) ∧
 ∀(C:List AV),0<C.length→(A++C++B)[n]?=C[0]?:=by
 have k1:(∀(C:List AV) (v:AV) (j:Nat),j<C.length→aG (A++C++B) (n+j) [v]=A++C.set j v++B)∧(∀(C:List AV) (c:Nat),c<C.length→n+c+1≤(A++C++B).length)∧∀(C:List AV) (c:Nat),c<C.length→(A++C++B)[n+c]?=C[c]?:=?_
 · exact⟨k1.1,k1.2.1,k1.2.2,fun C v h=>k1.1 C v 0 h,fun C h=>k1.2.1 C 0 h,fun C h=>k1.2.2 C 0 h⟩
 refine⟨fun C v j h=>?_,fun C c h=>?_,fun C c h=>?_⟩
 · rw[aQJ hA (by simp;omega),List.set_eq_take_append_cons_drop,aH h]
   unfold aG
   simp
 · simp only[dL];omega
 · subst hA
   rw[mU,XW (by omega),Nat.add_sub_cancel_left,P0 h]
theorem VD{A B C x:List AV}{n w:Nat}(hA:A.length=n)(hC:C.length=w)(hx:x.length=w):aG (A++C++B) n x=A++x++B∧n+w≤(A++C++B).length:=by
 have h:=aQJ (A:=A) (C:=C) (B:=B) (x:=x) (n:=n) (j:=0) hA (by omega)
 rw[rY] at h
 refine⟨?_,by simp only[dL];omega⟩
 rw[h]
 unfold aG
 simp [hC,hx]
theorem pB{P:Program}{t:TypeId}{ag:Bool}{b len w i:Nat}(hI:eI P t=some (ag,w))(hi:i<len):dM P t (.mslice b 0 len w) (.int .i64 (i:Int))=some (.ptr b (i*w)):=by
 simp only[dM,hI,jU,iJ]
 rw[aH ⟨by omega,by omega,trivial⟩]
theorem bG.QR{st:aB}:∀ {cs os:List AV} {bs:List Nat},cA st cs os bs→(∀c∈cs,c.isAgg=false)→os.all AV.storable=true∧os.flatMap AV.cells=os
 | [],os,bs,x,_=>by simp only[cA] at x;rw[x.1];simp
 | a::as,os,bs,x,h=>by
  simp only[cA] at x
  obtain⟨o,os',b1,b2,rfl,rfl,x1,x2⟩:=x
  have ih:=bG.QR x2 (fun c hc=>h c (by simp [hc]))
  have ha:=h a (by simp)
  have ho:o.storable=true∧o.cells= [o]:=by
   cases a<;>simp only[bG] at x1<;>try exact x1.elim
   case int=>rw[x1.1];exact⟨rfl,rfl⟩
   case bool=>rw[x1.1];exact⟨rfl,rfl⟩
   case str=>rw[x1.1];exact⟨rfl,rfl⟩
   case agg=>simp [AV.isAgg] at ha
   case slice=>rcases x1 with ⟨_,rfl,_⟩ | ⟨b,bs',os,w,rfl,_⟩<;>exact⟨rfl,rfl⟩
  rw[lE,ho.1,ih.1,qS,ih.2,ho.2]
  exact⟨rfl,rfl⟩
theorem cA.snoc{st st':aB}{a o:AV}{b2:List Nat}:∀ {as os:List AV} {b1:List Nat},cA st as os b1→(∀b∈b1,st' b=st b)→bG st' a o b2→cA st' (as++ [a]) (os++ [o]) (b1++b2)
 | [],os,b1,x,_,y=>by
  simp only[cA] at x
  rw[x.1,x.2]
  simp only[eS,cA]
  exact⟨o,[],b2,[],rfl,by simp,y,rfl,rfl⟩
 | c::as,os,b1,x,h,y=>by
  simp only[cA] at x
  obtain⟨o1,os',b3,b4,rfl,rfl,x1,x2⟩:=x
  simp only[fQ,cA]
  exact⟨o1,os'++ [o],b3,b4++b2,rfl,by simp,bG.aV _ _ _ (fun q hq=>h q (by simp [hq])) x1,cA.snoc x2 (fun q hq=>h q (by simp [hq])) y⟩
def tM(es:List AV)(zs:List AV)(b:Nat)(st:aB)(i:Nat)(p:List AV×List Nat×aB):Prop:=
 p.1.length=i∧cA p.2.2 (es.take i) p.1 p.2.1∧p.2.1.Nodup∧b∉p.2.1∧(∀q∈p.2.1,st q=none)∧st b=none∧p.2.2 b=some (.cells (p.1.flatMap AV.cells++(List.replicate (es.length - i) zs).flatten))∧∀q,q≠b→q∉p.2.1→p.2.2 q=st q
theorem tM.start{es zs:List AV}{b n:Nat}{st:aB}(hn:st b=none)(hl:n=es.length):tM es zs b st 0 ([],[],st.aC b (.cells (List.replicate n zs).flatten)):=
 ⟨rfl,by simp [cA],pR,by simp,by simp,hn,by simp [aB.aP,hl],fun q h _=>aB.aJ _ _ h⟩
theorem tM.done{es zs:List AV}{b n w:Nat}{st:aB}{os:List AV}{bs:List Nat}{s:aB}(h:tM es zs b st n (os,bs,s))(hl:es.length=n)(hw:∀e∈es,e.width=w):Made st (.slice es) (.mslice b 0 n w) s:=by
 obtain⟨h1,h2,h3,h4,h5,h6,h7,h8⟩:=h
 simp only at h1 h2 h3 h4 h5 h7 h8
 rw[lT (by omega)] at h2
 refine⟨b::bs,GN.2 ⟨h4,h3⟩,fun q hq=>?_,?_,fun q hq=>h8 q (fun e=>hq (by simp [e])) (fun e=>hq (by simp [e]))⟩
 · rcases c8.1 hq with rfl | hq
   · exact h6
   · exact h5 q hq
 · simp only[bG]
   refine .inr ⟨b,bs,os,w,by rw[hl],rfl,?_,h2,hw⟩
   rw[h7,hl]
   simp
theorem tM.step{es zs:List AV}{b i w:Nat}{st:aB}{os:List AV}{bs:List Nat}{s s2:aB}{e r:AV}(h:tM es zs b st i (os,bs,s))(hm:Made s e r s2)(he:es[i]?=some e)(hwe:e.width=w)(hw:∀e∈es,e.width=w)(hz:zs.length=w)
 (hst:e.cells.all AV.storable=true) (hag:e.isAgg=true∨e.cells= [e]) :
 ∃A B,s2 b=some (.cells (A++zs++B))∧A.length=i*w∧r.cells.length=w∧r.cells.all AV.storable=true∧tM es zs b st (i+1) (os++ [r],bs++hm.choose,s2.aC b (.cells (A++r.cells++B))):=by
 obtain⟨h1,h2,h3,h4,h5,h6,h7,h8⟩:=h
 simp only at h1 h2 h3 h4 h5 h7 h8
 obtain⟨m1,m2,m3,m4⟩:=hm.choose_spec
 generalize hm.choose=bx at *
 have hi:i<es.length:=(fR.1 he).1
 have hbx:b∉bx:=fun hb=>by have:=m2 b hb;rw[h7] at this;cases this
 have hs2:s2 b=s b:=m4 b hbx
 have hlt:(os.flatMap AV.cells).length=i*w:=by rw[h2.MT (fun q hq=>hw q (lS hq)),dQ,kN (by omega)]
 have z7:=cA.gY _ _ _ h2
 have oN:∀q∈bs,q∉bx:=fun q hq hx=>by
  obtain⟨cs,e1,_⟩:=z7.2 q hq
  rw[m2 q hx] at e1;cases e1
 have a2Z:(List.replicate (es.length - i) zs).flatten=zs++(List.replicate (es.length - (i+1)) zs).flatten:=by
  rw[show es.length - i=(es.length - (i+1))+1 by omega,P5,List.flatten_cons]
 have hb2:s2 b=some (.cells (os.flatMap AV.cells++zs++(List.replicate (es.length - (i+1)) zs).flatten)):=by rw[hs2,h7,a2Z,mU]
 have hrl:r.cells.length=w:=by rw[vL,(bG.shape m3).2.1,hwe]
 have hrs:r.cells.all AV.storable=true:=by
  cases e<;>simp only[bG] at m3<;>try exact m3.elim
  case int=>rw[m3.1];try rfl
  case bool=>rw[m3.1];try rfl
  case str=>rw[m3.1];try rfl
  case slice=>rcases m3 with ⟨_,rfl,_⟩ | ⟨_,_,_,_,rfl,_⟩<;>rfl
  case agg cs=>
   obtain⟨q,rfl,m3⟩:=m3
   refine(bG.QR m3 fun c hc=>?_).1
   have hst:cs.all AV.storable=true:=hst
   have:=eW.1 hst c hc
   cases c<;>first | rfl | (simp [AV.storable] at this)
 refine⟨os.flatMap AV.cells,_,hb2,hlt,hrl,hrs,by simp [h1],?_,?_,?_,?_,h6,?_,?_⟩
 · rw[fS,he]
   have hne:∀q,q≠b→(s2.aC b (.cells (os.flatMap AV.cells++r.cells++(List.replicate (es.length - (i+1)) zs).flatten))) q=s2 q:=fun q hq=>aB.aJ _ _ hq
   exact cA.snoc h2 (fun q hq=>(hne q (fun e=>h4 (e▸hq))).trans (m4 q (oN q hq))) (bG.aV _ _ _ (fun q hq=>hne q (fun e=>hbx (e▸hq))) m3)
 · exact oV.2 ⟨h3,m1,fun a ha c hc e=>oN a ha (e▸hc)⟩
 · intro hb
   rcases fF.1 hb with hb | hb
   · exact h4 hb
   · exact hbx hb
 · intro q hq
   rcases fF.1 hq with hq | hq
   · exact h5 q hq
   · by_cases hqb:q=b
     · rw[hqb];exact h6
     · by_cases hqs:q∈bs
       · exact h5 q hqs
       · rw[←h8 q hqb hqs];exact m2 q hq
 · simp only[aB.aP]
   simp
 · intro q hq hn
   simp only[fF,pI] at hn
   exact(aB.aJ _ _ hq).trans ((m4 q hn.2).trans (h8 q hq hn.1))
def aTH(st:aB)(ds:List Nat)(a r:AV)(st':aB):Prop:=∃bs:List Nat,bs.Nodup∧(∀b∈bs,st b=none)∧(∀d∈ds,st d=none∧d∉bs)∧bG st' a r bs∧∀b,b∉bs→b∉ds→st' b=st b
theorem aD.UO{P:Program}{g:FuncId}{args:List AV}{st:aB}{a:AV}(x:aD P g args st (fun r st'=>∃ds,aTH st ds a r st')):aD P g args st (Made st a):=
 x.mT fun r st' ⟨ds,bs,h1,h2,hd,h3,h4⟩=>by
  refine⟨r,fun q=>if q∈ds then none else st' q,?_,?_,bs,h1,h2,?_,fun b hb=>?_⟩
  · have D:aL st' (fun q=>if q∈ds then none else st' q):=fun q=>by
     by_cases hq:q∈ds
     · simp only[hq,gB];exact⟨fun _=>trivial,fun o h=>by cases h⟩
     · simp only[hq,dI];exact⟨id,fun o h=>h⟩
    exact D.tD
  · have D:aL st' (fun q=>if q∈ds then none else st' q):=fun q=>by
     by_cases hq:q∈ds
     · simp only[hq,gB];exact⟨fun _=>trivial,fun o h=>by cases h⟩
     · simp only[hq,dI];exact⟨id,fun o h=>h⟩
    exact D.mT r
  · exact bG.aV _ _ _ (fun q hq=>aE fun h=>(hd q h).2 hq) h3
  · by_cases hq:b∈ds
    · simp only[hq,gB];exact(hd b hq).1.symm
    · simp only[hq,dI];exact h4 b hb hq
def w6(b:Nat):List AV→List Nat
 | []=>[]
 | _::_=>[b]
theorem a5H{s:aB}{b w:Nat}{es os:List AV}{bs:List Nat}(x:cA (a8 s b os) es os bs)(hw:∀e∈es,e.width=w):bG (a8 s b os) (.slice es) (bM w b os) (w6 b os++bs):=by
 have hl:=x.length
 cases os with
 | nil=>
  have:es= []:=oB (by simpa using hl.symm)
  subst this
  simp only[cA] at x
  simp only[bG,bM,w6,x.2]
  exact .inl ⟨trivial,trivial,rfl⟩
 | cons o os=>
  simp only[bG,bM,w6]
  refine .inr ⟨b,bs,o::os,w,by rw[hl],rfl,?_,x,hw⟩
  simp only[a8,aB.aP]
def AV.flat:AV→Bool
 | .int _ _ | .bool _ | .str _=>true
 | _=>false
theorem cA.flat{s:aB}:∀ {es:List AV},es.all AV.flat=true→cA s es es []
 | [],_=>⟨rfl,rfl⟩
 | e::es,h=>by
  simp only[lE,cK] at h
  simp only[cA]
  refine⟨e,es,[],[],rfl,rfl,?_,cA.flat h.2⟩
  cases e<;>simp [AV.flat] at h<;>simp [bG]
theorem Seen.nil{st s0:aB}:Seen st s0 [] []:=rfl
theorem Seen.same{st s0:aB}{x:AV}{os as:List AV}(h:Seen st s0 os as):Seen st s0 (x::os) (x::as):=⟨x,as,rfl,.inl rfl,h⟩
theorem Seen.own{st:aB}{a o:AV}{bs:List Nat}{os as:List AV}(hO:bG st a o bs)(h:Seen st fE os as):Seen st fE (o::os) (a::as):=⟨a,as,rfl,.inr ⟨bs,hO,fun _ _=>rfl⟩,h⟩
theorem aD.C5{P:Program}{g:FuncId}{args args':List AV}{st:aB}{r:AV}(x:∀s,aD P g args s (fun r' s'=>r'=r∧s'=s))(hv:Seen st fE args' args)(hs:r.gY=true):aD P g args' st (fun r' s'=>r'=r∧s'=st):=
 aD.aM6 hs (x fE) (Seen.rel (aL.fE st) hv)
theorem aD.sF{P:Program}{g:FuncId}{args:List AV}{st:aB}{r:AV}(x:aD P g args st (fun r' st'=>r'=r∧aL st' st)):aD P g args st (fun r' st'=>r'=r∧st'=st):=
 (x.mono fun _ _ h=>⟨h.2,h.1⟩).drop
theorem aTU{P:Program}{t:TypeId}{st:aB}{s x:AV}{K K':AV→aB→Prop}(h:∀r s,K r s→K' r s)(e:kY P t st s x K):kY P t st s x K':=by
 unfold kY at *
 split at e
 case h_2=>exact e.elim
 refine⟨e.1,e.2.1,?_⟩
 have e:=e.2.2
 split at e
 · exact⟨e.1,e.2.1,e.2.2.1,fun q=>h _ _ (e.2.2.2.1 q),fun q b hb=>h _ _ (e.2.2.2.2 q b hb)⟩
 · refine⟨e.1,e.2.1,e.2.2.1,?_⟩
   have e:=e.2.2.2
   split at e
   · exact⟨e.1,h _ _ e.2.1,fun b hb=>h _ _ (e.2.2 b hb)⟩
   · exact e.elim
 · exact e.elim
theorem aTT{P:Program}{t t':TypeId}{st:aB}{s x:AV}{K K':AV→aB→Prop}(h:∀r s,K r s→K' r s)(e:tO P t t' st s x K):tO P t t' st s x K':=by
 unfold tO at *
 split at e
 case h_2=>exact e.elim
 refine⟨e.1,e.2.1,e.2.2.1,e.2.2.2.1,?_⟩
 have e:=e.2.2.2.2
 split at e
 · exact⟨e.1,e.2.1,e.2.2.1,fun q=>h _ _ (e.2.2.2.1 q),fun q b hb=>h _ _ (e.2.2.2.2 q b hb)⟩
 · refine⟨e.1,e.2.1,e.2.2.1,?_⟩
   have e:=e.2.2.2
   split at e
   · exact⟨e.1,h _ _ e.2.1,fun b hb=>h _ _ (e.2.2 b hb)⟩
   · exact e.elim
 · exact e.elim
theorem BN{P:Program}{mt:List Nat}{φ:AF}{st:aB}{o:Oper}{K K':AV→aB→Prop}(h:∀r s,K r s→K' r s)(e:fY P mt φ st o K):fY P mt φ st o K':=by
 unfold fY at *
 split at e
 · split at e
   · exact e.mono h
   · exact e.elim
 · split at e
   · split at e
     · rename_i ht;rw[aH ht];exact aTU h e
     · rename_i ht;rw[aE ht];exact aTT h e
   · exact e.elim
 · split at e
   · unfold BK at *
     split at e
     · split at e
       · exact h _ _ e
       · exact e.elim
     · exact e.elim
   · exact e.elim
 · split at e
   · unfold wZ at *
     split at e
     · obtain⟨e1,e2,e3,e4,e5⟩:=e
       refine⟨e1,e2,e3,e4,?_⟩
       split at e5
       · exact⟨e5.1,h _ _ e5.2⟩
       · exact e5.elim
     · exact h _ _ e
     · exact e.elim
   · exact e.elim
 · split at e
   · rename_i hm
     rw[aH hm]
     exact⟨e.1,fun b hb=>h _ _ (e.2 b hb)⟩
   · rename_i hm
     rw[aE hm]
     split at e
     · exact h _ _ e
     · exact e.elim
 · split at e
   · exact fun b hb=>h _ _ (e b hb)
   · exact e.elim
 · split at e
   · split at e
     · exact⟨e.1,e.2.1,e.2.2.1,h _ _ e.2.2.2⟩
     · exact e.elim
   · exact e.elim
 · exact fun b hb=>h _ _ (e b hb)
 · unfold tQ at *
   split at e
   · exact⟨e.1,e.2.1,e.2.2.1,e.2.2.2.1,e.2.2.2.2.1,e.2.2.2.2.2.1,fun b hb=>h _ _ (e.2.2.2.2.2.2 b hb)⟩
   · exact e.elim
 · unfold tR at *
   split at e
   · split at e
     · exact⟨e.1,h _ _ e.2⟩
     · exact e.elim
   · exact e.elim
 · split at e
   · exact h _ _ e
   · exact e.elim
def jX(P:Program)(ops:Array Oper)(o:Oper)(φ:AF)(st:aB)(K:AV→aB→Prop):Prop:=match jW ops φ o with
 | some true=>fY P [] φ st o K
 | some false=>K .undef st
 | none=>False
theorem tU{P:Program}{ops:Array Oper}{o:Oper}{φ:AF}{st:aB}{K K':AV→aB→Prop}(h:∀r s,K r s→K' r s)(e:jX P ops o φ st K):jX P ops o φ st K':=by
 unfold jX at *
 split at e
 · exact BN h e
 · exact h _ _ e
 · exact e.elim
section
variable {P:Program}
theorem aTX{ops:Array Oper}{oi oj:Oper}(φ:AF)(v:AV)(h:∀d,oj.dst=some d→d∉oi.looksAt ops):jW ops (φ.put oj.dst v) oi=jW ops φ oi:=by
 unfold jW
 cases hg:oi.guard with
 | none=>rfl
 | some gw=>
  obtain⟨g,want⟩:=gw
  cases ht:(ops[g]?).bind (·.dst) with
  | none=>simp only[ht]
  | some t=>
   simp only[ht]
   have:(φ.put oj.dst v) t=φ t:=by
    have:=N1 (φ:=φ) (dst:=oj.dst) (v:=v) (x:=.tmp t) (fun d hd hxd=>h d hd (by
     cases hxd
     simp [Oper.looksAt,hg,ht]))
    exact this
   rw[this]
theorem QN{ops:Array Oper}{oi oj:Oper}(φ:AF)(v:AV){st:aB}{K:AV→aB→Prop}(h:∀d,oj.dst=some d→d∉oi.looksAt ops):jX P ops oi (φ.put oj.dst v) st K↔jX P ops oi φ st K:=by
 have h1:fY P [] (φ.put oj.dst v) st oi K=fY P [] φ st oi K:=
  YT fun x hx=>N1 fun d hd hxd=>h d hd (by
   subst hxd
   exact List.mem_append_left _ (List.mem_filterMap.2 ⟨.tmp d,by simpa using hx,rfl⟩))
 unfold jX
 rw[h1,aTX φ v h]
theorem SY(n j:Nat):(Array.replicate n false).getD j false=false:=by
 rcases kX j n with h | h<;>simp [h]
def K5(P:Program)(ops:Array Oper)(K:AF→aB→Prop):Nat→Array Bool→AF→aB→Prop
 | 0,listed,φ,st=>Region.ready .any ops listed= []∧K φ st
 | f+1,listed,φ,st=>(Region.ready .any ops listed= []→K φ st)∧∀i∈Region.ready .any ops listed,∃o,ops[i]?=some o∧jX P ops o φ st (fun r st'=>K5 P ops K f (listed.setIfInBounds i true) (φ.put o.dst r) st')
theorem aT1{N:Nat}{ops:Array Oper}(hN:∀(j d:Nat),(ops[j]?).bind (·.dst)=some d→d<N){o:Oper}{i:Nat}{a:Act}{w:World}{φ:AF}{st:aB}{G:AV→aB→Prop}{K:Act→World→Prop}{Q:Exit→Act→World→Prop}(hi:ops[i]?=some o)
 (R:Rel N a w φ st) (hd:qY N o=true) (y:jX P ops o φ st G) (h:∀a' w' r st',Rel N a' w' (φ.put o.dst r) st'→cC w.heap st w'.heap st'→gE w w'→G r st'→K a' w'):wpOp P ops Q i K a w:=by
 unfold jX at y
 unfold wpOp
 simp only[hi]
 split at y
 · rename_i hg
   rw[aH (yW R hN hg)]
   refine .inl (LA R.frame R.store y fun v w' ⟨r',st',x1,x2,x3,x4,x5⟩=>?_)
   exact h _ _ r' st' (R.put hd x3 x2 x1) x3 x4 x5
 · rename_i hg
   rw[aE (by rw[yW R hN hg];simp)]
   exact h _ _ .undef st (R.put (r:=.undef) hd (cC.refl _ _) R.store ⟨rfl,rfl⟩) (cC.refl _ _) (gE.refl _) y
 · exact y.elim
theorem K6{N:Nat}{ops:Array Oper}(hN:∀(j d:Nat),(ops[j]?).bind (·.dst)=some d→d<N)(hD:∀o∈ops.toList,qY N o=true){K:AF→aB→Prop}{Q:Exit→Act→World→Prop}{w0:World}{st0:aB}
 (hK:∀φ st a w,K φ st→Rel N a w φ st→cC w0.heap st0 w.heap st→gE w0 w→Q .normal a w) :
 ∀(f:Nat) (listed:Array Bool) (φ:AF) (st:aB) (a:Act) (w:World),K5 P ops K f listed φ st→Rel N a w φ st→cC w0.heap st0 w.heap st→gE w0 w→wpAny P .any ops Q f listed a w
 | 0,listed,φ,st,a,w,h,R,T,s=>⟨h.1,hK φ st a w h.2 R T s⟩
 | f+1,listed,φ,st,a,w,h,R,T,s=>by
  refine⟨fun h0=>hK φ st a w (h.1 h0) R T s,fun i hi=>?_⟩
  obtain⟨o,ho,y⟩:=h.2 i hi
  exact aT1 hN ho R (hD o (oT.2 (A8 ho))) y fun a' w' r st' R' T' s' g=>K6 hN hD hK f _ _ _ a' w' g R' (T.trans T') (s.trans s')
def YO(P:Program)(ops:Array Oper)(o:Oper)(r:AV)(φ:AF):Prop:=∀st,kP P st ops o r φ
theorem a95{ops:Array Oper}{o:Oper}{r:AV}{φ:AF}(h:YO P ops o r φ){st:aB}{K:AV→aB→Prop}(k:K r st):jX P ops o φ st K:=by
 unfold jX
 rcases h st with ⟨hg,hs⟩ | ⟨hg,rfl⟩
 · rw[hg];exact BN (fun r' s' ⟨e1,e2⟩=>by rw[e1,e2];exact k) hs
 · rw[hg];exact k
theorem YW{ops:Array Oper}{o:Oper}{r:AV}{φ:AF}{st:aB}(h:kP P st ops o r φ){K:AV→aB→Prop}(k:K r st):jX P ops o φ st K:=by
 unfold jX
 rcases h with ⟨hg,hs⟩ | ⟨hg,rfl⟩
 · rw[hg];exact BN (fun r' s' ⟨e1,e2⟩=>by rw[e1,e2];exact k) hs
 · rw[hg];exact k
def DX(P:Program)(ops:Array Oper)(S:List Nat)(K:AF→aB→Prop):Nat→Array Bool→AF→aB→Prop
 | 0,listed,φ,st=>Region.ready .any ops listed= []∧K φ st
 | f+1,listed,φ,st=>(Region.ready .any ops listed= []→K φ st)∧∀i∈Region.ready .any ops listed,∃o,ops[i]?=some o ∧
  ((S.contains i=true∧∃r,kP P st ops o r φ∧DX P ops S K f (listed.setIfInBounds i true) (φ.put o.dst r) st) ∨
   (S.contains i=false∧jX P ops o φ st (fun r st'=>DX P ops S K f (listed.setIfInBounds i true) (φ.put o.dst r) st')))
theorem QH{ops:Array Oper}{S:List Nat}{K:AF→aB→Prop}:∀(f:Nat) (listed:Array Bool) (φ:AF) (st:aB),DX P ops S K f listed φ st→K5 P ops K f listed φ st
 | 0,_,_,_,h=>h
 | f+1,listed,φ,st,h=>by
  refine⟨h.1,fun i hi=>?_⟩
  obtain⟨o,ho,h2⟩:=h.2 i hi
  refine⟨o,ho,?_⟩
  rcases h2 with ⟨_,r,y,k⟩ | ⟨_,k⟩
  · exact YW y (QH f _ _ _ k)
  · exact tU (fun r s q=>QH f _ _ _ q) k
def tG(ops:Array Oper)(listed:Array Bool):Prop:=∀j o,ops[j]?=some o→listed.getD j false=true→∀e∈o.after,Region.binds .any e=true→listed.getD e.on false=true
theorem tG.set{ops:Array Oper}{listed:Array Bool}{i:Nat}(h:tG ops listed)(hr:i∈Region.ready .any ops listed):tG ops (listed.setIfInBounds i true):=by
 intro j o ho hl e he hb
 by_cases hji:i=j
 · subst hji
   obtain⟨_,o',ho',dN⟩:=mem_ready.1 hr
   rw[ho'] at ho;cases ho
   exact getD_set_true (dN e he hb)
 · rw[getD_set_ne false hji] at hl
   exact getD_set_true (h j o ho hl e he hb)
def vQ(ops:Array Oper):Nat→Nat→Nat→Bool
 | 0,_,_=>false
 | f+1,j,i=>match ops[j]? with
  | some o=>o.after.any fun e=>Region.binds .any e&&(e.on == i||vQ ops f e.on i)
  | none=>false
theorem L9{ops:Array Oper}{listed:Array Bool}{i:Nat}(h:tG ops listed)(hi:listed.getD i false=false):∀(f j:Nat) (o:Oper),ops[j]?=some o→vQ ops f j i=true→¬ ∀e∈o.after,Region.binds .any e=true→listed.getD e.on false=true
 | 0,j,o,_,hd=>by simp [vQ] at hd
 | f+1,j,o,ho,hd=>by
  intro dN
  simp only[vQ,ho] at hd
  obtain⟨e,he,h2⟩:=Array.any_eq_true'.1 hd
  simp only[cK,rU,beq_iff_eq] at h2
  obtain⟨hb,h3⟩:=h2
  have hl:=dN e he hb
  rcases h3 with h3 | h3
  · rw[h3,hi] at hl;cases hl
  · cases hk:ops[e.on]? with
    | none=>cases f<;>simp [vQ,hk] at h3
    | some o2=>exact L9 h hi f e.on o2 hk h3 (h e.on o2 hk hl)
def eR(st s:aB):Prop:=∀b o,st b=some o→s b=some o
theorem eR.refl(st:aB):eR st st:=fun _ _ h=>h
theorem eR.trans{a b c:aB}(x:eR a b)(y:eR b c):eR a c:=fun q o h=>y q o (x q o h)
def LF(o:Oper):Bool:=match o.op with
 | .alloc _=>true
 | _=>false
theorem aT0{ops:Array Oper}{o:Oper}{φ:AF}{st:aB}{K:AV→aB→Prop}(ho:LF o=true)(e:jX P ops o φ st K):jX P ops o φ st (fun r st'=>eR st st'∧K r st'):=by
 obtain⟨dst,op,type,pos,after,guard⟩:=o
 cases op<;>simp only[LF,jC] at ho
 unfold jX at e ⊢
 split at e
 · simp only[fY] at e ⊢
   split at e
   · intro b hb
     refine⟨fun q o hq=>?_,e b hb⟩
     rw[aB.aJ _ _ (by rintro rfl;rw[hb] at hq;cases hq)]
     exact hq
   · cases e
 · exact⟨eR.refl _,e⟩
 · cases e
theorem QI{ops:Array Oper}{S:List Nat}{i:Nat}{oi:Oper}{v:AV}{K:AF→aB→Prop}(hi:ops[i]?=some oi)(hS:S.contains i=true) :
 ∀(f:Nat) (listed:Array Bool) (φ:AF) (st:aB),tG ops listed →
  (∀j oj,ops[j]?=some oj→j≠i→listed.getD j true=false→(∀e∈oj.after,Region.binds .any e=true→e.on≠i)→oi.apart ops oj=true) →
  i∈Region.ready .any ops listed→((∀s,kP P s ops oi v φ)∨(kP P st ops oi v φ∧∀j oj,ops[j]?=some oj→listed.getD j true=false→S.contains j=false→∃g,vQ ops g j i=true)∨((∀s,eR st s→kP P s ops oi v φ)∧∀j oj,ops[j]?=some oj→listed.getD j true=false→S.contains j=false→(∃g,vQ ops g j i=true)∨LF oj=true)) →
  DX P ops S K f (listed.setIfInBounds i true) (φ.put oi.dst v) st→DX P ops S K (f+1) listed φ st:=by
 intro f
 induction f with
 | zero=>
  intro listed φ st hcl _ hr hy H
  have hy0:kP P st ops oi v φ:=by
   rcases hy with h | h | h
   · exact h st
   · exact h.1
   · exact h.1 st (eR.refl st)
  refine⟨fun h=>(by rw[h] at hr;cases hr),fun j hj=>?_⟩
  by_cases hji:j=i
  · subst hji;exact⟨oi,hi,.inl ⟨hS,v,hy0,H⟩⟩
  · have:=ready_mono hj hji
    rw[H.1] at this
    cases this
 | succ f ih=>
  intro listed φ st hcl rE hr hy H
  have hy0:kP P st ops oi v φ:=by
   rcases hy with h | h | h
   · exact h st
   · exact h.1
   · exact h.1 st (eR.refl st)
  refine⟨fun h=>(by rw[h] at hr;cases hr),fun j hj=>?_⟩
  by_cases hji:j=i
  · subst hji;exact⟨oi,hi,.inl ⟨hS,v,hy0,H⟩⟩
  · obtain⟨oj,hoj,h1⟩:=H.2 j (ready_mono hj hji)
    obtain⟨qC,oj',CF,dN⟩:=mem_ready.1 hj
    have:oj'=oj:=lL (CF.symm.trans hoj)
    subst this
    have hun:=(mem_ready.1 hr).1
    have uJ:∀e∈oj'.after,Region.binds .any e=true→e.on≠i:=fun e he hb heq=>by
     have h1:=dN e he hb
     rw[heq,getD_both hun] at h1
     cases h1
    obtain⟨a1,a2,a3⟩:=Oper.apart_spec (rE j oj' hoj hji qC uJ)
    have vW:∀k ok,ops[k]?=some ok→k≠i→(listed.setIfInBounds j true).getD k true=false →
     (∀e∈ok.after,Region.binds .any e=true→e.on≠i)→oi.apart ops ok=true:=fun k ok hk hki hun hno=>by
     refine rE k ok hk hki ?_ hno
     by_cases hjk:j=k
     · subst hjk;exact qC
     · rw[getD_set_ne true hjk] at hun;exact hun
    have UB:∀k,(listed.setIfInBounds j true).getD k true=false→listed.getD k true=false:=fun k hk=>by
     by_cases hjk:j=k
     · subst hjk;exact qC
     · rw[getD_set_ne true hjk] at hk;exact hk
    refine⟨oj',hoj,?_⟩
    rcases h1 with ⟨hSj,r,yj,h2⟩ | ⟨hSj,h2⟩
    · refine .inl ⟨hSj,r,(qW φ v a1).1 yj,ih (listed.setIfInBounds j true) (φ.put oj'.dst r) st (hcl.set hj) vW (ready_mono hr (c9 hji)) ?_ ?_⟩
      · rcases hy with h | h | h
        · exact .inl fun s=>(qW φ r a3).2 (h s)
        · exact .inr (.inl ⟨(qW φ r a3).2 h.1,fun k ok hk hl hs=>h.2 k ok hk (UB k hl) hs⟩)
        · exact .inr (.inr ⟨fun s hs=>(qW φ r a3).2 (h.1 s hs),fun k ok hk hl hs=>h.2 k ok hk (UB k hl) hs⟩)
      · rw[DL _ _ hji,←put_comm φ v r a2]
        exact h2
    · rcases hy with hf | ⟨_,hd⟩ | ⟨hx,hd⟩
      · refine .inr ⟨hSj,tU (fun r st' h3=>?_) ((QN φ v a1).1 h2)⟩
        refine ih (listed.setIfInBounds j true) (φ.put oj'.dst r) st' (hcl.set hj) vW (ready_mono hr (c9 hji)) (.inl fun s=>(qW φ r a3).2 (hf s)) ?_
        rw[DL _ _ hji,←put_comm φ v r a2]
        exact h3
      · obtain⟨g,hg⟩:=hd j oj' hoj qC hSj
        exact absurd dN (L9 hcl (getD_both hun) g j oj' hoj hg)
      · rcases hd j oj' hoj qC hSj with ⟨g,hg⟩ | hal
        · exact absurd dN (L9 hcl (getD_both hun) g j oj' hoj hg)
        · refine .inr ⟨hSj,tU (fun r st' h3=>?_) (aT0 hal ((QN φ v a1).1 h2))⟩
          refine ih (listed.setIfInBounds j true) (φ.put oj'.dst r) st' (hcl.set hj) vW (ready_mono hr (c9 hji)) (.inr (.inr ⟨fun s hs=>(qW φ r a3).2 (hx s (h3.1.trans hs)),fun k ok hk hl hs=>hd k ok hk (UB k hl) hs⟩)) ?_
          rw[DL _ _ hji,←put_comm φ v r a2]
          exact h3.2
def aQ4(ops:Array Oper)(S:List Nat)(listed:Array Bool)(i:Nat):Bool:=(List.range ops.size).all fun j=>listed.getD j true||S.contains j||vQ ops ops.size j i
def aQ3(ops:Array Oper)(S:List Nat)(listed:Array Bool)(i:Nat):Bool:=(List.range ops.size).all fun j=>listed.getD j true||S.contains j||vQ ops ops.size j i||((ops[j]?).map LF).getD false
def aPY(ops:Array Oper)(i:Nat):Bool:=((ops[i]?).map lD).getD false
def uO(ops:Array Oper)(S:List Nat):List (Nat×Nat)→Array Bool→Bool
 | [],listed=>(Region.ready .any ops listed).isEmpty
 | (i,0)::r,listed=>decide (Region.ready .any ops listed= [i])&& !S.contains i&&uO ops S r (listed.setIfInBounds i true)
 | (i,1)::r,listed=>(Region.ready .any ops listed).contains i&&Region.free .any ops listed i&&S.contains i&&uO ops S r (listed.setIfInBounds i true)
 | (i,_)::r,listed=>(Region.ready .any ops listed).contains i&&Region.free .any ops listed i&&S.contains i&&(aQ4 ops S listed i||(aPY ops i&&aQ3 ops S listed i))&&uO ops S r (listed.setIfInBounds i true)
def D2(P:Program)(ops:Array Oper)(K:AF→aB→Prop):List (Nat×Nat)→AF→aB→Prop
 | [],φ,st=>K φ st
 | (i,0)::r,φ,st=>∃o,ops[i]?=some o∧jX P ops o φ st (fun v st'=>D2 P ops K r (φ.put o.dst v) st')
 | (i,1)::r,φ,st=>∃o,ops[i]?=some o∧∃v,YO P ops o v φ∧D2 P ops K r (φ.put o.dst v) st
 | (i,_)::r,φ,st=>∃o,ops[i]?=some o∧∃v,kP P st ops o v φ∧D2 P ops K r (φ.put o.dst v) st
theorem a4L{t:TypeId}{ok:Bool}{x i r:AV}{st s:aB}(hs:eR st s)(h:pT P st t ok x i=some r):pT P s t ok x i=some r:=by
 unfold pT at *
 split at h
 · rename_i b n
   cases hb:st b with
   | none=>rw[hb] at h;cases h
   | some o=>rw[hs b o hb,←hb];exact h
 · cases h
theorem a4G{t:TypeId}{x r:AV}{st s:aB}(hs:eR st s)(h:iM P st t x=some r):iM P s t x=some r:=by
 unfold iM at *
 split at h
 · exact h
 · rename_i b o
   cases hb:st b with
   | none=>rw[hb] at h;split at h<;>simp_all
   | some o=>rw[hs b o hb,←hb];exact h
 · cases h
theorem YU{φ:AF}{o:Oper}{r:AV}{st s:aB}(hs:eR st s)(h:lV P φ st o=some r):lV P φ s o=some r:=by
 obtain⟨dst,op,type,pos,after,guard⟩:=o
 cases op
 case makeFunc fn a b=>cases fn<;>exact h
 case call c=>
  obtain⟨callee,args,ats⟩:=c
  cases callee
  case builtin b=>cases b<;>exact h
  all_goals exact h
 case load=>exact a4G hs h
 case lookup=>exact a4L hs h
 all_goals exact h
theorem aT6{ops:Array Oper}{o:Oper}{v:AV}{φ:AF}{st s:aB}(hp:lD o=true)(hs:eR st s)(h:kP P st ops o v φ):kP P s ops o v φ:=by
 rcases h with ⟨h1,h2⟩ | h
 · refine .inl ⟨h1,?_⟩
   rw[tV hp] at h2 ⊢
   cases hv:lV P φ st o with
   | none=>rw[hv] at h2;cases h2
   | some r=>
    rw[hv] at h2
    rw[YU hs hv]
    exact⟨h2.1,rfl⟩
 · exact .inr h
theorem G3{ops:Array Oper}{S:List Nat}{K:AF→aB→Prop}:∀(p:List (Nat×Nat)) (listed:Array Bool) (φ:AF) (st:aB),tG ops listed→uO ops S p listed=true→D2 P ops K p φ st→DX P ops S K p.length listed φ st
 | [],listed,φ,st,_,hB,h=>⟨by simpa [uO] using hB,h⟩
 | (i,0)::r,listed,φ,st,hcl,hB,h=>by
  simp only[uO,cK,bL,iX] at hB
  obtain⟨o,ho,h'⟩:=h
  have hr:i∈Region.ready .any ops listed:=by rw[hB.1.1];simp
  refine⟨fun h0=>(by rw[hB.1.1] at h0;cases h0),fun j hj=>?_⟩
  rw[hB.1.1] at hj
  obtain rfl:j=i:=by simpa using hj
  exact⟨o,ho,.inr ⟨hB.1.2,tU (fun v st' q=>G3 r _ _ _ (hcl.set hr) hB.2 q) h'⟩⟩
 | (i,1)::r,listed,φ,st,hcl,hB,h=>by
  simp only[uO,cK] at hB
  obtain⟨⟨⟨hr,hf⟩,hS⟩,hB'⟩:=hB
  obtain⟨o,ho,v,hv,h'⟩:=h
  have hr':i∈Region.ready .any ops listed:=by simpa using hr
  exact QI ho hS _ listed φ st hcl (Region.free_spec ho hf) hr' (.inl hv) (G3 r _ _ _ (hcl.set hr') hB' h')
 | (i,k+2)::r,listed,φ,st,hcl,hB,h=>by
  simp only[uO,cK] at hB
  obtain⟨⟨⟨⟨hr,hf⟩,hS⟩,hd⟩,hB'⟩:=hB
  obtain⟨o,ho,v,hv,h'⟩:=h
  have hr':i∈Region.ready .any ops listed:=by simpa using hr
  rw[rU] at hd
  rcases hd with hd | hd
  · refine QI ho hS _ listed φ st hcl (Region.free_spec ho hf) hr' (.inr (.inl ⟨hv,fun j oj hj hl hs=>⟨ops.size,?_⟩⟩)) (G3 r _ _ _ (hcl.set hr') hB' h')
    simp only[aQ4,eW,qT] at hd
    have:=hd j (DK.1 hj).1
    simpa only[hl,hs,rT] using this
  · rw[cK] at hd
    obtain⟨hp,hd⟩:=hd
    simp only[aPY,ho,oD,GR] at hp
    refine QI ho hS _ listed φ st hcl (Region.free_spec ho hf) hr' (.inr (.inr ⟨fun s hs=>aT6 hp hs hv,fun j oj hj hl hs=>?_⟩)) (G3 r _ _ _ (hcl.set hr') hB' h')
    simp only[aQ3,eW,qT] at hd
    have:=hd j (DK.1 hj).1
    simp only[hl,hs,rT,hj,oD,GR,rU] at this
    exact this.imp (fun h=>⟨ops.size,h⟩) id
theorem aUQ{N:Nat}{id:Nat}{ops:Array Oper}{Q:Exit→AF→aB→Prop}{φ:AF}{st:aB}(p:List (Nat×Nat))(S:List Nat)(hm:P.follows .mixedOrders=true)(hok:qM N ops=true)(hl:p.length=ops.size)(hB:uO ops S p (Array.replicate ops.size false)=true)
 (h:D2 P ops (Q .normal) p φ st):g7 P N (.region id ops true) Q φ st:=by
 intro a w R
 refine wp_region_any hm ?_
 have R0:Rel N a { w with drawn:=w.drawn+1 } φ st:=⟨R.size,R.defers,R.frame,R.store⟩
 have:=QH _ _ _ _ (G3 p _ φ st (fun j o _ hl=>(by rw[SY] at hl;cases hl)) hB h)
 rw[hl] at this
 exact K6 (AD hok) (yA hok) (w0:=w) (st0:=st) (fun φ' st' a' w' k R' T s=>⟨φ',st',R',T,s,k⟩) _ _ _ _ _ _ this R0 (cC.refl _ _) ⟨rfl,rfl,rfl⟩
theorem a4K{t:TypeId}{ok:Bool}{x i r:AV}(h:pT P fE t ok x i=some r)(st:aB):pT P st t ok x i=some r:=by
 unfold pT at *
 split at h
 · simp only[fE] at h;cases h
 · cases h
theorem a4F{t:TypeId}{x r:AV}(h:iM P fE t x=some r)(st:aB):iM P st t x=some r:=by
 unfold iM at *
 split at h
 · exact h
 · split at h
   · rename_i h1;simp only[fE] at h1;cases h1
   · cases h
 · cases h
theorem aT2{φ:AF}{o:Oper}{r:AV}(h:lV P φ fE o=some r)(st:aB):lV P φ st o=some r:=by
 obtain⟨dst,op,type,pos,after,guard⟩:=o
 cases op
 case makeFunc fn a b=>cases fn<;>exact h
 case call c=>
  obtain⟨callee,args,ats⟩:=c
  cases callee
  case builtin b=>cases b<;>exact h
  all_goals exact h
 case load=>exact a4F h st
 case lookup=>exact a4K h st
 all_goals exact h
def kO(P:Program)(ops:Array Oper)(K:AF→aB→Prop):List (Nat×Nat)→AF→aB→Prop
 | [],φ,st=>K φ st
 | (i,0)::r,φ,st=>match ops[i]? with
  | none=>False
  | some o=>bK P [] ops [o] (fun φ' st'=>kO P ops K r φ' st') φ st
 | (i,1)::r,φ,st=>match ops[i]? with
  | none=>False
  | some o=>if lD o=true then bK P [] ops [o] (fun φ' _=>kO P ops K r φ' st) φ fE else
   match o.guard,o.op with
   | none,.call { callee:=.value f,args,.. }=>∃v,(∀s,tZ P (φ.eval f) (args.toList.map φ.eval) s (fun r' s'=>r'=v∧s'=s))∧kO P ops K r (φ.put o.dst v) st
   | _,_=>False
 | (i,_)::r,φ,st=>match ops[i]? with
  | none=>False
  | some o=>if lD o=true then bK P [] ops [o] (fun φ' _=>kO P ops K r φ' st) φ st else
   match o.guard,o.op with
   | none,.call { callee:=.value f,args,.. }=>∃v,tZ P (φ.eval f) (args.toList.map φ.eval) st (fun r' s'=>r'=v∧s'=st)∧kO P ops K r (φ.put o.dst v) st
   | _,_=>False
theorem w5{ops:Array Oper}{K:AF→aB→Prop}:∀(p:List (Nat×Nat)) (φ:AF) (st:aB),kO P ops K p φ st→D2 P ops K p φ st
 | [],_,_,h=>h
 | (i,0)::r,φ,st,h=>by
  simp only[kO] at h
  split at h
  · exact h.elim
  · rename_i o ho
    refine⟨o,ho,?_⟩
    simp only[bK] at h
    unfold jX
    split at h
    · rename_i hg
      rw[hg]
      exact BN (fun v s q=>w5 r _ _ q) h
    · rename_i hg
      rw[hg]
      exact w5 r _ _ h
    · exact h.elim
 | (i,1)::r,φ,st,h=>by
  simp only[kO] at h
  split at h
  · exact h.elim
  · rename_i o ho
    split at h
    · rename_i hp
      simp only[bK] at h
      split at h
      · rename_i hg
        rw[tV hp] at h
        split at h
        · rename_i v hv
          exact⟨o,ho,v,fun s=>.inl ⟨hg,by rw[tV hp,aT2 hv s];exact⟨rfl,rfl⟩⟩,w5 r _ _ h⟩
        · exact h.elim
      · rename_i hg
        exact⟨o,ho,.undef,fun s=>.inr ⟨hg,rfl⟩,w5 r _ _ h⟩
      · exact h.elim
    · split at h
      · rename_i f args ats hg hop
        obtain⟨v,h1,h2⟩:=h
        refine⟨o,ho,v,fun s=>.inl ⟨by simp only[jW,hg],?_⟩,w5 r _ _ h2⟩
        simp only[fY,hop]
        exact h1 s
      · exact h.elim
 | (i,k+2)::r,φ,st,h=>by
  simp only[kO] at h
  split at h
  · exact h.elim
  · rename_i o ho
    split at h
    · rename_i hp
      simp only[bK] at h
      split at h
      · rename_i hg
        rw[tV hp] at h
        split at h
        · rename_i v hv
          exact⟨o,ho,v,.inl ⟨hg,by rw[tV hp,hv];exact⟨rfl,rfl⟩⟩,w5 r _ _ h⟩
        · exact h.elim
      · rename_i hg
        exact⟨o,ho,.undef,.inr ⟨hg,rfl⟩,w5 r _ _ h⟩
      · exact h.elim
    · split at h
      · rename_i f args ats hg hop
        obtain⟨v,h1,h2⟩:=h
        refine⟨o,ho,v,.inl ⟨by simp only[jW,hg],?_⟩,w5 r _ _ h2⟩
        simp only[fY,hop]
        exact h1
      · exact h.elim
end
def VJ(P:Program)(ops:Array Oper)(K:AF→aB→Prop)(r:List (Nat×Nat))(φ:AF)(st:aB):Prop:=kO P ops K r φ st
def I9(P:Program)(ops:Array Oper)(K:AF→aB→Prop)(r:List (Nat×Nat))(st:aB)(φ:AF)(_:aB):Prop:=kO P ops K r φ st
def CV(P:Program)(ops:Array Oper)(K:AF→aB→Prop)(r:List (Nat×Nat))(φ:AF)(dst:Option Tmp)(st:aB)(v:AV):Prop:=kO P ops K r (φ.put dst v) st
def HK(P:Program)(f:AV)(args:List AV)(K:AV→Prop):Prop:=∃v,(∀s,tZ P f args s (fun r' s'=>r'=v∧s'=s))∧K v
def FO(P:Program)(ops:Array Oper)(K:AF→aB→Prop)(r:List (Nat×Nat))(φ:AF)(st:aB):Nat→Option Oper→Prop
 | 0,some o=>bK P [] ops [o] (VJ P ops K r) φ st
 | 1,some o=>if lD o=true then bK P [] ops [o] (I9 P ops K r st) φ fE else
  match o.guard,o.op with
  | none,.call { callee:=.value f,args,.. }=>HK P (φ.eval f) (args.toList.map φ.eval) (CV P ops K r φ o.dst st)
  | _,_=>False
 | _,some o=>if lD o=true then bK P [] ops [o] (I9 P ops K r st) φ st else
  match o.guard,o.op with
  | none,.call { callee:=.value f,args,.. }=>y9 P (φ.eval f) (args.toList.map φ.eval) st (CV P ops K r φ o.dst st)
  | _,_=>False
 | _,none=>False
theorem aIO{P:Program}{ops:Array Oper}{K:AF→aB→Prop}{φ:AF}{st:aB}:kO P ops K [] φ st=K φ st:=rfl
theorem aIP{P:Program}{l:List Oper}{K:AF→aB→Prop}{φ:AF}{st:aB}{i b:Nat}{r:List (Nat×Nat)}:kO P l.toArray K ((i,b)::r) φ st=FO P l.toArray K r φ st b l[i]?:=by
 match b with
 | 0=>simp only[kO,yT];cases l[i]?<;>rfl
 | 1=>simp only[kO,yT];cases l[i]?<;>rfl
 | b+2=>simp only[kO,yT];cases l[i]?<;>rfl
theorem aIT{P:Program}{ops:Array Oper}{K:AF→aB→Prop}{φ:AF}{st:aB}{r:List (Nat×Nat)}{o:Oper}:FO P ops K r φ st 0 (some o)=bK P [] ops [o] (VJ P ops K r) φ st:=rfl
theorem aIU{P:Program}{ops:Array Oper}{K:AF→aB→Prop}{φ:AF}{st:aB}{r:List (Nat×Nat)}{o:Oper}:FO P ops K r φ st 1 (some o)=if lD o=true then bK P [] ops [o] (I9 P ops K r st) φ fE else
      match o.guard,o.op with
      | none,.call { callee:=.value f,args,.. }=>HK P (φ.eval f) (args.toList.map φ.eval) (CV P ops K r φ o.dst st)
      | _,_=>False:=rfl
theorem aIV{P:Program}{ops:Array Oper}{K:AF→aB→Prop}{φ:AF}{st:aB}{r:List (Nat×Nat)}{o:Oper}:FO P ops K r φ st 2 (some o)=if lD o=true then bK P [] ops [o] (I9 P ops K r st) φ st else
      match o.guard,o.op with
      | none,.call { callee:=.value f,args,.. }=>y9 P (φ.eval f) (args.toList.map φ.eval) st (CV P ops K r φ o.dst st)
      | _,_=>False:=rfl
theorem aIS{P:Program}{ops:Array Oper}{K:AF→aB→Prop}{φ:AF}{st:aB}{r:List (Nat×Nat)}:VJ P ops K r φ st=kO P ops K r φ st:=rfl
theorem aIR{P:Program}{ops:Array Oper}{K:AF→aB→Prop}{φ:AF}{st s:aB}{r:List (Nat×Nat)}:I9 P ops K r st φ s=kO P ops K r φ st:=rfl
theorem aIQ{P:Program}{ops:Array Oper}{K:AF→aB→Prop}{φ:AF}{st:aB}{r:List (Nat×Nat)}{dst:Option Tmp}{v:AV}:CV P ops K r φ dst st v=kO P ops K r (φ.put dst v) st:=rfl
theorem R7{P:Program}{g:FuncId}{args:List AV}{r:AV}{K:AV→Prop}(x:∀st,aD P g args st (fun r' st'=>r'=r∧st'=st))(h:K r):HK P (.func g []) args K:=⟨r,fun st=>by show aD P g (args++ []) st _;rw[gI];exact x st,h⟩
@[congr] theorem bAI {P:Program} {ops:Array Oper} {K:AF→aB→Prop} {p:List (Nat×Nat)} {φ φ':AF} {st st':aB} (h1:φ=φ') (h2:st=st'):kO P ops K p φ st=kO P ops K p φ' st':=by rw[h1,h2]
@[congr] theorem bAW {P:Program} {ops:Array Oper} {K:AF→aB→Prop} {p:List (Nat×Nat)} {φ φ':AF} {st st':aB} {b:Nat} {o o':Option Oper} (h1:φ=φ') (h2:st=st') (h3:o=o'):FO P ops K p φ st b o=FO P ops K p φ' st' b o':=by rw[h1,h2,h3]
@[congr] theorem bAV {P:Program} {ops:Array Oper} {K:AF→aB→Prop} {p:List (Nat×Nat)} {φ φ':AF} {dst:Option Tmp} {st st':aB} {v v':AV} (h1:φ=φ') (h2:st=st') (h3:v=v'):CV P ops K p φ dst st v=CV P ops K p φ' dst st' v':=by rw[h1,h2,h3]
@[congr] theorem bAM {P:Program} {f f':AV} {args args':List AV} {K:AV→Prop} (h0:f=f') (h1:args=args'):HK P f args K=HK P f' args' K:=by rw[h0,h1]
theorem zx5{P:Program}{N:Nat}{id:Nat}{l:List Oper}{Q:Exit→AF→aB→Prop}{φ:AF}{st:aB}(p:List (Nat×Nat))(S:List Nat)(hm:P.follows .mixedOrders=true)(hok:qM N l.toArray=true)(hl:p.length=l.length)(hB:uO l.toArray S p (Array.replicate l.length false)=true)
 (h:kO P l.toArray (Q .normal) p φ st):g7 P N (.region id l.toArray true) Q φ st:=
 aUQ p S hm hok (by simpa using hl) (by simpa using hB) (w5 p φ st h)
theorem aT8{P:Program}{t:TypeId}{ag:Bool}{w bytes:Nat}{zs:List AV}{s:aB}{b:Nat}{l xs:List AV}{x:AV}{K:AV→aB→Prop}
 (hI:eI P t=some (ag,w)) (hB:eB P t=some bytes) (hZ:eZ P t=some zs) (hz:zs.length=w) (hx:BL x=some xs) (fD:w8 w xs) (hw:∀e∈l,e.width=w) (hb:l≠[]→s b=some (.cells (l.flatMap AV.cells)))
 (h1:(l.length+xs.length)*bytes≤140737488355328) (h2:l.length+xs.length≤9223372036854775807)
 (hK:∀b' s',(l++xs≠[]→s' b'=some (.cells ((l++xs).flatMap AV.cells)))→(l++xs≠[]→b'=b∧l≠[]∨s b'=none)→(∀q,(l++xs≠[]→q≠b')→(l≠[]→q≠b)→s' q=s q)→(l≠[]→b'≠b→s' b=none)→K (bM w b' (l++xs)) s'):kY P t s (bM w b l) x K:=by
 unfold kY
 rw[hI,hB,hZ,hx]
 refine⟨hz,fD,?_⟩
 cases l with
 | nil=>
  show _∧_∧_∧_∧_
  refine⟨by simpa using h1,by simpa using h2,by simp,?_,?_⟩
  · rintro rfl
    have:=hK b s (by simp) (by simp) (fun _ _ _=>rfl) (by simp)
    simpa [bM] using this
  · intro hne b' hb'
    have:=hK b' (s.aC b' (.cells (xs.flatMap AV.cells))) (fun _=>by rw[aB.aP];simp) (fun _=>.inr hb') (fun q h _=>aB.aJ _ _ (h (by simpa using hne))) (by simp)
    rw[eS,pW hne] at this
    simpa using this
 | cons y l=>
  have hb:=hb (by simp)
  show w=w∧_∧_∧_
  refine⟨rfl,h1,h2,?_⟩
  have hfl:((y::l).flatMap AV.cells).length=(y::l).length*w:=p6 hw
  rw[hb]
  refine⟨by rw[hfl];exact dB _,?_,?_⟩
  · have:=hK b (s.aC b (.cells ((y::l++xs).flatMap AV.cells))) (fun _=>aB.aP _ _ _) (fun _=>.inl ⟨rfl,by simp⟩) (fun q h _=>aB.aJ _ _ (h (by simp))) (fun _ h=>absurd rfl h)
    rw[pW (by simp),yR,dL] at this
    rw[←hfl,eN]
    exact this
  · intro b' hb'
    have hne:b'≠b:=by rintro rfl;rw[hb] at hb';cases hb'
    have:=hK b' ((s.erase b).aC b' (.cells ((y::l++xs).flatMap AV.cells))) (fun _=>aB.aP _ _ _) (fun _=>.inr hb') (fun q h h'=>by
     rw[aB.aJ _ _ (h (by simp))]
     simp only[aB.erase,h' (by simp),dI]) (fun _ _=>by rw[aB.aJ _ _ (c9 hne)];exact aB.aCE _ _)
    rw[pW (by simp),yR,dL] at this
    rw[←hfl,eN]
    exact this
def wR(es:List AV)(st:aB)(i:Nat)(os:List AV)(bs:List Nat)(b:Nat)(s:aB):Prop:=
 os.length=i∧cA s (es.take i) os bs∧bs.Nodup∧(∀q∈bs,st q=none)∧(os≠[]→st b=none∧b∉bs∧s b=some (.cells (os.flatMap AV.cells)))∧∀q,q∉bs→(os≠[]→q≠b)→s q=st q
theorem wR.start{es:List AV}{st:aB}{b:Nat}:wR es st 0 [] [] b st:=⟨rfl,by simp [cA],pR,by simp,by simp,fun _ _ _=>rfl⟩
theorem UU{b x:Nat}{l:List AV}:x∈w6 b l↔x=b∧l≠[]:=by cases l<;>simp [w6]
theorem wR.done{es:List AV}{st:aB}{n w:Nat}{os:List AV}{bs:List Nat}{b:Nat}{s:aB}(h:wR es st n os bs b s)(hl:es.length=n)(hw:∀e∈es,e.width=w):Made st (.slice es) (bM w b os) s:=by
 obtain⟨h1,h2,h3,h4,h5,h6⟩:=h
 rw[lT (by omega)] at h2
 refine⟨w6 b os++bs,?_,fun q hq=>?_,?_,fun q hq=>?_⟩
 · rw[oV]
   refine⟨by cases os<;>simp [w6],h3,fun x hx y hy e=>?_⟩
   obtain⟨rfl,hne⟩:=UU.1 hx
   exact(h5 hne).2.1 (e▸hy)
 · rcases fF.1 hq with hq | hq
   · obtain⟨rfl,hne⟩:=UU.1 hq
     exact(h5 hne).1
   · exact h4 q hq
 · cases os with
   | nil=>
    have:es= []:=by simpa using h2.length.symm
    subst this
    simp only[cA] at h2
    simp only[bG,bM,w6,h2.2]
    exact .inl ⟨trivial,trivial,rfl⟩
   | cons o os=>
    simp only[bG,bM,w6]
    refine .inr ⟨b,bs,o::os,w,by rw[h2.length],rfl,(h5 (by simp)).2.2,h2,hw⟩
 · simp only[fF,UU,pI,not_and] at hq
   exact h6 q hq.2 (fun hne e=>hq.1 e hne)
theorem cA.aTC{st:aB}{w:Nat}:∀ {as os:List AV} {bs:List Nat},cA st as os bs→(∀e∈as,e.width=w)→∀o∈os,o.width=w
 | [],os,bs,x,_=>by simp only[cA] at x;rw[x.1];simp
 | a::as,os,bs,x,h=>by
  simp only[cA] at x
  obtain⟨o,os',b1,b2,rfl,rfl,x1,x2⟩:=x
  intro q hq
  rcases c8.1 hq with rfl | hq
  · rw[(bG.shape x1).2.1,h a (by simp)]
  · exact cA.aTC x2 (fun e he=>h e (by simp [he])) q hq
theorem bG.aYV{st:aB}{e r:AV}{bs:List Nat}{w:Nat}(m3:bG st e r bs)(hwe:e.width=w)(hst:e.cells.all AV.storable=true):r.width=w∧r.cells.length=w∧r.cells.all AV.storable=true:=by
 refine⟨(bG.shape m3).2.1.trans hwe,by rw[vL,(bG.shape m3).2.1,hwe],?_⟩
 cases e<;>simp only[bG] at m3<;>try exact m3.elim
 case int=>rw[m3.1];try rfl
 case bool=>rw[m3.1];try rfl
 case str=>rw[m3.1];try rfl
 case slice=>rcases m3 with ⟨_,rfl,_⟩ | ⟨_,_,_,_,rfl,_⟩<;>rfl
 case agg cs=>
  obtain⟨q,rfl,m3⟩:=m3
  refine(bG.QR m3 fun c hc=>?_).1
  have hst:cs.all AV.storable=true:=hst
  have:=eW.1 hst c hc
  cases c<;>first | rfl | (simp [AV.storable] at this)
theorem wR.step{es:List AV}{st:aB}{i:Nat}{os:List AV}{bs bx:List Nat}{b x b':Nat}{s s2 s':aB}{o:AO}{e r:AV}(h:wR es st i os bs b s)(hx:s x=none)(he:es[i]?=some e)
 (m1:bx.Nodup) (m2:∀q∈bx,(s.aC x o) q=none) (m3:bG s2 e r bx) (m4:∀q,q∉bx→s2 q=(s.aC x o) q)
 (k1:s' b'=some (.cells ((os++ [r]).flatMap AV.cells))) (k2:b'=b∧os≠[]∨s2 b'=none) (k3:∀q,q≠b'→(os≠[]→q≠b)→s' q=s2 q) (k4:os≠[]→b'≠b→s' b=none) :
 wR es st (i+1) (os++ [r]) (bs++bx) b' (s'.erase x):=by
 obtain⟨h1,h2,h3,h4,h5,h6⟩:=h
 have z7:=cA.gY _ _ _ h2
 have hi:i<es.length:=(fR.1 he).1
 have v8:∀q∈bs,s q≠none:=fun q hq=>by obtain⟨cs,e1,_⟩:=z7.2 q hq;rw[e1];simp
 have a3C:x∉bs:=fun hq=>v8 x hq hx
 have hxb:os≠[]→x≠b:=fun hne e=>by have:=(h5 hne).2.2;rw[←e,hx] at this;cases this
 have UG:x∉bx:=fun hq=>by have:=m2 x hq;rw[aB.aP] at this;cases this
 have hbx:∀q∈bx,s q=none:=fun q hq=>by
  have:=m2 q hq
  have hne:q≠x:=fun e=>UG (e▸hq)
  rwa [aB.aJ _ _ hne] at this
 have oN:∀q∈bs,q∉bx:=fun q hq hq'=>v8 q hq (hbx q hq')
 have aNN:os≠[]→b∉bx:=fun hne hq=>by have:=hbx b hq;rw[(h5 hne).2.2] at this;cases this
 have a23:s2 x=some o:=by rw[m4 x UG,aB.aP]
 have hs2:∀q,q∉bx→q≠x→s2 q=s q:=fun q h1 h2=>by rw[m4 q h1,aB.aJ _ _ h2]
 have TC:b'≠x:=by
  rcases k2 with ⟨rfl,hne⟩ | hn
  · exact c9 (hxb hne)
  · rintro rfl;rw[a23] at hn;cases hn
 have M4:b'∉bx:=by
  rcases k2 with ⟨rfl,hne⟩ | hn
  · exact aNN hne
  · intro hq
    obtain⟨cs,e1,_⟩:=(bG.gY _ _ _ m3).2.2 b' hq
    rw[e1] at hn;cases hn
 have TB:b'∉bs:=by
  rcases k2 with ⟨rfl,hne⟩ | hn
  · exact(h5 hne).2.1
  · intro hq
    rw[hs2 b' M4 TC] at hn
    exact v8 b' hq hn
 have a24:st b'=none:=by
  rcases k2 with ⟨rfl,hne⟩ | hn
  · exact(h5 hne).1
  · rw[hs2 b' M4 TC] at hn
    by_cases hbb:os≠[]∧b'=b
    · rw[hbb.2];exact(h5 hbb.1).1
    · rw[←h6 b' TB (fun hne e=>hbb ⟨hne,e⟩)];exact hn
 have a1F:os≠[]→∀q∈bs,q≠b:=fun hne q hq e=>(h5 hne).2.1 (e▸hq)
 have a18:∀q∈bs,(s'.erase x) q=s q:=fun q hq=>by
  have hqx:q≠x:=fun e=>a3C (e▸hq)
  simp only[aB.erase,hqx,dI]
  rw[k3 q (fun e=>TB (e▸hq)) (fun hne=>a1F hne q hq),hs2 q (oN q hq) hqx]
 have a19:∀q∈bx,(s'.erase x) q=s2 q:=fun q hq=>by
  have hqx:q≠x:=fun e=>UG (e▸hq)
  simp only[aB.erase,hqx,dI]
  exact k3 q (fun e=>M4 (e▸hq)) (fun hne e=>aNN hne (e▸hq))
 refine⟨by simp [h1],?_,oV.2 ⟨h3,m1,fun a ha c hc e=>oN a ha (e▸hc)⟩,fun q hq=>?_,fun _=>⟨a24,?_,?_⟩,fun q hq hqb=>?_⟩
 · rw[fS,he]
   exact cA.snoc h2 a18 (bG.aV _ _ _ a19 m3)
 · rcases fF.1 hq with hq | hq
   · exact h4 q hq
   · by_cases hbb:os≠[]∧q=b
     · rw[hbb.2];exact(h5 hbb.1).1
     · by_cases hqs:q∈bs
       · exact h4 q hqs
       · rw[←h6 q hqs (fun hne e=>hbb ⟨hne,e⟩)];exact hbx q hq
 · intro hq
   rcases fF.1 hq with hq | hq
   · exact TB hq
   · exact M4 hq
 · simp only[aB.erase,TC,dI]
   exact k1
 · simp only[fF,pI] at hq
   have aN5:=hqb (by simp)
   by_cases hqx:q=x
   · subst hqx
     simp only[aB.erase,gB]
     rw[←h6 q hq.1 hxb,hx]
   · simp only[aB.erase,hqx,dI]
     by_cases hbb:os≠[]∧q=b
     · rw[hbb.2,k4 hbb.1 (fun e=>aN5 (hbb.2.trans e.symm)),(h5 hbb.1).1]
     · rw[k3 q aN5 (fun hne e=>hbb ⟨hne,e⟩),hs2 q hq.2 hqx]
       exact h6 q hq.1 (fun hne e=>hbb ⟨hne,e⟩)
theorem aD.done{P:Program}{g:FuncId}{args:List AV}{st:aB}{r:AV}(x:aD P g args st (fun r' st'=>r'.soft=r∧aL st' st)):aD P g args st (fun r' st'=>r'=r∧st'=st):=
 aD.sF (aD.soft x)
theorem aD.nB{P:Program}{g:FuncId}{args:List AV}{st:aB}{Q:AV→aB→Prop}(x:aD P g args st (fun r st'=>∃s2,aL st' s2∧Q r s2)):aD P g args st Q:=
 x.mT fun r _ ⟨s2,D,q⟩=>⟨r,s2,D.tD,D.mT r,q⟩
theorem eG{cs:List AV}:(AV.agg cs).soft=.agg (cs.map AV.soft):=by simp only[AV.soft,AP]
theorem eJ{cs:List AV}:(AV.tup cs).soft=.tup (cs.map AV.soft):=by simp only[AV.soft,AP]
theorem d7{k:IntKind}{n:Int}:(AV.int k n).soft=.int k n:=rfl
theorem uP{b:Bool}:(AV.bool b).soft=.bool b:=rfl
theorem mR{s:ByteArray}:(AV.str s).soft=.str s:=rfl
theorem fV{es:List AV}:(AV.slice es).soft=.slice es:=rfl
theorem nX{es:List AV}:(AV.fslice es).soft=.slice es:=rfl
def xM(b:Nat)(l:List AV):List (Nat×AV)→List (Nat×AV)
 | []=>[]
 | p::r=>(p.1,p.2.fin b l)::xM b l r
theorem aGE{b:Nat}{l:List AV}:xM b l []= []:=rfl
theorem aGF{b d:Nat}{l:List AV}{v:AV}{r:List (Nat×AV)}:xM b l ((d,v)::r)=(d,v.fin b l)::xM b l r:=rfl
theorem a0N{b:Nat}{l:List AV}:AV.junk.fin b l=.junk:=by unfold AV.fin;split<;>rfl
theorem mI{w b:Nat}{l:List AV}:(bM w b l).fin b l=.slice l:=jE
theorem a4B{st:aB}(b:Nat)(l:List AV)(hb:l≠[]→st b=none)(hj:∀e∈l,e.cH=false)(hE:iR l)(L:List (Nat×AV)):gM (k9 L) (a8 st b l) (k9 (xM b l L)) st:=by
 have key:∀L d,k9 (xM b l L) d=(k9 L d).fin b l:=by
  intro L
  induction L with
  | nil=>intro d;exact a0N.symm
  | cons p r ih=>
   obtain⟨e,v⟩:=p
   intro d
   show((k9 (xM b l r)).aC e (v.fin b l)) d=(((k9 r).aC e v) d).fin b l
   simp only[AF.aC]
   split
   · rfl
   · exact ih d
 intro h tmps S F
 cases l with
 | nil=>exact⟨S,cC.refl _ _,fun d=>by rw[key];exact(F d).soft⟩
 | cons y l=>
  have hst:(a8 st b (y::l)) b=some (.cells ((y::l).flatMap AV.cells)):=aB.aP _ _ _
  have he:(a8 st b (y::l)).erase b=st:=aB.vR st b _ (hb (by simp))
  have L1:gM (k9 L) (a8 st b (y::l)) (fun d=>(k9 L d).fz b (y::l)) st:=by
   have:=gM.freeze (φ:=k9 L) hst hj hE
   rwa [he] at this
  obtain⟨a1,a2,a3⟩:=L1 h tmps S F
  exact⟨a1,a2,fun d=>by rw[key];exact(a3 d).soft⟩
theorem tE{P:Program}{N:Nat}{c:Code}{Q:Exit→AF→aB→Prop}{φ:AF}{st:aB}{α σ:Type}(mt:List Nat)(aV:List Nat)(l:List α)(w d:Nat)(acc:Nat→σ→List AV)(inv:Nat→σ→Prop)(ch:Nat→σ→List (Nat×AV))(so:Nat→σ→aB)
 (hw:∀i s,inv i s→∀e∈acc i s,e.cH=false∧e.width=w)
 (hok:codeOk N c=true)
 (h0:∃s b,inv 0 s∧(acc 0 s≠[]→so 0 s b=none)∧aN φ st (lI φ aV ((d,bM w b (acc 0 s))::ch 0 s)) (a8 (so 0 s) b (acc 0 s)))
 (h1:∀i x s b,l[i]?=some x→i<l.length→((i:Int)<(l.length:Int))→l.drop i=x::l.drop (i+1)→inv i s→(acc i s≠[]→so i s b=none) →
  gT P N mt c (qJ (fun φ' st'=>∃s' b',inv (i+1) s'∧(acc (i+1) s'≠[]→so (i+1) s' b'=none)∧aN φ' st' (lI φ aV ((d,bM w b' (acc (i+1) s'))::ch (i+1) s')) (a8 (so (i+1) s') b' (acc (i+1) s'))) Q) (xO (lI φ aV ((d,bM w b (acc i s))::ch i s))) (a8 (so i s) b (acc i s)))
 (h2:∀s b,¬((l.length:Int)<(l.length:Int))→inv l.length s→gT P N mt c (qJ (fun _ _=>False) Q) (xO (xM b (acc l.length s) (lI φ aV ((d,bM w b (acc l.length s))::ch l.length s)))) (so l.length s)):g7 P N (.loop c) Q φ st:=by
 have mT:∀(k:AF→aB→Prop) (φ0:AF) (st0:aB) (k':AF→aB→Prop),(∀φ' st',k' φ' st'→k φ' st') →
  g7 P N c (qJ k' Q) φ0 st0→g7 P N c (qJ k Q) φ0 st0:=by
  intro k φ0 st0 k' hk hr a w R
  refine wp_mono (hr a w R) ?_
  rintro e a' w' ⟨φ',st',R',T,sm,q⟩
  refine⟨φ',st',R',T,sm,?_⟩
  cases e with
  | normal=>exact hk _ _ q
  | _=>exact q
 refine QX (α:=Nat×σ×Nat) (fun p=>p.1≤l.length∧inv p.1 p.2.1∧(acc p.1 p.2.1≠[]→so p.1 p.2.1 p.2.2=none)) (fun p=>k9 (lI φ aV ((d,bM w p.2.2 (acc p.1 p.2.1))::ch p.1 p.2.1))) (fun p=>a8 (so p.1 p.2.1) p.2.2 (acc p.1 p.2.1)) (fun p=>l.length - p.1) ?_ ?_
 · obtain⟨s,b,hs,hb,hl⟩:=h0
   exact⟨(0,s,b),⟨kA _,hs,hb⟩,hl⟩
 · rintro⟨i,s,b⟩ ⟨hi,hs,hb⟩
   simp only at hi hs hb ⊢
   rcases kX i l.length with hlt | hge
   · refine mT _ _ _ _ ?_ (HA mt hok (h1 i l[i] s b (dZ hlt) hlt (by omega) (pQ hlt) hs hb))
     rintro φ' st' ⟨s',b',h1',h2',h3'⟩
     exact⟨(i+1,s',b'),by simp only;omega,⟨by simp only;omega,h1',h2'⟩,h3'⟩
   · obtain rfl:i=l.length:=by omega
     refine g7.less (a4B b (acc l.length s) hb (fun e he=>(hw _ s hs e he).1) ⟨w,fun e he=>(hw _ s hs e he).2⟩ _) ?_
     refine mT _ _ _ _ ?_ (HA mt hok (h2 s b (by omega) hs))
     exact fun _ _ h=>h.elim
section
variable {P:Program}
def SP(ops:Array Oper)(S:List Nat)(j:Nat):Bool:=S.all fun i=>vQ ops ops.size j i
def wY(P:Program)(ops:Array Oper)(S:List Nat)(s0:aB)(K:AF→aB→Prop):Nat→Array Bool→AF→aB→Prop
 | 0,listed,φ,st=>Region.ready .any ops listed= []∧K φ st
 | f+1,listed,φ,st=>(Region.ready .any ops listed= []→K φ st)∧∀i∈Region.ready .any ops listed,∃o,ops[i]?=some o ∧
  ((S.contains i=true∧∃r,kP P st ops o r φ∧wY P ops S s0 K f (listed.setIfInBounds i true) (φ.put o.dst r) st) ∨
   (S.contains i=false∧jX P ops o φ st (fun r st'=>(SP ops S i=true∨eR s0 st')∧wY P ops S s0 K f (listed.setIfInBounds i true) (φ.put o.dst r) st')))
theorem K7{ops:Array Oper}{S:List Nat}{s0:aB}{K:AF→aB→Prop}:∀(f:Nat) (listed:Array Bool) (φ:AF) (st:aB),wY P ops S s0 K f listed φ st→K5 P ops K f listed φ st
 | 0,_,_,_,h=>h
 | f+1,listed,φ,st,h=>by
  refine⟨h.1,fun i hi=>?_⟩
  obtain⟨o,ho,h2⟩:=h.2 i hi
  refine⟨o,ho,?_⟩
  rcases h2 with ⟨_,r,y,k⟩ | ⟨_,k⟩
  · exact YW y (K7 f _ _ _ k)
  · exact tU (fun r s q=>K7 f _ _ _ q.2) k
theorem YM{ops:Array Oper}{S:List Nat}{s0:aB}{i:Nat}{oi:Oper}{v:AV}{K:AF→aB→Prop}(hi:ops[i]?=some oi)(hS:S.contains i=true) :
 ∀(f:Nat) (listed:Array Bool) (φ:AF) (st:aB),tG ops listed →
  (∀j oj,ops[j]?=some oj→j≠i→listed.getD j true=false→(∀e∈oj.after,Region.binds .any e=true→e.on≠i)→oi.apart ops oj=true) →
  i∈Region.ready .any ops listed→(∀s,eR s0 s→kP P s ops oi v φ)→eR s0 st →
  wY P ops S s0 K f (listed.setIfInBounds i true) (φ.put oi.dst v) st→wY P ops S s0 K (f+1) listed φ st:=by
 intro f
 induction f with
 | zero=>
  intro listed φ st hcl _ hr hy hx H
  refine⟨fun h=>(by rw[h] at hr;cases hr),fun j hj=>?_⟩
  by_cases hji:j=i
  · subst hji;exact⟨oi,hi,.inl ⟨hS,v,hy st hx,H⟩⟩
  · have:=ready_mono hj hji
    rw[H.1] at this
    cases this
 | succ f ih=>
  intro listed φ st hcl rE hr hy hx H
  refine⟨fun h=>(by rw[h] at hr;cases hr),fun j hj=>?_⟩
  by_cases hji:j=i
  · subst hji;exact⟨oi,hi,.inl ⟨hS,v,hy st hx,H⟩⟩
  · obtain⟨oj,hoj,h1⟩:=H.2 j (ready_mono hj hji)
    obtain⟨qC,oj',CF,dN⟩:=mem_ready.1 hj
    have:oj'=oj:=lL (CF.symm.trans hoj)
    subst this
    have hun:=(mem_ready.1 hr).1
    have uJ:∀e∈oj'.after,Region.binds .any e=true→e.on≠i:=fun e he hb heq=>by
     have h1:=dN e he hb
     rw[heq,getD_both hun] at h1
     cases h1
    obtain⟨a1,a2,a3⟩:=Oper.apart_spec (rE j oj' hoj hji qC uJ)
    have vW:∀k ok,ops[k]?=some ok→k≠i→(listed.setIfInBounds j true).getD k true=false →
     (∀e∈ok.after,Region.binds .any e=true→e.on≠i)→oi.apart ops ok=true:=fun k ok hk hki hun hno=>by
     refine rE k ok hk hki ?_ hno
     by_cases hjk:j=k
     · subst hjk;exact qC
     · rw[getD_set_ne true hjk] at hun;exact hun
    refine⟨oj',hoj,?_⟩
    rcases h1 with ⟨hSj,r,yj,h2⟩ | ⟨hSj,h2⟩
    · refine .inl ⟨hSj,r,(qW φ v a1).1 yj,ih (listed.setIfInBounds j true) (φ.put oj'.dst r) st (hcl.set hj) vW (ready_mono hr (c9 hji)) (fun s hs=>(qW φ r a3).2 (hy s hs)) hx ?_⟩
      rw[DL _ _ hji,←put_comm φ v r a2]
      exact h2
    · refine .inr ⟨hSj,tU (fun r st' h3=>?_) ((QN φ v a1).1 h2)⟩
      refine⟨h3.1,?_⟩
      have hx':eR s0 st':=by
       rcases h3.1 with he | he
       · exfalso
         unfold SP at he
         have hd:=eW.1 he i (by simpa using hS)
         exact L9 hcl (getD_both hun) _ j oj' hoj hd dN
       · exact he
      refine ih (listed.setIfInBounds j true) (φ.put oj'.dst r) st' (hcl.set hj) vW (ready_mono hr (c9 hji)) (fun s hs=>(qW φ r a3).2 (hy s hs)) hx' ?_
      rw[DL _ _ hji,←put_comm φ v r a2]
      exact h3.2
def sS(ops:Array Oper)(S:List Nat):List (Nat×Nat)→Array Bool→Bool
 | [],listed=>(Region.ready .any ops listed).isEmpty
 | (i,0)::r,listed=>decide (Region.ready .any ops listed= [i])&& !S.contains i&&sS ops S r (listed.setIfInBounds i true)
 | (i,1)::r,listed=>(Region.ready .any ops listed).contains i&&Region.free .any ops listed i&&S.contains i&&sS ops S r (listed.setIfInBounds i true)
 | (i,_)::r,listed=>decide (Region.ready .any ops listed= [i])&& !S.contains i&&SP ops S i&&sS ops S r (listed.setIfInBounds i true)
def BM(P:Program)(ops:Array Oper)(s0:aB)(K:AF→aB→Prop):List (Nat×Nat)→AF→aB→Prop
 | [],φ,st=>K φ st
 | (i,0)::r,φ,st=>∃o,ops[i]?=some o∧jX P ops o φ st (fun v st'=>eR s0 st'∧BM P ops s0 K r (φ.put o.dst v) st')
 | (i,1)::r,φ,st=>∃o,ops[i]?=some o∧∃v,(∀s,eR s0 s→kP P s ops o v φ)∧BM P ops s0 K r (φ.put o.dst v) st
 | (i,_)::r,φ,st=>∃o,ops[i]?=some o∧jX P ops o φ st (fun v st'=>BM P ops s0 K r (φ.put o.dst v) st')
def CM:List (Nat×Nat)→Bool
 | []=>true
 | (_,0)::r=>CM r
 | (_,1)::r=>CM r
 | (_,_)::r=>r.all fun p=>p.2 != 1
theorem G2{ops:Array Oper}{S:List Nat}{s0:aB}{K:AF→aB→Prop}:∀(p:List (Nat×Nat)) (listed:Array Bool) (φ:AF) (st:aB),tG ops listed→sS ops S p listed=true→(CM p=true∧eR s0 st∨(p.all fun q=>q.2 != 1)=true)→BM P ops s0 K p φ st→wY P ops S s0 K p.length listed φ st
 | [],listed,φ,st,_,hB,hx,h=>⟨by simpa [sS] using hB,h⟩
 | (i,0)::r,listed,φ,st,hcl,hB,hx,h=>by
  simp only[sS,cK,bL,iX] at hB
  obtain⟨o,ho,h'⟩:=h
  have hr:i∈Region.ready .any ops listed:=by rw[hB.1.1];simp
  refine⟨fun h0=>(by rw[hB.1.1] at h0;cases h0),fun j hj=>?_⟩
  rw[hB.1.1] at hj
  obtain rfl:j=i:=by simpa using hj
  refine⟨o,ho,.inr ⟨hB.1.2,tU (fun v st' q=>⟨.inr q.1,G2 r _ _ _ (hcl.set hr) hB.2 ?_ q.2⟩) h'⟩⟩
  rcases hx with hx | hx
  · exact .inl ⟨hx.1,q.1⟩
  · refine .inr ?_
    simp only[lE,cK] at hx
    exact hx.2
 | (i,1)::r,listed,φ,st,hcl,hB,hx,h=>by
  simp only[sS,cK] at hB
  obtain⟨⟨⟨hr,hf⟩,hS⟩,hB'⟩:=hB
  obtain⟨o,ho,v,hv,h'⟩:=h
  have hr':i∈Region.ready .any ops listed:=by simpa using hr
  rcases hx with hx | hx
  · exact YM ho hS _ listed φ st hcl (Region.free_spec ho hf) hr' hv hx.2 (G2 r _ _ _ (hcl.set hr') hB' (.inl hx) h')
  · simp at hx
 | (i,k+2)::r,listed,φ,st,hcl,hB,hx,h=>by
  simp only[sS,cK,bL,iX] at hB
  obtain⟨o,ho,h'⟩:=h
  have hr:i∈Region.ready .any ops listed:=by rw[hB.1.1.1];simp
  refine⟨fun h0=>(by rw[hB.1.1.1] at h0;cases h0),fun j hj=>?_⟩
  rw[hB.1.1.1] at hj
  obtain rfl:j=i:=by simpa using hj
  refine⟨o,ho,.inr ⟨hB.1.1.2,tU (fun v st' q=>⟨.inl hB.1.2,G2 r _ _ _ (hcl.set hr) hB.2 (.inr ?_) q⟩) h'⟩⟩
  rcases hx with hx | hx
  · exact hx.1
  · simp only[lE,cK] at hx
    exact hx.2
theorem aUR{N:Nat}{id:Nat}{ops:Array Oper}{Q:Exit→AF→aB→Prop}{φ:AF}{st:aB}(p:List (Nat×Nat))(S:List Nat)(s0:aB)(hm:P.follows .mixedOrders=true)(hok:qM N ops=true)(hl:p.length=ops.size)(hB:sS ops S p (Array.replicate ops.size false)=true)(hf:CM p=true)(hs:eR s0 st)
 (h:BM P ops s0 (Q .normal) p φ st):g7 P N (.region id ops true) Q φ st:=by
 intro a w R
 refine wp_region_any hm ?_
 have R0:Rel N a { w with drawn:=w.drawn+1 } φ st:=⟨R.size,R.defers,R.frame,R.store⟩
 have:=K7 _ _ _ _ (G2 p _ φ st (fun j o _ hl=>(by rw[SY] at hl;cases hl)) hB (.inl ⟨hf,hs⟩) h)
 rw[hl] at this
 exact K6 (AD hok) (yA hok) (w0:=w) (st0:=st) (fun φ' st' a' w' k R' T s=>⟨φ',st',R',T,s,k⟩) _ _ _ _ _ _ this R0 (cC.refl _ _) ⟨rfl,rfl,rfl⟩
def iZ(P:Program)(ops:Array Oper)(s0:aB)(K:AF→aB→Prop):List (Nat×Nat)→AF→aB→Prop
 | [],φ,st=>K φ st
 | (i,0)::r,φ,st=>match ops[i]? with
  | none=>False
  | some o=>bK P [] ops [o] (fun φ' st'=>eR s0 st'∧iZ P ops s0 K r φ' st') φ st
 | (i,1)::r,φ,st=>match ops[i]? with
  | none=>False
  | some o=>if lD o=true then bK P [] ops [o] (fun φ' _=>iZ P ops s0 K r φ' st) φ s0 else
   match o.guard,o.op with
   | none,.call { callee:=.value f,args,.. }=>∃v,(∀s,eR s0 s→tZ P (φ.eval f) (args.toList.map φ.eval) s (fun r' s'=>r'=v∧s'=s))∧iZ P ops s0 K r (φ.put o.dst v) st
   | _,_=>False
 | (i,_)::r,φ,st=>match ops[i]? with
  | none=>False
  | some o=>bK P [] ops [o] (fun φ' st'=>iZ P ops s0 K r φ' st') φ st
theorem vC{ops:Array Oper}{s0:aB}{K:AF→aB→Prop}:∀(p:List (Nat×Nat)) (φ:AF) (st:aB),iZ P ops s0 K p φ st→BM P ops s0 K p φ st
 | [],_,_,h=>h
 | (i,0)::r,φ,st,h=>by
  simp only[iZ] at h
  split at h
  · exact h.elim
  · rename_i o ho
    refine⟨o,ho,?_⟩
    simp only[bK] at h
    unfold jX
    split at h
    · rename_i hg
      rw[hg]
      exact BN (fun v s q=>⟨q.1,vC r _ _ q.2⟩) h
    · rename_i hg
      rw[hg]
      exact⟨h.1,vC r _ _ h.2⟩
    · exact h.elim
 | (i,1)::r,φ,st,h=>by
  simp only[iZ] at h
  split at h
  · exact h.elim
  · rename_i o ho
    split at h
    · rename_i hp
      simp only[bK] at h
      split at h
      · rename_i hg
        rw[tV hp] at h
        split at h
        · rename_i v hv
          refine⟨o,ho,v,fun s hs=>.inl ⟨hg,?_⟩,vC r _ _ h⟩
          rw[tV hp,YU hs hv]
          exact⟨rfl,rfl⟩
        · exact h.elim
      · rename_i hg
        exact⟨o,ho,.undef,fun s _=>.inr ⟨hg,rfl⟩,vC r _ _ h⟩
      · exact h.elim
    · split at h
      · rename_i f args ats hg hop
        obtain⟨v,h1,h2⟩:=h
        refine⟨o,ho,v,fun s hs=>.inl ⟨by simp only[jW,hg],?_⟩,vC r _ _ h2⟩
        simp only[fY,hop]
        exact h1 s hs
      · exact h.elim
 | (i,k+2)::r,φ,st,h=>by
  simp only[iZ] at h
  split at h
  · exact h.elim
  · rename_i o ho
    refine⟨o,ho,?_⟩
    simp only[bK] at h
    unfold jX
    split at h
    · rename_i hg
      rw[hg]
      exact BN (fun v s q=>vC r _ _ q) h
    · rename_i hg
      rw[hg]
      exact vC r _ _ h
    · exact h.elim
end
def VK(P:Program)(ops:Array Oper)(s0:aB)(K:AF→aB→Prop)(r:List (Nat×Nat))(φ:AF)(st:aB):Prop:=eR s0 st∧iZ P ops s0 K r φ st
def VI(P:Program)(ops:Array Oper)(s0:aB)(K:AF→aB→Prop)(r:List (Nat×Nat))(φ:AF)(st:aB):Prop:=iZ P ops s0 K r φ st
def VH(P:Program)(ops:Array Oper)(s0:aB)(K:AF→aB→Prop)(r:List (Nat×Nat))(st:aB)(φ:AF)(_:aB):Prop:=iZ P ops s0 K r φ st
def VG(P:Program)(ops:Array Oper)(s0:aB)(K:AF→aB→Prop)(r:List (Nat×Nat))(φ:AF)(dst:Option Tmp)(st:aB)(v:AV):Prop:=iZ P ops s0 K r (φ.put dst v) st
def HL(P:Program)(s0:aB)(f:AV)(args:List AV)(K:AV→Prop):Prop:=∃v,(∀s,eR s0 s→tZ P f args s (fun r' s'=>r'=v∧s'=s))∧K v
theorem ED{P:Program}{s0:aB}{g:FuncId}{args:List AV}{r:AV}{K:AV→Prop}(x:∀st,eR s0 st→aD P g args st (fun r' st'=>r'=r∧st'=st))(h:K r):HL P s0 (.func g []) args K:=⟨r,fun st hs=>by show aD P g (args++ []) st _;rw[gI];exact x st hs,h⟩
@[congr] theorem bAN {P:Program} {s0:aB} {f f':AV} {args args':List AV} {K:AV→Prop} (h0:f=f') (h1:args=args'):HL P s0 f args K=HL P s0 f' args' K:=by rw[h0,h1]
def FP(P:Program)(ops:Array Oper)(s0:aB)(K:AF→aB→Prop)(r:List (Nat×Nat))(φ:AF)(st:aB):Nat→Option Oper→Prop
 | 0,some o=>bK P [] ops [o] (VK P ops s0 K r) φ st
 | 1,some o=>if lD o=true then bK P [] ops [o] (VH P ops s0 K r st) φ s0 else
  match o.guard,o.op with
  | none,.call { callee:=.value f,args,.. }=>HL P s0 (φ.eval f) (args.toList.map φ.eval) (VG P ops s0 K r φ o.dst st)
  | _,_=>False
 | _,some o=>bK P [] ops [o] (VI P ops s0 K r) φ st
 | _,none=>False
theorem aIW{P:Program}{ops:Array Oper}{s0:aB}{K:AF→aB→Prop}{φ:AF}{st:aB}:iZ P ops s0 K [] φ st=K φ st:=rfl
theorem aIX{P:Program}{l:List Oper}{s0:aB}{K:AF→aB→Prop}{φ:AF}{st:aB}{i b:Nat}{r:List (Nat×Nat)}:iZ P l.toArray s0 K ((i,b)::r) φ st=FP P l.toArray s0 K r φ st b l[i]?:=by
 match b with
 | 0=>simp only[iZ,yT];cases l[i]?<;>rfl
 | 1=>simp only[iZ,yT];cases l[i]?<;>rfl
 | b+2=>simp only[iZ,yT];cases l[i]?<;>rfl
theorem aI2{P:Program}{ops:Array Oper}{s0:aB}{K:AF→aB→Prop}{φ:AF}{st:aB}{r:List (Nat×Nat)}{o:Oper}:FP P ops s0 K r φ st 0 (some o)=bK P [] ops [o] (VK P ops s0 K r) φ st:=rfl
theorem aI3{P:Program}{ops:Array Oper}{s0:aB}{K:AF→aB→Prop}{φ:AF}{st:aB}{r:List (Nat×Nat)}{o:Oper}:FP P ops s0 K r φ st 1 (some o)=if lD o=true then bK P [] ops [o] (VH P ops s0 K r st) φ s0 else
      match o.guard,o.op with
      | none,.call { callee:=.value f,args,.. }=>HL P s0 (φ.eval f) (args.toList.map φ.eval) (VG P ops s0 K r φ o.dst st)
      | _,_=>False:=rfl
theorem aI4{P:Program}{ops:Array Oper}{s0:aB}{K:AF→aB→Prop}{φ:AF}{st:aB}{r:List (Nat×Nat)}{o:Oper}:FP P ops s0 K r φ st 2 (some o)=bK P [] ops [o] (VI P ops s0 K r) φ st:=rfl
theorem aI1{P:Program}{ops:Array Oper}{s0:aB}{K:AF→aB→Prop}{φ:AF}{st:aB}{r:List (Nat×Nat)}:VK P ops s0 K r φ st=(eR s0 st∧iZ P ops s0 K r φ st):=rfl
theorem aI0{P:Program}{ops:Array Oper}{s0:aB}{K:AF→aB→Prop}{φ:AF}{st:aB}{r:List (Nat×Nat)}:VI P ops s0 K r φ st=iZ P ops s0 K r φ st:=rfl
theorem aIZ{P:Program}{ops:Array Oper}{s0:aB}{K:AF→aB→Prop}{φ:AF}{st s:aB}{r:List (Nat×Nat)}:VH P ops s0 K r st φ s=iZ P ops s0 K r φ st:=rfl
theorem aIY{P:Program}{ops:Array Oper}{s0:aB}{K:AF→aB→Prop}{φ:AF}{st:aB}{r:List (Nat×Nat)}{dst:Option Tmp}{v:AV}:VG P ops s0 K r φ dst st v=iZ P ops s0 K r (φ.put dst v) st:=rfl
@[congr] theorem bAJ {P:Program} {ops:Array Oper} {s0:aB} {K:AF→aB→Prop} {p:List (Nat×Nat)} {φ φ':AF} {st st':aB} (h1:φ=φ') (h2:st=st'):iZ P ops s0 K p φ st=iZ P ops s0 K p φ' st':=by rw[h1,h2]
@[congr] theorem bAX {P:Program} {ops:Array Oper} {s0:aB} {K:AF→aB→Prop} {p:List (Nat×Nat)} {φ φ':AF} {st st':aB} {b:Nat} {o o':Option Oper} (h1:φ=φ') (h2:st=st') (h3:o=o'):FP P ops s0 K p φ st b o=FP P ops s0 K p φ' st' b o':=by rw[h1,h2,h3]
theorem GD{P:Program}{N:Nat}{id:Nat}{l:List Oper}{Q:Exit→AF→aB→Prop}{φ:AF}{st:aB}(p:List (Nat×Nat))(S:List Nat)(s0:aB)(hm:P.follows .mixedOrders=true)(hok:qM N l.toArray=true)(hl:p.length=l.length)(hB:sS l.toArray S p (Array.replicate l.length false)=true)(hf:CM p=true)(hs:eR s0 st)
 (h:iZ P l.toArray s0 (Q .normal) p φ st):g7 P N (.region id l.toArray true) Q φ st:=
 aUR p S s0 hm hok (by simpa using hl) (by simpa using hB) hf hs (vC p φ st h)
def aP9(K:AV→aB→Prop)(st:aB):Option AV→Option AV→Prop
 | some r,some s=>lJ [r,s]=true∧K (.tup [r,s]) st
 | _,_=>False
theorem aJK{P:Program}{φ:AF}{st:aB}{p q:Tmp}{t u:TypeId}{K:AV→aB→Prop}:nW P [.cell p t,.cell q u] K φ st=aP9 K st (iM P st t (φ p)) (iM P st u (φ q)):=by
 simp only[nW,qV,D3]
 cases iM P st t (φ p)<;>cases iM P st u (φ q)<;>rfl
theorem aJL{st:aB}{K:AV→aB→Prop}{r s:AV}:aP9 K st (some r) (some s)=(lJ [r,s]=true∧K (.tup [r,s]) st):=rfl
def one(b:Nat)(o:AO):aB:=fE.aC b o
theorem uN{b:Nat}{o:AO}:one b o b=some o:=aB.aP _ _ _
theorem gH{b:Nat}{o:AO}{st:aB}(h:st b=some o):eR (one b o) st:=fun x p hx=>by
 simp only[one,aB.aC] at hx
 split at hx
 · rename_i e;cases hx;rw[e];exact h
 · cases hx
theorem fZ{st:aB}:eR fE st:=fun x p hx=>by cases hx
end Go.AW
