/- Loops whose frame is kept, lists that are walked, lists that grow. -/
import Derived.Test.YtieofkhcboolkaaGreatDoorVae
set_option linter.unusedSimpArgs false
set_option linter.unusedVariables false
set_option maxRecDepth 100000
namespace Go.AW
def lA(φ:AF):List Nat→List (Nat×AV)→List (Nat×AV)
 | [],l=>l
 | d::ds,l=>(d,φ d)::lA φ ds l
theorem aGW{φ:AF}{l:List (Nat×AV)}:lA φ [] l=l:=rfl
theorem aGX{φ:AF}{d:Nat}{ds:List Nat}{l:List (Nat×AV)}:lA φ (d::ds) l=(d,φ d)::lA φ ds l:=rfl
theorem dX{P:Program}{N:Nat}{c:Code}{Q:Exit→AF→aB→Prop}{φ:AF}{st:aB}{α σ:Type}(mt:List Nat)(aV:List Nat)(l:List α)(inv:Nat→σ→Prop)(ch:Nat→σ→List (Nat×AV))(so:Nat→σ→aB)
 (hok:codeOk N c=true)
 (h0:∃s,inv 0 s∧aO φ st (lA φ aV (ch 0 s)) (so 0 s))
 (h1:∀i x s,l[i]?=some x→i<l.length→((i:Int)<(l.length:Int))→l.drop i=x::l.drop (i+1)→inv i s→gG P N mt c (qH (fun φ' st'=>∃s',inv (i+1) s'∧aO φ' st' (lA φ aV (ch (i+1) s')) (so (i+1) s')) Q) (xH (lA φ aV (ch i s))) (so i s))
 (h2:∀s,¬((l.length:Int)<(l.length:Int))→inv l.length s→gG P N mt c (qH (fun _ _=>False) Q) (xH (lA φ aV (ch l.length s))) (so l.length s)):fK P N (.loop c) Q φ st:=by
 have l7:∀(k:AF→aB→Prop) (i:Nat) (s:σ),(∀φ' st',(∃s',inv (i+1) s'∧aO φ' st' (lA φ aV (ch (i+1) s')) (so (i+1) s'))→k φ' st') →
  fK P N c (qH (fun φ' st'=>∃s',inv (i+1) s'∧aO φ' st' (lA φ aV (ch (i+1) s')) (so (i+1) s')) Q) (kK (lA φ aV (ch i s))) (so i s) →
  fK P N c (qH k Q) (kK (lA φ aV (ch i s))) (so i s):=by
  intro k i s hk hr a w R
  refine wp_mono (hr a w R) ?_
  rintro e a' w' ⟨φ',st',R',T,sm,q⟩
  refine⟨φ',st',R',T,sm,?_⟩
  cases e with
  | normal=>exact hk _ _ q
  | _=>exact q
 refine QH (α:=Nat×σ) (fun p=>p.1≤l.length∧inv p.1 p.2) (fun p=>kK (lA φ aV (ch p.1 p.2))) (fun p=>so p.1 p.2) (fun p=>l.length - p.1) ?_ ?_
 · obtain⟨s,hs,hl⟩:=h0
   exact⟨(0,s),⟨iU _,hs⟩,hl⟩
 · rintro⟨i,s⟩ ⟨hi,hs⟩
   simp only at hi hs ⊢
   rcases lN i l.length with hlt | hge
   · refine l7 _ i s ?_ (y7 mt hok (h1 i l[i] s (d4 hlt) hlt (by omega) (qS hlt) hs))
     rintro φ' st' ⟨s',h1',h2'⟩
     exact⟨(i+1,s'),by simp only;omega,⟨by simp only;omega,h1'⟩,h2'⟩
   · obtain rfl:i=l.length:=by omega
     intro a w R
     refine wp_mono (y7 mt hok (h2 s (by omega) hs) a w R) ?_
     rintro e a' w' ⟨φ',st',R',T,sm,q⟩
     refine⟨φ',st',R',T,sm,?_⟩
     cases e with
     | normal=>exact q.elim
     | _=>exact q
theorem iJ{P:Program}{N:Nat}{c:Code}{Q:Exit→AF→aB→Prop}{φ:AF}{st:aB}{σ:Type}(mt:List Nat)(aV:List Nat)(inv:σ→Prop)(ch:σ→List (Nat×AV))(so:σ→aB)(μ:σ→Nat)
 (hok:codeOk N c=true)
 (h0:∃s,inv s∧aO φ st (lA φ aV (ch s)) (so s))
 (h1:∀s,inv s→gG P N mt c (qH (fun φ' st'=>∃s',μ s'<μ s∧inv s'∧aO φ' st' (lA φ aV (ch s')) (so s')) Q) (xH (lA φ aV (ch s))) (so s)):fK P N (.loop c) Q φ st:=
 yJ mt inv (fun s=>lA φ aV (ch s)) so μ hok h0 h1
theorem aP{b:Bool}{p q:Prop}(h1:b=true→p)(h2:b=false→q):(b=true→p)∧(b=false→q):=⟨h1,h2⟩
theorem aG2{P:Program}{t:TypeId}{s:ByteArray}:lP P t (.str s)=match P.underlying t with | some .string=>some (.int .i64 s.size) | _=>none:=rfl
theorem aG1{P:Program}{t:TypeId}{es:List AV}:lP P t (.slice es)=match P.underlying t with | some (.slice _)=>some (.int .i64 es.length) | _=>none:=rfl
theorem aGZ{P:Program}{t:TypeId}{es:List AV}:lP P t (.fslice es)=match P.underlying t with | some (.slice _)=>some (.int .i64 es.length) | _=>none:=rfl
theorem aG0{P:Program}{t:TypeId}{b o n w:Nat}:lP P t (.mslice b o n w)=match P.underlying t with | some (.slice _)=>some (.int .i64 n) | _=>none:=rfl
def bS(w b:Nat):List AV→AV
 | []=>.fslice []
 | x::l=>.mslice b 0 (x::l).length w
def bE(st:aB)(b:Nat):List AV→aB
 | []=>st
 | x::l=>st.aC b (.cells ((x::l).flatMap AV.cells))
theorem iV{w b:Nat}:bS w b []=.fslice []:=rfl
theorem y6{st:aB}{b:Nat}:bE st b []=st:=rfl
theorem pW{w b:Nat}{l:List AV}(h:l≠[]):bS w b l=.mslice b 0 l.length w:=by cases l<;>first | exact absurd rfl h | rfl
theorem kS{st:aB}{b:Nat}{l:List AV}(h:l≠[]):bE st b l=st.aC b (.cells (l.flatMap AV.cells)):=by cases l<;>first | exact absurd rfl h | rfl
theorem nN{st:aB}{b x:Nat}{l:List AV}(h:x≠b):bE st b l x=st x:=by cases l<;>first | rfl | exact aB.aH _ _ h
theorem HD{st:aB}{b x:Nat}{l:List AV}(h:bE st b l x=none):st x=none∧(l≠[]→x≠b):=by
 cases l with
 | nil=>exact⟨h,fun h=>absurd rfl h⟩
 | cons y l=>
  simp only[bE,aB.aC] at h
  split at h
  · cases h
  · rename_i hn;exact⟨h,fun _=>hn⟩
theorem mZ{w b:Nat}{l:List AV}:(bS w b l).cD=false:=by cases l<;>rfl
theorem sD{w b:Nat}{l:List AV}:(bS w b l).isAgg=false:=by cases l<;>rfl
theorem qZ{w b:Nat}{l:List AV}:(bS w b l).cells= [bS w b l]:=by cases l<;>rfl
theorem kF{w b:Nat}{l:List AV}:(bS w b l).storable=true:=by cases l<;>rfl
theorem BJ{P:Program}{t e:TypeId}{w b:Nat}{l:List AV}(h:P.underlying t=some (.slice e)):lP P t (bS w b l)=some (.int .i64 (l.length:Int)):=by
 cases l<;>simp [bS,lP,h]
theorem aL.bE{st st':aB}(x:aL st st'){b:Nat}{l:List AV}(h:l≠[]→st' b=none):aL (bE st b l) st':=by
 cases l with
 | nil=>exact x
 | cons y l=>exact x.aC (h (by simp))
theorem eO{P:Program}{t:TypeId}{ag:Bool}{w bytes:Nat}{zs:List AV}{st:aB}{b:Nat}{l xs:List AV}{x:AV}{K:AV→aB→Prop}
 (hI:eI P t=some (ag,w)) (hB:eB P t=some bytes) (hZ:eZ P t=some zs) (hz:zs.length=w) (hx:yV x=some xs) (eR:w7 w xs) (hw:∀e∈l,e.width=w) (hb:l≠[]→st b=none)
 (h1:(l.length+xs.length)*bytes≤140737488355328) (h2:l.length+xs.length≤9223372036854775807)
 (hK:∀b',(l++xs≠[]→st b'=none)→K (bS w b' (l++xs)) (bE st b' (l++xs))):jC P t (bE st b l) (bS w b l) x K:=by
 unfold jC
 rw[hI,hB,hZ,hx]
 refine⟨hz,eR,?_⟩
 cases l with
 | nil=>
  show _∧_∧_∧_∧_
  refine⟨by simpa using h1,by simpa using h2,by simp,?_,?_⟩
  · rintro rfl
    have:=hK b (by simp)
    simpa [bS,bE] using this
  · intro hne b' hb'
    have:=hK b' (fun _=>hb')
    rw[fB,pW hne,kS hne] at this
    simpa [bE] using this
 | cons y l=>
  have hb:=hb (by simp)
  show w=w∧_∧_∧_
  refine⟨rfl,h1,h2,?_⟩
  have hfl:((y::l).flatMap AV.cells).length=(y::l).length*w:=mI hw
  simp only[bE,aB.aJ]
  refine⟨by rw[hfl];exact cU _,?_,?_⟩
  · have:=hK b (fun _=>hb)
    rw[pW (by simp),kS (by simp),tL,dN] at this
    rw[dO,←hfl,dS]
    exact this
  · intro b' hb'
    have hne:b'≠b:=by rintro rfl;rw[aB.aJ] at hb';cases hb'
    rw[aB.aH _ _ hne] at hb'
    have:=hK b' (fun _=>hb')
    rw[pW (by simp),kS (by simp),tL,dN] at this
    rw[aB.BU _ _ _ hb,←hfl,dS]
    exact this
def AV.fin(b:Nat)(l:List AV)(r:AV):AV:=if l.isEmpty=true then r.soft else(r.fz b l).soft
theorem oI{w b:Nat}{l:List AV}:(bS w b l).fin b l=.slice l:=by cases l<;>simp [bS,AV.fin,AV.fz,AV.soft]
theorem CQ:∀cs:List AV,iQ cs=cs.map AV.soft
 | []=>rfl
 | c::cs=>by simp [iQ,CQ cs]
theorem BX{b:Nat}{l:List AV}:∀cs:List AV,kU b l cs=cs.map (AV.fz b l)
 | []=>rfl
 | c::cs=>by simp [kU,BX cs]
theorem iX{b:Nat}{l:List AV}{cs:List AV}:(AV.agg cs).fin b l=.agg (cs.map (AV.fin b l)):=by
 unfold AV.fin
 split
 · simp [AV.soft,CQ]
 · simp [AV.fz,AV.soft,CQ,BX]
theorem jS{b:Nat}{l:List AV}{cs:List AV}:(AV.tup cs).fin b l=.tup (cs.map (AV.fin b l)):=by
 unfold AV.fin
 split
 · simp [AV.soft,CQ]
 · simp [AV.fz,AV.soft,CQ,BX]
theorem eW{b:Nat}{l:List AV}{k:IntKind}{n:Int}:(AV.int k n).fin b l=.int k n:=by unfold AV.fin;split<;>rfl
theorem rB{b:Nat}{l:List AV}{n:Bool}:(AV.bool n).fin b l=.bool n:=by unfold AV.fin;split<;>rfl
theorem m9{b:Nat}{l:List AV}{s:ByteArray}:(AV.str s).fin b l=.str s:=by unfold AV.fin;split<;>rfl
theorem iO{b:Nat}{l:List AV}{s:List AV}:(AV.slice s).fin b l=.slice s:=by unfold AV.fin;split<;>rfl
theorem nS{b:Nat}{l:List AV}{s:List AV}:(AV.fslice s).fin b l=.slice s:=by unfold AV.fin;split<;>rfl
theorem zJ{b:Nat}{l:List AV}{e:AV}:(AV.pptr e).fin b l=.pptr e:=by unfold AV.fin;split<;>rfl
theorem H1{b c o:Nat}{l:List AV}:(AV.ptr c o).fin b l=.ptr c o:=by unfold AV.fin;split<;>rfl
theorem R7{b:Nat}{l:List AV}{g:FuncId}{cs:List AV}:(AV.func g cs).fin b l=.func g cs:=by unfold AV.fin;split<;>rfl
theorem aD.fin{P:Program}{g:FuncId}{args:List AV}{st:aB}{Q:AV→aB→Prop}
 (x:aD P g args st (fun r st'=>∃b l s0,st'=bE s0 b l∧(l≠[]→s0 b=none)∧(∀e∈l,e.cD=false)∧iT l∧Q (r.fin b l) s0)):aD P g args st Q:=
 x.l7 fun r st' ⟨b,l,s0,h1,h0,h2,h3,h4⟩=>by
  cases l with
  | nil=>
   exact⟨r.fin b [],st',(aL.refl _).u9,fun h v S y=>y.soft,by have e:st'=s0:=h1;rw[e];exact h4⟩
  | cons e l=>
   have hb:=h0 (by simp)
   subst h1
   have h1:bE s0 b (e::l) b=some (.cells ((e::l).flatMap AV.cells)):=by simp only[bE,aB.aJ]
   have e1:(bE s0 b (e::l)).erase b=s0:=by simp only[bE];exact aB.BU _ _ _ hb
   refine⟨r.fin b (e::l),s0,?_,fun h v S y=>?_,h4⟩
   · have:=(kI (bE s0 b (e::l)) b).u9
     rwa [e1] at this
   · have:=y.fz S h1 h2 h3
     rw[e1] at this
     exact this.soft
mutual
def AV.iR:AV→Bool
 | .slice _=>false
 | .fslice es=>es.isEmpty
 | .pptr _=>false
 | .agg cs=>lW cs
 | .tup vs=>lW vs
 | .func _ cs=>lW cs
 | _=>true
def lW:List AV→Bool
 | []=>true
 | a::as=>a.iR&&lW as
end
def AO.iR:AO→Prop
 | .cells cs=>lW cs=true
 | .map f=>∀n a,f n=some a→a.iR=true
 | .tab _=>True
section
variable {h:bJ} {st st':aB}
mutual
theorem VC.anyS:∀(a:AV) (cs:List Value),a.iR=true→VC h st a cs→VC h st' a cs
 | .junk,_,_,x=>x
 | .undef,_,_,x=>x
 | .int _ _,_,_,x=>x
 | .bool _,_,_,x=>x
 | .str _,_,_,x=>x
 | .agg as,cs,s,x=>by simp only[VC] at x ⊢;exact a8.anyS as cs (by simpa [AV.iR] using s) x
 | .tup as,cs,s,x=>by
  simp only[VC] at x ⊢
  obtain⟨vs,e,r⟩:=x
  exact⟨vs,e,dP.anyS as vs (by simpa [AV.iR] using s) r⟩
 | .slice es,_,s,_=>by simp [AV.iR] at s
 | .fslice es,cs,s,x=>by
  have he:es= []:=by simpa [AV.iR] using s
  subst he
  unfold VC at x ⊢
  rcases x with x | ⟨b,off,e,_⟩
  · exact .inl x
  · exact .inl ⟨⟨_,e⟩,rfl⟩
 | .mslice b off len n,_,_,x=>x
 | .nilptr,_,_,x=>x
 | .ptr _ _,_,_,x=>x
 | .pptr e,_,s,_=>by simp [AV.iR] at s
 | .nilmap,_,_,x=>x
 | .map _,_,_,x=>x
 | .func _ as,cs,s,x=>by
  simp only[VC] at x ⊢
  obtain⟨vs,e,r⟩:=x
  exact⟨vs,e,dP.anyS as vs (by simpa [AV.iR] using s) r⟩
 | .raw _,_,_,x=>x
 | .eslice,_,_,x=>x
theorem a8.anyS:∀(as:List AV) (cs:List Value),lW as=true→a8 h st as cs→a8 h st' as cs
 | [],_,_,x=>x
 | a::as,cs,s,x=>by
  simp only[a8] at x ⊢
  simp only[lW,bV] at s
  obtain⟨c,r,e,x1,x2⟩:=x
  exact⟨c,r,e,VC.anyS a [c] s.1 x1,a8.anyS as r s.2 x2⟩
theorem dP.anyS:∀(as:List AV) (cs:List Value),lW as=true→dP h st as cs→dP h st' as cs
 | [],_,_,x=>x
 | a::as,cs,s,x=>by
  simp only[dP] at x ⊢
  simp only[lW,bV] at s
  obtain⟨v,r,e,x1,x2⟩:=x
  exact⟨v,r,e,⟨x1.1,VC.anyS a _ s.1 x1.2⟩,dP.anyS as r s.2 x2⟩
end
theorem aQ.anyS{a:AV}{v:Value}(s:a.iR=true)(x:aQ h st a v):aQ h st' a v:=by
 cases a<;>first | trivial | exact⟨x.1,VC.anyS _ _ s x.2⟩
theorem lD.anyS{b:Nat}:∀ {o:AO},o.iR→lD h st b o→lD h st' b o
 | .cells as,s,x=>by
  obtain⟨c,t,e,l,vs,x1,x2⟩:=x
  exact⟨c,t,e,l,vs,x1,a8.anyS as vs s x2⟩
 | .map f,s,x=>by
  obtain⟨es,cl,e,x1,x2,x3⟩:=x
  refine⟨es,cl,e,x1,x2,fun n=>?_⟩
  have:=x3 n
  split
  · rename_i a ha
    rw[ha] at this
    obtain⟨e,he,hk,hv⟩:=this
    exact⟨e,he,hk,hv.anyS (s n a ha)⟩
  · rename_i ha
    rw[ha] at this
    exact this
 | .tab cs,_,x=>x
end
def aB.frame(st s0 s1:aB):aB:=fun b=>match s0 b,st b with
 | none,some o=>some o
 | _,_=>s1 b
theorem aD.frame{P:Program}{g:FuncId}{args args':List AV}{st s0:aB}{Q:AV→aB→Prop}(D:aL st s0)
 (x:aD P g args s0 (fun r s1=>(∀b,s0 b=none→s1 b≠none→st b=none)→r.iR=true∧(∀b o,s1 b=some o→o.iR)∧Q r (st.frame s0 s1)))
 (hv:∀h vs,cS h st→dB h st args' vs→dB h s0 args vs):aD P g args' st Q:=by
 refine⟨x.1,fun w vs S V=>(x.2 w vs (D.JI S) (hv _ _ S V)).mono ?_⟩
 rintro _ w' ⟨v,r,s1,rfl,hr,S1,T,sm,q⟩
 have hfr:∀b,s0 b=none→s1 b≠none→st b=none:=fun b h0 h1=>by
  cases hb:st b with
  | none=>rfl
  | some o=>exact absurd (T.aV b (S b o hb).1 h0).2 h1
 obtain⟨hs,ho,hq⟩:=q hfr
 have T':bX w.heap st w'.heap (st.frame s0 s1):=by
  refine⟨T.size,fun b hb e=>?_,T.shape⟩
  obtain⟨k1,k2⟩:=T.aV b hb ((D b).1 e)
  exact⟨k1,by simp only[aB.frame,e,k2];split<;>first | rfl | (rename_i h;cases h)⟩
 refine⟨v,r,st.frame s0 s1,rfl,hr.anyS hs,fun b o hb=>?_,T',sm,hq⟩
 simp only[aB.frame] at hb
 split at hb
 · rename_i o' h0 h1
   cases hb
   obtain⟨l,y⟩:=S b _ h1
   exact⟨vE l T.size,lD.mono T' (T.aV b l h0).1 y⟩
 · obtain⟨l,y⟩:=S1 b o hb
   exact⟨l,y.anyS (ho b o hb)⟩
def d9:aB:=fun _=>none
theorem aL.d9(st:aB):aL st d9:=fun _=>⟨fun _=>rfl,fun _ h=>by cases h⟩
theorem a3D(st:aB):st.frame d9 d9=st:=by
 funext b;simp only[aB.frame,d9];split
 · rename_i h;exact h.symm
 · rename_i h;cases hb:st b with
   | none=>rfl
   | some o=>exact absurd hb (h o rfl)
theorem aD.aLT{P:Program}{g:FuncId}{args args':List AV}{st:aB}{r:AV}(hs:r.iR=true)
 (x:aD P g args d9 (fun r' s1=>r'=r∧s1=d9))
 (hv:∀h vs,cS h st→dB h st args' vs→dB h d9 args vs):aD P g args' st (fun r' st'=>r'=r∧st'=st):=
 aD.frame (aL.d9 st) (x.mono fun r' s1 ⟨e1,e2⟩ _=>⟨by rw[e1];exact hs,(by rw[e2];intro b o h;cases h),e1,by rw[e2,a3D]⟩) hv
mutual
def cG(st:aB):AV→AV→List Nat→Prop
 | .int k n,o,bs=>o=.int k n∧bs= []
 | .bool b,o,bs=>o=.bool b∧bs= []
 | .str s,o,bs=>o=.str s∧bs= []
 | .agg cs,o,bs=>∃os,o=.agg os∧bO st cs os bs
 | .slice es,o,bs=>(es= []∧o=.fslice []∧bs= [])∨∃b bs' os w,o=.mslice b 0 es.length w∧bs=b::bs'∧st b=some (.cells (os.flatMap AV.cells))∧bO st es os bs'∧(∀e∈es,e.width=w)
 | _,_,_=>False
def bO(st:aB):List AV→List AV→List Nat→Prop
 | [],os,bs=>os= []∧bs= []
 | a::as,os,bs=>∃o os' b1 b2,os=o::os'∧bs=b1++b2∧cG st a o b1∧bO st as os' b2
end
theorem bO.length{st:aB}:∀ {as os:List AV} {bs:List Nat},bO st as os bs→os.length=as.length
 | [],os,bs,x=>by simp only[bO] at x;simp [x.1]
 | a::as,os,bs,x=>by
  simp only[bO] at x
  obtain⟨o,os',b1,b2,rfl,rfl,_,x2⟩:=x
  simp [bO.length x2]
theorem cG.shape{st:aB}:∀ {a o:AV} {bs:List Nat},cG st a o bs→o.isAgg=a.isAgg∧o.width=a.width∧o.cD=false∧(∀cs,a=.agg cs→∃os,o=.agg os)
 | .int k n,o,bs,x=>by simp only[cG] at x;rw[x.1];exact⟨rfl,rfl,rfl,by simp⟩
 | .bool b,o,bs,x=>by simp only[cG] at x;rw[x.1];exact⟨rfl,rfl,rfl,by simp⟩
 | .str s,o,bs,x=>by simp only[cG] at x;rw[x.1];exact⟨rfl,rfl,rfl,by simp⟩
 | .agg cs,o,bs,x=>by
  simp only[cG] at x
  obtain⟨os,rfl,x⟩:=x
  exact⟨rfl,x.length,rfl,fun _ _=>⟨os,rfl⟩⟩
 | .slice es,o,bs,x=>by
  simp only[cG] at x
  rcases x with ⟨_,rfl,_⟩ | ⟨b,bs',os,w,rfl,_⟩<;>exact⟨rfl,rfl,rfl,by simp⟩
 | .junk,_,_,x=>x.elim
 | .undef,_,_,x=>x.elim
 | .tup _,_,_,x=>x.elim
 | .fslice _,_,_,x=>x.elim
 | .mslice _ _ _ _,_,_,x=>x.elim
 | .nilptr,_,_,x=>x.elim
 | .ptr _ _,_,_,x=>x.elim
 | .pptr _,_,_,x=>x.elim
 | .nilmap,_,_,x=>x.elim
 | .map _,_,_,x=>x.elim
 | .func _ _,_,_,x=>x.elim
 | .raw _,_,_,x=>x.elim
 | .eslice,_,_,x=>x.elim
section
variable {st st':aB}
mutual
theorem cG.aV:∀(a o:AV) (bs:List Nat),(∀b∈bs,st' b=st b)→cG st a o bs→cG st' a o bs
 | .int k n,o,bs,_,x=>x
 | .bool b,o,bs,_,x=>x
 | .str s,o,bs,_,x=>x
 | .agg cs,o,bs,h,x=>by
  simp only[cG] at x ⊢
  obtain⟨os,e,x⟩:=x
  exact⟨os,e,bO.aV cs os bs h x⟩
 | .slice es,o,bs,h,x=>by
  simp only[cG] at x ⊢
  rcases x with x | ⟨b,bs',os,w,e1,rfl,e2,x,e3⟩
  · exact .inl x
  · exact .inr ⟨b,bs',os,w,e1,rfl,(h b (by simp)).trans e2,bO.aV es os bs' (fun q hq=>h q (by simp [hq])) x,e3⟩
 | .junk,_,_,_,x=>x
 | .undef,_,_,_,x=>x
 | .tup _,_,_,_,x=>x
 | .fslice _,_,_,_,x=>x
 | .mslice _ _ _ _,_,_,_,x=>x
 | .nilptr,_,_,_,x=>x
 | .ptr _ _,_,_,_,x=>x
 | .pptr _,_,_,_,x=>x
 | .nilmap,_,_,_,x=>x
 | .map _,_,_,_,x=>x
 | .func _ _,_,_,_,x=>x
 | .raw _,_,_,_,x=>x
 | .eslice,_,_,_,x=>x
theorem bO.aV:∀(as os:List AV) (bs:List Nat),(∀b∈bs,st' b=st b)→bO st as os bs→bO st' as os bs
 | [],os,bs,_,x=>x
 | a::as,os,bs,h,x=>by
  simp only[bO] at x ⊢
  obtain⟨o,os',b1,b2,e1,rfl,x1,x2⟩:=x
  exact⟨o,os',b1,b2,e1,rfl,cG.aV a o b1 (fun q hq=>h q (by simp [hq])) x1,bO.aV as os' b2 (fun q hq=>h q (by simp [hq])) x2⟩
end
mutual
theorem cG.iR:∀(a o:AV) (bs:List Nat),cG st a o bs→o.iR=true∧o.cells.all AV.storable=o.cells.all AV.storable∧∀b∈bs,∃cs,st b=some (.cells cs)∧lW cs=true
 | .int k n,o,bs,x=>by simp only[cG] at x;rw[x.1,x.2];exact⟨rfl,rfl,by simp⟩
 | .bool b,o,bs,x=>by simp only[cG] at x;rw[x.1,x.2];exact⟨rfl,rfl,by simp⟩
 | .str s,o,bs,x=>by simp only[cG] at x;rw[x.1,x.2];exact⟨rfl,rfl,by simp⟩
 | .agg cs,o,bs,x=>by
  simp only[cG] at x
  obtain⟨os,rfl,x⟩:=x
  obtain⟨h1,h2⟩:=bO.iR cs os bs x
  exact⟨by simpa [AV.iR] using h1.1,rfl,h2⟩
 | .slice es,o,bs,x=>by
  simp only[cG] at x
  rcases x with ⟨_,rfl,rfl⟩ | ⟨b,bs',os,w,rfl,rfl,e2,x,e3⟩
  · exact⟨rfl,rfl,by simp⟩
  · obtain⟨h1,h2⟩:=bO.iR es os bs' x
    refine⟨rfl,rfl,fun q hq=>?_⟩
    rcases cY.1 hq with rfl | hq
    · exact⟨_,e2,h1.2⟩
    · exact h2 q hq
 | .junk,_,_,x=>x.elim
 | .undef,_,_,x=>x.elim
 | .tup _,_,_,x=>x.elim
 | .fslice _,_,_,x=>x.elim
 | .mslice _ _ _ _,_,_,x=>x.elim
 | .nilptr,_,_,x=>x.elim
 | .ptr _ _,_,_,x=>x.elim
 | .pptr _,_,_,x=>x.elim
 | .nilmap,_,_,x=>x.elim
 | .map _,_,_,x=>x.elim
 | .func _ _,_,_,x=>x.elim
 | .raw _,_,_,x=>x.elim
 | .eslice,_,_,x=>x.elim
theorem bO.iR:∀(as os:List AV) (bs:List Nat),bO st as os bs→(lW os=true∧lW (os.flatMap AV.cells)=true)∧∀b∈bs,∃cs,st b=some (.cells cs)∧lW cs=true
 | [],os,bs,x=>by simp only[bO] at x;rw[x.1,x.2];exact⟨⟨rfl,rfl⟩,by simp⟩
 | a::as,os,bs,x=>by
  simp only[bO] at x
  obtain⟨o,os',b1,b2,rfl,rfl,x1,x2⟩:=x
  obtain⟨h1,_,h2⟩:=cG.iR a o b1 x1
  obtain⟨⟨h3,h4⟩,h5⟩:=bO.iR as os' b2 x2
  have MQ:∀(p q:List AV),lW p=true→lW q=true→lW (p++q)=true:=by
   intro p q hp hq
   induction p with
   | nil=>exact hq
   | cons c p ih=>simp only[lW,bV,gV] at hp ⊢;exact⟨hp.1,ih hp.2⟩
  have hc:lW o.cells=true:=by cases o<;>first | (simpa [AV.cells,lW] using h1) | (simpa [AV.cells,AV.iR] using h1)
  refine⟨⟨by simp [lW,h1,h3],by rw[qT];exact MQ _ _ hc h4⟩,fun q hq=>?_⟩
  rcases eH.1 hq with hq | hq
  · exact h2 q hq
  · exact h5 q hq
end
end
section
variable {h:bJ} {st s0:aB}
mutual
theorem cG.view(S:cS h st)(D:aL st s0):∀(a o:AV) (bs:List Nat) (cs:List Value),cG st a o bs→(∀b∈bs,s0 b=none)→VC h st o cs→VC h s0 a cs
 | .int k n,o,bs,cs,x,_,y=>by simp only[cG] at x;rw[x.1] at y;exact y
 | .bool b,o,bs,cs,x,_,y=>by simp only[cG] at x;rw[x.1] at y;exact y
 | .str s,o,bs,cs,x,_,y=>by simp only[cG] at x;rw[x.1] at y;exact y
 | .agg as,o,bs,cs,x,hb,y=>by
  simp only[cG] at x
  obtain⟨os,rfl,x⟩:=x
  simp only[VC] at y ⊢
  exact bO.aSE S D as os bs cs x hb y
 | .slice es,o,bs,cs,x,hb,y=>by
  simp only[cG] at x
  rcases x with ⟨rfl,rfl,rfl⟩ | ⟨b,bs',os,w,rfl,rfl,e2,x,e3⟩
  · unfold VC at y ⊢
    rcases y with y | ⟨b,off,e,_⟩
    · exact .inl y
    · exact .inl ⟨⟨_,e⟩,rfl⟩
  · simp only[VC] at y
    obtain⟨cap,e,l1,l2,_⟩:=y
    obtain⟨hlt,c,t,q1,q2,vs,q3,q4⟩:=S b _ e2
    have hsh:=bO.U7 x
    unfold VC
    refine .inr ⟨b,0,cap,e,l1,l2,hb b (by simp),hlt,⟨w,e3⟩,bO.aSF S D b es os bs' 0 x (fun q hq=>hb q (by simp [hq])) (KU (fun q hq=>hsh q hq) q3 q4)⟩
 | .junk,_,_,_,x,_,_=>x.elim
 | .undef,_,_,_,x,_,_=>x.elim
 | .tup _,_,_,_,x,_,_=>x.elim
 | .fslice _,_,_,_,x,_,_=>x.elim
 | .mslice _ _ _ _,_,_,_,x,_,_=>x.elim
 | .nilptr,_,_,_,x,_,_=>x.elim
 | .ptr _ _,_,_,_,x,_,_=>x.elim
 | .pptr _,_,_,_,x,_,_=>x.elim
 | .nilmap,_,_,_,x,_,_=>x.elim
 | .map _,_,_,_,x,_,_=>x.elim
 | .func _ _,_,_,_,x,_,_=>x.elim
 | .raw _,_,_,_,x,_,_=>x.elim
 | .eslice,_,_,_,x,_,_=>x.elim
theorem bO.aSE(S:cS h st)(D:aL st s0):∀(as os:List AV) (bs:List Nat) (cs:List Value),bO st as os bs→(∀b∈bs,s0 b=none)→a8 h st os cs→a8 h s0 as cs
 | [],os,bs,cs,x,_,y=>by simp only[bO] at x;rw[x.1] at y;exact y
 | a::as,os,bs,cs,x,hb,y=>by
  simp only[bO] at x
  obtain⟨o,os',b1,b2,rfl,rfl,x1,x2⟩:=x
  simp only[a8] at y ⊢
  obtain⟨c,r,e,y1,y2⟩:=y
  exact⟨c,r,e,cG.view S D a o b1 [c] x1 (fun q hq=>hb q (by simp [hq])) y1,bO.aSE S D as os' b2 r x2 (fun q hq=>hb q (by simp [hq])) y2⟩
theorem bO.aSF(S:cS h st)(D:aL st s0)(b:Nat):∀(as os:List AV) (bs:List Nat) (off:Nat),bO st as os bs→(∀b∈bs,s0 b=none)→dA h st b off os→dA h s0 b off as
 | [],os,bs,off,x,_,y=>by simp only[dA]
 | a::as,os,bs,off,x,hb,y=>by
  simp only[bO] at x
  obtain⟨o,os',b1,b2,rfl,rfl,x1,x2⟩:=x
  simp only[dA] at y ⊢
  obtain⟨⟨cs,y1,y2,y3⟩,y4⟩:=y
  have hw:=(cG.shape x1).2.1
  rw[hw] at y2 y4
  exact⟨⟨cs,y1,y2,cG.view S D a o b1 cs x1 (fun q hq=>hb q (by simp [hq])) y3⟩,bO.aSF S D b as os' b2 _ x2 (fun q hq=>hb q (by simp [hq])) y4⟩
theorem bO.U7:∀ {as os:List AV} {bs:List Nat},bO st as os bs→∀o∈os,o.cD=false
 | [],os,bs,x=>by simp only[bO] at x;rw[x.1];simp
 | a::as,os,bs,x=>by
  simp only[bO] at x
  obtain⟨o,os',b1,b2,rfl,rfl,x1,x2⟩:=x
  intro q hq
  rcases cY.1 hq with rfl | hq
  · exact(cG.shape x1).2.2.1
  · exact bO.U7 x2 q hq
end
theorem cG.bCU(S:cS h st)(D:aL st s0){a o:AV}{bs:List Nat}{v:Value}(x:cG st a o bs)(hb:∀b∈bs,s0 b=none)(y:aQ h st o v):aQ h s0 a v:=by
 have hs:=x.shape
 have key:o.isAgg=j8 v∧VC h st o v.cells.toList:=by
  cases o<;>first | exact y | simp [AV.cD] at hs
 have z:a.isAgg=j8 v∧VC h s0 a v.cells.toList:=⟨hs.1.symm.trans key.1,cG.view S D _ _ _ _ x hb key.2⟩
 cases ha:a<;>rw[ha] at z<;>first | trivial | exact z
end
def Seen(st s0:aB):List AV→List AV→Prop
 | [],as=>as= []
 | o::os,as=>∃a as',as=a::as'∧(o=a∨∃bs,cG st a o bs∧∀b∈bs,s0 b=none)∧Seen st s0 os as'
theorem Seen.rel{st s0:aB}(D:aL st s0):∀ {os as:List AV},Seen st s0 os as→∀h vs,cS h st→dB h st os vs→dB h s0 as vs
 | [],as,x,h,vs,_,y=>by simp only[Seen] at x;rw[x];exact y
 | o::os,as,x,h,vs,S,y=>by
  simp only[Seen] at x
  obtain⟨a,as',rfl,x1,x2⟩:=x
  simp only[dB] at y ⊢
  obtain⟨v,r,rfl,y1,y2⟩:=y
  refine⟨v,r,rfl,?_,Seen.rel D x2 h r S y2⟩
  rcases x1 with rfl | ⟨bs,x1,hb⟩
  · exact y1.mono (D.step h)
  · exact x1.bCU S D hb y1
def Made(st:aB)(a r:AV)(st':aB):Prop:=∃bs:List Nat,bs.Nodup∧(∀b∈bs,st b=none)∧cG st' a r bs∧∀b,b∉bs→st' b=st b
theorem bO.aLN{st:aB}{w:Nat}:∀ {as os:List AV} {bs:List Nat},bO st as os bs→(∀e∈as,e.width=w)→(os.flatMap AV.cells).length=as.length*w
 | [],os,bs,x,_=>by simp only[bO] at x;rw[x.1];simp
 | a::as,os,bs,x,h=>by
  simp only[bO] at x
  obtain⟨o,os',b1,b2,rfl,rfl,x1,x2⟩:=x
  have:=bO.aLN x2 (fun e he=>h e (by simp [he]))
  rw[qT,dN,this,sJ,(cG.shape x1).2.1,h a (by simp),aU,qV]
  omega
theorem aPE{A C B x:List AV}{n j:Nat}(hA:A.length=n)(hj:j+x.length≤C.length):aK (A++C++B) (n+j) x=A++aK C j x++B:=by
 subst hA
 unfold aK
 have h1:(A++C++B).take (A.length+j)=A++C.take j:=by
  rw[lL,List.take_length_add_append,DJ (by omega)]
 have h2:(A++C++B).drop (A.length+j+x.length)=C.drop (j+x.length)++B:=by
  rw[lL,yR,List.drop_length_add_append,XI (by omega)]
 rw[h1,h2]
 simp
theorem TV{A B:List AV}{n:Nat}(hA:A.length=n):(∀(C:List AV) (v:AV) (j:Nat),j<C.length→aK (A++C++B) (n+j) [v]=A++C.set j v++B)∧(∀(C:List AV) (c:Nat),c<C.length→n+c+1≤(A++C++B).length) ∧
 (∀(C:List AV) (c:Nat),c<C.length→(A++C++B)[n+c]?=C[c]?)∧(∀(C:List AV) (v:AV),0<C.length→aK (A++C++B) n [v]=A++C.set 0 v++B)∧(∀(C:List AV),0<C.length→n+1≤(A++C++B).length) ∧
 ∀(C:List AV),0<C.length→(A++C++B)[n]?=C[0]?:=by
 have k1:(∀(C:List AV) (v:AV) (j:Nat),j<C.length→aK (A++C++B) (n+j) [v]=A++C.set j v++B)∧(∀(C:List AV) (c:Nat),c<C.length→n+c+1≤(A++C++B).length)∧∀(C:List AV) (c:Nat),c<C.length→(A++C++B)[n+c]?=C[c]?:=?_
 · exact⟨k1.1,k1.2.1,k1.2.2,fun C v h=>k1.1 C v 0 h,fun C h=>k1.2.1 C 0 h,fun C h=>k1.2.2 C 0 h⟩
 refine⟨fun C v j h=>?_,fun C c h=>?_,fun C c h=>?_⟩
 · rw[aPE hA (by simp;omega),XN,aG h]
   unfold aK
   simp
 · simp only[dN];omega
 · subst hA
   rw[lL,XL (by omega),Nat.add_sub_cancel_left,XK h]
theorem a8L{A B C x:List AV}{n w:Nat}(hA:A.length=n)(hC:C.length=w)(hx:x.length=w):aK (A++C++B) n x=A++x++B∧n+w≤(A++C++B).length:=by
 have h:=aPE (A:=A) (C:=C) (B:=B) (x:=x) (n:=n) (j:=0) hA (by omega)
 rw[DK] at h
 refine⟨?_,by simp only[dN];omega⟩
 rw[h]
 unfold aK
 simp [hC,hx]
theorem p8{P:Program}{t:TypeId}{ag:Bool}{b len w i:Nat}(hI:eI P t=some (ag,w))(hi:i<len):c8 P t (.mslice b 0 len w) (.int .i64 (i:Int))=some (.ptr b (i*w)):=by
 simp only[c8,hI,jO,gZ]
 rw[aG ⟨by omega,by omega,trivial⟩]
theorem cG.YQ{st:aB}:∀ {cs os:List AV} {bs:List Nat},bO st cs os bs→(∀c∈cs,c.isAgg=false)→os.all AV.storable=true∧os.flatMap AV.cells=os
 | [],os,bs,x,_=>by simp only[bO] at x;rw[x.1];simp
 | a::as,os,bs,x,h=>by
  simp only[bO] at x
  obtain⟨o,os',b1,b2,rfl,rfl,x1,x2⟩:=x
  have ih:=cG.YQ x2 (fun c hc=>h c (by simp [hc]))
  have ha:=h a (by simp)
  have ho:o.storable=true∧o.cells= [o]:=by
   cases a<;>simp only[cG] at x1<;>try exact x1.elim
   case int=>rw[x1.1];exact⟨rfl,rfl⟩
   case bool=>rw[x1.1];exact⟨rfl,rfl⟩
   case str=>rw[x1.1];exact⟨rfl,rfl⟩
   case agg=>simp [AV.isAgg] at ha
   case slice=>rcases x1 with ⟨_,rfl,_⟩ | ⟨b,bs',os,w,rfl,_⟩<;>exact⟨rfl,rfl⟩
  rw[kY,ho.1,ih.1,qT,ih.2,ho.2]
  exact⟨rfl,rfl⟩
theorem bO.snoc{st st':aB}{a o:AV}{b2:List Nat}:∀ {as os:List AV} {b1:List Nat},bO st as os b1→(∀b∈b1,st' b=st b)→cG st' a o b2→bO st' (as++ [a]) (os++ [o]) (b1++b2)
 | [],os,b1,x,_,y=>by
  simp only[bO] at x
  rw[x.1,x.2]
  simp only[fB,bO]
  exact⟨o,[],b2,[],rfl,by simp,y,rfl,rfl⟩
 | c::as,os,b1,x,h,y=>by
  simp only[bO] at x
  obtain⟨o1,os',b3,b4,rfl,rfl,x1,x2⟩:=x
  simp only[gV,bO]
  exact⟨o1,os'++ [o],b3,b4++b2,rfl,by simp,cG.aV _ _ _ (fun q hq=>h q (by simp [hq])) x1,bO.snoc x2 (fun q hq=>h q (by simp [hq])) y⟩
def aSN(st:aB)(ds:List Nat)(a r:AV)(st':aB):Prop:=∃bs:List Nat,bs.Nodup∧(∀b∈bs,st b=none)∧(∀d∈ds,st d=none∧d∉bs)∧cG st' a r bs∧∀b,b∉bs→b∉ds→st' b=st b
theorem aD.a7F{P:Program}{g:FuncId}{args:List AV}{st:aB}{a:AV}(x:aD P g args st (fun r st'=>∃ds,aSN st ds a r st')):aD P g args st (Made st a):=
 x.l7 fun r st' ⟨ds,bs,h1,h2,hd,h3,h4⟩=>by
  refine⟨r,fun q=>if q∈ds then none else st' q,?_,?_,bs,h1,h2,?_,fun b hb=>?_⟩
  · have D:aL st' (fun q=>if q∈ds then none else st' q):=fun q=>by
     by_cases hq:q∈ds
     · simp only[hq,eX];exact⟨fun _=>trivial,fun o h=>by cases h⟩
     · simp only[hq,dT];exact⟨id,fun o h=>h⟩
    exact D.u9
  · have D:aL st' (fun q=>if q∈ds then none else st' q):=fun q=>by
     by_cases hq:q∈ds
     · simp only[hq,eX];exact⟨fun _=>trivial,fun o h=>by cases h⟩
     · simp only[hq,dT];exact⟨id,fun o h=>h⟩
    exact D.l7 r
  · exact cG.aV _ _ _ (fun q hq=>aE fun h=>(hd q h).2 hq) h3
  · by_cases hq:b∈ds
    · simp only[hq,eX];exact(hd b hq).1.symm
    · simp only[hq,dT];exact h4 b hb hq
def wZ(b:Nat):List AV→List Nat
 | []=>[]
 | _::_=>[b]
theorem a8J{s:aB}{b w:Nat}{es os:List AV}{bs:List Nat}(x:bO (bE s b os) es os bs)(hw:∀e∈es,e.width=w):cG (bE s b os) (.slice es) (bS w b os) (wZ b os++bs):=by
 have hl:=x.length
 cases os with
 | nil=>
  have:es= []:=o0 (by simpa using hl.symm)
  subst this
  simp only[bO] at x
  simp only[cG,bS,wZ,x.2]
  exact .inl ⟨trivial,trivial,rfl⟩
 | cons o os=>
  simp only[cG,bS,wZ]
  refine .inr ⟨b,bs,o::os,w,by rw[hl],rfl,?_,x,hw⟩
  simp only[bE,aB.aJ]
def AV.flat:AV→Bool
 | .int _ _ | .bool _ | .str _=>true
 | _=>false
theorem bO.flat{s:aB}:∀ {es:List AV},es.all AV.flat=true→bO s es es []
 | [],_=>⟨rfl,rfl⟩
 | e::es,h=>by
  simp only[kY,bV] at h
  simp only[bO]
  refine⟨e,es,[],[],rfl,rfl,?_,bO.flat h.2⟩
  cases e<;>simp [AV.flat] at h<;>simp [cG]
theorem Seen.nil{st s0:aB}:Seen st s0 [] []:=rfl
theorem Seen.same{st s0:aB}{x:AV}{os as:List AV}(h:Seen st s0 os as):Seen st s0 (x::os) (x::as):=⟨x,as,rfl,.inl rfl,h⟩
theorem Seen.own{st:aB}{a o:AV}{bs:List Nat}{os as:List AV}(hO:cG st a o bs)(h:Seen st d9 os as):Seen st d9 (o::os) (a::as):=⟨a,as,rfl,.inr ⟨bs,hO,fun _ _=>rfl⟩,h⟩
theorem aD.see{P:Program}{g:FuncId}{args args':List AV}{st:aB}{r:AV}(x:∀s,aD P g args s (fun r' s'=>r'=r∧s'=s))(hv:Seen st d9 args' args)(hs:r.iR=true):aD P g args' st (fun r' s'=>r'=r∧s'=st):=
 aD.aLT hs (x d9) (Seen.rel (aL.d9 st) hv)
theorem aD.m8{P:Program}{g:FuncId}{args:List AV}{st:aB}{r:AV}(x:aD P g args st (fun r' st'=>r'=r∧aL st' st)):aD P g args st (fun r' st'=>r'=r∧st'=st):=
 (x.mono fun _ _ h=>⟨h.2,h.1⟩).drop
theorem aS4{P:Program}{t:TypeId}{st:aB}{s x:AV}{K K':AV→aB→Prop}(h:∀r s,K r s→K' r s)(e:jC P t st s x K):jC P t st s x K':=by
 unfold jC at *
 split at e
 case h_2=>exact e.elim
 refine⟨e.1,e.2.1,?_⟩
 have e:=e.2.2
 split at e
 · exact⟨e.1,e.2.1,e.2.2.1,fun q=>h _ _ (e.2.2.2.1 q),fun q b hb=>h _ _ (e.2.2.2.2 q b hb)⟩
 · refine⟨e.1,e.2.1,e.2.2.1,?_⟩
   have e:=e.2.2.2
   split at e
   · exact⟨e.1,h _ _ e.2.1,fun b hb=>h _ _ (e.2.2 b hb)⟩
   · exact e.elim
 · exact e.elim
theorem aS3{P:Program}{t t':TypeId}{st:aB}{s x:AV}{K K':AV→aB→Prop}(h:∀r s,K r s→K' r s)(e:tP P t t' st s x K):tP P t t' st s x K':=by
 unfold tP at *
 split at e
 case h_2=>exact e.elim
 refine⟨e.1,e.2.1,e.2.2.1,e.2.2.2.1,?_⟩
 have e:=e.2.2.2.2
 split at e
 · exact⟨e.1,e.2.1,e.2.2.1,fun q=>h _ _ (e.2.2.2.1 q),fun q b hb=>h _ _ (e.2.2.2.2 q b hb)⟩
 · refine⟨e.1,e.2.1,e.2.2.1,?_⟩
   have e:=e.2.2.2
   split at e
   · exact⟨e.1,h _ _ e.2.1,fun b hb=>h _ _ (e.2.2 b hb)⟩
   · exact e.elim
 · exact e.elim
theorem BH{P:Program}{mt:List Nat}{φ:AF}{st:aB}{o:Oper}{K K':AV→aB→Prop}(h:∀r s,K r s→K' r s)(e:fD P mt φ st o K):fD P mt φ st o K':=by
 unfold fD at *
 split at e
 · split at e
   · exact e.mono h
   · exact e.elim
 · split at e
   · split at e
     · rename_i ht;rw[aG ht];exact aS4 h e
     · rename_i ht;rw[aE ht];exact aS3 h e
   · exact e.elim
 · split at e
   · unfold BF at *
     split at e
     · split at e
       · exact h _ _ e
       · exact e.elim
     · exact e.elim
   · exact e.elim
 · split at e
   · unfold wV at *
     split at e
     · obtain⟨e1,e2,e3,e4,e5⟩:=e
       refine⟨e1,e2,e3,e4,?_⟩
       split at e5
       · exact⟨e5.1,h _ _ e5.2⟩
       · exact e5.elim
     · exact h _ _ e
     · exact e.elim
   · exact e.elim
 · split at e
   · rename_i hm
     rw[aG hm]
     exact⟨e.1,fun b hb=>h _ _ (e.2 b hb)⟩
   · rename_i hm
     rw[aE hm]
     split at e
     · exact h _ _ e
     · exact e.elim
 · split at e
   · exact fun b hb=>h _ _ (e b hb)
   · exact e.elim
 · split at e
   · split at e
     · exact⟨e.1,e.2.1,e.2.2.1,h _ _ e.2.2.2⟩
     · exact e.elim
   · exact e.elim
 · exact fun b hb=>h _ _ (e b hb)
 · unfold yX at *
   split at e
   · exact⟨e.1,e.2.1,e.2.2.1,e.2.2.2.1,e.2.2.2.2.1,e.2.2.2.2.2.1,fun b hb=>h _ _ (e.2.2.2.2.2.2 b hb)⟩
   · exact e.elim
 · unfold tR at *
   split at e
   · split at e
     · exact⟨e.1,h _ _ e.2⟩
     · exact e.elim
   · exact e.elim
 · split at e
   · exact h _ _ e
   · exact e.elim
def jR(P:Program)(ops:Array Oper)(o:Oper)(φ:AF)(st:aB)(K:AV→aB→Prop):Prop:=match jQ ops φ o with
 | some true=>fD P [] φ st o K
 | some false=>K .undef st
 | none=>False
theorem tS{P:Program}{ops:Array Oper}{o:Oper}{φ:AF}{st:aB}{K K':AV→aB→Prop}(h:∀r s,K r s→K' r s)(e:jR P ops o φ st K):jR P ops o φ st K':=by
 unfold jR at *
 split at e
 · exact BH h e
 · exact h _ _ e
 · exact e.elim
section
variable {P:Program}
theorem aS8{ops:Array Oper}{oi oj:Oper}(φ:AF)(v:AV)(h:∀d,oj.dst=some d→d∉oi.looksAt ops):jQ ops (φ.put oj.dst v) oi=jQ ops φ oi:=by
 unfold jQ
 cases hg:oi.guard with
 | none=>rfl
 | some gw=>
  obtain⟨g,want⟩:=gw
  cases ht:(ops[g]?).bind (·.dst) with
  | none=>simp only[ht]
  | some t=>
   simp only[ht]
   have:(φ.put oj.dst v) t=φ t:=by
    have:=NQ (φ:=φ) (dst:=oj.dst) (v:=v) (x:=.tmp t) (fun d hd hxd=>h d hd (by
     cases hxd
     simp [Oper.looksAt,hg,ht]))
    exact this
   rw[this]
theorem P9{ops:Array Oper}{oi oj:Oper}(φ:AF)(v:AV){st:aB}{K:AV→aB→Prop}(h:∀d,oj.dst=some d→d∉oi.looksAt ops):jR P ops oi (φ.put oj.dst v) st K↔jR P ops oi φ st K:=by
 have h1:fD P [] (φ.put oj.dst v) st oi K=fD P [] φ st oi K:=
  YG fun x hx=>NQ fun d hd hxd=>h d hd (by
   subst hxd
   exact List.mem_append_left _ (List.mem_filterMap.2 ⟨.tmp d,by simpa using hx,rfl⟩))
 unfold jR
 rw[h1,aS8 φ v h]
theorem SB(n j:Nat):(Array.replicate n false).getD j false=false:=by
 rcases lN j n with h | h<;>simp [h]
def KX(P:Program)(ops:Array Oper)(K:AF→aB→Prop):Nat→Array Bool→AF→aB→Prop
 | 0,listed,φ,st=>Region.ready .any ops listed= []∧K φ st
 | f+1,listed,φ,st=>(Region.ready .any ops listed= []→K φ st)∧∀i∈Region.ready .any ops listed,∃o,ops[i]?=some o∧jR P ops o φ st (fun r st'=>KX P ops K f (listed.setIfInBounds i true) (φ.put o.dst r) st')
theorem aTH{N:Nat}{ops:Array Oper}(hN:∀(j d:Nat),(ops[j]?).bind (·.dst)=some d→d<N){o:Oper}{i:Nat}{a:Act}{w:World}{φ:AF}{st:aB}{G:AV→aB→Prop}{K:Act→World→Prop}{Q:Exit→Act→World→Prop}(hi:ops[i]?=some o)
 (R:Rel N a w φ st) (hd:pB N o=true) (y:jR P ops o φ st G) (h:∀a' w' r st',Rel N a' w' (φ.put o.dst r) st'→bX w.heap st w'.heap st'→fC w w'→G r st'→K a' w'):wpOp P ops Q i K a w:=by
 unfold jR at y
 unfold wpOp
 simp only[hi]
 split at y
 · rename_i hg
   rw[aG (yW R hN hg)]
   refine .inl (K2 R.frame R.store y fun v w' ⟨r',st',x1,x2,x3,x4,x5⟩=>?_)
   exact h _ _ r' st' (R.put hd x3 x2 x1) x3 x4 x5
 · rename_i hg
   rw[aE (by rw[yW R hN hg];simp)]
   exact h _ _ .undef st (R.put (r:=.undef) hd (bX.refl _ _) R.store ⟨rfl,rfl⟩) (bX.refl _ _) (fC.refl _) y
 · exact y.elim
theorem KY{N:Nat}{ops:Array Oper}(hN:∀(j d:Nat),(ops[j]?).bind (·.dst)=some d→d<N)(hD:∀o∈ops.toList,pB N o=true){K:AF→aB→Prop}{Q:Exit→Act→World→Prop}{w0:World}{st0:aB}
 (hK:∀φ st a w,K φ st→Rel N a w φ st→bX w0.heap st0 w.heap st→fC w0 w→Q .normal a w) :
 ∀(f:Nat) (listed:Array Bool) (φ:AF) (st:aB) (a:Act) (w:World),KX P ops K f listed φ st→Rel N a w φ st→bX w0.heap st0 w.heap st→fC w0 w→wpAny P .any ops Q f listed a w
 | 0,listed,φ,st,a,w,h,R,T,s=>⟨h.1,hK φ st a w h.2 R T s⟩
 | f+1,listed,φ,st,a,w,h,R,T,s=>by
  refine⟨fun h0=>hK φ st a w (h.1 h0) R T s,fun i hi=>?_⟩
  obtain⟨o,ho,y⟩:=h.2 i hi
  exact aTH hN ho R (hD o (oX.2 (DC ho))) y fun a' w' r st' R' T' s' g=>KY hN hD hK f _ _ _ a' w' g R' (T.trans T') (s.trans s')
def YB(P:Program)(ops:Array Oper)(o:Oper)(r:AV)(φ:AF):Prop:=∀st,kE P st ops o r φ
theorem bDQ{ops:Array Oper}{o:Oper}{r:AV}{φ:AF}(h:YB P ops o r φ){st:aB}{K:AV→aB→Prop}(k:K r st):jR P ops o φ st K:=by
 unfold jR
 rcases h st with ⟨hg,hs⟩ | ⟨hg,rfl⟩
 · rw[hg];exact BH (fun r' s' ⟨e1,e2⟩=>by rw[e1,e2];exact k) hs
 · rw[hg];exact k
theorem YJ{ops:Array Oper}{o:Oper}{r:AV}{φ:AF}{st:aB}(h:kE P st ops o r φ){K:AV→aB→Prop}(k:K r st):jR P ops o φ st K:=by
 unfold jR
 rcases h with ⟨hg,hs⟩ | ⟨hg,rfl⟩
 · rw[hg];exact BH (fun r' s' ⟨e1,e2⟩=>by rw[e1,e2];exact k) hs
 · rw[hg];exact k
def DR(P:Program)(ops:Array Oper)(S:List Nat)(K:AF→aB→Prop):Nat→Array Bool→AF→aB→Prop
 | 0,listed,φ,st=>Region.ready .any ops listed= []∧K φ st
 | f+1,listed,φ,st=>(Region.ready .any ops listed= []→K φ st)∧∀i∈Region.ready .any ops listed,∃o,ops[i]?=some o ∧
  ((S.contains i=true∧∃r,kE P st ops o r φ∧DR P ops S K f (listed.setIfInBounds i true) (φ.put o.dst r) st) ∨
   (S.contains i=false∧jR P ops o φ st (fun r st'=>DR P ops S K f (listed.setIfInBounds i true) (φ.put o.dst r) st')))
theorem P3{ops:Array Oper}{S:List Nat}{K:AF→aB→Prop}:∀(f:Nat) (listed:Array Bool) (φ:AF) (st:aB),DR P ops S K f listed φ st→KX P ops K f listed φ st
 | 0,_,_,_,h=>h
 | f+1,listed,φ,st,h=>by
  refine⟨h.1,fun i hi=>?_⟩
  obtain⟨o,ho,h2⟩:=h.2 i hi
  refine⟨o,ho,?_⟩
  rcases h2 with ⟨_,r,y,k⟩ | ⟨_,k⟩
  · exact YJ y (P3 f _ _ _ k)
  · exact tS (fun r s q=>P3 f _ _ _ q) k
def tJ(ops:Array Oper)(listed:Array Bool):Prop:=∀j o,ops[j]?=some o→listed.getD j false=true→∀e∈o.after,Region.binds .any e=true→listed.getD e.on false=true
theorem tJ.set{ops:Array Oper}{listed:Array Bool}{i:Nat}(h:tJ ops listed)(hr:i∈Region.ready .any ops listed):tJ ops (listed.setIfInBounds i true):=by
 intro j o ho hl e he hb
 by_cases hji:i=j
 · subst hji
   obtain⟨_,o',ho',dV⟩:=mem_ready.1 hr
   rw[ho'] at ho;cases ho
   exact getD_set_true (dV e he hb)
 · rw[getD_set_ne false hji] at hl
   exact getD_set_true (h j o ho hl e he hb)
def vN(ops:Array Oper):Nat→Nat→Nat→Bool
 | 0,_,_=>false
 | f+1,j,i=>match ops[j]? with
  | some o=>o.after.any fun e=>Region.binds .any e&&(e.on == i||vN ops f e.on i)
  | none=>false
theorem LZ{ops:Array Oper}{listed:Array Bool}{i:Nat}(h:tJ ops listed)(hi:listed.getD i false=false):∀(f j:Nat) (o:Oper),ops[j]?=some o→vN ops f j i=true→¬ ∀e∈o.after,Region.binds .any e=true→listed.getD e.on false=true
 | 0,j,o,_,hd=>by simp [vN] at hd
 | f+1,j,o,ho,hd=>by
  intro dV
  simp only[vN,ho] at hd
  obtain⟨e,he,h2⟩:=Array.any_eq_true'.1 hd
  simp only[bV,oZ,beq_iff_eq] at h2
  obtain⟨hb,h3⟩:=h2
  have hl:=dV e he hb
  rcases h3 with h3 | h3
  · rw[h3,hi] at hl;cases hl
  · cases hk:ops[e.on]? with
    | none=>cases f<;>simp [vN,hk] at h3
    | some o2=>exact LZ h hi f e.on o2 hk h3 (h e.on o2 hk hl)
def eD(st s:aB):Prop:=∀b o,st b=some o→s b=some o
theorem eD.refl(st:aB):eD st st:=fun _ _ h=>h
theorem eD.trans{a b c:aB}(x:eD a b)(y:eD b c):eD a c:=fun q o h=>y q o (x q o h)
def K6(o:Oper):Bool:=match o.op with
 | .alloc _=>true
 | _=>false
theorem aTG{ops:Array Oper}{o:Oper}{φ:AF}{st:aB}{K:AV→aB→Prop}(ho:K6 o=true)(e:jR P ops o φ st K):jR P ops o φ st (fun r st'=>eD st st'∧K r st'):=by
 obtain⟨dst,op,type,pos,after,guard⟩:=o
 cases op<;>simp only[K6,fX] at ho
 unfold jR at e ⊢
 split at e
 · simp only[fD] at e ⊢
   split at e
   · intro b hb
     refine⟨fun q o hq=>?_,e b hb⟩
     rw[aB.aH _ _ (by rintro rfl;rw[hb] at hq;cases hq)]
     exact hq
   · cases e
 · exact⟨eD.refl _,e⟩
 · cases e
theorem P4{ops:Array Oper}{S:List Nat}{i:Nat}{oi:Oper}{v:AV}{K:AF→aB→Prop}(hi:ops[i]?=some oi)(hS:S.contains i=true) :
 ∀(f:Nat) (listed:Array Bool) (φ:AF) (st:aB),tJ ops listed →
  (∀j oj,ops[j]?=some oj→j≠i→listed.getD j true=false→(∀e∈oj.after,Region.binds .any e=true→e.on≠i)→oi.apart ops oj=true) →
  i∈Region.ready .any ops listed→((∀s,kE P s ops oi v φ)∨(kE P st ops oi v φ∧∀j oj,ops[j]?=some oj→listed.getD j true=false→S.contains j=false→∃g,vN ops g j i=true)∨((∀s,eD st s→kE P s ops oi v φ)∧∀j oj,ops[j]?=some oj→listed.getD j true=false→S.contains j=false→(∃g,vN ops g j i=true)∨K6 oj=true)) →
  DR P ops S K f (listed.setIfInBounds i true) (φ.put oi.dst v) st→DR P ops S K (f+1) listed φ st:=by
 intro f
 induction f with
 | zero=>
  intro listed φ st hcl _ hr hy H
  have hy0:kE P st ops oi v φ:=by
   rcases hy with h | h | h
   · exact h st
   · exact h.1
   · exact h.1 st (eD.refl st)
  refine⟨fun h=>(by rw[h] at hr;cases hr),fun j hj=>?_⟩
  by_cases hji:j=i
  · subst hji;exact⟨oi,hi,.inl ⟨hS,v,hy0,H⟩⟩
  · have:=ready_mono hj hji
    rw[H.1] at this
    cases this
 | succ f ih=>
  intro listed φ st hcl rK hr hy H
  have hy0:kE P st ops oi v φ:=by
   rcases hy with h | h | h
   · exact h st
   · exact h.1
   · exact h.1 st (eD.refl st)
  refine⟨fun h=>(by rw[h] at hr;cases hr),fun j hj=>?_⟩
  by_cases hji:j=i
  · subst hji;exact⟨oi,hi,.inl ⟨hS,v,hy0,H⟩⟩
  · obtain⟨oj,hoj,h1⟩:=H.2 j (ready_mono hj hji)
    obtain⟨p9,oj',B4,dV⟩:=mem_ready.1 hj
    have:oj'=oj:=mD (B4.symm.trans hoj)
    subst this
    have hun:=(mem_ready.1 hr).1
    have uI:∀e∈oj'.after,Region.binds .any e=true→e.on≠i:=fun e he hb heq=>by
     have h1:=dV e he hb
     rw[heq,getD_both hun] at h1
     cases h1
    obtain⟨a1,a2,a3⟩:=Oper.apart_spec (rK j oj' hoj hji p9 uI)
    have vT:∀k ok,ops[k]?=some ok→k≠i→(listed.setIfInBounds j true).getD k true=false →
     (∀e∈ok.after,Region.binds .any e=true→e.on≠i)→oi.apart ops ok=true:=fun k ok hk hki hun hno=>by
     refine rK k ok hk hki ?_ hno
     by_cases hjk:j=k
     · subst hjk;exact p9
     · rw[getD_set_ne true hjk] at hun;exact hun
    have TI:∀k,(listed.setIfInBounds j true).getD k true=false→listed.getD k true=false:=fun k hk=>by
     by_cases hjk:j=k
     · subst hjk;exact p9
     · rw[getD_set_ne true hjk] at hk;exact hk
    refine⟨oj',hoj,?_⟩
    rcases h1 with ⟨hSj,r,yj,h2⟩ | ⟨hSj,h2⟩
    · refine .inl ⟨hSj,r,(qY φ v a1).1 yj,ih (listed.setIfInBounds j true) (φ.put oj'.dst r) st (hcl.set hj) vT (ready_mono hr (c9 hji)) ?_ ?_⟩
      · rcases hy with h | h | h
        · exact .inl fun s=>(qY φ r a3).2 (h s)
        · exact .inr (.inl ⟨(qY φ r a3).2 h.1,fun k ok hk hl hs=>h.2 k ok hk (TI k hl) hs⟩)
        · exact .inr (.inr ⟨fun s hs=>(qY φ r a3).2 (h.1 s hs),fun k ok hk hl hs=>h.2 k ok hk (TI k hl) hs⟩)
      · rw[DD _ _ hji,←put_comm φ v r a2]
        exact h2
    · rcases hy with hf | ⟨_,hd⟩ | ⟨hx,hd⟩
      · refine .inr ⟨hSj,tS (fun r st' h3=>?_) ((P9 φ v a1).1 h2)⟩
        refine ih (listed.setIfInBounds j true) (φ.put oj'.dst r) st' (hcl.set hj) vT (ready_mono hr (c9 hji)) (.inl fun s=>(qY φ r a3).2 (hf s)) ?_
        rw[DD _ _ hji,←put_comm φ v r a2]
        exact h3
      · obtain⟨g,hg⟩:=hd j oj' hoj p9 hSj
        exact absurd dV (LZ hcl (getD_both hun) g j oj' hoj hg)
      · rcases hd j oj' hoj p9 hSj with ⟨g,hg⟩ | hal
        · exact absurd dV (LZ hcl (getD_both hun) g j oj' hoj hg)
        · refine .inr ⟨hSj,tS (fun r st' h3=>?_) (aTG hal ((P9 φ v a1).1 h2))⟩
          refine ih (listed.setIfInBounds j true) (φ.put oj'.dst r) st' (hcl.set hj) vT (ready_mono hr (c9 hji)) (.inr (.inr ⟨fun s hs=>(qY φ r a3).2 (hx s (h3.1.trans hs)),fun k ok hk hl hs=>hd k ok hk (TI k hl) hs⟩)) ?_
          rw[DD _ _ hji,←put_comm φ v r a2]
          exact h3.2
def aP1(ops:Array Oper)(S:List Nat)(listed:Array Bool)(i:Nat):Bool:=(List.range ops.size).all fun j=>listed.getD j true||S.contains j||vN ops ops.size j i
def aP0(ops:Array Oper)(S:List Nat)(listed:Array Bool)(i:Nat):Bool:=(List.range ops.size).all fun j=>listed.getD j true||S.contains j||vN ops ops.size j i||((ops[j]?).map K6).getD false
def aOQ(ops:Array Oper)(i:Nat):Bool:=((ops[i]?).map kX).getD false
def uN(ops:Array Oper)(S:List Nat):List (Nat×Nat)→Array Bool→Bool
 | [],listed=>(Region.ready .any ops listed).isEmpty
 | (i,0)::r,listed=>decide (Region.ready .any ops listed= [i])&& !S.contains i&&uN ops S r (listed.setIfInBounds i true)
 | (i,1)::r,listed=>(Region.ready .any ops listed).contains i&&Region.free .any ops listed i&&S.contains i&&uN ops S r (listed.setIfInBounds i true)
 | (i,_)::r,listed=>(Region.ready .any ops listed).contains i&&Region.free .any ops listed i&&S.contains i&&(aP1 ops S listed i||(aOQ ops i&&aP0 ops S listed i))&&uN ops S r (listed.setIfInBounds i true)
def DV(P:Program)(ops:Array Oper)(K:AF→aB→Prop):List (Nat×Nat)→AF→aB→Prop
 | [],φ,st=>K φ st
 | (i,0)::r,φ,st=>∃o,ops[i]?=some o∧jR P ops o φ st (fun v st'=>DV P ops K r (φ.put o.dst v) st')
 | (i,1)::r,φ,st=>∃o,ops[i]?=some o∧∃v,YB P ops o v φ∧DV P ops K r (φ.put o.dst v) st
 | (i,_)::r,φ,st=>∃o,ops[i]?=some o∧∃v,kE P st ops o v φ∧DV P ops K r (φ.put o.dst v) st
theorem a7D{t:TypeId}{ok:Bool}{x i r:AV}{st s:aB}(hs:eD st s)(h:pU P st t ok x i=some r):pU P s t ok x i=some r:=by
 unfold pU at *
 split at h
 · rename_i b n
   cases hb:st b with
   | none=>rw[hb] at h;cases h
   | some o=>rw[hs b o hb,←hb];exact h
 · cases h
theorem a68{t:TypeId}{x r:AV}{st s:aB}(hs:eD st s)(h:g9 P st t x=some r):g9 P s t x=some r:=by
 unfold g9 at *
 split at h
 · exact h
 · rename_i b o
   cases hb:st b with
   | none=>rw[hb] at h;split at h<;>simp_all
   | some o=>rw[hs b o hb,←hb];exact h
 · cases h
theorem YH{φ:AF}{o:Oper}{r:AV}{st s:aB}(hs:eD st s)(h:lQ P φ st o=some r):lQ P φ s o=some r:=by
 obtain⟨dst,op,type,pos,after,guard⟩:=o
 cases op
 case makeFunc fn a b=>cases fn<;>exact h
 case call c=>
  obtain⟨callee,args,ats⟩:=c
  cases callee
  case builtin b=>cases b<;>exact h
  all_goals exact h
 case load=>exact a68 hs h
 case lookup=>exact a7D hs h
 all_goals exact h
theorem aTM{ops:Array Oper}{o:Oper}{v:AV}{φ:AF}{st s:aB}(hp:kX o=true)(hs:eD st s)(h:kE P st ops o v φ):kE P s ops o v φ:=by
 rcases h with ⟨h1,h2⟩ | h
 · refine .inl ⟨h1,?_⟩
   rw[tU hp] at h2 ⊢
   cases hv:lQ P φ st o with
   | none=>rw[hv] at h2;cases h2
   | some r=>
    rw[hv] at h2
    rw[YH hs hv]
    exact⟨h2.1,rfl⟩
 · exact .inr h
theorem HA{ops:Array Oper}{S:List Nat}{K:AF→aB→Prop}:∀(p:List (Nat×Nat)) (listed:Array Bool) (φ:AF) (st:aB),tJ ops listed→uN ops S p listed=true→DV P ops K p φ st→DR P ops S K p.length listed φ st
 | [],listed,φ,st,_,hB,h=>⟨by simpa [uN] using hB,h⟩
 | (i,0)::r,listed,φ,st,hcl,hB,h=>by
  simp only[uN,bV,bK,lJ] at hB
  obtain⟨o,ho,h'⟩:=h
  have hr:i∈Region.ready .any ops listed:=by rw[hB.1.1];simp
  refine⟨fun h0=>(by rw[hB.1.1] at h0;cases h0),fun j hj=>?_⟩
  rw[hB.1.1] at hj
  obtain rfl:j=i:=by simpa using hj
  exact⟨o,ho,.inr ⟨hB.1.2,tS (fun v st' q=>HA r _ _ _ (hcl.set hr) hB.2 q) h'⟩⟩
 | (i,1)::r,listed,φ,st,hcl,hB,h=>by
  simp only[uN,bV] at hB
  obtain⟨⟨⟨hr,hf⟩,hS⟩,hB'⟩:=hB
  obtain⟨o,ho,v,hv,h'⟩:=h
  have hr':i∈Region.ready .any ops listed:=by simpa using hr
  exact P4 ho hS _ listed φ st hcl (Region.free_spec ho hf) hr' (.inl hv) (HA r _ _ _ (hcl.set hr') hB' h')
 | (i,k+2)::r,listed,φ,st,hcl,hB,h=>by
  simp only[uN,bV] at hB
  obtain⟨⟨⟨⟨hr,hf⟩,hS⟩,hd⟩,hB'⟩:=hB
  obtain⟨o,ho,v,hv,h'⟩:=h
  have hr':i∈Region.ready .any ops listed:=by simpa using hr
  rw[oZ] at hd
  rcases hd with hd | hd
  · refine P4 ho hS _ listed φ st hcl (Region.free_spec ho hf) hr' (.inr (.inl ⟨hv,fun j oj hj hl hs=>⟨ops.size,?_⟩⟩)) (HA r _ _ _ (hcl.set hr') hB' h')
    simp only[aP1,dW,wO] at hd
    have:=hd j (GN.1 hj).1
    simpa only[hl,hs,oY] using this
  · rw[bV] at hd
    obtain⟨hp,hd⟩:=hd
    simp only[aOQ,ho,oG,GY] at hp
    refine P4 ho hS _ listed φ st hcl (Region.free_spec ho hf) hr' (.inr (.inr ⟨fun s hs=>aTM hp hs hv,fun j oj hj hl hs=>?_⟩)) (HA r _ _ _ (hcl.set hr') hB' h')
    simp only[aP0,dW,wO] at hd
    have:=hd j (GN.1 hj).1
    simp only[hl,hs,oY,hj,oG,GY,oZ] at this
    exact this.imp (fun h=>⟨ops.size,h⟩) id
theorem aUB{N:Nat}{id:Nat}{ops:Array Oper}{Q:Exit→AF→aB→Prop}{φ:AF}{st:aB}(p:List (Nat×Nat))(S:List Nat)(hm:P.follows .mixedOrders=true)(hok:qL N ops=true)(hl:p.length=ops.size)(hB:uN ops S p (Array.replicate ops.size false)=true)
 (h:DV P ops (Q .normal) p φ st):fK P N (.region id ops true) Q φ st:=by
 intro a w R
 refine wp_region_any hm ?_
 have R0:Rel N a { w with drawn:=w.drawn+1 } φ st:=⟨R.size,R.defers,R.frame,R.store⟩
 have:=P3 _ _ _ _ (HA p _ φ st (fun j o _ hl=>(by rw[SB] at hl;cases hl)) hB h)
 rw[hl] at this
 exact KY (zZ hok) (xW hok) (w0:=w) (st0:=st) (fun φ' st' a' w' k R' T s=>⟨φ',st',R',T,s,k⟩) _ _ _ _ _ _ this R0 (bX.refl _ _) ⟨rfl,rfl,rfl⟩
theorem a7C{t:TypeId}{ok:Bool}{x i r:AV}(h:pU P d9 t ok x i=some r)(st:aB):pU P st t ok x i=some r:=by
 unfold pU at *
 split at h
 · simp only[d9] at h;cases h
 · cases h
theorem a67{t:TypeId}{x r:AV}(h:g9 P d9 t x=some r)(st:aB):g9 P st t x=some r:=by
 unfold g9 at *
 split at h
 · exact h
 · split at h
   · rename_i h1;simp only[d9] at h1;cases h1
   · cases h
 · cases h
theorem aTI{φ:AF}{o:Oper}{r:AV}(h:lQ P φ d9 o=some r)(st:aB):lQ P φ st o=some r:=by
 obtain⟨dst,op,type,pos,after,guard⟩:=o
 cases op
 case makeFunc fn a b=>cases fn<;>exact h
 case call c=>
  obtain⟨callee,args,ats⟩:=c
  cases callee
  case builtin b=>cases b<;>exact h
  all_goals exact h
 case load=>exact a67 h st
 case lookup=>exact a7C h st
 all_goals exact h
def kD(P:Program)(ops:Array Oper)(K:AF→aB→Prop):List (Nat×Nat)→AF→aB→Prop
 | [],φ,st=>K φ st
 | (i,0)::r,φ,st=>match ops[i]? with
  | none=>False
  | some o=>bD P [] ops [o] (fun φ' st'=>kD P ops K r φ' st') φ st
 | (i,1)::r,φ,st=>match ops[i]? with
  | none=>False
  | some o=>if kX o=true then bD P [] ops [o] (fun φ' _=>kD P ops K r φ' st) φ d9 else
   match o.guard,o.op with
   | none,.call { callee:=.value f,args,.. }=>∃v,(∀s,tW P (φ.eval f) (args.toList.map φ.eval) s (fun r' s'=>r'=v∧s'=s))∧kD P ops K r (φ.put o.dst v) st
   | _,_=>False
 | (i,_)::r,φ,st=>match ops[i]? with
  | none=>False
  | some o=>if kX o=true then bD P [] ops [o] (fun φ' _=>kD P ops K r φ' st) φ st else
   match o.guard,o.op with
   | none,.call { callee:=.value f,args,.. }=>∃v,tW P (φ.eval f) (args.toList.map φ.eval) st (fun r' s'=>r'=v∧s'=st)∧kD P ops K r (φ.put o.dst v) st
   | _,_=>False
theorem wY{ops:Array Oper}{K:AF→aB→Prop}:∀(p:List (Nat×Nat)) (φ:AF) (st:aB),kD P ops K p φ st→DV P ops K p φ st
 | [],_,_,h=>h
 | (i,0)::r,φ,st,h=>by
  simp only[kD] at h
  split at h
  · exact h.elim
  · rename_i o ho
    refine⟨o,ho,?_⟩
    simp only[bD] at h
    unfold jR
    split at h
    · rename_i hg
      rw[hg]
      exact BH (fun v s q=>wY r _ _ q) h
    · rename_i hg
      rw[hg]
      exact wY r _ _ h
    · exact h.elim
 | (i,1)::r,φ,st,h=>by
  simp only[kD] at h
  split at h
  · exact h.elim
  · rename_i o ho
    split at h
    · rename_i hp
      simp only[bD] at h
      split at h
      · rename_i hg
        rw[tU hp] at h
        split at h
        · rename_i v hv
          exact⟨o,ho,v,fun s=>.inl ⟨hg,by rw[tU hp,aTI hv s];exact⟨rfl,rfl⟩⟩,wY r _ _ h⟩
        · exact h.elim
      · rename_i hg
        exact⟨o,ho,.undef,fun s=>.inr ⟨hg,rfl⟩,wY r _ _ h⟩
      · exact h.elim
    · split at h
      · rename_i f args ats hg hop
        obtain⟨v,h1,h2⟩:=h
        refine⟨o,ho,v,fun s=>.inl ⟨by simp only[jQ,hg],?_⟩,wY r _ _ h2⟩
        simp only[fD,hop]
        exact h1 s
      · exact h.elim
 | (i,k+2)::r,φ,st,h=>by
  simp only[kD] at h
  split at h
  · exact h.elim
  · rename_i o ho
    split at h
    · rename_i hp
      simp only[bD] at h
      split at h
      · rename_i hg
        rw[tU hp] at h
        split at h
        · rename_i v hv
          exact⟨o,ho,v,.inl ⟨hg,by rw[tU hp,hv];exact⟨rfl,rfl⟩⟩,wY r _ _ h⟩
        · exact h.elim
      · rename_i hg
        exact⟨o,ho,.undef,.inr ⟨hg,rfl⟩,wY r _ _ h⟩
      · exact h.elim
    · split at h
      · rename_i f args ats hg hop
        obtain⟨v,h1,h2⟩:=h
        refine⟨o,ho,v,.inl ⟨by simp only[jQ,hg],?_⟩,wY r _ _ h2⟩
        simp only[fD,hop]
        exact h1
      · exact h.elim
end
def UO(P:Program)(ops:Array Oper)(K:AF→aB→Prop)(r:List (Nat×Nat))(φ:AF)(st:aB):Prop:=kD P ops K r φ st
def I7(P:Program)(ops:Array Oper)(K:AF→aB→Prop)(r:List (Nat×Nat))(st:aB)(φ:AF)(_:aB):Prop:=kD P ops K r φ st
def CK(P:Program)(ops:Array Oper)(K:AF→aB→Prop)(r:List (Nat×Nat))(φ:AF)(dst:Option Tmp)(st:aB)(v:AV):Prop:=kD P ops K r (φ.put dst v) st
def HQ(P:Program)(f:AV)(args:List AV)(K:AV→Prop):Prop:=∃v,(∀s,tW P f args s (fun r' s'=>r'=v∧s'=s))∧K v
def FJ(P:Program)(ops:Array Oper)(K:AF→aB→Prop)(r:List (Nat×Nat))(φ:AF)(st:aB):Nat→Option Oper→Prop
 | 0,some o=>bD P [] ops [o] (UO P ops K r) φ st
 | 1,some o=>if kX o=true then bD P [] ops [o] (I7 P ops K r st) φ d9 else
  match o.guard,o.op with
  | none,.call { callee:=.value f,args,.. }=>HQ P (φ.eval f) (args.toList.map φ.eval) (CK P ops K r φ o.dst st)
  | _,_=>False
 | _,some o=>if kX o=true then bD P [] ops [o] (I7 P ops K r st) φ st else
  match o.guard,o.op with
  | none,.call { callee:=.value f,args,.. }=>zA P (φ.eval f) (args.toList.map φ.eval) st (CK P ops K r φ o.dst st)
  | _,_=>False
 | _,none=>False
theorem aHT{P:Program}{ops:Array Oper}{K:AF→aB→Prop}{φ:AF}{st:aB}:kD P ops K [] φ st=K φ st:=rfl
theorem aHU{P:Program}{l:List Oper}{K:AF→aB→Prop}{φ:AF}{st:aB}{i b:Nat}{r:List (Nat×Nat)}:kD P l.toArray K ((i,b)::r) φ st=FJ P l.toArray K r φ st b l[i]?:=by
 match b with
 | 0=>simp only[kD,yO];cases l[i]?<;>rfl
 | 1=>simp only[kD,yO];cases l[i]?<;>rfl
 | b+2=>simp only[kD,yO];cases l[i]?<;>rfl
theorem aHY{P:Program}{ops:Array Oper}{K:AF→aB→Prop}{φ:AF}{st:aB}{r:List (Nat×Nat)}{o:Oper}:FJ P ops K r φ st 0 (some o)=bD P [] ops [o] (UO P ops K r) φ st:=rfl
theorem aHZ{P:Program}{ops:Array Oper}{K:AF→aB→Prop}{φ:AF}{st:aB}{r:List (Nat×Nat)}{o:Oper}:FJ P ops K r φ st 1 (some o)=if kX o=true then bD P [] ops [o] (I7 P ops K r st) φ d9 else
      match o.guard,o.op with
      | none,.call { callee:=.value f,args,.. }=>HQ P (φ.eval f) (args.toList.map φ.eval) (CK P ops K r φ o.dst st)
      | _,_=>False:=rfl
theorem aH0{P:Program}{ops:Array Oper}{K:AF→aB→Prop}{φ:AF}{st:aB}{r:List (Nat×Nat)}{o:Oper}:FJ P ops K r φ st 2 (some o)=if kX o=true then bD P [] ops [o] (I7 P ops K r st) φ st else
      match o.guard,o.op with
      | none,.call { callee:=.value f,args,.. }=>zA P (φ.eval f) (args.toList.map φ.eval) st (CK P ops K r φ o.dst st)
      | _,_=>False:=rfl
theorem aHX{P:Program}{ops:Array Oper}{K:AF→aB→Prop}{φ:AF}{st:aB}{r:List (Nat×Nat)}:UO P ops K r φ st=kD P ops K r φ st:=rfl
theorem aHW{P:Program}{ops:Array Oper}{K:AF→aB→Prop}{φ:AF}{st s:aB}{r:List (Nat×Nat)}:I7 P ops K r st φ s=kD P ops K r φ st:=rfl
theorem aHV{P:Program}{ops:Array Oper}{K:AF→aB→Prop}{φ:AF}{st:aB}{r:List (Nat×Nat)}{dst:Option Tmp}{v:AV}:CK P ops K r φ dst st v=kD P ops K r (φ.put dst v) st:=rfl
theorem Q8{P:Program}{g:FuncId}{args:List AV}{r:AV}{K:AV→Prop}(x:∀st,aD P g args st (fun r' st'=>r'=r∧st'=st))(h:K r):HQ P (.func g []) args K:=⟨r,fun st=>by show aD P g (args++ []) st _;rw[gM];exact x st,h⟩
@[congr] theorem bD4 {P:Program} {ops:Array Oper} {K:AF→aB→Prop} {p:List (Nat×Nat)} {φ φ':AF} {st st':aB} (h1:φ=φ') (h2:st=st'):kD P ops K p φ st=kD P ops K p φ' st':=by rw[h1,h2]
@[congr] theorem bEI {P:Program} {ops:Array Oper} {K:AF→aB→Prop} {p:List (Nat×Nat)} {φ φ':AF} {st st':aB} {b:Nat} {o o':Option Oper} (h1:φ=φ') (h2:st=st') (h3:o=o'):FJ P ops K p φ st b o=FJ P ops K p φ' st' b o':=by rw[h1,h2,h3]
@[congr] theorem bEH {P:Program} {ops:Array Oper} {K:AF→aB→Prop} {p:List (Nat×Nat)} {φ φ':AF} {dst:Option Tmp} {st st':aB} {v v':AV} (h1:φ=φ') (h2:st=st') (h3:v=v'):CK P ops K p φ dst st v=CK P ops K p φ' dst st' v':=by rw[h1,h2,h3]
@[congr] theorem bD8 {P:Program} {f f':AV} {args args':List AV} {K:AV→Prop} (h0:f=f') (h1:args=args'):HQ P f args K=HQ P f' args' K:=by rw[h0,h1]
theorem zx5{P:Program}{N:Nat}{id:Nat}{l:List Oper}{Q:Exit→AF→aB→Prop}{φ:AF}{st:aB}(p:List (Nat×Nat))(S:List Nat)(hm:P.follows .mixedOrders=true)(hok:qL N l.toArray=true)(hl:p.length=l.length)(hB:uN l.toArray S p (Array.replicate l.length false)=true)
 (h:kD P l.toArray (Q .normal) p φ st):fK P N (.region id l.toArray true) Q φ st:=
 aUB p S hm hok (by simpa using hl) (by simpa using hB) (wY p φ st h)
theorem aTQ{P:Program}{t:TypeId}{ag:Bool}{w bytes:Nat}{zs:List AV}{s:aB}{b:Nat}{l xs:List AV}{x:AV}{K:AV→aB→Prop}
 (hI:eI P t=some (ag,w)) (hB:eB P t=some bytes) (hZ:eZ P t=some zs) (hz:zs.length=w) (hx:yV x=some xs) (eR:w7 w xs) (hw:∀e∈l,e.width=w) (hb:l≠[]→s b=some (.cells (l.flatMap AV.cells)))
 (h1:(l.length+xs.length)*bytes≤140737488355328) (h2:l.length+xs.length≤9223372036854775807)
 (hK:∀b' s',(l++xs≠[]→s' b'=some (.cells ((l++xs).flatMap AV.cells)))→(l++xs≠[]→b'=b∧l≠[]∨s b'=none)→(∀q,(l++xs≠[]→q≠b')→(l≠[]→q≠b)→s' q=s q)→(l≠[]→b'≠b→s' b=none)→K (bS w b' (l++xs)) s'):jC P t s (bS w b l) x K:=by
 unfold jC
 rw[hI,hB,hZ,hx]
 refine⟨hz,eR,?_⟩
 cases l with
 | nil=>
  show _∧_∧_∧_∧_
  refine⟨by simpa using h1,by simpa using h2,by simp,?_,?_⟩
  · rintro rfl
    have:=hK b s (by simp) (by simp) (fun _ _ _=>rfl) (by simp)
    simpa [bS] using this
  · intro hne b' hb'
    have:=hK b' (s.aC b' (.cells (xs.flatMap AV.cells))) (fun _=>by rw[aB.aJ];simp) (fun _=>.inr hb') (fun q h _=>aB.aH _ _ (h (by simpa using hne))) (by simp)
    rw[fB,pW hne] at this
    simpa using this
 | cons y l=>
  have hb:=hb (by simp)
  show w=w∧_∧_∧_
  refine⟨rfl,h1,h2,?_⟩
  have hfl:((y::l).flatMap AV.cells).length=(y::l).length*w:=mI hw
  rw[hb]
  refine⟨by rw[hfl];exact cU _,?_,?_⟩
  · have:=hK b (s.aC b (.cells ((y::l++xs).flatMap AV.cells))) (fun _=>aB.aJ _ _ _) (fun _=>.inl ⟨rfl,by simp⟩) (fun q h _=>aB.aH _ _ (h (by simp))) (fun _ h=>absurd rfl h)
    rw[pW (by simp),tL,dN] at this
    rw[←hfl,dS]
    exact this
  · intro b' hb'
    have hne:b'≠b:=by rintro rfl;rw[hb] at hb';cases hb'
    have:=hK b' ((s.erase b).aC b' (.cells ((y::l++xs).flatMap AV.cells))) (fun _=>aB.aJ _ _ _) (fun _=>.inr hb') (fun q h h'=>by
     rw[aB.aH _ _ (h (by simp))]
     simp only[aB.erase,h' (by simp),dT]) (fun _ _=>by rw[aB.aH _ _ (c9 hne)];exact aB.aBK _ _)
    rw[pW (by simp),tL,dN] at this
    rw[←hfl,dS]
    exact this
def wM(es:List AV)(st:aB)(i:Nat)(os:List AV)(bs:List Nat)(b:Nat)(s:aB):Prop:=
 os.length=i∧bO s (es.take i) os bs∧bs.Nodup∧(∀q∈bs,st q=none)∧(os≠[]→st b=none∧b∉bs∧s b=some (.cells (os.flatMap AV.cells)))∧∀q,q∉bs→(os≠[]→q≠b)→s q=st q
theorem wM.start{es:List AV}{st:aB}{b:Nat}:wM es st 0 [] [] b st:=⟨rfl,by simp [bO],oF,by simp,by simp,fun _ _ _=>rfl⟩
theorem TU{b x:Nat}{l:List AV}:x∈wZ b l↔x=b∧l≠[]:=by cases l<;>simp [wZ]
theorem wM.done{es:List AV}{st:aB}{n w:Nat}{os:List AV}{bs:List Nat}{b:Nat}{s:aB}(h:wM es st n os bs b s)(hl:es.length=n)(hw:∀e∈es,e.width=w):Made st (.slice es) (bS w b os) s:=by
 obtain⟨h1,h2,h3,h4,h5,h6⟩:=h
 rw[lM (by omega)] at h2
 refine⟨wZ b os++bs,?_,fun q hq=>?_,?_,fun q hq=>?_⟩
 · rw[pS]
   refine⟨by cases os<;>simp [wZ],h3,fun x hx y hy e=>?_⟩
   obtain⟨rfl,hne⟩:=TU.1 hx
   exact(h5 hne).2.1 (e▸hy)
 · rcases eH.1 hq with hq | hq
   · obtain⟨rfl,hne⟩:=TU.1 hq
     exact(h5 hne).1
   · exact h4 q hq
 · cases os with
   | nil=>
    have:es= []:=by simpa using h2.length.symm
    subst this
    simp only[bO] at h2
    simp only[cG,bS,wZ,h2.2]
    exact .inl ⟨trivial,trivial,rfl⟩
   | cons o os=>
    simp only[cG,bS,wZ]
    refine .inr ⟨b,bs,o::os,w,by rw[h2.length],rfl,(h5 (by simp)).2.2,h2,hw⟩
 · simp only[eH,TU,not_or,not_and] at hq
   exact h6 q hq.2 (fun hne e=>hq.1 e hne)
theorem bO.W9{st:aB}{w:Nat}:∀ {as os:List AV} {bs:List Nat},bO st as os bs→(∀e∈as,e.width=w)→∀o∈os,o.width=w
 | [],os,bs,x,_=>by simp only[bO] at x;rw[x.1];simp
 | a::as,os,bs,x,h=>by
  simp only[bO] at x
  obtain⟨o,os',b1,b2,rfl,rfl,x1,x2⟩:=x
  intro q hq
  rcases cY.1 hq with rfl | hq
  · rw[(cG.shape x1).2.1,h a (by simp)]
  · exact bO.W9 x2 (fun e he=>h e (by simp [he])) q hq
theorem cG.aY5{st:aB}{e r:AV}{bs:List Nat}{w:Nat}(m3:cG st e r bs)(hwe:e.width=w)(hst:e.cells.all AV.storable=true):r.width=w∧r.cells.length=w∧r.cells.all AV.storable=true:=by
 refine⟨(cG.shape m3).2.1.trans hwe,by rw[sJ,(cG.shape m3).2.1,hwe],?_⟩
 cases e<;>simp only[cG] at m3<;>try exact m3.elim
 case int=>rw[m3.1];try rfl
 case bool=>rw[m3.1];try rfl
 case str=>rw[m3.1];try rfl
 case slice=>rcases m3 with ⟨_,rfl,_⟩ | ⟨_,_,_,_,rfl,_⟩<;>rfl
 case agg cs=>
  obtain⟨q,rfl,m3⟩:=m3
  refine(cG.YQ m3 fun c hc=>?_).1
  have hst:cs.all AV.storable=true:=hst
  have:=dW.1 hst c hc
  cases c<;>first | rfl | (simp [AV.storable] at this)
theorem wM.step{es:List AV}{st:aB}{i:Nat}{os:List AV}{bs bx:List Nat}{b x b':Nat}{s s2 s':aB}{o:AO}{e r:AV}(h:wM es st i os bs b s)(hx:s x=none)(he:es[i]?=some e)
 (m1:bx.Nodup) (m2:∀q∈bx,(s.aC x o) q=none) (m3:cG s2 e r bx) (m4:∀q,q∉bx→s2 q=(s.aC x o) q)
 (k1:s' b'=some (.cells ((os++ [r]).flatMap AV.cells))) (k2:b'=b∧os≠[]∨s2 b'=none) (k3:∀q,q≠b'→(os≠[]→q≠b)→s' q=s2 q) (k4:os≠[]→b'≠b→s' b=none) :
 wM es st (i+1) (os++ [r]) (bs++bx) b' (s'.erase x):=by
 obtain⟨h1,h2,h3,h4,h5,h6⟩:=h
 have EY:=bO.iR _ _ _ h2
 have hi:i<es.length:=(fA.1 he).1
 have zT:∀q∈bs,s q≠none:=fun q hq=>by obtain⟨cs,e1,_⟩:=EY.2 q hq;rw[e1];simp
 have a54:x∉bs:=fun hq=>zT x hq hx
 have hxb:os≠[]→x≠b:=fun hne e=>by have:=(h5 hne).2.2;rw[←e,hx] at this;cases this
 have TK:x∉bx:=fun hq=>by have:=m2 x hq;rw[aB.aJ] at this;cases this
 have hbx:∀q∈bx,s q=none:=fun q hq=>by
  have:=m2 q hq
  have hne:q≠x:=fun e=>TK (e▸hq)
  rwa [aB.aH _ _ hne] at this
 have EQ:∀q∈bs,q∉bx:=fun q hq hq'=>zT q hq (hbx q hq')
 have aMD:os≠[]→b∉bx:=fun hne hq=>by have:=hbx b hq;rw[(h5 hne).2.2] at this;cases this
 have a5S:s2 x=some o:=by rw[m4 x TK,aB.aJ]
 have hs2:∀q,q∉bx→q≠x→s2 q=s q:=fun q h1 h2=>by rw[m4 q h1,aB.aH _ _ h2]
 have SR:b'≠x:=by
  rcases k2 with ⟨rfl,hne⟩ | hn
  · exact c9 (hxb hne)
  · rintro rfl;rw[a5S] at hn;cases hn
 have MR:b'∉bx:=by
  rcases k2 with ⟨rfl,hne⟩ | hn
  · exact aMD hne
  · intro hq
    obtain⟨cs,e1,_⟩:=(cG.iR _ _ _ m3).2.2 b' hq
    rw[e1] at hn;cases hn
 have SQ:b'∉bs:=by
  rcases k2 with ⟨rfl,hne⟩ | hn
  · exact(h5 hne).2.1
  · intro hq
    rw[hs2 b' MR SR] at hn
    exact zT b' hq hn
 have a5T:st b'=none:=by
  rcases k2 with ⟨rfl,hne⟩ | hn
  · exact(h5 hne).1
  · rw[hs2 b' MR SR] at hn
    by_cases hbb:os≠[]∧b'=b
    · rw[hbb.2];exact(h5 hbb.1).1
    · rw[←h6 b' SQ (fun hne e=>hbb ⟨hne,e⟩)];exact hn
 have a30:os≠[]→∀q∈bs,q≠b:=fun hne q hq e=>(h5 hne).2.1 (e▸hq)
 have ET:∀q∈bs,(s'.erase x) q=s q:=fun q hq=>by
  have hqx:q≠x:=fun e=>a54 (e▸hq)
  simp only[aB.erase,hqx,dT]
  rw[k3 q (fun e=>SQ (e▸hq)) (fun hne=>a30 hne q hq),hs2 q (EQ q hq) hqx]
 have a4Y:∀q∈bx,(s'.erase x) q=s2 q:=fun q hq=>by
  have hqx:q≠x:=fun e=>TK (e▸hq)
  simp only[aB.erase,hqx,dT]
  exact k3 q (fun e=>MR (e▸hq)) (fun hne e=>aMD hne (e▸hq))
 refine⟨by simp [h1],?_,pS.2 ⟨h3,m1,fun a ha c hc e=>EQ a ha (e▸hc)⟩,fun q hq=>?_,fun _=>⟨a5T,?_,?_⟩,fun q hq hqb=>?_⟩
 · rw[dY,he]
   exact bO.snoc h2 ET (cG.aV _ _ _ a4Y m3)
 · rcases eH.1 hq with hq | hq
   · exact h4 q hq
   · by_cases hbb:os≠[]∧q=b
     · rw[hbb.2];exact(h5 hbb.1).1
     · by_cases hqs:q∈bs
       · exact h4 q hqs
       · rw[←h6 q hqs (fun hne e=>hbb ⟨hne,e⟩)];exact hbx q hq
 · intro hq
   rcases eH.1 hq with hq | hq
   · exact SQ hq
   · exact MR hq
 · simp only[aB.erase,SR,dT]
   exact k1
 · simp only[eH,not_or] at hq
   have aM1:=hqb (by simp)
   by_cases hqx:q=x
   · subst hqx
     simp only[aB.erase,eX]
     rw[←h6 q hq.1 hxb,hx]
   · simp only[aB.erase,hqx,dT]
     by_cases hbb:os≠[]∧q=b
     · rw[hbb.2,k4 hbb.1 (fun e=>aM1 (hbb.2.trans e.symm)),(h5 hbb.1).1]
     · rw[k3 q aM1 (fun hne e=>hbb ⟨hne,e⟩),hs2 q hq.2 hqx]
       exact h6 q hq.1 (fun hne e=>hbb ⟨hne,e⟩)
theorem aD.done{P:Program}{g:FuncId}{args:List AV}{st:aB}{r:AV}(x:aD P g args st (fun r' st'=>r'.soft=r∧aL st' st)):aD P g args st (fun r' st'=>r'=r∧st'=st):=
 aD.m8 (aD.soft x)
theorem aD.nR{P:Program}{g:FuncId}{args:List AV}{st:aB}{Q:AV→aB→Prop}(x:aD P g args st (fun r st'=>∃s2,aL st' s2∧Q r s2)):aD P g args st Q:=
 x.l7 fun r _ ⟨s2,D,q⟩=>⟨r,s2,D.u9,D.l7 r,q⟩
theorem iF{cs:List AV}:(AV.agg cs).soft=.agg (cs.map AV.soft):=by simp only[AV.soft,CQ]
theorem jJ{cs:List AV}:(AV.tup cs).soft=.tup (cs.map AV.soft):=by simp only[AV.soft,CQ]
theorem iG{k:IntKind}{n:Int}:(AV.int k n).soft=.int k n:=rfl
theorem rU{b:Bool}:(AV.bool b).soft=.bool b:=rfl
theorem mR{s:ByteArray}:(AV.str s).soft=.str s:=rfl
theorem nE{es:List AV}:(AV.slice es).soft=.slice es:=rfl
theorem lV{es:List AV}:(AV.fslice es).soft=.slice es:=rfl
def xF(b:Nat)(l:List AV):List (Nat×AV)→List (Nat×AV)
 | []=>[]
 | p::r=>(p.1,p.2.fin b l)::xF b l r
theorem aFJ{b:Nat}{l:List AV}:xF b l []= []:=rfl
theorem aFK{b d:Nat}{l:List AV}{v:AV}{r:List (Nat×AV)}:xF b l ((d,v)::r)=(d,v.fin b l)::xF b l r:=rfl
theorem a21{b:Nat}{l:List AV}:AV.junk.fin b l=.junk:=by unfold AV.fin;split<;>rfl
theorem kJ{w b:Nat}{l:List AV}:(bS w b l).fin b l=.slice l:=oI
theorem a63{st:aB}(b:Nat)(l:List AV)(hb:l≠[]→st b=none)(hj:∀e∈l,e.cD=false)(hE:iT l)(L:List (Nat×AV)):fY (kK L) (bE st b l) (kK (xF b l L)) st:=by
 have key:∀L d,kK (xF b l L) d=(kK L d).fin b l:=by
  intro L
  induction L with
  | nil=>intro d;exact a21.symm
  | cons p r ih=>
   obtain⟨e,v⟩:=p
   intro d
   show((kK (xF b l r)).aC e (v.fin b l)) d=(((kK r).aC e v) d).fin b l
   simp only[AF.aC]
   split
   · rfl
   · exact ih d
 intro h tmps S F
 cases l with
 | nil=>exact⟨S,bX.refl _ _,fun d=>by rw[key];exact(F d).soft⟩
 | cons y l=>
  have hst:(bE st b (y::l)) b=some (.cells ((y::l).flatMap AV.cells)):=aB.aJ _ _ _
  have he:(bE st b (y::l)).erase b=st:=aB.BU st b _ (hb (by simp))
  have L1:fY (kK L) (bE st b (y::l)) (fun d=>(kK L d).fz b (y::l)) st:=by
   have:=fY.freeze (φ:=kK L) hst hj hE
   rwa [he] at this
  obtain⟨a1,a2,a3⟩:=L1 h tmps S F
  exact⟨a1,a2,fun d=>by rw[key];exact(a3 d).soft⟩
theorem oW{P:Program}{N:Nat}{c:Code}{Q:Exit→AF→aB→Prop}{φ:AF}{st:aB}{α σ:Type}(mt:List Nat)(aV:List Nat)(l:List α)(w d:Nat)(acc:Nat→σ→List AV)(inv:Nat→σ→Prop)(ch:Nat→σ→List (Nat×AV))(so:Nat→σ→aB)
 (hw:∀i s,inv i s→∀e∈acc i s,e.cD=false∧e.width=w)
 (hok:codeOk N c=true)
 (h0:∃s b,inv 0 s∧(acc 0 s≠[]→so 0 s b=none)∧aO φ st (lA φ aV ((d,bS w b (acc 0 s))::ch 0 s)) (bE (so 0 s) b (acc 0 s)))
 (h1:∀i x s b,l[i]?=some x→i<l.length→((i:Int)<(l.length:Int))→l.drop i=x::l.drop (i+1)→inv i s→(acc i s≠[]→so i s b=none) →
  gG P N mt c (qH (fun φ' st'=>∃s' b',inv (i+1) s'∧(acc (i+1) s'≠[]→so (i+1) s' b'=none)∧aO φ' st' (lA φ aV ((d,bS w b' (acc (i+1) s'))::ch (i+1) s')) (bE (so (i+1) s') b' (acc (i+1) s'))) Q) (xH (lA φ aV ((d,bS w b (acc i s))::ch i s))) (bE (so i s) b (acc i s)))
 (h2:∀s b,¬((l.length:Int)<(l.length:Int))→inv l.length s→gG P N mt c (qH (fun _ _=>False) Q) (xH (xF b (acc l.length s) (lA φ aV ((d,bS w b (acc l.length s))::ch l.length s)))) (so l.length s)):fK P N (.loop c) Q φ st:=by
 have l7:∀(k:AF→aB→Prop) (φ0:AF) (st0:aB) (k':AF→aB→Prop),(∀φ' st',k' φ' st'→k φ' st') →
  fK P N c (qH k' Q) φ0 st0→fK P N c (qH k Q) φ0 st0:=by
  intro k φ0 st0 k' hk hr a w R
  refine wp_mono (hr a w R) ?_
  rintro e a' w' ⟨φ',st',R',T,sm,q⟩
  refine⟨φ',st',R',T,sm,?_⟩
  cases e with
  | normal=>exact hk _ _ q
  | _=>exact q
 refine QH (α:=Nat×σ×Nat) (fun p=>p.1≤l.length∧inv p.1 p.2.1∧(acc p.1 p.2.1≠[]→so p.1 p.2.1 p.2.2=none)) (fun p=>kK (lA φ aV ((d,bS w p.2.2 (acc p.1 p.2.1))::ch p.1 p.2.1))) (fun p=>bE (so p.1 p.2.1) p.2.2 (acc p.1 p.2.1)) (fun p=>l.length - p.1) ?_ ?_
 · obtain⟨s,b,hs,hb,hl⟩:=h0
   exact⟨(0,s,b),⟨iU _,hs,hb⟩,hl⟩
 · rintro⟨i,s,b⟩ ⟨hi,hs,hb⟩
   simp only at hi hs hb ⊢
   rcases lN i l.length with hlt | hge
   · refine l7 _ _ _ _ ?_ (y7 mt hok (h1 i l[i] s b (d4 hlt) hlt (by omega) (qS hlt) hs hb))
     rintro φ' st' ⟨s',b',h1',h2',h3'⟩
     exact⟨(i+1,s',b'),by simp only;omega,⟨by simp only;omega,h1',h2'⟩,h3'⟩
   · obtain rfl:i=l.length:=by omega
     refine fK.less (a63 b (acc l.length s) hb (fun e he=>(hw _ s hs e he).1) ⟨w,fun e he=>(hw _ s hs e he).2⟩ _) ?_
     refine l7 _ _ _ _ ?_ (y7 mt hok (h2 s b (by omega) hs))
     exact fun _ _ h=>h.elim
section
variable {P:Program}
def RZ(ops:Array Oper)(S:List Nat)(j:Nat):Bool:=S.all fun i=>vN ops ops.size j i
def wU(P:Program)(ops:Array Oper)(S:List Nat)(s0:aB)(K:AF→aB→Prop):Nat→Array Bool→AF→aB→Prop
 | 0,listed,φ,st=>Region.ready .any ops listed= []∧K φ st
 | f+1,listed,φ,st=>(Region.ready .any ops listed= []→K φ st)∧∀i∈Region.ready .any ops listed,∃o,ops[i]?=some o ∧
  ((S.contains i=true∧∃r,kE P st ops o r φ∧wU P ops S s0 K f (listed.setIfInBounds i true) (φ.put o.dst r) st) ∨
   (S.contains i=false∧jR P ops o φ st (fun r st'=>(RZ ops S i=true∨eD s0 st')∧wU P ops S s0 K f (listed.setIfInBounds i true) (φ.put o.dst r) st')))
theorem KZ{ops:Array Oper}{S:List Nat}{s0:aB}{K:AF→aB→Prop}:∀(f:Nat) (listed:Array Bool) (φ:AF) (st:aB),wU P ops S s0 K f listed φ st→KX P ops K f listed φ st
 | 0,_,_,_,h=>h
 | f+1,listed,φ,st,h=>by
  refine⟨h.1,fun i hi=>?_⟩
  obtain⟨o,ho,h2⟩:=h.2 i hi
  refine⟨o,ho,?_⟩
  rcases h2 with ⟨_,r,y,k⟩ | ⟨_,k⟩
  · exact YJ y (KZ f _ _ _ k)
  · exact tS (fun r s q=>KZ f _ _ _ q.2) k
theorem X9{ops:Array Oper}{S:List Nat}{s0:aB}{i:Nat}{oi:Oper}{v:AV}{K:AF→aB→Prop}(hi:ops[i]?=some oi)(hS:S.contains i=true) :
 ∀(f:Nat) (listed:Array Bool) (φ:AF) (st:aB),tJ ops listed →
  (∀j oj,ops[j]?=some oj→j≠i→listed.getD j true=false→(∀e∈oj.after,Region.binds .any e=true→e.on≠i)→oi.apart ops oj=true) →
  i∈Region.ready .any ops listed→(∀s,eD s0 s→kE P s ops oi v φ)→eD s0 st →
  wU P ops S s0 K f (listed.setIfInBounds i true) (φ.put oi.dst v) st→wU P ops S s0 K (f+1) listed φ st:=by
 intro f
 induction f with
 | zero=>
  intro listed φ st hcl _ hr hy hx H
  refine⟨fun h=>(by rw[h] at hr;cases hr),fun j hj=>?_⟩
  by_cases hji:j=i
  · subst hji;exact⟨oi,hi,.inl ⟨hS,v,hy st hx,H⟩⟩
  · have:=ready_mono hj hji
    rw[H.1] at this
    cases this
 | succ f ih=>
  intro listed φ st hcl rK hr hy hx H
  refine⟨fun h=>(by rw[h] at hr;cases hr),fun j hj=>?_⟩
  by_cases hji:j=i
  · subst hji;exact⟨oi,hi,.inl ⟨hS,v,hy st hx,H⟩⟩
  · obtain⟨oj,hoj,h1⟩:=H.2 j (ready_mono hj hji)
    obtain⟨p9,oj',B4,dV⟩:=mem_ready.1 hj
    have:oj'=oj:=mD (B4.symm.trans hoj)
    subst this
    have hun:=(mem_ready.1 hr).1
    have uI:∀e∈oj'.after,Region.binds .any e=true→e.on≠i:=fun e he hb heq=>by
     have h1:=dV e he hb
     rw[heq,getD_both hun] at h1
     cases h1
    obtain⟨a1,a2,a3⟩:=Oper.apart_spec (rK j oj' hoj hji p9 uI)
    have vT:∀k ok,ops[k]?=some ok→k≠i→(listed.setIfInBounds j true).getD k true=false →
     (∀e∈ok.after,Region.binds .any e=true→e.on≠i)→oi.apart ops ok=true:=fun k ok hk hki hun hno=>by
     refine rK k ok hk hki ?_ hno
     by_cases hjk:j=k
     · subst hjk;exact p9
     · rw[getD_set_ne true hjk] at hun;exact hun
    refine⟨oj',hoj,?_⟩
    rcases h1 with ⟨hSj,r,yj,h2⟩ | ⟨hSj,h2⟩
    · refine .inl ⟨hSj,r,(qY φ v a1).1 yj,ih (listed.setIfInBounds j true) (φ.put oj'.dst r) st (hcl.set hj) vT (ready_mono hr (c9 hji)) (fun s hs=>(qY φ r a3).2 (hy s hs)) hx ?_⟩
      rw[DD _ _ hji,←put_comm φ v r a2]
      exact h2
    · refine .inr ⟨hSj,tS (fun r st' h3=>?_) ((P9 φ v a1).1 h2)⟩
      refine⟨h3.1,?_⟩
      have hx':eD s0 st':=by
       rcases h3.1 with he | he
       · exfalso
         unfold RZ at he
         have hd:=dW.1 he i (by simpa using hS)
         exact LZ hcl (getD_both hun) _ j oj' hoj hd dV
       · exact he
      refine ih (listed.setIfInBounds j true) (φ.put oj'.dst r) st' (hcl.set hj) vT (ready_mono hr (c9 hji)) (fun s hs=>(qY φ r a3).2 (hy s hs)) hx' ?_
      rw[DD _ _ hji,←put_comm φ v r a2]
      exact h3.2
def sX(ops:Array Oper)(S:List Nat):List (Nat×Nat)→Array Bool→Bool
 | [],listed=>(Region.ready .any ops listed).isEmpty
 | (i,0)::r,listed=>decide (Region.ready .any ops listed= [i])&& !S.contains i&&sX ops S r (listed.setIfInBounds i true)
 | (i,1)::r,listed=>(Region.ready .any ops listed).contains i&&Region.free .any ops listed i&&S.contains i&&sX ops S r (listed.setIfInBounds i true)
 | (i,_)::r,listed=>decide (Region.ready .any ops listed= [i])&& !S.contains i&&RZ ops S i&&sX ops S r (listed.setIfInBounds i true)
def BG(P:Program)(ops:Array Oper)(s0:aB)(K:AF→aB→Prop):List (Nat×Nat)→AF→aB→Prop
 | [],φ,st=>K φ st
 | (i,0)::r,φ,st=>∃o,ops[i]?=some o∧jR P ops o φ st (fun v st'=>eD s0 st'∧BG P ops s0 K r (φ.put o.dst v) st')
 | (i,1)::r,φ,st=>∃o,ops[i]?=some o∧∃v,(∀s,eD s0 s→kE P s ops o v φ)∧BG P ops s0 K r (φ.put o.dst v) st
 | (i,_)::r,φ,st=>∃o,ops[i]?=some o∧jR P ops o φ st (fun v st'=>BG P ops s0 K r (φ.put o.dst v) st')
def CA:List (Nat×Nat)→Bool
 | []=>true
 | (_,0)::r=>CA r
 | (_,1)::r=>CA r
 | (_,_)::r=>r.all fun p=>p.2 != 1
theorem G9{ops:Array Oper}{S:List Nat}{s0:aB}{K:AF→aB→Prop}:∀(p:List (Nat×Nat)) (listed:Array Bool) (φ:AF) (st:aB),tJ ops listed→sX ops S p listed=true→(CA p=true∧eD s0 st∨(p.all fun q=>q.2 != 1)=true)→BG P ops s0 K p φ st→wU P ops S s0 K p.length listed φ st
 | [],listed,φ,st,_,hB,hx,h=>⟨by simpa [sX] using hB,h⟩
 | (i,0)::r,listed,φ,st,hcl,hB,hx,h=>by
  simp only[sX,bV,bK,lJ] at hB
  obtain⟨o,ho,h'⟩:=h
  have hr:i∈Region.ready .any ops listed:=by rw[hB.1.1];simp
  refine⟨fun h0=>(by rw[hB.1.1] at h0;cases h0),fun j hj=>?_⟩
  rw[hB.1.1] at hj
  obtain rfl:j=i:=by simpa using hj
  refine⟨o,ho,.inr ⟨hB.1.2,tS (fun v st' q=>⟨.inr q.1,G9 r _ _ _ (hcl.set hr) hB.2 ?_ q.2⟩) h'⟩⟩
  rcases hx with hx | hx
  · exact .inl ⟨hx.1,q.1⟩
  · refine .inr ?_
    simp only[kY,bV] at hx
    exact hx.2
 | (i,1)::r,listed,φ,st,hcl,hB,hx,h=>by
  simp only[sX,bV] at hB
  obtain⟨⟨⟨hr,hf⟩,hS⟩,hB'⟩:=hB
  obtain⟨o,ho,v,hv,h'⟩:=h
  have hr':i∈Region.ready .any ops listed:=by simpa using hr
  rcases hx with hx | hx
  · exact X9 ho hS _ listed φ st hcl (Region.free_spec ho hf) hr' hv hx.2 (G9 r _ _ _ (hcl.set hr') hB' (.inl hx) h')
  · simp at hx
 | (i,k+2)::r,listed,φ,st,hcl,hB,hx,h=>by
  simp only[sX,bV,bK,lJ] at hB
  obtain⟨o,ho,h'⟩:=h
  have hr:i∈Region.ready .any ops listed:=by rw[hB.1.1.1];simp
  refine⟨fun h0=>(by rw[hB.1.1.1] at h0;cases h0),fun j hj=>?_⟩
  rw[hB.1.1.1] at hj
  obtain rfl:j=i:=by simpa using hj
  refine⟨o,ho,.inr ⟨hB.1.1.2,tS (fun v st' q=>⟨.inl hB.1.2,G9 r _ _ _ (hcl.set hr) hB.2 (.inr ?_) q⟩) h'⟩⟩
  rcases hx with hx | hx
  · exact hx.1
  · simp only[kY,bV] at hx
    exact hx.2
theorem aUC{N:Nat}{id:Nat}{ops:Array Oper}{Q:Exit→AF→aB→Prop}{φ:AF}{st:aB}(p:List (Nat×Nat))(S:List Nat)(s0:aB)(hm:P.follows .mixedOrders=true)(hok:qL N ops=true)(hl:p.length=ops.size)(hB:sX ops S p (Array.replicate ops.size false)=true)(hf:CA p=true)(hs:eD s0 st)
 (h:BG P ops s0 (Q .normal) p φ st):fK P N (.region id ops true) Q φ st:=by
 intro a w R
 refine wp_region_any hm ?_
 have R0:Rel N a { w with drawn:=w.drawn+1 } φ st:=⟨R.size,R.defers,R.frame,R.store⟩
 have:=KZ _ _ _ _ (G9 p _ φ st (fun j o _ hl=>(by rw[SB] at hl;cases hl)) hB (.inl ⟨hf,hs⟩) h)
 rw[hl] at this
 exact KY (zZ hok) (xW hok) (w0:=w) (st0:=st) (fun φ' st' a' w' k R' T s=>⟨φ',st',R',T,s,k⟩) _ _ _ _ _ _ this R0 (bX.refl _ _) ⟨rfl,rfl,rfl⟩
def iL(P:Program)(ops:Array Oper)(s0:aB)(K:AF→aB→Prop):List (Nat×Nat)→AF→aB→Prop
 | [],φ,st=>K φ st
 | (i,0)::r,φ,st=>match ops[i]? with
  | none=>False
  | some o=>bD P [] ops [o] (fun φ' st'=>eD s0 st'∧iL P ops s0 K r φ' st') φ st
 | (i,1)::r,φ,st=>match ops[i]? with
  | none=>False
  | some o=>if kX o=true then bD P [] ops [o] (fun φ' _=>iL P ops s0 K r φ' st) φ s0 else
   match o.guard,o.op with
   | none,.call { callee:=.value f,args,.. }=>∃v,(∀s,eD s0 s→tW P (φ.eval f) (args.toList.map φ.eval) s (fun r' s'=>r'=v∧s'=s))∧iL P ops s0 K r (φ.put o.dst v) st
   | _,_=>False
 | (i,_)::r,φ,st=>match ops[i]? with
  | none=>False
  | some o=>bD P [] ops [o] (fun φ' st'=>iL P ops s0 K r φ' st') φ st
theorem vH{ops:Array Oper}{s0:aB}{K:AF→aB→Prop}:∀(p:List (Nat×Nat)) (φ:AF) (st:aB),iL P ops s0 K p φ st→BG P ops s0 K p φ st
 | [],_,_,h=>h
 | (i,0)::r,φ,st,h=>by
  simp only[iL] at h
  split at h
  · exact h.elim
  · rename_i o ho
    refine⟨o,ho,?_⟩
    simp only[bD] at h
    unfold jR
    split at h
    · rename_i hg
      rw[hg]
      exact BH (fun v s q=>⟨q.1,vH r _ _ q.2⟩) h
    · rename_i hg
      rw[hg]
      exact⟨h.1,vH r _ _ h.2⟩
    · exact h.elim
 | (i,1)::r,φ,st,h=>by
  simp only[iL] at h
  split at h
  · exact h.elim
  · rename_i o ho
    split at h
    · rename_i hp
      simp only[bD] at h
      split at h
      · rename_i hg
        rw[tU hp] at h
        split at h
        · rename_i v hv
          refine⟨o,ho,v,fun s hs=>.inl ⟨hg,?_⟩,vH r _ _ h⟩
          rw[tU hp,YH hs hv]
          exact⟨rfl,rfl⟩
        · exact h.elim
      · rename_i hg
        exact⟨o,ho,.undef,fun s _=>.inr ⟨hg,rfl⟩,vH r _ _ h⟩
      · exact h.elim
    · split at h
      · rename_i f args ats hg hop
        obtain⟨v,h1,h2⟩:=h
        refine⟨o,ho,v,fun s hs=>.inl ⟨by simp only[jQ,hg],?_⟩,vH r _ _ h2⟩
        simp only[fD,hop]
        exact h1 s hs
      · exact h.elim
 | (i,k+2)::r,φ,st,h=>by
  simp only[iL] at h
  split at h
  · exact h.elim
  · rename_i o ho
    refine⟨o,ho,?_⟩
    simp only[bD] at h
    unfold jR
    split at h
    · rename_i hg
      rw[hg]
      exact BH (fun v s q=>vH r _ _ q) h
    · rename_i hg
      rw[hg]
      exact vH r _ _ h
    · exact h.elim
end
def UP(P:Program)(ops:Array Oper)(s0:aB)(K:AF→aB→Prop)(r:List (Nat×Nat))(φ:AF)(st:aB):Prop:=eD s0 st∧iL P ops s0 K r φ st
def UN(P:Program)(ops:Array Oper)(s0:aB)(K:AF→aB→Prop)(r:List (Nat×Nat))(φ:AF)(st:aB):Prop:=iL P ops s0 K r φ st
def UM(P:Program)(ops:Array Oper)(s0:aB)(K:AF→aB→Prop)(r:List (Nat×Nat))(st:aB)(φ:AF)(_:aB):Prop:=iL P ops s0 K r φ st
def UL(P:Program)(ops:Array Oper)(s0:aB)(K:AF→aB→Prop)(r:List (Nat×Nat))(φ:AF)(dst:Option Tmp)(st:aB)(v:AV):Prop:=iL P ops s0 K r (φ.put dst v) st
def HR(P:Program)(s0:aB)(f:AV)(args:List AV)(K:AV→Prop):Prop:=∃v,(∀s,eD s0 s→tW P f args s (fun r' s'=>r'=v∧s'=s))∧K v
theorem D5{P:Program}{s0:aB}{g:FuncId}{args:List AV}{r:AV}{K:AV→Prop}(x:∀st,eD s0 st→aD P g args st (fun r' st'=>r'=r∧st'=st))(h:K r):HR P s0 (.func g []) args K:=⟨r,fun st hs=>by show aD P g (args++ []) st _;rw[gM];exact x st hs,h⟩
@[congr] theorem bD9 {P:Program} {s0:aB} {f f':AV} {args args':List AV} {K:AV→Prop} (h0:f=f') (h1:args=args'):HR P s0 f args K=HR P s0 f' args' K:=by rw[h0,h1]
def FK(P:Program)(ops:Array Oper)(s0:aB)(K:AF→aB→Prop)(r:List (Nat×Nat))(φ:AF)(st:aB):Nat→Option Oper→Prop
 | 0,some o=>bD P [] ops [o] (UP P ops s0 K r) φ st
 | 1,some o=>if kX o=true then bD P [] ops [o] (UM P ops s0 K r st) φ s0 else
  match o.guard,o.op with
  | none,.call { callee:=.value f,args,.. }=>HR P s0 (φ.eval f) (args.toList.map φ.eval) (UL P ops s0 K r φ o.dst st)
  | _,_=>False
 | _,some o=>bD P [] ops [o] (UN P ops s0 K r) φ st
 | _,none=>False
theorem aH1{P:Program}{ops:Array Oper}{s0:aB}{K:AF→aB→Prop}{φ:AF}{st:aB}:iL P ops s0 K [] φ st=K φ st:=rfl
theorem aH2{P:Program}{l:List Oper}{s0:aB}{K:AF→aB→Prop}{φ:AF}{st:aB}{i b:Nat}{r:List (Nat×Nat)}:iL P l.toArray s0 K ((i,b)::r) φ st=FK P l.toArray s0 K r φ st b l[i]?:=by
 match b with
 | 0=>simp only[iL,yO];cases l[i]?<;>rfl
 | 1=>simp only[iL,yO];cases l[i]?<;>rfl
 | b+2=>simp only[iL,yO];cases l[i]?<;>rfl
theorem aH7{P:Program}{ops:Array Oper}{s0:aB}{K:AF→aB→Prop}{φ:AF}{st:aB}{r:List (Nat×Nat)}{o:Oper}:FK P ops s0 K r φ st 0 (some o)=bD P [] ops [o] (UP P ops s0 K r) φ st:=rfl
theorem aH8{P:Program}{ops:Array Oper}{s0:aB}{K:AF→aB→Prop}{φ:AF}{st:aB}{r:List (Nat×Nat)}{o:Oper}:FK P ops s0 K r φ st 1 (some o)=if kX o=true then bD P [] ops [o] (UM P ops s0 K r st) φ s0 else
      match o.guard,o.op with
      | none,.call { callee:=.value f,args,.. }=>HR P s0 (φ.eval f) (args.toList.map φ.eval) (UL P ops s0 K r φ o.dst st)
      | _,_=>False:=rfl
theorem aH9{P:Program}{ops:Array Oper}{s0:aB}{K:AF→aB→Prop}{φ:AF}{st:aB}{r:List (Nat×Nat)}{o:Oper}:FK P ops s0 K r φ st 2 (some o)=bD P [] ops [o] (UN P ops s0 K r) φ st:=rfl
theorem aH6{P:Program}{ops:Array Oper}{s0:aB}{K:AF→aB→Prop}{φ:AF}{st:aB}{r:List (Nat×Nat)}:UP P ops s0 K r φ st=(eD s0 st∧iL P ops s0 K r φ st):=rfl
theorem aH5{P:Program}{ops:Array Oper}{s0:aB}{K:AF→aB→Prop}{φ:AF}{st:aB}{r:List (Nat×Nat)}:UN P ops s0 K r φ st=iL P ops s0 K r φ st:=rfl
theorem aH4{P:Program}{ops:Array Oper}{s0:aB}{K:AF→aB→Prop}{φ:AF}{st s:aB}{r:List (Nat×Nat)}:UM P ops s0 K r st φ s=iL P ops s0 K r φ st:=rfl
theorem aH3{P:Program}{ops:Array Oper}{s0:aB}{K:AF→aB→Prop}{φ:AF}{st:aB}{r:List (Nat×Nat)}{dst:Option Tmp}{v:AV}:UL P ops s0 K r φ dst st v=iL P ops s0 K r (φ.put dst v) st:=rfl
@[congr] theorem bD5 {P:Program} {ops:Array Oper} {s0:aB} {K:AF→aB→Prop} {p:List (Nat×Nat)} {φ φ':AF} {st st':aB} (h1:φ=φ') (h2:st=st'):iL P ops s0 K p φ st=iL P ops s0 K p φ' st':=by rw[h1,h2]
@[congr] theorem bEJ {P:Program} {ops:Array Oper} {s0:aB} {K:AF→aB→Prop} {p:List (Nat×Nat)} {φ φ':AF} {st st':aB} {b:Nat} {o o':Option Oper} (h1:φ=φ') (h2:st=st') (h3:o=o'):FK P ops s0 K p φ st b o=FK P ops s0 K p φ' st' b o':=by rw[h1,h2,h3]
theorem yI{P:Program}{N:Nat}{id:Nat}{l:List Oper}{Q:Exit→AF→aB→Prop}{φ:AF}{st:aB}(p:List (Nat×Nat))(S:List Nat)(s0:aB)(hm:P.follows .mixedOrders=true)(hok:qL N l.toArray=true)(hl:p.length=l.length)(hB:sX l.toArray S p (Array.replicate l.length false)=true)(hf:CA p=true)(hs:eD s0 st)
 (h:iL P l.toArray s0 (Q .normal) p φ st):fK P N (.region id l.toArray true) Q φ st:=
 aUC p S s0 hm hok (by simpa using hl) (by simpa using hB) hf hs (vH p φ st h)
def aO4(K:AV→aB→Prop)(st:aB):Option AV→Option AV→Prop
 | some r,some s=>lI [r,s]=true∧K (.tup [r,s]) st
 | _,_=>False
theorem aIP{P:Program}{φ:AF}{st:aB}{p q:Tmp}{t u:TypeId}{K:AV→aB→Prop}:oT P [.cell p t,.cell q u] K φ st=aO4 K st (g9 P st t (φ p)) (g9 P st u (φ q)):=by
 simp only[oT,pV,DW]
 cases g9 P st t (φ p)<;>cases g9 P st u (φ q)<;>rfl
theorem aIQ{st:aB}{K:AV→aB→Prop}{r s:AV}:aO4 K st (some r) (some s)=(lI [r,s]=true∧K (.tup [r,s]) st):=rfl
def one(b:Nat)(o:AO):aB:=d9.aC b o
theorem uM{b:Nat}{o:AO}:one b o b=some o:=aB.aJ _ _ _
theorem fP{b:Nat}{o:AO}{st:aB}(h:st b=some o):eD (one b o) st:=fun x p hx=>by
 simp only[one,aB.aC] at hx
 split at hx
 · rename_i e;cases hx;rw[e];exact h
 · cases hx
theorem fH{st:aB}:eD d9 st:=fun x p hx=>by cases hx
section
variable {α:Type}
def mH(f:α→α→Bool):List α→List α→Bool
 | [],[]=>true
 | x::xs,y::ys=>f x y&&mH f xs ys
 | _,_=>false
theorem RX(f:α→α→Bool):∀ {a b:List α},a.length≠b.length→mH f a b=false
 | [],[],h=>absurd rfl h
 | [],_::_,_=>rfl
 | _::_,[],_=>rfl
 | x::xs,y::ys,h=>by simp only[mH,RX f (a:=xs) (b:=ys) (by simpa using h),l8]
theorem RV(f:α→α→Bool):∀ {a b:List α} (i:Nat) (x y:α),a[i]?=some x→b[i]?=some y→f x y=false→mH f a b=false
 | [],_,i,x,y,h,_,_=>by simp at h
 | _::_,[],i,x,y,_,h,_=>by simp at h
 | t::ts,t'::ts',0,x,y,h1,h2,h=>by
  simp at h1 h2;subst h1;subst h2
  simp only[mH,h,fF]
 | t::ts,t'::ts',i+1,x,y,h1,h2,h=>by
  simp only[mH,RV f (a:=ts) (b:=ts') i x y (by simpa using h1) (by simpa using h2) h,l8]
theorem RU(f:α→α→Bool):∀ {a b:List α},a.length=b.length→(∀(i:Nat) (x y:α),a[i]?=some x→b[i]?=some y→f x y=true)→mH f a b=true
 | [],[],_,_=>rfl
 | t::ts,t'::ts',h,g=>by
  simp only[mH,bV]
  exact⟨g 0 t t' rfl rfl,RU f (by simpa using h) fun i x y h1 h2=>g (i+1) x y (by simpa using h1) (by simpa using h2)⟩
theorem RW{f:α→α→Bool}:∀ {a b:List α},(∀x∈a,∀y,f x y=true↔x=y)→(mH f a b=true↔a=b)
 | [],[],_=>by simp [mH]
 | [],_::_,_=>by simp [mH]
 | _::_,[],_=>by simp [mH]
 | x::xs,y::ys,h=>by
  simp only[mH,bV,List.cons.injEq,h x (by simp) y,RW (a:=xs) (b:=ys) fun z hz=>h z (by simp [hz])]
def bB(f:α→Nat):List α→Nat
 | []=>0
 | x::xs=>f x+bB f xs
theorem JM(f:α→Nat):∀ {l:List α} {i:Nat} {x:α},l[i]?=some x→bB f (l.take (i+1))=bB f (l.take i)+f x∧bB f (l.take (i+1))≤bB f l
 | [],i,x,h=>by simp at h
 | y::ys,0,x,h=>by simp at h;subst h;simp [bB]
 | y::ys,i+1,x,h=>by
  have:=JM f (l:=ys) (i:=i) (x:=x) (by simpa using h)
  simp only[wQ,bB] at this ⊢
  omega
theorem JL{f:α→Nat}:∀ {l:List α} {x:α},x∈l→f x≤bB f l
 | y::ys,x,h=>by
  simp only[cY] at h
  simp only[bB]
  rcases h with rfl | h
  · omega
  · have:=JL (f:=f) h;omega
theorem bH{P:Program}{t:TypeId}{ag:Bool}{w:Nat}{av:α→AV}{l:List α}{i:Nat}{x:α}(hI:eI P t=some (ag,w))(h:l[i]?=some x)(hw:(av x).width=w):c8 P t (.slice (l.map av)) (.int .i64 (i:Int))=some (.pptr (av x)):=by
 simp only[c8,hI,jO,mA,h,oG,hw]
 simp
theorem a0U{av:α→AV}{w:Nat}(hw:∀x,(av x).width=w)(l:List α):iT (l.map av):=⟨w,by intro e h;simp only[cB] at h;obtain⟨t,_,rfl⟩:=h;exact hw t⟩
theorem aNS(zs:List AV)(hz:zs≠[])(n:Nat):j5 zs n=(List.replicate n zs).flatten:=by
 have hl:0<zs.length:=by cases zs with | nil=>exact absurd rfl hz | cons=>simp
 apply DH
 intro i
 unfold j5
 induction n generalizing i with
 | zero=>simp
 | succ n ih=>
  rw[PO,List.flatten_cons]
  rcases lN i zs.length with h | h
  · rw[XK h]
    have:i<(n+1)*zs.length:=by rw[qV];omega
    simp [this,Nat.mod_eq_of_lt h,h]
  · rw[XL h,←ih]
    have e1:i % zs.length=(i - zs.length) % zs.length:=by rw[Nat.mod_eq_sub_mod h]
    simp only[mA]
    by_cases h2:i - zs.length<n*zs.length
    · have h3:i<(n+1)*zs.length:=by rw[qV];omega
      simp [h2,h3,e1]
    · have h3:¬i<(n+1)*zs.length:=by rw[qV];omega
      simp [h2,h3]
end
theorem CP{zs:List AV}{x:List AV}{w:Nat}(h1:x.length=w)(h2:zs.length=w):aK zs 0 x=x:=by
 unfold aK
 simp [h1,h2]
theorem fG{x:AV}(h:x.isAgg=true):AV.agg x.cells=x:=by cases x<;>simp [AV.isAgg] at h<;>rfl
theorem fN{x:List AV}{w:Nat}(h:x.length=w):x.take w=x:=by rw[←h];exact dS
inductive Tm where
 | mk (kind n:Int) (name:ByteArray) (kids:List Tm)
mutual
def Tm.av:Tm→AV
 | .mk k n s ts=>.agg [.int .i64 k,.int .i64 n,.str s,.slice (OK ts)]
def OK:List Tm→List AV
 | []=>[]
 | t::ts=>t.av::OK ts
end
theorem aRK:∀(ts:List Tm),OK ts=ts.map Tm.av
 | []=>rfl
 | t::ts=>by simp only[OK,bA,aRK ts]
theorem aX(k n:Int)(s:ByteArray)(ts:List Tm):(Tm.mk k n s ts).av=.agg [.int .i64 k,.int .i64 n,.str s,.slice (ts.map Tm.av)]:=by simp only[Tm.av,aRK]
mutual
def Tm.same:Tm→Tm→Bool
 | .mk k n s ts,.mk k' n' s' ts'=>decide (k=k')&&decide (n=n')&&decide (s=s')&&OS ts ts'
def OS:List Tm→List Tm→Bool
 | [],[]=>true
 | t::ts,t'::ts'=>t.same t'&&OS ts ts'
 | _,_=>false
end
theorem aRR:∀(a b:List Tm),OS a b=mH Tm.same a b
 | [],[]=>rfl
 | [],_::_=>rfl
 | _::_,[]=>rfl
 | t::ts,t'::ts'=>by simp only[OS,mH,aRR ts ts']
theorem Tm.U3(k n:Int)(s:ByteArray)(ts:List Tm)(k' n':Int)(s':ByteArray)(ts':List Tm):(Tm.mk k n s ts).same (Tm.mk k' n' s' ts')=(decide (k=k')&&decide (n=n')&&decide (s=s')&&mH Tm.same ts ts'):=by simp only[Tm.same,aRR]
theorem Tm.NU:∀(a b:Tm),a.same b=true↔a=b
 | .mk k n s ts,.mk k' n' s' ts'=>by
  have:=RW (f:=Tm.same) (a:=ts) (b:=ts') fun x hx y=>Tm.NU x y
  simp only[Tm.U3,bV,bK,Tm.mk.injEq,and_assoc,this]
termination_by a=>SizeOf.sizeOf a
decreasing_by have:=List.sizeOf_lt_of_mem hx;simp only[Tm.mk.sizeOf_spec];omega
theorem a7(t:Tm):t.av.isAgg=true:=by cases t;rfl
theorem aN(t:Tm):t.av.width=4:=by cases t;rfl
theorem cE(t:Tm):t.av.cells.length=4:=by cases t;rfl
theorem cI(t:Tm):t.av.cells.all AV.storable=true:=by cases t;rfl
theorem cP(t:Tm):t.av.cD=false:=by cases t;rfl
theorem aKH{t:Tm}:t.av.isAgg=true:=a7 t
theorem aKQ{t:Tm}:t.av.width=4:=aN t
theorem aKO{t:Tm}:t.av.cells.all AV.storable=true:=cI t
theorem aKK{t:Tm}:t.av.cD=false:=cP t
theorem aKL{t:Tm}:t.av.cells.length=4:=cE t
theorem aKP{t:Tm}:t.av.cells.take 4=t.av.cells:=fN (cE t)
theorem aKI{t:Tm}:AV.agg t.av.cells=t.av:=fG (a7 t)
theorem aKM{t:Tm}{a b c d:AV}:aK [a,b,c,d] 0 t.av.cells=t.av.cells:=CP (cE t) rfl
theorem aKN{t u:Tm}:aK u.av.cells 0 t.av.cells=t.av.cells:=CP (cE t) (cE u)
theorem aJ9{st:aB}{b:Nat}{o o':AO}:(st.aC b o).aC b o'=st.aC b o':=dO st b o o'
theorem aJ8{st:aB}{b:Nat}{o:AO}:(st.aC b o) b=some o:=aB.aJ st b o
theorem aJ7{st:aB}{b x:Nat}{o:AO}(h:x≠b):(st.aC b o) x=st x:=aB.aH st o h
theorem aKJ{t:Tm}:t.av.cells.drop 4= []:=List.drop_of_length_le (by rw[cE];exact cU _)
inductive Pf where
 | mk (goal:Tm) (clause:Int) (kids:List Pf)
def aN3(k:Nat)(acc:List UInt8):List UInt8:=if k=0 then acc else aN3 (k / 10) (UInt8.ofNat (48+k % 10)::acc)
termination_by k
decreasing_by omega
def mt(k:Int):ByteArray:=if k≤0 then⟨#[109,48]⟩ else⟨(109::aN3 k.toNat []).toArray⟩
theorem a8I{st:aB}{k n:Int}{s:ByteArray}{ts:List Tm}{o:AV}{bs:List Nat} :
 cG st (Tm.mk k n s ts).av o bs↔∃q,o=.agg [.int .i64 k,.int .i64 n,.str s,q]∧cG st (.slice (ts.map Tm.av)) q bs:=by
 rw[aX]
 generalize AV.slice (ts.map Tm.av)=x
 simp only[cG,bO]
 constructor
 · rintro⟨os,rfl,o1,os1,b1,b1',rfl,rfl,⟨rfl,rfl⟩,o2,os2,b2,b2',rfl,rfl,⟨rfl,rfl⟩,o3,os3,b3,b3',rfl,rfl,⟨rfl,rfl⟩,o4,os4,b4,b4',rfl,rfl,h,rfl,rfl⟩
   exact⟨o4,rfl,by simpa using h⟩
 · rintro⟨q,rfl,h⟩
   exact⟨_,rfl,_,_,[],bs,rfl,rfl,⟨rfl,rfl⟩,_,_,[],bs,rfl,rfl,⟨rfl,rfl⟩,_,_,[],bs,rfl,rfl,⟨rfl,rfl⟩,q,[],bs,[],rfl,by simp,h,rfl,rfl⟩
abbrev iv (n:Int):AV:=.int .i64 n
theorem aNI(l:List Int):∀e∈l.map iv,e.width=1:=by intro e h;simp only[cB] at h;obtain⟨t,_,rfl⟩:=h;rfl
def cC(s:ByteArray):Nat:=
 cond (decide (s=⟨#[61]⟩)||decide (s=⟨#[92,61]⟩)||decide (s=⟨#[61,61]⟩)||decide (s=⟨#[60]⟩)||decide (s=⟨#[62]⟩)||decide (s=⟨#[61,60]⟩)||decide (s=⟨#[62,61]⟩)||decide (s=⟨#[61,58,61]⟩)||decide (s=⟨#[105,115]⟩)) 3 (cond (decide (s=⟨#[43]⟩)||decide (s=⟨#[45]⟩)) 2 (cond (decide (s=⟨#[42]⟩)||decide (s=⟨#[47,47]⟩)||decide (s=⟨#[109,111,100]⟩)) 1 0))
def isBuiltin(s:ByteArray)(n:Int):Bool:=
 cond (decide (s=⟨#[61]⟩)||decide (s=⟨#[92,61]⟩)||decide (s=⟨#[61,61]⟩)||decide (s=⟨#[60]⟩)||decide (s=⟨#[62]⟩)||decide (s=⟨#[61,60]⟩)||decide (s=⟨#[62,61]⟩)||decide (s=⟨#[61,58,61]⟩)||decide (s=⟨#[105,115]⟩)) (decide (n=2)) (cond (decide (s=⟨#[116,114,117,101]⟩)||decide (s=⟨#[102,97,105,108]⟩)) (decide (n=0)) (cond (decide (s=⟨#[118,97,114]⟩)||decide (s=⟨#[110,111,110,118,97,114]⟩)||decide (s=⟨#[97,116,111,109]⟩)||decide (s=⟨#[105,110,116]⟩)) (decide (n=1)) (cond (decide (s=⟨#[97,114,103]⟩)) (decide (n=3)) false)))
abbrev sb (s:ByteArray):List UInt8:=s.data.toList
theorem cO(s:ByteArray):(sb s).length=s.size:=by simp only[sb,Array.length_toList];rfl
theorem sU{P:Program}{t:TypeId}{s:ByteArray}{i:Nat}{c:UInt8}(hu:P.underlying t=some .string)(h:(sb s)[i]?=some c):DT P t (.str s) (.int .i64 (i:Int))=some (.int .u8 (c.toNat:Int)):=by
 have hi:i<s.size:=by rw[←cO];exact(fA.1 h).1
 have:s[i]?=some c:=by
  rw[getElem?_pos s i hi]
  obtain⟨h1,h2⟩:=fA.1 h
  rw[←h2]
  try rfl
 simp only[DT,hu,jO,this]
 simp
def letter(c:UInt8):Bool:=decide (97≤c.toNat)&&decide (c.toNat≤122)
def sW(s:ByteArray):Bool:=(sb s).all letter&&(decide ((1:Int)≤(s.size:Int))&&decide ((s.size:Int)≤6))
theorem w6{α:Type}{p:α→Bool}{l:List α}{i:Nat}{x:α}(h:l[i]?=some x)(hp:p x=false):l.all p=false:=by
 rw[List.all_eq_false]
 exact⟨x,cH h,by simp [hp]⟩
theorem K4{α:Type}{p:α→Bool}{l:List α}(h:∀(i:Nat) x,l[i]?=some x→p x=true):l.all p=true:=by
 rw[dW]
 intro x hx
 obtain⟨i,hi⟩:=A9 hx
 exact h i x hi
end Go.AW
