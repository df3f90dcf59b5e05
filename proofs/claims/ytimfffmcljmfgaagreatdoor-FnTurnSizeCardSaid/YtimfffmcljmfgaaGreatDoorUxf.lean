/- Loops whose frame is kept, lists that are walked, lists that grow. -/
import Derived.Test.YtimfffmcljmfgaaGreatDoorUxe
set_option linter.unusedSimpArgs false
set_option linter.unusedVariables false
set_option maxRecDepth 100000
namespace Go.AW
def lV(φ:AF):List Nat→List (Nat×AV)→List (Nat×AV)
 | [],l=>l
 | d::ds,l=>(d,φ d)::lV φ ds l
theorem aIX{φ:AF}{l:List (Nat×AV)}:lV φ [] l=l:=rfl
theorem aIY{φ:AF}{d:Nat}{ds:List Nat}{l:List (Nat×AV)}:lV φ (d::ds) l=(d,φ d)::lV φ ds l:=rfl
theorem d8{P:Program}{N:Nat}{c:Code}{Q:Exit→AF→aA→Prop}{φ:AF}{st:aA}{α σ:Type}(mt:List Nat)(aV:List Nat)(l:List α)(inv:Nat→σ→Prop)(ch:Nat→σ→List (Nat×AV))(so:Nat→σ→aA)
 (hok:codeOk N c=true)
 (h0:∃s,inv 0 s∧aM φ st (lV φ aV (ch 0 s)) (so 0 s))
 (h1:∀i x s,l[i]?=some x→i<l.length→((i:Int)<(l.length:Int))→l.drop i=x::l.drop (i+1)→inv i s→gT P N mt c (rA (fun φ' st'=>∃s',inv (i+1) s'∧aM φ' st' (lV φ aV (ch (i+1) s')) (so (i+1) s')) Q) (yH (lV φ aV (ch i s))) (so i s))
 (h2:∀s,¬((l.length:Int)<(l.length:Int))→inv l.length s→gT P N mt c (rA (fun _ _=>False) Q) (yH (lV φ aV (ch l.length s))) (so l.length s)):fU P N (.loop c) Q φ st:=by
 have mE:∀(k:AF→aA→Prop) (i:Nat) (s:σ),(∀φ' st',(∃s',inv (i+1) s'∧aM φ' st' (lV φ aV (ch (i+1) s')) (so (i+1) s'))→k φ' st') →
  fU P N c (rA (fun φ' st'=>∃s',inv (i+1) s'∧aM φ' st' (lV φ aV (ch (i+1) s')) (so (i+1) s')) Q) (kW (lV φ aV (ch i s))) (so i s) →
  fU P N c (rA k Q) (kW (lV φ aV (ch i s))) (so i s):=by
  intro k i s hk hr a w R
  refine wp_mono (hr a w R) ?_
  rintro e a' w' ⟨φ',st',R',T,sm,q⟩
  refine⟨φ',st',R',T,sm,?_⟩
  cases e with
  | normal=>exact hk _ _ q
  | _=>exact q
 refine RX (α:=Nat×σ) (fun p=>p.1≤l.length∧inv p.1 p.2) (fun p=>kW (lV φ aV (ch p.1 p.2))) (fun p=>so p.1 p.2) (fun p=>l.length - p.1) ?_ ?_
 · obtain⟨s,hs,hl⟩:=h0
   exact⟨(0,s),⟨jE _,hs⟩,hl⟩
 · rintro⟨i,s⟩ ⟨hi,hs⟩
   simp only at hi hs ⊢
   rcases mL i l.length with hlt | hge
   · refine mE _ i s ?_ (AC mt hok (h1 i l[i] s (eA hlt) hlt (by omega) (qF hlt) hs))
     rintro φ' st' ⟨s',h1',h2'⟩
     exact⟨(i+1,s'),by simp only;omega,⟨by simp only;omega,h1'⟩,h2'⟩
   · obtain rfl:i=l.length:=by omega
     intro a w R
     refine wp_mono (AC mt hok (h2 s (by omega) hs) a w R) ?_
     rintro e a' w' ⟨φ',st',R',T,sm,q⟩
     refine⟨φ',st',R',T,sm,?_⟩
     cases e with
     | normal=>exact q.elim
     | _=>exact q
theorem iP{P:Program}{N:Nat}{c:Code}{Q:Exit→AF→aA→Prop}{φ:AF}{st:aA}{σ:Type}(mt:List Nat)(aV:List Nat)(inv:σ→Prop)(ch:σ→List (Nat×AV))(so:σ→aA)(μ:σ→Nat)
 (hok:codeOk N c=true)
 (h0:∃s,inv s∧aM φ st (lV φ aV (ch s)) (so s))
 (h1:∀s,inv s→gT P N mt c (rA (fun φ' st'=>∃s',μ s'<μ s∧inv s'∧aM φ' st' (lV φ aV (ch s')) (so s')) Q) (yH (lV φ aV (ch s))) (so s)):fU P N (.loop c) Q φ st:=
 zN mt inv (fun s=>lV φ aV (ch s)) so μ hok h0 h1
theorem aP{b:Bool}{p q:Prop}(h1:b=true→p)(h2:b=false→q):(b=true→p)∧(b=false→q):=⟨h1,h2⟩
theorem aI3{P:Program}{t:TypeId}{s:ByteArray}:mN P t (.str s)=match P.underlying t with | some .string=>some (.int .i64 s.size) | _=>none:=rfl
theorem aI2{P:Program}{t:TypeId}{es:List AV}:mN P t (.slice es)=match P.underlying t with | some (.slice _)=>some (.int .i64 es.length) | _=>none:=rfl
theorem aI0{P:Program}{t:TypeId}{es:List AV}:mN P t (.fslice es)=match P.underlying t with | some (.slice _)=>some (.int .i64 es.length) | _=>none:=rfl
theorem aI1{P:Program}{t:TypeId}{b o n w:Nat}:mN P t (.mslice b o n w)=match P.underlying t with | some (.slice _)=>some (.int .i64 n) | _=>none:=rfl
def bU(w b:Nat):List AV→AV
 | []=>.fslice []
 | x::l=>.mslice b 0 (x::l).length w
def aZ(st:aA)(b:Nat):List AV→aA
 | []=>st
 | x::l=>st.aC b (.cells ((x::l).flatMap AV.cells))
theorem iY{w b:Nat}:bU w b []=.fslice []:=rfl
theorem uJ{st:aA}{b:Nat}:aZ st b []=st:=rfl
theorem qK{w b:Nat}{l:List AV}(h:l≠[]):bU w b l=.mslice b 0 l.length w:=by cases l<;>first | exact absurd rfl h | rfl
theorem jU{st:aA}{b:Nat}{l:List AV}(h:l≠[]):aZ st b l=st.aC b (.cells (l.flatMap AV.cells)):=by cases l<;>first | exact absurd rfl h | rfl
theorem oG{st:aA}{b x:Nat}{l:List AV}(h:x≠b):aZ st b l x=st x:=by cases l<;>first | rfl | exact aA.aG _ _ h
theorem IE{st:aA}{b x:Nat}{l:List AV}(h:aZ st b l x=none):st x=none∧(l≠[]→x≠b):=by
 cases l with
 | nil=>exact⟨h,fun h=>absurd rfl h⟩
 | cons y l=>
  simp only[aZ,aA.aC] at h
  split at h
  · cases h
  · rename_i hn;exact⟨h,fun _=>hn⟩
theorem nF{w b:Nat}{l:List AV}:(bU w b l).cE=false:=by cases l<;>rfl
theorem sV{w b:Nat}{l:List AV}:(bU w b l).isAgg=false:=by cases l<;>rfl
theorem rS{w b:Nat}{l:List AV}:(bU w b l).cells= [bU w b l]:=by cases l<;>rfl
theorem kU{w b:Nat}{l:List AV}:(bU w b l).storable=true:=by cases l<;>rfl
theorem CG{P:Program}{t e:TypeId}{w b:Nat}{l:List AV}(h:P.underlying t=some (.slice e)):mN P t (bU w b l)=some (.int .i64 (l.length:Int)):=by
 cases l<;>simp [bU,mN,h]
theorem aL.aZ{st st':aA}(x:aL st st'){b:Nat}{l:List AV}(h:l≠[]→st' b=none):aL (aZ st b l) st':=by
 cases l with
 | nil=>exact x
 | cons y l=>exact x.aC (h (by simp))
theorem eQ{P:Program}{t:TypeId}{ag:Bool}{w bytes:Nat}{zs:List AV}{st:aA}{b:Nat}{l xs:List AV}{x:AV}{K:AV→aA→Prop}
 (hI:eI P t=some (ag,w)) (hB:eB P t=some bytes) (hZ:eZ P t=some zs) (hz:zs.length=w) (hx:zZ x=some xs) (fB:wB w xs) (hw:∀e∈l,e.width=w) (hb:l≠[]→st b=none)
 (h1:(l.length+xs.length)*bytes≤140737488355328) (h2:l.length+xs.length≤9223372036854775807)
 (hK:∀b',(l++xs≠[]→st b'=none)→K (bU w b' (l++xs)) (aZ st b' (l++xs))):jT P t (aZ st b l) (bU w b l) x K:=by
 unfold jT
 rw[hI,hB,hZ,hx]
 refine⟨hz,fB,?_⟩
 cases l with
 | nil=>
  show _∧_∧_∧_∧_
  refine⟨by simpa using h1,by simpa using h2,by simp,?_,?_⟩
  · rintro rfl
    have:=hK b (by simp)
    simpa [bU,aZ] using this
  · intro hne b' hb'
    have:=hK b' (fun _=>hb')
    rw[fF,qK hne,jU hne] at this
    simpa [aZ] using this
 | cons y l=>
  have hb:=hb (by simp)
  show w=w∧_∧_∧_
  refine⟨rfl,h1,h2,?_⟩
  have hfl:((y::l).flatMap AV.cells).length=(y::l).length*w:=nI hw
  simp only[aZ,aA.aJ]
  refine⟨by rw[hfl];exact cY _,?_,?_⟩
  · have:=hK b (fun _=>hb)
    rw[qK (by simp),jU (by simp),t8,dQ] at this
    rw[dS,←hfl,dZ]
    exact this
  · intro b' hb'
    have hne:b'≠b:=by rintro rfl;rw[aA.aJ] at hb';cases hb'
    rw[aA.aG _ _ hne] at hb'
    have:=hK b' (fun _=>hb')
    rw[qK (by simp),jU (by simp),t8,dQ] at this
    rw[aA.AQ _ _ _ hb,←hfl,dZ]
    exact this
def AV.fin(b:Nat)(l:List AV)(r:AV):AV:=if l.isEmpty=true then r.soft else(r.fz b l).soft
theorem oH{w b:Nat}{l:List AV}:(bU w b l).fin b l=.slice l:=by cases l<;>simp [bU,AV.fin,AV.fz,AV.soft]
theorem DW:∀cs:List AV,iS cs=cs.map AV.soft
 | []=>rfl
 | c::cs=>by simp [iS,DW cs]
theorem CU{b:Nat}{l:List AV}:∀cs:List AV,lK b l cs=cs.map (AV.fz b l)
 | []=>rfl
 | c::cs=>by simp [lK,CU cs]
theorem jH{b:Nat}{l:List AV}{cs:List AV}:(AV.agg cs).fin b l=.agg (cs.map (AV.fin b l)):=by
 unfold AV.fin
 split
 · simp [AV.soft,DW]
 · simp [AV.fz,AV.soft,DW,CU]
theorem kC{b:Nat}{l:List AV}{cs:List AV}:(AV.tup cs).fin b l=.tup (cs.map (AV.fin b l)):=by
 unfold AV.fin
 split
 · simp [AV.soft,DW]
 · simp [AV.fz,AV.soft,DW,CU]
theorem fS{b:Nat}{l:List AV}{k:IntKind}{n:Int}:(AV.int k n).fin b l=.int k n:=by unfold AV.fin;split<;>rfl
theorem rU{b:Nat}{l:List AV}{n:Bool}:(AV.bool n).fin b l=.bool n:=by unfold AV.fin;split<;>rfl
theorem pE{b:Nat}{l:List AV}{s:ByteArray}:(AV.str s).fin b l=.str s:=by unfold AV.fin;split<;>rfl
theorem jW{b:Nat}{l:List AV}{s:List AV}:(AV.slice s).fin b l=.slice s:=by unfold AV.fin;split<;>rfl
theorem oL{b:Nat}{l:List AV}{s:List AV}:(AV.fslice s).fin b l=.slice s:=by unfold AV.fin;split<;>rfl
theorem FM{b:Nat}{l:List AV}{e:AV}:(AV.pptr e).fin b l=.pptr e:=by unfold AV.fin;split<;>rfl
theorem JI{b c o:Nat}{l:List AV}:(AV.ptr c o).fin b l=.ptr c o:=by unfold AV.fin;split<;>rfl
theorem aOA{b:Nat}{l:List AV}{g:FuncId}{cs:List AV}:(AV.func g cs).fin b l=.func g cs:=by unfold AV.fin;split<;>rfl
theorem aD.fin{P:Program}{g:FuncId}{args:List AV}{st:aA}{Q:AV→aA→Prop}
 (x:aD P g args st (fun r st'=>∃b l s0,st'=aZ s0 b l∧(l≠[]→s0 b=none)∧(∀e∈l,e.cE=false)∧iV l∧Q (r.fin b l) s0)):aD P g args st Q:=
 x.mE fun r st' ⟨b,l,s0,h1,h0,h2,h3,h4⟩=>by
  cases l with
  | nil=>
   exact⟨r.fin b [],st',(aL.refl _).rJ,fun h v S y=>y.soft,by have e:st'=s0:=h1;rw[e];exact h4⟩
  | cons e l=>
   have hb:=h0 (by simp)
   subst h1
   have h1:aZ s0 b (e::l) b=some (.cells ((e::l).flatMap AV.cells)):=by simp only[aZ,aA.aJ]
   have e1:(aZ s0 b (e::l)).erase b=s0:=by simp only[aZ];exact aA.AQ _ _ _ hb
   refine⟨r.fin b (e::l),s0,?_,fun h v S y=>?_,h4⟩
   · have:=(kB (aZ s0 b (e::l)) b).rJ
     rwa [e1] at this
   · have:=y.fz S h1 h2 h3
     rw[e1] at this
     exact this.soft
mutual
def AV.gY:AV→Bool
 | .slice _=>false
 | .fslice es=>es.isEmpty
 | .pptr _=>false
 | .agg cs=>mW cs
 | .tup vs=>mW vs
 | .func _ cs=>mW cs
 | _=>true
def mW:List AV→Bool
 | []=>true
 | a::as=>a.gY&&mW as
end
def AO.gY:AO→Prop
 | .cells cs=>mW cs=true
 | .map f=>∀n a,f n=some a→a.gY=true
 | .tab _=>True
section
variable {h:bQ} {st st':aA}
mutual
theorem VC.anyS:∀(a:AV) (cs:List Value),a.gY=true→VC h st a cs→VC h st' a cs
 | .junk,_,_,x=>x
 | .undef,_,_,x=>x
 | .int _ _,_,_,x=>x
 | .bool _,_,_,x=>x
 | .str _,_,_,x=>x
 | .agg as,cs,s,x=>by simp only[VC] at x ⊢;exact bB.anyS as cs (by simpa [AV.gY] using s) x
 | .tup as,cs,s,x=>by
  simp only[VC] at x ⊢
  obtain⟨vs,e,r⟩:=x
  exact⟨vs,e,dX.anyS as vs (by simpa [AV.gY] using s) r⟩
 | .slice es,_,s,_=>by simp [AV.gY] at s
 | .fslice es,cs,s,x=>by
  have he:es= []:=by simpa [AV.gY] using s
  subst he
  unfold VC at x ⊢
  rcases x with x | ⟨b,off,e,_⟩
  · exact .inl x
  · exact .inl ⟨⟨_,e⟩,rfl⟩
 | .mslice b off len n,_,_,x=>x
 | .nilptr,_,_,x=>x
 | .ptr _ _,_,_,x=>x
 | .pptr e,_,s,_=>by simp [AV.gY] at s
 | .nilmap,_,_,x=>x
 | .map _,_,_,x=>x
 | .func _ as,cs,s,x=>by
  simp only[VC] at x ⊢
  obtain⟨vs,e,r⟩:=x
  exact⟨vs,e,dX.anyS as vs (by simpa [AV.gY] using s) r⟩
 | .raw _,_,_,x=>x
 | .eslice,_,_,x=>x
theorem bB.anyS:∀(as:List AV) (cs:List Value),mW as=true→bB h st as cs→bB h st' as cs
 | [],_,_,x=>x
 | a::as,cs,s,x=>by
  simp only[bB] at x ⊢
  simp only[mW,cF] at s
  obtain⟨c,r,e,x1,x2⟩:=x
  exact⟨c,r,e,VC.anyS a [c] s.1 x1,bB.anyS as r s.2 x2⟩
theorem dX.anyS:∀(as:List AV) (cs:List Value),mW as=true→dX h st as cs→dX h st' as cs
 | [],_,_,x=>x
 | a::as,cs,s,x=>by
  simp only[dX] at x ⊢
  simp only[mW,cF] at s
  obtain⟨v,r,e,x1,x2⟩:=x
  exact⟨v,r,e,⟨x1.1,VC.anyS a _ s.1 x1.2⟩,dX.anyS as r s.2 x2⟩
end
theorem aR.anyS{a:AV}{v:Value}(s:a.gY=true)(x:aR h st a v):aR h st' a v:=by
 cases a<;>first | trivial | exact⟨x.1,VC.anyS _ _ s x.2⟩
theorem l7.anyS{b:Nat}:∀ {o:AO},o.gY→l7 h st b o→l7 h st' b o
 | .cells as,s,x=>by
  obtain⟨c,t,e,l,vs,x1,x2⟩:=x
  exact⟨c,t,e,l,vs,x1,bB.anyS as vs s x2⟩
 | .map f,s,x=>by
  obtain⟨es,cl,e,x1,x2,x3⟩:=x
  refine⟨es,cl,e,x1,x2,fun n=>?_⟩
  have:=x3 n
  split
  · rename_i a ha
    rw[ha] at this
    obtain⟨e,he,hk,hv⟩:=this
    exact⟨e,he,hk,hv.anyS (s n a ha)⟩
  · rename_i ha
    rw[ha] at this
    exact this
 | .tab cs,_,x=>x
end
def aA.frame(st s0 s1:aA):aA:=fun b=>match s0 b,st b with
 | none,some o=>some o
 | _,_=>s1 b
theorem aD.frame{P:Program}{g:FuncId}{args args':List AV}{st s0:aA}{Q:AV→aA→Prop}(D:aL st s0)
 (x:aD P g args s0 (fun r s1=>(∀b,s0 b=none→s1 b≠none→st b=none)→r.gY=true∧(∀b o,s1 b=some o→o.gY)∧Q r (st.frame s0 s1)))
 (hv:∀h vs,cS h st→dF h st args' vs→dF h s0 args vs):aD P g args' st Q:=by
 refine⟨x.1,fun w vs S V=>(x.2 w vs (D.G2 S) (hv _ _ S V)).mono ?_⟩
 rintro _ w' ⟨v,r,s1,rfl,hr,S1,T,sm,q⟩
 have hfr:∀b,s0 b=none→s1 b≠none→st b=none:=fun b h0 h1=>by
  cases hb:st b with
  | none=>rfl
  | some o=>exact absurd (T.aV b (S b o hb).1 h0).2 h1
 obtain⟨hs,ho,hq⟩:=q hfr
 have T':cC w.heap st w'.heap (st.frame s0 s1):=by
  refine⟨T.size,fun b hb e=>?_,T.shape⟩
  obtain⟨k1,k2⟩:=T.aV b hb ((D b).1 e)
  exact⟨k1,by simp only[aA.frame,e,k2];split<;>first | rfl | (rename_i h;cases h)⟩
 refine⟨v,r,st.frame s0 s1,rfl,hr.anyS hs,fun b o hb=>?_,T',sm,hq⟩
 simp only[aA.frame] at hb
 split at hb
 · rename_i o' h0 h1
   cases hb
   obtain⟨l,y⟩:=S b _ h1
   exact⟨vY l T.size,l7.mono T' (T.aV b l h0).1 y⟩
 · obtain⟨l,y⟩:=S1 b o hb
   exact⟨l,y.anyS (ho b o hb)⟩
def d9:aA:=fun _=>none
theorem aL.d9(st:aA):aL st d9:=fun _=>⟨fun _=>rfl,fun _ h=>by cases h⟩
theorem a2R(st:aA):st.frame d9 d9=st:=by
 funext b;simp only[aA.frame,d9];split
 · rename_i h;exact h.symm
 · rename_i h;cases hb:st b with
   | none=>rfl
   | some o=>exact absurd hb (h o rfl)
theorem aD.aOJ{P:Program}{g:FuncId}{args args':List AV}{st:aA}{r:AV}(hs:r.gY=true)
 (x:aD P g args d9 (fun r' s1=>r'=r∧s1=d9))
 (hv:∀h vs,cS h st→dF h st args' vs→dF h d9 args vs):aD P g args' st (fun r' st'=>r'=r∧st'=st):=
 aD.frame (aL.d9 st) (x.mono fun r' s1 ⟨e1,e2⟩ _=>⟨by rw[e1];exact hs,(by rw[e2];intro b o h;cases h),e1,by rw[e2,a2R]⟩) hv
mutual
def bM(st:aA):AV→AV→List Nat→Prop
 | .int k n,o,bs=>o=.int k n∧bs= []
 | .bool b,o,bs=>o=.bool b∧bs= []
 | .str s,o,bs=>o=.str s∧bs= []
 | .agg cs,o,bs=>∃os,o=.agg os∧aW st cs os bs
 | .slice es,o,bs=>(es= []∧o=.fslice []∧bs= [])∨∃b bs' os w,o=.mslice b 0 es.length w∧bs=b::bs'∧st b=some (.cells (os.flatMap AV.cells))∧aW st es os bs'∧(∀e∈es,e.width=w)
 | _,_,_=>False
def aW(st:aA):List AV→List AV→List Nat→Prop
 | [],os,bs=>os= []∧bs= []
 | a::as,os,bs=>∃o os' b1 b2,os=o::os'∧bs=b1++b2∧bM st a o b1∧aW st as os' b2
end
theorem aW.length{st:aA}:∀ {as os:List AV} {bs:List Nat},aW st as os bs→os.length=as.length
 | [],os,bs,x=>by simp only[aW] at x;simp [x.1]
 | a::as,os,bs,x=>by
  simp only[aW] at x
  obtain⟨o,os',b1,b2,rfl,rfl,_,x2⟩:=x
  simp [aW.length x2]
theorem bM.shape{st:aA}:∀ {a o:AV} {bs:List Nat},bM st a o bs→o.isAgg=a.isAgg∧o.width=a.width∧o.cE=false∧(∀cs,a=.agg cs→∃os,o=.agg os)
 | .int k n,o,bs,x=>by simp only[bM] at x;rw[x.1];exact⟨rfl,rfl,rfl,by simp⟩
 | .bool b,o,bs,x=>by simp only[bM] at x;rw[x.1];exact⟨rfl,rfl,rfl,by simp⟩
 | .str s,o,bs,x=>by simp only[bM] at x;rw[x.1];exact⟨rfl,rfl,rfl,by simp⟩
 | .agg cs,o,bs,x=>by
  simp only[bM] at x
  obtain⟨os,rfl,x⟩:=x
  exact⟨rfl,x.length,rfl,fun _ _=>⟨os,rfl⟩⟩
 | .slice es,o,bs,x=>by
  simp only[bM] at x
  rcases x with ⟨_,rfl,_⟩ | ⟨b,bs',os,w,rfl,_⟩<;>exact⟨rfl,rfl,rfl,by simp⟩
 | .junk,_,_,x=>x.elim
 | .undef,_,_,x=>x.elim
 | .tup _,_,_,x=>x.elim
 | .fslice _,_,_,x=>x.elim
 | .mslice _ _ _ _,_,_,x=>x.elim
 | .nilptr,_,_,x=>x.elim
 | .ptr _ _,_,_,x=>x.elim
 | .pptr _,_,_,x=>x.elim
 | .nilmap,_,_,x=>x.elim
 | .map _,_,_,x=>x.elim
 | .func _ _,_,_,x=>x.elim
 | .raw _,_,_,x=>x.elim
 | .eslice,_,_,x=>x.elim
section
variable {st st':aA}
mutual
theorem bM.aV:∀(a o:AV) (bs:List Nat),(∀b∈bs,st' b=st b)→bM st a o bs→bM st' a o bs
 | .int k n,o,bs,_,x=>x
 | .bool b,o,bs,_,x=>x
 | .str s,o,bs,_,x=>x
 | .agg cs,o,bs,h,x=>by
  simp only[bM] at x ⊢
  obtain⟨os,e,x⟩:=x
  exact⟨os,e,aW.aV cs os bs h x⟩
 | .slice es,o,bs,h,x=>by
  simp only[bM] at x ⊢
  rcases x with x | ⟨b,bs',os,w,e1,rfl,e2,x,e3⟩
  · exact .inl x
  · exact .inr ⟨b,bs',os,w,e1,rfl,(h b (by simp)).trans e2,aW.aV es os bs' (fun q hq=>h q (by simp [hq])) x,e3⟩
 | .junk,_,_,_,x=>x
 | .undef,_,_,_,x=>x
 | .tup _,_,_,_,x=>x
 | .fslice _,_,_,_,x=>x
 | .mslice _ _ _ _,_,_,_,x=>x
 | .nilptr,_,_,_,x=>x
 | .ptr _ _,_,_,_,x=>x
 | .pptr _,_,_,_,x=>x
 | .nilmap,_,_,_,x=>x
 | .map _,_,_,_,x=>x
 | .func _ _,_,_,_,x=>x
 | .raw _,_,_,_,x=>x
 | .eslice,_,_,_,x=>x
theorem aW.aV:∀(as os:List AV) (bs:List Nat),(∀b∈bs,st' b=st b)→aW st as os bs→aW st' as os bs
 | [],os,bs,_,x=>x
 | a::as,os,bs,h,x=>by
  simp only[aW] at x ⊢
  obtain⟨o,os',b1,b2,e1,rfl,x1,x2⟩:=x
  exact⟨o,os',b1,b2,e1,rfl,bM.aV a o b1 (fun q hq=>h q (by simp [hq])) x1,aW.aV as os' b2 (fun q hq=>h q (by simp [hq])) x2⟩
end
mutual
theorem bM.gY:∀(a o:AV) (bs:List Nat),bM st a o bs→o.gY=true∧o.cells.all AV.storable=o.cells.all AV.storable∧∀b∈bs,∃cs,st b=some (.cells cs)∧mW cs=true
 | .int k n,o,bs,x=>by simp only[bM] at x;rw[x.1,x.2];exact⟨rfl,rfl,by simp⟩
 | .bool b,o,bs,x=>by simp only[bM] at x;rw[x.1,x.2];exact⟨rfl,rfl,by simp⟩
 | .str s,o,bs,x=>by simp only[bM] at x;rw[x.1,x.2];exact⟨rfl,rfl,by simp⟩
 | .agg cs,o,bs,x=>by
  simp only[bM] at x
  obtain⟨os,rfl,x⟩:=x
  obtain⟨h1,h2⟩:=aW.gY cs os bs x
  exact⟨by simpa [AV.gY] using h1.1,rfl,h2⟩
 | .slice es,o,bs,x=>by
  simp only[bM] at x
  rcases x with ⟨_,rfl,rfl⟩ | ⟨b,bs',os,w,rfl,rfl,e2,x,e3⟩
  · exact⟨rfl,rfl,by simp⟩
  · obtain⟨h1,h2⟩:=aW.gY es os bs' x
    refine⟨rfl,rfl,fun q hq=>?_⟩
    rcases c7.1 hq with rfl | hq
    · exact⟨_,e2,h1.2⟩
    · exact h2 q hq
 | .junk,_,_,x=>x.elim
 | .undef,_,_,x=>x.elim
 | .tup _,_,_,x=>x.elim
 | .fslice _,_,_,x=>x.elim
 | .mslice _ _ _ _,_,_,x=>x.elim
 | .nilptr,_,_,x=>x.elim
 | .ptr _ _,_,_,x=>x.elim
 | .pptr _,_,_,x=>x.elim
 | .nilmap,_,_,x=>x.elim
 | .map _,_,_,x=>x.elim
 | .func _ _,_,_,x=>x.elim
 | .raw _,_,_,x=>x.elim
 | .eslice,_,_,x=>x.elim
theorem aW.gY:∀(as os:List AV) (bs:List Nat),aW st as os bs→(mW os=true∧mW (os.flatMap AV.cells)=true)∧∀b∈bs,∃cs,st b=some (.cells cs)∧mW cs=true
 | [],os,bs,x=>by simp only[aW] at x;rw[x.1,x.2];exact⟨⟨rfl,rfl⟩,by simp⟩
 | a::as,os,bs,x=>by
  simp only[aW] at x
  obtain⟨o,os',b1,b2,rfl,rfl,x1,x2⟩:=x
  obtain⟨h1,_,h2⟩:=bM.gY a o b1 x1
  obtain⟨⟨h3,h4⟩,h5⟩:=aW.gY as os' b2 x2
  have NT:∀(p q:List AV),mW p=true→mW q=true→mW (p++q)=true:=by
   intro p q hp hq
   induction p with
   | nil=>exact hq
   | cons c p ih=>simp only[mW,cF,iB] at hp ⊢;exact⟨hp.1,ih hp.2⟩
  have hc:mW o.cells=true:=by cases o<;>first | (simpa [AV.cells,mW] using h1) | (simpa [AV.cells,AV.gY] using h1)
  refine⟨⟨by simp [mW,h1,h3],by rw[rN];exact NT _ _ hc h4⟩,fun q hq=>?_⟩
  rcases d6.1 hq with hq | hq
  · exact h2 q hq
  · exact h5 q hq
end
end
section
variable {h:bQ} {st s0:aA}
mutual
theorem bM.view(S:cS h st)(D:aL st s0):∀(a o:AV) (bs:List Nat) (cs:List Value),bM st a o bs→(∀b∈bs,s0 b=none)→VC h st o cs→VC h s0 a cs
 | .int k n,o,bs,cs,x,_,y=>by simp only[bM] at x;rw[x.1] at y;exact y
 | .bool b,o,bs,cs,x,_,y=>by simp only[bM] at x;rw[x.1] at y;exact y
 | .str s,o,bs,cs,x,_,y=>by simp only[bM] at x;rw[x.1] at y;exact y
 | .agg as,o,bs,cs,x,hb,y=>by
  simp only[bM] at x
  obtain⟨os,rfl,x⟩:=x
  simp only[VC] at y ⊢
  exact aW.aUW S D as os bs cs x hb y
 | .slice es,o,bs,cs,x,hb,y=>by
  simp only[bM] at x
  rcases x with ⟨rfl,rfl,rfl⟩ | ⟨b,bs',os,w,rfl,rfl,e2,x,e3⟩
  · unfold VC at y ⊢
    rcases y with y | ⟨b,off,e,_⟩
    · exact .inl y
    · exact .inl ⟨⟨_,e⟩,rfl⟩
  · simp only[VC] at y
    obtain⟨cap,e,l1,l2,_⟩:=y
    obtain⟨hlt,c,t,q1,q2,vs,q3,q4⟩:=S b _ e2
    have hsh:=aW.O4 x
    unfold VC
    refine .inr ⟨b,0,cap,e,l1,l2,hb b (by simp),hlt,⟨w,e3⟩,aW.aUX S D b es os bs' 0 x (fun q hq=>hb q (by simp [hq])) (L2 (fun q hq=>hsh q hq) q3 q4)⟩
 | .junk,_,_,_,x,_,_=>x.elim
 | .undef,_,_,_,x,_,_=>x.elim
 | .tup _,_,_,_,x,_,_=>x.elim
 | .fslice _,_,_,_,x,_,_=>x.elim
 | .mslice _ _ _ _,_,_,_,x,_,_=>x.elim
 | .nilptr,_,_,_,x,_,_=>x.elim
 | .ptr _ _,_,_,_,x,_,_=>x.elim
 | .pptr _,_,_,_,x,_,_=>x.elim
 | .nilmap,_,_,_,x,_,_=>x.elim
 | .map _,_,_,_,x,_,_=>x.elim
 | .func _ _,_,_,_,x,_,_=>x.elim
 | .raw _,_,_,_,x,_,_=>x.elim
 | .eslice,_,_,_,x,_,_=>x.elim
theorem aW.aUW(S:cS h st)(D:aL st s0):∀(as os:List AV) (bs:List Nat) (cs:List Value),aW st as os bs→(∀b∈bs,s0 b=none)→bB h st os cs→bB h s0 as cs
 | [],os,bs,cs,x,_,y=>by simp only[aW] at x;rw[x.1] at y;exact y
 | a::as,os,bs,cs,x,hb,y=>by
  simp only[aW] at x
  obtain⟨o,os',b1,b2,rfl,rfl,x1,x2⟩:=x
  simp only[bB] at y ⊢
  obtain⟨c,r,e,y1,y2⟩:=y
  exact⟨c,r,e,bM.view S D a o b1 [c] x1 (fun q hq=>hb q (by simp [hq])) y1,aW.aUW S D as os' b2 r x2 (fun q hq=>hb q (by simp [hq])) y2⟩
theorem aW.aUX(S:cS h st)(D:aL st s0)(b:Nat):∀(as os:List AV) (bs:List Nat) (off:Nat),aW st as os bs→(∀b∈bs,s0 b=none)→dI h st b off os→dI h s0 b off as
 | [],os,bs,off,x,_,y=>by simp only[dI]
 | a::as,os,bs,off,x,hb,y=>by
  simp only[aW] at x
  obtain⟨o,os',b1,b2,rfl,rfl,x1,x2⟩:=x
  simp only[dI] at y ⊢
  obtain⟨⟨cs,y1,y2,y3⟩,y4⟩:=y
  have hw:=(bM.shape x1).2.1
  rw[hw] at y2 y4
  exact⟨⟨cs,y1,y2,bM.view S D a o b1 cs x1 (fun q hq=>hb q (by simp [hq])) y3⟩,aW.aUX S D b as os' b2 _ x2 (fun q hq=>hb q (by simp [hq])) y4⟩
theorem aW.O4:∀ {as os:List AV} {bs:List Nat},aW st as os bs→∀o∈os,o.cE=false
 | [],os,bs,x=>by simp only[aW] at x;rw[x.1];simp
 | a::as,os,bs,x=>by
  simp only[aW] at x
  obtain⟨o,os',b1,b2,rfl,rfl,x1,x2⟩:=x
  intro q hq
  rcases c7.1 hq with rfl | hq
  · exact(bM.shape x1).2.2.1
  · exact aW.O4 x2 q hq
end
theorem bM.aUZ(S:cS h st)(D:aL st s0){a o:AV}{bs:List Nat}{v:Value}(x:bM st a o bs)(hb:∀b∈bs,s0 b=none)(y:aR h st o v):aR h s0 a v:=by
 have hs:=x.shape
 have key:o.isAgg=kI v∧VC h st o v.cells.toList:=by
  cases o<;>first | exact y | simp [AV.cE] at hs
 have z:a.isAgg=kI v∧VC h s0 a v.cells.toList:=⟨hs.1.symm.trans key.1,bM.view S D _ _ _ _ x hb key.2⟩
 cases ha:a<;>rw[ha] at z<;>first | trivial | exact z
end
def Seen(st s0:aA):List AV→List AV→Prop
 | [],as=>as= []
 | o::os,as=>∃a as',as=a::as'∧(o=a∨∃bs,bM st a o bs∧∀b∈bs,s0 b=none)∧Seen st s0 os as'
theorem Seen.rel{st s0:aA}(D:aL st s0):∀ {os as:List AV},Seen st s0 os as→∀h vs,cS h st→dF h st os vs→dF h s0 as vs
 | [],as,x,h,vs,_,y=>by simp only[Seen] at x;rw[x];exact y
 | o::os,as,x,h,vs,S,y=>by
  simp only[Seen] at x
  obtain⟨a,as',rfl,x1,x2⟩:=x
  simp only[dF] at y ⊢
  obtain⟨v,r,rfl,y1,y2⟩:=y
  refine⟨v,r,rfl,?_,Seen.rel D x2 h r S y2⟩
  rcases x1 with rfl | ⟨bs,x1,hb⟩
  · exact y1.mono (D.step h)
  · exact x1.aUZ S D hb y1
def Made(st:aA)(a r:AV)(st':aA):Prop:=∃bs:List Nat,bs.Nodup∧(∀b∈bs,st b=none)∧bM st' a r bs∧∀b,b∉bs→st' b=st b
theorem aW.aOD{st:aA}{w:Nat}:∀ {as os:List AV} {bs:List Nat},aW st as os bs→(∀e∈as,e.width=w)→(os.flatMap AV.cells).length=as.length*w
 | [],os,bs,x,_=>by simp only[aW] at x;rw[x.1];simp
 | a::as,os,bs,x,h=>by
  simp only[aW] at x
  obtain⟨o,os',b1,b2,rfl,rfl,x1,x2⟩:=x
  have:=aW.aOD x2 (fun e he=>h e (by simp [he]))
  rw[rN,dQ,this,s8,(bM.shape x1).2.1,h a (by simp),aX,uC]
  omega
theorem aR5{A C B x:List AV}{n j:Nat}(hA:A.length=n)(hj:j+x.length≤C.length):aK (A++C++B) (n+j) x=A++aK C j x++B:=by
 subst hA
 unfold aK
 have h1:(A++C++B).take (A.length+j)=A++C.take j:=by
  rw[lX,List.take_length_add_append,EM (by omega)]
 have h2:(A++C++B).drop (A.length+j+x.length)=C.drop (j+x.length)++B:=by
  rw[lX,B7,List.drop_length_add_append,YV (by omega)]
 rw[h1,h2]
 simp
theorem VP{A B:List AV}{n:Nat}(hA:A.length=n):(∀(C:List AV) (v:AV) (j:Nat),j<C.length→aK (A++C++B) (n+j) [v]=A++C.set j v++B)∧(∀(C:List AV) (c:Nat),c<C.length→n+c+1≤(A++C++B).length) ∧
 (∀(C:List AV) (c:Nat),c<C.length→(A++C++B)[n+c]?=C[c]?)∧(∀(C:List AV) (v:AV),0<C.length→aK (A++C++B) n [v]=A++C.set 0 v++B)∧(∀(C:List AV),0<C.length→n+1≤(A++C++B).length) ∧
 ∀(C:List AV),0<C.length→(A++C++B)[n]?=C[0]?:=by
 have k1:(∀(C:List AV) (v:AV) (j:Nat),j<C.length→aK (A++C++B) (n+j) [v]=A++C.set j v++B)∧(∀(C:List AV) (c:Nat),c<C.length→n+c+1≤(A++C++B).length)∧∀(C:List AV) (c:Nat),c<C.length→(A++C++B)[n+c]?=C[c]?:=?_
 · exact⟨k1.1,k1.2.1,k1.2.2,fun C v h=>k1.1 C v 0 h,fun C h=>k1.2.1 C 0 h,fun C h=>k1.2.2 C 0 h⟩
 refine⟨fun C v j h=>?_,fun C c h=>?_,fun C c h=>?_⟩
 · rw[aR5 hA (by simp;omega),Y0,aH h]
   unfold aK
   simp
 · simp only[dQ];omega
 · subst hA
   rw[lX,YY (by omega),Nat.add_sub_cancel_left,YX h]
theorem a7S{A B C x:List AV}{n w:Nat}(hA:A.length=n)(hC:C.length=w)(hx:x.length=w):aK (A++C++B) n x=A++x++B∧n+w≤(A++C++B).length:=by
 have h:=aR5 (A:=A) (C:=C) (B:=B) (x:=x) (n:=n) (j:=0) hA (by omega)
 rw[EN] at h
 refine⟨?_,by simp only[dQ];omega⟩
 rw[h]
 unfold aK
 simp [hC,hx]
theorem qV{P:Program}{t:TypeId}{ag:Bool}{b len w i:Nat}(hI:eI P t=some (ag,w))(hi:i<len):dG P t (.mslice b 0 len w) (.int .i64 (i:Int))=some (.ptr b (i*w)):=by
 simp only[dG,hI,jQ,iE]
 rw[aH ⟨by omega,by omega,trivial⟩]
theorem bM.Z9{st:aA}:∀ {cs os:List AV} {bs:List Nat},aW st cs os bs→(∀c∈cs,c.isAgg=false)→os.all AV.storable=true∧os.flatMap AV.cells=os
 | [],os,bs,x,_=>by simp only[aW] at x;rw[x.1];simp
 | a::as,os,bs,x,h=>by
  simp only[aW] at x
  obtain⟨o,os',b1,b2,rfl,rfl,x1,x2⟩:=x
  have ih:=bM.Z9 x2 (fun c hc=>h c (by simp [hc]))
  have ha:=h a (by simp)
  have ho:o.storable=true∧o.cells= [o]:=by
   cases a<;>simp only[bM] at x1<;>try exact x1.elim
   case int=>rw[x1.1];exact⟨rfl,rfl⟩
   case bool=>rw[x1.1];exact⟨rfl,rfl⟩
   case str=>rw[x1.1];exact⟨rfl,rfl⟩
   case agg=>simp [AV.isAgg] at ha
   case slice=>rcases x1 with ⟨_,rfl,_⟩ | ⟨b,bs',os,w,rfl,_⟩<;>exact⟨rfl,rfl⟩
  rw[kJ,ho.1,ih.1,rN,ih.2,ho.2]
  exact⟨rfl,rfl⟩
theorem aW.snoc{st st':aA}{a o:AV}{b2:List Nat}:∀ {as os:List AV} {b1:List Nat},aW st as os b1→(∀b∈b1,st' b=st b)→bM st' a o b2→aW st' (as++ [a]) (os++ [o]) (b1++b2)
 | [],os,b1,x,_,y=>by
  simp only[aW] at x
  rw[x.1,x.2]
  simp only[fF,aW]
  exact⟨o,[],b2,[],rfl,by simp,y,rfl,rfl⟩
 | c::as,os,b1,x,h,y=>by
  simp only[aW] at x
  obtain⟨o1,os',b3,b4,rfl,rfl,x1,x2⟩:=x
  simp only[iB,aW]
  exact⟨o1,os'++ [o],b3,b4++b2,rfl,by simp,bM.aV _ _ _ (fun q hq=>h q (by simp [hq])) x1,aW.snoc x2 (fun q hq=>h q (by simp [hq])) y⟩
def Y1(st:aA)(ds:List Nat)(a r:AV)(st':aA):Prop:=∃bs:List Nat,bs.Nodup∧(∀b∈bs,st b=none)∧(∀d∈ds,st d=none∧d∉bs)∧bM st' a r bs∧∀b,b∉bs→b∉ds→st' b=st b
theorem aD.VM{P:Program}{g:FuncId}{args:List AV}{st:aA}{a:AV}(x:aD P g args st (fun r st'=>∃ds,Y1 st ds a r st')):aD P g args st (Made st a):=
 x.mE fun r st' ⟨ds,bs,h1,h2,hd,h3,h4⟩=>by
  refine⟨r,fun q=>if q∈ds then none else st' q,?_,?_,bs,h1,h2,?_,fun b hb=>?_⟩
  · have D:aL st' (fun q=>if q∈ds then none else st' q):=fun q=>by
     by_cases hq:q∈ds
     · simp only[hq,eX];exact⟨fun _=>trivial,fun o h=>by cases h⟩
     · simp only[hq,dY];exact⟨id,fun o h=>h⟩
    exact D.rJ
  · have D:aL st' (fun q=>if q∈ds then none else st' q):=fun q=>by
     by_cases hq:q∈ds
     · simp only[hq,eX];exact⟨fun _=>trivial,fun o h=>by cases h⟩
     · simp only[hq,dY];exact⟨id,fun o h=>h⟩
    exact D.mE r
  · exact bM.aV _ _ _ (fun q hq=>aE fun h=>(hd q h).2 hq) h3
  · by_cases hq:b∈ds
    · simp only[hq,eX];exact(hd b hq).1.symm
    · simp only[hq,dY];exact h4 b hb hq
def uI(b:Nat):List AV→List Nat
 | []=>[]
 | _::_=>[b]
theorem aRG{s:aA}{b w:Nat}{es os:List AV}{bs:List Nat}(x:aW (aZ s b os) es os bs)(hw:∀e∈es,e.width=w):bM (aZ s b os) (.slice es) (bU w b os) (uI b os++bs):=by
 have hl:=x.length
 cases os with
 | nil=>
  have:es= []:=pQ (by simpa using hl.symm)
  subst this
  simp only[aW] at x
  simp only[bM,bU,uI,x.2]
  exact .inl ⟨trivial,trivial,rfl⟩
 | cons o os=>
  simp only[bM,bU,uI]
  refine .inr ⟨b,bs,o::os,w,by rw[hl],rfl,?_,x,hw⟩
  simp only[aZ,aA.aJ]
def AV.flat:AV→Bool
 | .int _ _ | .bool _ | .str _=>true
 | _=>false
theorem aW.flat{s:aA}:∀ {es:List AV},es.all AV.flat=true→aW s es es []
 | [],_=>⟨rfl,rfl⟩
 | e::es,h=>by
  simp only[kJ,cF] at h
  simp only[aW]
  refine⟨e,es,[],[],rfl,rfl,?_,aW.flat h.2⟩
  cases e<;>simp [AV.flat] at h<;>simp [bM]
theorem Seen.nil{st s0:aA}:Seen st s0 [] []:=rfl
theorem Seen.same{st s0:aA}{x:AV}{os as:List AV}(h:Seen st s0 os as):Seen st s0 (x::os) (x::as):=⟨x,as,rfl,.inl rfl,h⟩
theorem Seen.own{st:aA}{a o:AV}{bs:List Nat}{os as:List AV}(hO:bM st a o bs)(h:Seen st d9 os as):Seen st d9 (o::os) (a::as):=⟨a,as,rfl,.inr ⟨bs,hO,fun _ _=>rfl⟩,h⟩
theorem aD.see{P:Program}{g:FuncId}{args args':List AV}{st:aA}{r:AV}(x:∀s,aD P g args s (fun r' s'=>r'=r∧s'=s))(hv:Seen st d9 args' args)(hs:r.gY=true):aD P g args' st (fun r' s'=>r'=r∧s'=st):=
 aD.aOJ hs (x d9) (Seen.rel (aL.d9 st) hv)
theorem aD.oK{P:Program}{g:FuncId}{args:List AV}{st:aA}{r:AV}(x:aD P g args st (fun r' st'=>r'=r∧aL st' st)):aD P g args st (fun r' st'=>r'=r∧st'=st):=
 (x.mono fun _ _ h=>⟨h.2,h.1⟩).drop
theorem aVL{P:Program}{t:TypeId}{st:aA}{s x:AV}{K K':AV→aA→Prop}(h:∀r s,K r s→K' r s)(e:jT P t st s x K):jT P t st s x K':=by
 unfold jT at *
 split at e
 case h_2=>exact e.elim
 refine⟨e.1,e.2.1,?_⟩
 have e:=e.2.2
 split at e
 · exact⟨e.1,e.2.1,e.2.2.1,fun q=>h _ _ (e.2.2.2.1 q),fun q b hb=>h _ _ (e.2.2.2.2 q b hb)⟩
 · refine⟨e.1,e.2.1,e.2.2.1,?_⟩
   have e:=e.2.2.2
   split at e
   · exact⟨e.1,h _ _ e.2.1,fun b hb=>h _ _ (e.2.2 b hb)⟩
   · exact e.elim
 · exact e.elim
theorem aVK{P:Program}{t t':TypeId}{st:aA}{s x:AV}{K K':AV→aA→Prop}(h:∀r s,K r s→K' r s)(e:uE P t t' st s x K):uE P t t' st s x K':=by
 unfold uE at *
 split at e
 case h_2=>exact e.elim
 refine⟨e.1,e.2.1,e.2.2.1,e.2.2.2.1,?_⟩
 have e:=e.2.2.2.2
 split at e
 · exact⟨e.1,e.2.1,e.2.2.1,fun q=>h _ _ (e.2.2.2.1 q),fun q b hb=>h _ _ (e.2.2.2.2 q b hb)⟩
 · refine⟨e.1,e.2.1,e.2.2.1,?_⟩
   have e:=e.2.2.2
   split at e
   · exact⟨e.1,h _ _ e.2.1,fun b hb=>h _ _ (e.2.2 b hb)⟩
   · exact e.elim
 · exact e.elim
theorem CE{P:Program}{mt:List Nat}{φ:AF}{st:aA}{o:Oper}{K K':AV→aA→Prop}(h:∀r s,K r s→K' r s)(e:fM P mt φ st o K):fM P mt φ st o K':=by
 unfold fM at *
 split at e
 · split at e
   · exact e.mono h
   · exact e.elim
 · split at e
   · split at e
     · rename_i ht;rw[aH ht];exact aVL h e
     · rename_i ht;rw[aE ht];exact aVK h e
   · exact e.elim
 · split at e
   · unfold CC at *
     split at e
     · split at e
       · exact h _ _ e
       · exact e.elim
     · exact e.elim
   · exact e.elim
 · split at e
   · unfold xQ at *
     split at e
     · obtain⟨e1,e2,e3,e4,e5⟩:=e
       refine⟨e1,e2,e3,e4,?_⟩
       split at e5
       · exact⟨e5.1,h _ _ e5.2⟩
       · exact e5.elim
     · exact h _ _ e
     · exact e.elim
   · exact e.elim
 · split at e
   · rename_i hm
     rw[aH hm]
     exact⟨e.1,fun b hb=>h _ _ (e.2 b hb)⟩
   · rename_i hm
     rw[aE hm]
     split at e
     · exact h _ _ e
     · exact e.elim
 · split at e
   · exact fun b hb=>h _ _ (e b hb)
   · exact e.elim
 · split at e
   · split at e
     · exact⟨e.1,e.2.1,e.2.2.1,h _ _ e.2.2.2⟩
     · exact e.elim
   · exact e.elim
 · exact fun b hb=>h _ _ (e b hb)
 · unfold z8 at *
   split at e
   · exact⟨e.1,e.2.1,e.2.2.1,e.2.2.2.1,e.2.2.2.2.1,e.2.2.2.2.2.1,fun b hb=>h _ _ (e.2.2.2.2.2.2 b hb)⟩
   · exact e.elim
 · unfold uF at *
   split at e
   · split at e
     · exact⟨e.1,h _ _ e.2⟩
     · exact e.elim
   · exact e.elim
 · split at e
   · exact h _ _ e
   · exact e.elim
def j9(P:Program)(ops:Array Oper)(o:Oper)(φ:AF)(st:aA)(K:AV→aA→Prop):Prop:=match j8 ops φ o with
 | some true=>fM P [] φ st o K
 | some false=>K .undef st
 | none=>False
theorem uG{P:Program}{ops:Array Oper}{o:Oper}{φ:AF}{st:aA}{K K':AV→aA→Prop}(h:∀r s,K r s→K' r s)(e:j9 P ops o φ st K):j9 P ops o φ st K':=by
 unfold j9 at *
 split at e
 · exact CE h e
 · exact h _ _ e
 · exact e.elim
section
variable {P:Program}
theorem aVP{ops:Array Oper}{oi oj:Oper}(φ:AF)(v:AV)(h:∀d,oj.dst=some d→d∉oi.looksAt ops):j8 ops (φ.put oj.dst v) oi=j8 ops φ oi:=by
 unfold j8
 cases hg:oi.guard with
 | none=>rfl
 | some gw=>
  obtain⟨g,want⟩:=gw
  cases ht:(ops[g]?).bind (·.dst) with
  | none=>simp only[ht]
  | some t=>
   simp only[ht]
   have:(φ.put oj.dst v) t=φ t:=by
    have:=OU (φ:=φ) (dst:=oj.dst) (v:=v) (x:=.tmp t) (fun d hd hxd=>h d hd (by
     cases hxd
     simp [Oper.looksAt,hg,ht]))
    exact this
   rw[this]
theorem RL{ops:Array Oper}{oi oj:Oper}(φ:AF)(v:AV){st:aA}{K:AV→aA→Prop}(h:∀d,oj.dst=some d→d∉oi.looksAt ops):j9 P ops oi (φ.put oj.dst v) st K↔j9 P ops oi φ st K:=by
 have h1:fM P [] (φ.put oj.dst v) st oi K=fM P [] φ st oi K:=
  ZX fun x hx=>OU fun d hd hxd=>h d hd (by
   subst hxd
   exact List.mem_append_left _ (List.mem_filterMap.2 ⟨.tmp d,by simpa using hx,rfl⟩))
 unfold j9
 rw[h1,aVP φ v h]
theorem TV(n j:Nat):(Array.replicate n false).getD j false=false:=by
 rcases mL j n with h | h<;>simp [h]
def L5(P:Program)(ops:Array Oper)(K:AF→aA→Prop):Nat→Array Bool→AF→aA→Prop
 | 0,listed,φ,st=>Region.ready .any ops listed= []∧K φ st
 | f+1,listed,φ,st=>(Region.ready .any ops listed= []→K φ st)∧∀i∈Region.ready .any ops listed,∃o,ops[i]?=some o∧j9 P ops o φ st (fun r st'=>L5 P ops K f (listed.setIfInBounds i true) (φ.put o.dst r) st')
theorem aVY{N:Nat}{ops:Array Oper}(hN:∀(j d:Nat),(ops[j]?).bind (·.dst)=some d→d<N){o:Oper}{i:Nat}{a:Act}{w:World}{φ:AF}{st:aA}{G:AV→aA→Prop}{K:Act→World→Prop}{Q:Exit→Act→World→Prop}(hi:ops[i]?=some o)
 (R:Rel N a w φ st) (hd:pV N o=true) (y:j9 P ops o φ st G) (h:∀a' w' r st',Rel N a' w' (φ.put o.dst r) st'→cC w.heap st w'.heap st'→fO w w'→G r st'→K a' w'):wpOp P ops Q i K a w:=by
 unfold j9 at y
 unfold wpOp
 simp only[hi]
 split at y
 · rename_i hg
   rw[aH (z7 R hN hg)]
   refine .inl (MA R.frame R.store y fun v w' ⟨r',st',x1,x2,x3,x4,x5⟩=>?_)
   exact h _ _ r' st' (R.put hd x3 x2 x1) x3 x4 x5
 · rename_i hg
   rw[aE (by rw[z7 R hN hg];simp)]
   exact h _ _ .undef st (R.put (r:=.undef) hd (cC.refl _ _) R.store ⟨rfl,rfl⟩) (cC.refl _ _) (fO.refl _) y
 · exact y.elim
theorem L6{N:Nat}{ops:Array Oper}(hN:∀(j d:Nat),(ops[j]?).bind (·.dst)=some d→d<N)(hD:∀o∈ops.toList,pV N o=true){K:AF→aA→Prop}{Q:Exit→Act→World→Prop}{w0:World}{st0:aA}
 (hK:∀φ st a w,K φ st→Rel N a w φ st→cC w0.heap st0 w.heap st→fO w0 w→Q .normal a w) :
 ∀(f:Nat) (listed:Array Bool) (φ:AF) (st:aA) (a:Act) (w:World),L5 P ops K f listed φ st→Rel N a w φ st→cC w0.heap st0 w.heap st→fO w0 w→wpAny P .any ops Q f listed a w
 | 0,listed,φ,st,a,w,h,R,T,s=>⟨h.1,hK φ st a w h.2 R T s⟩
 | f+1,listed,φ,st,a,w,h,R,T,s=>by
  refine⟨fun h0=>hK φ st a w (h.1 h0) R T s,fun i hi=>?_⟩
  obtain⟨o,ho,y⟩:=h.2 i hi
  exact aVY hN ho R (hD o (pO.2 (BX ho))) y fun a' w' r st' R' T' s' g=>L6 hN hD hK f _ _ _ a' w' g R' (T.trans T') (s.trans s')
def ZS(P:Program)(ops:Array Oper)(o:Oper)(r:AV)(φ:AF):Prop:=∀st,kT P st ops o r φ
theorem bB9{ops:Array Oper}{o:Oper}{r:AV}{φ:AF}(h:ZS P ops o r φ){st:aA}{K:AV→aA→Prop}(k:K r st):j9 P ops o φ st K:=by
 unfold j9
 rcases h st with ⟨hg,hs⟩ | ⟨hg,rfl⟩
 · rw[hg];exact CE (fun r' s' ⟨e1,e2⟩=>by rw[e1,e2];exact k) hs
 · rw[hg];exact k
theorem Z0{ops:Array Oper}{o:Oper}{r:AV}{φ:AF}{st:aA}(h:kT P st ops o r φ){K:AV→aA→Prop}(k:K r st):j9 P ops o φ st K:=by
 unfold j9
 rcases h with ⟨hg,hs⟩ | ⟨hg,rfl⟩
 · rw[hg];exact CE (fun r' s' ⟨e1,e2⟩=>by rw[e1,e2];exact k) hs
 · rw[hg];exact k
def ET(P:Program)(ops:Array Oper)(S:List Nat)(K:AF→aA→Prop):Nat→Array Bool→AF→aA→Prop
 | 0,listed,φ,st=>Region.ready .any ops listed= []∧K φ st
 | f+1,listed,φ,st=>(Region.ready .any ops listed= []→K φ st)∧∀i∈Region.ready .any ops listed,∃o,ops[i]?=some o ∧
  ((S.contains i=true∧∃r,kT P st ops o r φ∧ET P ops S K f (listed.setIfInBounds i true) (φ.put o.dst r) st) ∨
   (S.contains i=false∧j9 P ops o φ st (fun r st'=>ET P ops S K f (listed.setIfInBounds i true) (φ.put o.dst r) st')))
theorem RD{ops:Array Oper}{S:List Nat}{K:AF→aA→Prop}:∀(f:Nat) (listed:Array Bool) (φ:AF) (st:aA),ET P ops S K f listed φ st→L5 P ops K f listed φ st
 | 0,_,_,_,h=>h
 | f+1,listed,φ,st,h=>by
  refine⟨h.1,fun i hi=>?_⟩
  obtain⟨o,ho,h2⟩:=h.2 i hi
  refine⟨o,ho,?_⟩
  rcases h2 with ⟨_,r,y,k⟩ | ⟨_,k⟩
  · exact Z0 y (RD f _ _ _ k)
  · exact uG (fun r s q=>RD f _ _ _ q) k
def tY(ops:Array Oper)(listed:Array Bool):Prop:=∀j o,ops[j]?=some o→listed.getD j false=true→∀e∈o.after,Region.binds .any e=true→listed.getD e.on false=true
theorem tY.set{ops:Array Oper}{listed:Array Bool}{i:Nat}(h:tY ops listed)(hr:i∈Region.ready .any ops listed):tY ops (listed.setIfInBounds i true):=by
 intro j o ho hl e he hb
 by_cases hji:i=j
 · subst hji
   obtain⟨_,o',ho',d7⟩:=mem_ready.1 hr
   rw[ho'] at ho;cases ho
   exact getD_set_true (d7 e he hb)
 · rw[getD_set_ne false hji] at hl
   exact getD_set_true (h j o ho hl e he hb)
def wH(ops:Array Oper):Nat→Nat→Nat→Bool
 | 0,_,_=>false
 | f+1,j,i=>match ops[j]? with
  | some o=>o.after.any fun e=>Region.binds .any e&&(e.on == i||wH ops f e.on i)
  | none=>false
theorem M3{ops:Array Oper}{listed:Array Bool}{i:Nat}(h:tY ops listed)(hi:listed.getD i false=false):∀(f j:Nat) (o:Oper),ops[j]?=some o→wH ops f j i=true→¬ ∀e∈o.after,Region.binds .any e=true→listed.getD e.on false=true
 | 0,j,o,_,hd=>by simp [wH] at hd
 | f+1,j,o,ho,hd=>by
  intro d7
  simp only[wH,ho] at hd
  obtain⟨e,he,h2⟩:=Array.any_eq_true'.1 hd
  simp only[cF,pP,beq_iff_eq] at h2
  obtain⟨hb,h3⟩:=h2
  have hl:=d7 e he hb
  rcases h3 with h3 | h3
  · rw[h3,hi] at hl;cases hl
  · cases hk:ops[e.on]? with
    | none=>cases f<;>simp [wH,hk] at h3
    | some o2=>exact M3 h hi f e.on o2 hk h3 (h e.on o2 hk hl)
def eN(st s:aA):Prop:=∀b o,st b=some o→s b=some o
theorem eN.refl(st:aA):eN st st:=fun _ _ h=>h
theorem eN.trans{a b c:aA}(x:eN a b)(y:eN b c):eN a c:=fun q o h=>y q o (x q o h)
def ME(o:Oper):Bool:=match o.op with
 | .alloc _=>true
 | _=>false
theorem aVX{ops:Array Oper}{o:Oper}{φ:AF}{st:aA}{K:AV→aA→Prop}(ho:ME o=true)(e:j9 P ops o φ st K):j9 P ops o φ st (fun r st'=>eN st st'∧K r st'):=by
 obtain⟨dst,op,type,pos,after,guard⟩:=o
 cases op<;>simp only[ME,iK] at ho
 unfold j9 at e ⊢
 split at e
 · simp only[fM] at e ⊢
   split at e
   · intro b hb
     refine⟨fun q o hq=>?_,e b hb⟩
     rw[aA.aG _ _ (by rintro rfl;rw[hb] at hq;cases hq)]
     exact hq
   · cases e
 · exact⟨eN.refl _,e⟩
 · cases e
theorem RE{ops:Array Oper}{S:List Nat}{i:Nat}{oi:Oper}{v:AV}{K:AF→aA→Prop}(hi:ops[i]?=some oi)(hS:S.contains i=true) :
 ∀(f:Nat) (listed:Array Bool) (φ:AF) (st:aA),tY ops listed →
  (∀j oj,ops[j]?=some oj→j≠i→listed.getD j true=false→(∀e∈oj.after,Region.binds .any e=true→e.on≠i)→oi.apart ops oj=true) →
  i∈Region.ready .any ops listed→((∀s,kT P s ops oi v φ)∨(kT P st ops oi v φ∧∀j oj,ops[j]?=some oj→listed.getD j true=false→S.contains j=false→∃g,wH ops g j i=true)∨((∀s,eN st s→kT P s ops oi v φ)∧∀j oj,ops[j]?=some oj→listed.getD j true=false→S.contains j=false→(∃g,wH ops g j i=true)∨ME oj=true)) →
  ET P ops S K f (listed.setIfInBounds i true) (φ.put oi.dst v) st→ET P ops S K (f+1) listed φ st:=by
 intro f
 induction f with
 | zero=>
  intro listed φ st hcl _ hr hy H
  have hy0:kT P st ops oi v φ:=by
   rcases hy with h | h | h
   · exact h st
   · exact h.1
   · exact h.1 st (eN.refl st)
  refine⟨fun h=>(by rw[h] at hr;cases hr),fun j hj=>?_⟩
  by_cases hji:j=i
  · subst hji;exact⟨oi,hi,.inl ⟨hS,v,hy0,H⟩⟩
  · have:=ready_mono hj hji
    rw[H.1] at this
    cases this
 | succ f ih=>
  intro listed φ st hcl r9 hr hy H
  have hy0:kT P st ops oi v φ:=by
   rcases hy with h | h | h
   · exact h st
   · exact h.1
   · exact h.1 st (eN.refl st)
  refine⟨fun h=>(by rw[h] at hr;cases hr),fun j hj=>?_⟩
  by_cases hji:j=i
  · subst hji;exact⟨oi,hi,.inl ⟨hS,v,hy0,H⟩⟩
  · obtain⟨oj,hoj,h1⟩:=H.2 j (ready_mono hj hji)
    obtain⟨qW,oj',C7,d7⟩:=mem_ready.1 hj
    have:oj'=oj:=nC (C7.symm.trans hoj)
    subst this
    have hun:=(mem_ready.1 hr).1
    have uY:∀e∈oj'.after,Region.binds .any e=true→e.on≠i:=fun e he hb heq=>by
     have h1:=d7 e he hb
     rw[heq,getD_both hun] at h1
     cases h1
    obtain⟨a1,a2,a3⟩:=Oper.apart_spec (r9 j oj' hoj hji qW uY)
    have wO:∀k ok,ops[k]?=some ok→k≠i→(listed.setIfInBounds j true).getD k true=false →
     (∀e∈ok.after,Region.binds .any e=true→e.on≠i)→oi.apart ops ok=true:=fun k ok hk hki hun hno=>by
     refine r9 k ok hk hki ?_ hno
     by_cases hjk:j=k
     · subst hjk;exact qW
     · rw[getD_set_ne true hjk] at hun;exact hun
    have U7:∀k,(listed.setIfInBounds j true).getD k true=false→listed.getD k true=false:=fun k hk=>by
     by_cases hjk:j=k
     · subst hjk;exact qW
     · rw[getD_set_ne true hjk] at hk;exact hk
    refine⟨oj',hoj,?_⟩
    rcases h1 with ⟨hSj,r,yj,h2⟩ | ⟨hSj,h2⟩
    · refine .inl ⟨hSj,r,(rQ φ v a1).1 yj,ih (listed.setIfInBounds j true) (φ.put oj'.dst r) st (hcl.set hj) wO (ready_mono hr (dH hji)) ?_ ?_⟩
      · rcases hy with h | h | h
        · exact .inl fun s=>(rQ φ r a3).2 (h s)
        · exact .inr (.inl ⟨(rQ φ r a3).2 h.1,fun k ok hk hl hs=>h.2 k ok hk (U7 k hl) hs⟩)
        · exact .inr (.inr ⟨fun s hs=>(rQ φ r a3).2 (h.1 s hs),fun k ok hk hl hs=>h.2 k ok hk (U7 k hl) hs⟩)
      · rw[EE _ _ hji,←put_comm φ v r a2]
        exact h2
    · rcases hy with hf | ⟨_,hd⟩ | ⟨hx,hd⟩
      · refine .inr ⟨hSj,uG (fun r st' h3=>?_) ((RL φ v a1).1 h2)⟩
        refine ih (listed.setIfInBounds j true) (φ.put oj'.dst r) st' (hcl.set hj) wO (ready_mono hr (dH hji)) (.inl fun s=>(rQ φ r a3).2 (hf s)) ?_
        rw[EE _ _ hji,←put_comm φ v r a2]
        exact h3
      · obtain⟨g,hg⟩:=hd j oj' hoj qW hSj
        exact absurd d7 (M3 hcl (getD_both hun) g j oj' hoj hg)
      · rcases hd j oj' hoj qW hSj with ⟨g,hg⟩ | hal
        · exact absurd d7 (M3 hcl (getD_both hun) g j oj' hoj hg)
        · refine .inr ⟨hSj,uG (fun r st' h3=>?_) (aVX hal ((RL φ v a1).1 h2))⟩
          refine ih (listed.setIfInBounds j true) (φ.put oj'.dst r) st' (hcl.set hj) wO (ready_mono hr (dH hji)) (.inr (.inr ⟨fun s hs=>(rQ φ r a3).2 (hx s (h3.1.trans hs)),fun k ok hk hl hs=>hd k ok hk (U7 k hl) hs⟩)) ?_
          rw[EE _ _ hji,←put_comm φ v r a2]
          exact h3.2
def aSU(ops:Array Oper)(S:List Nat)(listed:Array Bool)(i:Nat):Bool:=(List.range ops.size).all fun j=>listed.getD j true||S.contains j||wH ops ops.size j i
def aST(ops:Array Oper)(S:List Nat)(listed:Array Bool)(i:Nat):Bool:=(List.range ops.size).all fun j=>listed.getD j true||S.contains j||wH ops ops.size j i||((ops[j]?).map ME).getD false
def aRL(ops:Array Oper)(i:Nat):Bool:=((ops[i]?).map lP).getD false
def vD(ops:Array Oper)(S:List Nat):List (Nat×Nat)→Array Bool→Bool
 | [],listed=>(Region.ready .any ops listed).isEmpty
 | (i,0)::r,listed=>decide (Region.ready .any ops listed= [i])&& !S.contains i&&vD ops S r (listed.setIfInBounds i true)
 | (i,1)::r,listed=>(Region.ready .any ops listed).contains i&&Region.free .any ops listed i&&S.contains i&&vD ops S r (listed.setIfInBounds i true)
 | (i,_)::r,listed=>(Region.ready .any ops listed).contains i&&Region.free .any ops listed i&&S.contains i&&(aSU ops S listed i||(aRL ops i&&aST ops S listed i))&&vD ops S r (listed.setIfInBounds i true)
def EY(P:Program)(ops:Array Oper)(K:AF→aA→Prop):List (Nat×Nat)→AF→aA→Prop
 | [],φ,st=>K φ st
 | (i,0)::r,φ,st=>∃o,ops[i]?=some o∧j9 P ops o φ st (fun v st'=>EY P ops K r (φ.put o.dst v) st')
 | (i,1)::r,φ,st=>∃o,ops[i]?=some o∧∃v,ZS P ops o v φ∧EY P ops K r (φ.put o.dst v) st
 | (i,_)::r,φ,st=>∃o,ops[i]?=some o∧∃v,kT P st ops o v φ∧EY P ops K r (φ.put o.dst v) st
theorem a6N{t:TypeId}{ok:Bool}{x i r:AV}{st s:aA}(hs:eN st s)(h:qI P st t ok x i=some r):qI P s t ok x i=some r:=by
 unfold qI at *
 split at h
 · rename_i b n
   cases hb:st b with
   | none=>rw[hb] at h;cases h
   | some o=>rw[hs b o hb,←hb];exact h
 · cases h
theorem a6I{t:TypeId}{x r:AV}{st s:aA}(hs:eN st s)(h:iJ P st t x=some r):iJ P s t x=some r:=by
 unfold iJ at *
 split at h
 · exact h
 · rename_i b o
   cases hb:st b with
   | none=>rw[hb] at h;split at h<;>simp_all
   | some o=>rw[hs b o hb,←hb];exact h
 · cases h
theorem ZY{φ:AF}{o:Oper}{r:AV}{st s:aA}(hs:eN st s)(h:mO P φ st o=some r):mO P φ s o=some r:=by
 obtain⟨dst,op,type,pos,after,guard⟩:=o
 cases op
 case makeFunc fn a b=>cases fn<;>exact h
 case call c=>
  obtain⟨callee,args,ats⟩:=c
  cases callee
  case builtin b=>cases b<;>exact h
  all_goals exact h
 case load=>exact a6I hs h
 case lookup=>exact a6N hs h
 all_goals exact h
theorem aV3{ops:Array Oper}{o:Oper}{v:AV}{φ:AF}{st s:aA}(hp:lP o=true)(hs:eN st s)(h:kT P st ops o v φ):kT P s ops o v φ:=by
 rcases h with ⟨h1,h2⟩ | h
 · refine .inl ⟨h1,?_⟩
   rw[uH hp] at h2 ⊢
   cases hv:mO P φ st o with
   | none=>rw[hv] at h2;cases h2
   | some r=>
    rw[hv] at h2
    rw[ZY hs hv]
    exact⟨h2.1,rfl⟩
 · exact .inr h
theorem IA{ops:Array Oper}{S:List Nat}{K:AF→aA→Prop}:∀(p:List (Nat×Nat)) (listed:Array Bool) (φ:AF) (st:aA),tY ops listed→vD ops S p listed=true→EY P ops K p φ st→ET P ops S K p.length listed φ st
 | [],listed,φ,st,_,hB,h=>⟨by simpa [vD] using hB,h⟩
 | (i,0)::r,listed,φ,st,hcl,hB,h=>by
  simp only[vD,cF,bK,mG] at hB
  obtain⟨o,ho,h'⟩:=h
  have hr:i∈Region.ready .any ops listed:=by rw[hB.1.1];simp
  refine⟨fun h0=>(by rw[hB.1.1] at h0;cases h0),fun j hj=>?_⟩
  rw[hB.1.1] at hj
  obtain rfl:j=i:=by simpa using hj
  exact⟨o,ho,.inr ⟨hB.1.2,uG (fun v st' q=>IA r _ _ _ (hcl.set hr) hB.2 q) h'⟩⟩
 | (i,1)::r,listed,φ,st,hcl,hB,h=>by
  simp only[vD,cF] at hB
  obtain⟨⟨⟨hr,hf⟩,hS⟩,hB'⟩:=hB
  obtain⟨o,ho,v,hv,h'⟩:=h
  have hr':i∈Region.ready .any ops listed:=by simpa using hr
  exact RE ho hS _ listed φ st hcl (Region.free_spec ho hf) hr' (.inl hv) (IA r _ _ _ (hcl.set hr') hB' h')
 | (i,k+2)::r,listed,φ,st,hcl,hB,h=>by
  simp only[vD,cF] at hB
  obtain⟨⟨⟨⟨hr,hf⟩,hS⟩,hd⟩,hB'⟩:=hB
  obtain⟨o,ho,v,hv,h'⟩:=h
  have hr':i∈Region.ready .any ops listed:=by simpa using hr
  rw[pP] at hd
  rcases hd with hd | hd
  · refine RE ho hS _ listed φ st hcl (Region.free_spec ho hf) hr' (.inr (.inl ⟨hv,fun j oj hj hl hs=>⟨ops.size,?_⟩⟩)) (IA r _ _ _ (hcl.set hr') hB' h')
    simp only[aSU,eH,xJ] at hd
    have:=hd j (LR.1 hj).1
    simpa only[hl,hs,qD] using this
  · rw[cF] at hd
    obtain⟨hp,hd⟩:=hd
    simp only[aRL,ho,pA,HX] at hp
    refine RE ho hS _ listed φ st hcl (Region.free_spec ho hf) hr' (.inr (.inr ⟨fun s hs=>aV3 hp hs hv,fun j oj hj hl hs=>?_⟩)) (IA r _ _ _ (hcl.set hr') hB' h')
    simp only[aST,eH,xJ] at hd
    have:=hd j (LR.1 hj).1
    simp only[hl,hs,qD,hj,pA,HX,pP] at this
    exact this.imp (fun h=>⟨ops.size,h⟩) id
theorem aWS{N:Nat}{id:Nat}{ops:Array Oper}{Q:Exit→AF→aA→Prop}{φ:AF}{st:aA}(p:List (Nat×Nat))(S:List Nat)(hm:P.follows .mixedOrders=true)(hok:rE N ops=true)(hl:p.length=ops.size)(hB:vD ops S p (Array.replicate ops.size false)=true)
 (h:EY P ops (Q .normal) p φ st):fU P N (.region id ops true) Q φ st:=by
 intro a w R
 refine wp_region_any hm ?_
 have R0:Rel N a { w with drawn:=w.drawn+1 } φ st:=⟨R.size,R.defers,R.frame,R.store⟩
 have:=RD _ _ _ _ (IA p _ φ st (fun j o _ hl=>(by rw[TV] at hl;cases hl)) hB h)
 rw[hl] at this
 exact L6 (A9 hok) (yZ hok) (w0:=w) (st0:=st) (fun φ' st' a' w' k R' T s=>⟨φ',st',R',T,s,k⟩) _ _ _ _ _ _ this R0 (cC.refl _ _) ⟨rfl,rfl,rfl⟩
theorem a6M{t:TypeId}{ok:Bool}{x i r:AV}(h:qI P d9 t ok x i=some r)(st:aA):qI P st t ok x i=some r:=by
 unfold qI at *
 split at h
 · simp only[d9] at h;cases h
 · cases h
theorem a6H{t:TypeId}{x r:AV}(h:iJ P d9 t x=some r)(st:aA):iJ P st t x=some r:=by
 unfold iJ at *
 split at h
 · exact h
 · split at h
   · rename_i h1;simp only[d9] at h1;cases h1
   · cases h
 · cases h
theorem aVZ{φ:AF}{o:Oper}{r:AV}(h:mO P φ d9 o=some r)(st:aA):mO P φ st o=some r:=by
 obtain⟨dst,op,type,pos,after,guard⟩:=o
 cases op
 case makeFunc fn a b=>cases fn<;>exact h
 case call c=>
  obtain⟨callee,args,ats⟩:=c
  cases callee
  case builtin b=>cases b<;>exact h
  all_goals exact h
 case load=>exact a6H h st
 case lookup=>exact a6M h st
 all_goals exact h
def kS(P:Program)(ops:Array Oper)(K:AF→aA→Prop):List (Nat×Nat)→AF→aA→Prop
 | [],φ,st=>K φ st
 | (i,0)::r,φ,st=>match ops[i]? with
  | none=>False
  | some o=>bF P [] ops [o] (fun φ' st'=>kS P ops K r φ' st') φ st
 | (i,1)::r,φ,st=>match ops[i]? with
  | none=>False
  | some o=>if lP o=true then bF P [] ops [o] (fun φ' _=>kS P ops K r φ' st) φ d9 else
   match o.guard,o.op with
   | none,.call { callee:=.value f,args,.. }=>∃v,(∀s,uL P (φ.eval f) (args.toList.map φ.eval) s (fun r' s'=>r'=v∧s'=s))∧kS P ops K r (φ.put o.dst v) st
   | _,_=>False
 | (i,_)::r,φ,st=>match ops[i]? with
  | none=>False
  | some o=>if lP o=true then bF P [] ops [o] (fun φ' _=>kS P ops K r φ' st) φ st else
   match o.guard,o.op with
   | none,.call { callee:=.value f,args,.. }=>∃v,uL P (φ.eval f) (args.toList.map φ.eval) st (fun r' s'=>r'=v∧s'=st)∧kS P ops K r (φ.put o.dst v) st
   | _,_=>False
theorem xS{ops:Array Oper}{K:AF→aA→Prop}:∀(p:List (Nat×Nat)) (φ:AF) (st:aA),kS P ops K p φ st→EY P ops K p φ st
 | [],_,_,h=>h
 | (i,0)::r,φ,st,h=>by
  simp only[kS] at h
  split at h
  · exact h.elim
  · rename_i o ho
    refine⟨o,ho,?_⟩
    simp only[bF] at h
    unfold j9
    split at h
    · rename_i hg
      rw[hg]
      exact CE (fun v s q=>xS r _ _ q) h
    · rename_i hg
      rw[hg]
      exact xS r _ _ h
    · exact h.elim
 | (i,1)::r,φ,st,h=>by
  simp only[kS] at h
  split at h
  · exact h.elim
  · rename_i o ho
    split at h
    · rename_i hp
      simp only[bF] at h
      split at h
      · rename_i hg
        rw[uH hp] at h
        split at h
        · rename_i v hv
          exact⟨o,ho,v,fun s=>.inl ⟨hg,by rw[uH hp,aVZ hv s];exact⟨rfl,rfl⟩⟩,xS r _ _ h⟩
        · exact h.elim
      · rename_i hg
        exact⟨o,ho,.undef,fun s=>.inr ⟨hg,rfl⟩,xS r _ _ h⟩
      · exact h.elim
    · split at h
      · rename_i f args ats hg hop
        obtain⟨v,h1,h2⟩:=h
        refine⟨o,ho,v,fun s=>.inl ⟨by simp only[j8,hg],?_⟩,xS r _ _ h2⟩
        simp only[fM,hop]
        exact h1 s
      · exact h.elim
 | (i,k+2)::r,φ,st,h=>by
  simp only[kS] at h
  split at h
  · exact h.elim
  · rename_i o ho
    split at h
    · rename_i hp
      simp only[bF] at h
      split at h
      · rename_i hg
        rw[uH hp] at h
        split at h
        · rename_i v hv
          exact⟨o,ho,v,.inl ⟨hg,by rw[uH hp,hv];exact⟨rfl,rfl⟩⟩,xS r _ _ h⟩
        · exact h.elim
      · rename_i hg
        exact⟨o,ho,.undef,.inr ⟨hg,rfl⟩,xS r _ _ h⟩
      · exact h.elim
    · split at h
      · rename_i f args ats hg hop
        obtain⟨v,h1,h2⟩:=h
        refine⟨o,ho,v,.inl ⟨by simp only[j8,hg],?_⟩,xS r _ _ h2⟩
        simp only[fM,hop]
        exact h1
      · exact h.elim
end
def WI(P:Program)(ops:Array Oper)(K:AF→aA→Prop)(r:List (Nat×Nat))(φ:AF)(st:aA):Prop:=kS P ops K r φ st
def KJ(P:Program)(ops:Array Oper)(K:AF→aA→Prop)(r:List (Nat×Nat))(st:aA)(φ:AF)(_:aA):Prop:=kS P ops K r φ st
def DP(P:Program)(ops:Array Oper)(K:AF→aA→Prop)(r:List (Nat×Nat))(φ:AF)(dst:Option Tmp)(st:aA)(v:AV):Prop:=kS P ops K r (φ.put dst v) st
def IU(P:Program)(f:AV)(args:List AV)(K:AV→Prop):Prop:=∃v,(∀s,uL P f args s (fun r' s'=>r'=v∧s'=s))∧K v
def GT(P:Program)(ops:Array Oper)(K:AF→aA→Prop)(r:List (Nat×Nat))(φ:AF)(st:aA):Nat→Option Oper→Prop
 | 0,some o=>bF P [] ops [o] (WI P ops K r) φ st
 | 1,some o=>if lP o=true then bF P [] ops [o] (KJ P ops K r st) φ d9 else
  match o.guard,o.op with
  | none,.call { callee:=.value f,args,.. }=>IU P (φ.eval f) (args.toList.map φ.eval) (DP P ops K r φ o.dst st)
  | _,_=>False
 | _,some o=>if lP o=true then bF P [] ops [o] (KJ P ops K r st) φ st else
  match o.guard,o.op with
  | none,.call { callee:=.value f,args,.. }=>AH P (φ.eval f) (args.toList.map φ.eval) st (DP P ops K r φ o.dst st)
  | _,_=>False
 | _,none=>False
theorem aJU{P:Program}{ops:Array Oper}{K:AF→aA→Prop}{φ:AF}{st:aA}:kS P ops K [] φ st=K φ st:=rfl
theorem aJV{P:Program}{l:List Oper}{K:AF→aA→Prop}{φ:AF}{st:aA}{i b:Nat}{r:List (Nat×Nat)}:kS P l.toArray K ((i,b)::r) φ st=GT P l.toArray K r φ st b l[i]?:=by
 match b with
 | 0=>simp only[kS,zR];cases l[i]?<;>rfl
 | 1=>simp only[kS,zR];cases l[i]?<;>rfl
 | b+2=>simp only[kS,zR];cases l[i]?<;>rfl
theorem aJZ{P:Program}{ops:Array Oper}{K:AF→aA→Prop}{φ:AF}{st:aA}{r:List (Nat×Nat)}{o:Oper}:GT P ops K r φ st 0 (some o)=bF P [] ops [o] (WI P ops K r) φ st:=rfl
theorem aJ0{P:Program}{ops:Array Oper}{K:AF→aA→Prop}{φ:AF}{st:aA}{r:List (Nat×Nat)}{o:Oper}:GT P ops K r φ st 1 (some o)=if lP o=true then bF P [] ops [o] (KJ P ops K r st) φ d9 else
      match o.guard,o.op with
      | none,.call { callee:=.value f,args,.. }=>IU P (φ.eval f) (args.toList.map φ.eval) (DP P ops K r φ o.dst st)
      | _,_=>False:=rfl
theorem aJ1{P:Program}{ops:Array Oper}{K:AF→aA→Prop}{φ:AF}{st:aA}{r:List (Nat×Nat)}{o:Oper}:GT P ops K r φ st 2 (some o)=if lP o=true then bF P [] ops [o] (KJ P ops K r st) φ st else
      match o.guard,o.op with
      | none,.call { callee:=.value f,args,.. }=>AH P (φ.eval f) (args.toList.map φ.eval) st (DP P ops K r φ o.dst st)
      | _,_=>False:=rfl
theorem aJY{P:Program}{ops:Array Oper}{K:AF→aA→Prop}{φ:AF}{st:aA}{r:List (Nat×Nat)}:WI P ops K r φ st=kS P ops K r φ st:=rfl
theorem aJX{P:Program}{ops:Array Oper}{K:AF→aA→Prop}{φ:AF}{st s:aA}{r:List (Nat×Nat)}:KJ P ops K r st φ s=kS P ops K r φ st:=rfl
theorem aJW{P:Program}{ops:Array Oper}{K:AF→aA→Prop}{φ:AF}{st:aA}{r:List (Nat×Nat)}{dst:Option Tmp}{v:AV}:DP P ops K r φ dst st v=kS P ops K r (φ.put dst v) st:=rfl
theorem SX{P:Program}{g:FuncId}{args:List AV}{r:AV}{K:AV→Prop}(x:∀st,aD P g args st (fun r' st'=>r'=r∧st'=st))(h:K r):IU P (.func g []) args K:=⟨r,fun st=>by show aD P g (args++ []) st _;rw[gF];exact x st,h⟩
@[congr] theorem bCN {P:Program} {ops:Array Oper} {K:AF→aA→Prop} {p:List (Nat×Nat)} {φ φ':AF} {st st':aA} (h1:φ=φ') (h2:st=st'):kS P ops K p φ st=kS P ops K p φ' st':=by rw[h1,h2]
@[congr] theorem bC1 {P:Program} {ops:Array Oper} {K:AF→aA→Prop} {p:List (Nat×Nat)} {φ φ':AF} {st st':aA} {b:Nat} {o o':Option Oper} (h1:φ=φ') (h2:st=st') (h3:o=o'):GT P ops K p φ st b o=GT P ops K p φ' st' b o':=by rw[h1,h2,h3]
@[congr] theorem bC0 {P:Program} {ops:Array Oper} {K:AF→aA→Prop} {p:List (Nat×Nat)} {φ φ':AF} {dst:Option Tmp} {st st':aA} {v v':AV} (h1:φ=φ') (h2:st=st') (h3:v=v'):DP P ops K p φ dst st v=DP P ops K p φ' dst st' v':=by rw[h1,h2,h3]
@[congr] theorem bCR {P:Program} {f f':AV} {args args':List AV} {K:AV→Prop} (h0:f=f') (h1:args=args'):IU P f args K=IU P f' args' K:=by rw[h0,h1]
theorem zx5{P:Program}{N:Nat}{id:Nat}{l:List Oper}{Q:Exit→AF→aA→Prop}{φ:AF}{st:aA}(p:List (Nat×Nat))(S:List Nat)(hm:P.follows .mixedOrders=true)(hok:rE N l.toArray=true)(hl:p.length=l.length)(hB:vD l.toArray S p (Array.replicate l.length false)=true)
 (h:kS P l.toArray (Q .normal) p φ st):fU P N (.region id l.toArray true) Q φ st:=
 aWS p S hm hok (by simpa using hl) (by simpa using hB) (xS p φ st h)
theorem Z3{P:Program}{t:TypeId}{ag:Bool}{w bytes:Nat}{zs:List AV}{s:aA}{b:Nat}{l xs:List AV}{x:AV}{K:AV→aA→Prop}
 (hI:eI P t=some (ag,w)) (hB:eB P t=some bytes) (hZ:eZ P t=some zs) (hz:zs.length=w) (hx:zZ x=some xs) (fB:wB w xs) (hw:∀e∈l,e.width=w) (hb:l≠[]→s b=some (.cells (l.flatMap AV.cells)))
 (h1:(l.length+xs.length)*bytes≤140737488355328) (h2:l.length+xs.length≤9223372036854775807)
 (hK:∀b' s',(l++xs≠[]→s' b'=some (.cells ((l++xs).flatMap AV.cells)))→(l++xs≠[]→b'=b∧l≠[]∨s b'=none)→(∀q,(l++xs≠[]→q≠b')→(l≠[]→q≠b)→s' q=s q)→(l≠[]→b'≠b→s' b=none)→K (bU w b' (l++xs)) s'):jT P t s (bU w b l) x K:=by
 unfold jT
 rw[hI,hB,hZ,hx]
 refine⟨hz,fB,?_⟩
 cases l with
 | nil=>
  show _∧_∧_∧_∧_
  refine⟨by simpa using h1,by simpa using h2,by simp,?_,?_⟩
  · rintro rfl
    have:=hK b s (by simp) (by simp) (fun _ _ _=>rfl) (by simp)
    simpa [bU] using this
  · intro hne b' hb'
    have:=hK b' (s.aC b' (.cells (xs.flatMap AV.cells))) (fun _=>by rw[aA.aJ];simp) (fun _=>.inr hb') (fun q h _=>aA.aG _ _ (h (by simpa using hne))) (by simp)
    rw[fF,qK hne] at this
    simpa using this
 | cons y l=>
  have hb:=hb (by simp)
  show w=w∧_∧_∧_
  refine⟨rfl,h1,h2,?_⟩
  have hfl:((y::l).flatMap AV.cells).length=(y::l).length*w:=nI hw
  rw[hb]
  refine⟨by rw[hfl];exact cY _,?_,?_⟩
  · have:=hK b (s.aC b (.cells ((y::l++xs).flatMap AV.cells))) (fun _=>aA.aJ _ _ _) (fun _=>.inl ⟨rfl,by simp⟩) (fun q h _=>aA.aG _ _ (h (by simp))) (fun _ h=>absurd rfl h)
    rw[qK (by simp),t8,dQ] at this
    rw[←hfl,dZ]
    exact this
  · intro b' hb'
    have hne:b'≠b:=by rintro rfl;rw[hb] at hb';cases hb'
    have:=hK b' ((s.erase b).aC b' (.cells ((y::l++xs).flatMap AV.cells))) (fun _=>aA.aJ _ _ _) (fun _=>.inr hb') (fun q h h'=>by
     rw[aA.aG _ _ (h (by simp))]
     simp only[aA.erase,h' (by simp),dY]) (fun _ _=>by rw[aA.aG _ _ (dH hne)];exact aA.aDL _ _)
    rw[qK (by simp),t8,dQ] at this
    rw[←hfl,dZ]
    exact this
def tZ(es:List AV)(st:aA)(i:Nat)(os:List AV)(bs:List Nat)(b:Nat)(s:aA):Prop:=
 os.length=i∧aW s (es.take i) os bs∧bs.Nodup∧(∀q∈bs,st q=none)∧(os≠[]→st b=none∧b∉bs∧s b=some (.cells (os.flatMap AV.cells)))∧∀q,q∉bs→(os≠[]→q≠b)→s q=st q
theorem tZ.start{es:List AV}{st:aA}{b:Nat}:tZ es st 0 [] [] b st:=⟨rfl,by simp [aW],lZ,by simp,by simp,fun _ _ _=>rfl⟩
theorem GF{b x:Nat}{l:List AV}:x∈uI b l↔x=b∧l≠[]:=by cases l<;>simp [uI]
theorem tZ.done{es:List AV}{st:aA}{n w:Nat}{os:List AV}{bs:List Nat}{b:Nat}{s:aA}(h:tZ es st n os bs b s)(hl:es.length=n)(hw:∀e∈es,e.width=w):Made st (.slice es) (bU w b os) s:=by
 obtain⟨h1,h2,h3,h4,h5,h6⟩:=h
 rw[nA (by omega)] at h2
 refine⟨uI b os++bs,?_,fun q hq=>?_,?_,fun q hq=>?_⟩
 · rw[mJ]
   refine⟨by cases os<;>simp [uI],h3,fun x hx y hy e=>?_⟩
   obtain⟨rfl,hne⟩:=GF.1 hx
   exact(h5 hne).2.1 (e▸hy)
 · rcases d6.1 hq with hq | hq
   · obtain⟨rfl,hne⟩:=GF.1 hq
     exact(h5 hne).1
   · exact h4 q hq
 · cases os with
   | nil=>
    have:es= []:=by simpa using h2.length.symm
    subst this
    simp only[aW] at h2
    simp only[bM,bU,uI,h2.2]
    exact .inl ⟨trivial,trivial,rfl⟩
   | cons o os=>
    simp only[bM,bU,uI]
    refine .inr ⟨b,bs,o::os,w,by rw[h2.length],rfl,(h5 (by simp)).2.2,h2,hw⟩
 · simp only[d6,GF,nO,not_and] at hq
   exact h6 q hq.2 (fun hne e=>hq.1 e hne)
theorem aW.BU{st:aA}{w:Nat}:∀ {as os:List AV} {bs:List Nat},aW st as os bs→(∀e∈as,e.width=w)→∀o∈os,o.width=w
 | [],os,bs,x,_=>by simp only[aW] at x;rw[x.1];simp
 | a::as,os,bs,x,h=>by
  simp only[aW] at x
  obtain⟨o,os',b1,b2,rfl,rfl,x1,x2⟩:=x
  intro q hq
  rcases c7.1 hq with rfl | hq
  · rw[(bM.shape x1).2.1,h a (by simp)]
  · exact aW.BU x2 (fun e he=>h e (by simp [he])) q hq
theorem bM.aCO{st:aA}{e r:AV}{bs:List Nat}{w:Nat}(m3:bM st e r bs)(hwe:e.width=w)(hst:e.cells.all AV.storable=true):r.width=w∧r.cells.length=w∧r.cells.all AV.storable=true:=by
 refine⟨(bM.shape m3).2.1.trans hwe,by rw[s8,(bM.shape m3).2.1,hwe],?_⟩
 cases e<;>simp only[bM] at m3<;>try exact m3.elim
 case int=>rw[m3.1];try rfl
 case bool=>rw[m3.1];try rfl
 case str=>rw[m3.1];try rfl
 case slice=>rcases m3 with ⟨_,rfl,_⟩ | ⟨_,_,_,_,rfl,_⟩<;>rfl
 case agg cs=>
  obtain⟨q,rfl,m3⟩:=m3
  refine(bM.Z9 m3 fun c hc=>?_).1
  have hst:cs.all AV.storable=true:=hst
  have:=eH.1 hst c hc
  cases c<;>first | rfl | (simp [AV.storable] at this)
theorem tZ.step{es:List AV}{st:aA}{i:Nat}{os:List AV}{bs bx:List Nat}{b x b':Nat}{s s2 s':aA}{o:AO}{e r:AV}(h:tZ es st i os bs b s)(hx:s x=none)(he:es[i]?=some e)
 (m1:bx.Nodup) (m2:∀q∈bx,(s.aC x o) q=none) (m3:bM s2 e r bx) (m4:∀q,q∉bx→s2 q=(s.aC x o) q)
 (k1:s' b'=some (.cells ((os++ [r]).flatMap AV.cells))) (k2:b'=b∧os≠[]∨s2 b'=none) (k3:∀q,q≠b'→(os≠[]→q≠b)→s' q=s2 q) (k4:os≠[]→b'≠b→s' b=none) :
 tZ es st (i+1) (os++ [r]) (bs++bx) b' (s'.erase x):=by
 obtain⟨h1,h2,h3,h4,h5,h6⟩:=h
 have A4:=aW.gY _ _ _ h2
 have hi:i<es.length:=(fL.1 he).1
 have wT:∀q∈bs,s q≠none:=fun q hq=>by obtain⟨cs,e1,_⟩:=A4.2 q hq;rw[e1];simp
 have a5C:x∉bs:=fun hq=>wT x hq hx
 have hxb:os≠[]→x≠b:=fun hne e=>by have:=(h5 hne).2.2;rw[←e,hx] at this;cases this
 have VA:x∉bx:=fun hq=>by have:=m2 x hq;rw[aA.aJ] at this;cases this
 have hbx:∀q∈bx,s q=none:=fun q hq=>by
  have:=m2 q hq
  have hne:q≠x:=fun e=>VA (e▸hq)
  rwa [aA.aG _ _ hne] at this
 have wL:∀q∈bs,q∉bx:=fun q hq hq'=>wT q hq (hbx q hq')
 have aO3:os≠[]→b∉bx:=fun hne hq=>by have:=hbx b hq;rw[(h5 hne).2.2] at this;cases this
 have a43:s2 x=some o:=by rw[m4 x VA,aA.aJ]
 have hs2:∀q,q∉bx→q≠x→s2 q=s q:=fun q h1 h2=>by rw[m4 q h1,aA.aG _ _ h2]
 have UG:b'≠x:=by
  rcases k2 with ⟨rfl,hne⟩ | hn
  · exact dH (hxb hne)
  · rintro rfl;rw[a43] at hn;cases hn
 have NU:b'∉bx:=by
  rcases k2 with ⟨rfl,hne⟩ | hn
  · exact aO3 hne
  · intro hq
    obtain⟨cs,e1,_⟩:=(bM.gY _ _ _ m3).2.2 b' hq
    rw[e1] at hn;cases hn
 have UF:b'∉bs:=by
  rcases k2 with ⟨rfl,hne⟩ | hn
  · exact(h5 hne).2.1
  · intro hq
    rw[hs2 b' NU UG] at hn
    exact wT b' hq hn
 have a44:st b'=none:=by
  rcases k2 with ⟨rfl,hne⟩ | hn
  · exact(h5 hne).1
  · rw[hs2 b' NU UG] at hn
    by_cases hbb:os≠[]∧b'=b
    · rw[hbb.2];exact(h5 hbb.1).1
    · rw[←h6 b' UF (fun hne e=>hbb ⟨hne,e⟩)];exact hn
 have a3G:os≠[]→∀q∈bs,q≠b:=fun hne q hq e=>(h5 hne).2.1 (e▸hq)
 have F3:∀q∈bs,(s'.erase x) q=s q:=fun q hq=>by
  have hqx:q≠x:=fun e=>a5C (e▸hq)
  simp only[aA.erase,hqx,dY]
  rw[k3 q (fun e=>UF (e▸hq)) (fun hne=>a3G hne q hq),hs2 q (wL q hq) hqx]
 have a4D:∀q∈bx,(s'.erase x) q=s2 q:=fun q hq=>by
  have hqx:q≠x:=fun e=>VA (e▸hq)
  simp only[aA.erase,hqx,dY]
  exact k3 q (fun e=>NU (e▸hq)) (fun hne e=>aO3 hne (e▸hq))
 refine⟨by simp [h1],?_,mJ.2 ⟨h3,m1,fun a ha c hc e=>wL a ha (e▸hc)⟩,fun q hq=>?_,fun _=>⟨a44,?_,?_⟩,fun q hq hqb=>?_⟩
 · rw[eD,he]
   exact aW.snoc h2 F3 (bM.aV _ _ _ a4D m3)
 · rcases d6.1 hq with hq | hq
   · exact h4 q hq
   · by_cases hbb:os≠[]∧q=b
     · rw[hbb.2];exact(h5 hbb.1).1
     · by_cases hqs:q∈bs
       · exact h4 q hqs
       · rw[←h6 q hqs (fun hne e=>hbb ⟨hne,e⟩)];exact hbx q hq
 · intro hq
   rcases d6.1 hq with hq | hq
   · exact UF hq
   · exact NU hq
 · simp only[aA.erase,UG,dY]
   exact k1
 · simp only[d6,nO] at hq
   have aPS:=hqb (by simp)
   by_cases hqx:q=x
   · subst hqx
     simp only[aA.erase,eX]
     rw[←h6 q hq.1 hxb,hx]
   · simp only[aA.erase,hqx,dY]
     by_cases hbb:os≠[]∧q=b
     · rw[hbb.2,k4 hbb.1 (fun e=>aPS (hbb.2.trans e.symm)),(h5 hbb.1).1]
     · rw[k3 q aPS (fun hne e=>hbb ⟨hne,e⟩),hs2 q hq.2 hqx]
       exact h6 q hq.1 (fun hne e=>hbb ⟨hne,e⟩)
theorem aD.done{P:Program}{g:FuncId}{args:List AV}{st:aA}{r:AV}(x:aD P g args st (fun r' st'=>r'.soft=r∧aL st' st)):aD P g args st (fun r' st'=>r'=r∧st'=st):=
 aD.oK (aD.soft x)
theorem aD.nG{P:Program}{g:FuncId}{args:List AV}{st:aA}{Q:AV→aA→Prop}(x:aD P g args st (fun r st'=>∃s2,aL st' s2∧Q r s2)):aD P g args st Q:=
 x.mE fun r _ ⟨s2,D,q⟩=>⟨r,s2,D.rJ,D.mE r,q⟩
theorem iT{cs:List AV}:(AV.agg cs).soft=.agg (cs.map AV.soft):=by simp only[AV.soft,DW]
theorem jZ{cs:List AV}:(AV.tup cs).soft=.tup (cs.map AV.soft):=by simp only[AV.soft,DW]
theorem iU{k:IntKind}{n:Int}:(AV.int k n).soft=.int k n:=rfl
theorem sI{b:Bool}:(AV.bool b).soft=.bool b:=rfl
theorem nT{s:ByteArray}:(AV.str s).soft=.str s:=rfl
theorem n9{es:List AV}:(AV.slice es).soft=.slice es:=rfl
theorem mV{es:List AV}:(AV.fslice es).soft=.slice es:=rfl
def yF(b:Nat)(l:List AV):List (Nat×AV)→List (Nat×AV)
 | []=>[]
 | p::r=>(p.1,p.2.fin b l)::yF b l r
theorem aHK{b:Nat}{l:List AV}:yF b l []= []:=rfl
theorem aHL{b d:Nat}{l:List AV}{v:AV}{r:List (Nat×AV)}:yF b l ((d,v)::r)=(d,v.fin b l)::yF b l r:=rfl
theorem a2I{b:Nat}{l:List AV}:AV.junk.fin b l=.junk:=by unfold AV.fin;split<;>rfl
theorem lU{w b:Nat}{l:List AV}:(bU w b l).fin b l=.slice l:=oH
theorem a6D{st:aA}(b:Nat)(l:List AV)(hb:l≠[]→st b=none)(hj:∀e∈l,e.cE=false)(hE:iV l)(L:List (Nat×AV)):gJ (kW L) (aZ st b l) (kW (yF b l L)) st:=by
 have key:∀L d,kW (yF b l L) d=(kW L d).fin b l:=by
  intro L
  induction L with
  | nil=>intro d;exact a2I.symm
  | cons p r ih=>
   obtain⟨e,v⟩:=p
   intro d
   show((kW (yF b l r)).aC e (v.fin b l)) d=(((kW r).aC e v) d).fin b l
   simp only[AF.aC]
   split
   · rfl
   · exact ih d
 intro h tmps S F
 cases l with
 | nil=>exact⟨S,cC.refl _ _,fun d=>by rw[key];exact(F d).soft⟩
 | cons y l=>
  have hst:(aZ st b (y::l)) b=some (.cells ((y::l).flatMap AV.cells)):=aA.aJ _ _ _
  have he:(aZ st b (y::l)).erase b=st:=aA.AQ st b _ (hb (by simp))
  have L1:gJ (kW L) (aZ st b (y::l)) (fun d=>(kW L d).fz b (y::l)) st:=by
   have:=gJ.freeze (φ:=kW L) hst hj hE
   rwa [he] at this
  obtain⟨a1,a2,a3⟩:=L1 h tmps S F
  exact⟨a1,a2,fun d=>by rw[key];exact(a3 d).soft⟩
theorem rK{P:Program}{N:Nat}{c:Code}{Q:Exit→AF→aA→Prop}{φ:AF}{st:aA}{α σ:Type}(mt:List Nat)(aV:List Nat)(l:List α)(w d:Nat)(acc:Nat→σ→List AV)(inv:Nat→σ→Prop)(ch:Nat→σ→List (Nat×AV))(so:Nat→σ→aA)
 (hw:∀i s,inv i s→∀e∈acc i s,e.cE=false∧e.width=w)
 (hok:codeOk N c=true)
 (h0:∃s b,inv 0 s∧(acc 0 s≠[]→so 0 s b=none)∧aM φ st (lV φ aV ((d,bU w b (acc 0 s))::ch 0 s)) (aZ (so 0 s) b (acc 0 s)))
 (h1:∀i x s b,l[i]?=some x→i<l.length→((i:Int)<(l.length:Int))→l.drop i=x::l.drop (i+1)→inv i s→(acc i s≠[]→so i s b=none) →
  gT P N mt c (rA (fun φ' st'=>∃s' b',inv (i+1) s'∧(acc (i+1) s'≠[]→so (i+1) s' b'=none)∧aM φ' st' (lV φ aV ((d,bU w b' (acc (i+1) s'))::ch (i+1) s')) (aZ (so (i+1) s') b' (acc (i+1) s'))) Q) (yH (lV φ aV ((d,bU w b (acc i s))::ch i s))) (aZ (so i s) b (acc i s)))
 (h2:∀s b,¬((l.length:Int)<(l.length:Int))→inv l.length s→gT P N mt c (rA (fun _ _=>False) Q) (yH (yF b (acc l.length s) (lV φ aV ((d,bU w b (acc l.length s))::ch l.length s)))) (so l.length s)):fU P N (.loop c) Q φ st:=by
 have mE:∀(k:AF→aA→Prop) (φ0:AF) (st0:aA) (k':AF→aA→Prop),(∀φ' st',k' φ' st'→k φ' st') →
  fU P N c (rA k' Q) φ0 st0→fU P N c (rA k Q) φ0 st0:=by
  intro k φ0 st0 k' hk hr a w R
  refine wp_mono (hr a w R) ?_
  rintro e a' w' ⟨φ',st',R',T,sm,q⟩
  refine⟨φ',st',R',T,sm,?_⟩
  cases e with
  | normal=>exact hk _ _ q
  | _=>exact q
 refine RX (α:=Nat×σ×Nat) (fun p=>p.1≤l.length∧inv p.1 p.2.1∧(acc p.1 p.2.1≠[]→so p.1 p.2.1 p.2.2=none)) (fun p=>kW (lV φ aV ((d,bU w p.2.2 (acc p.1 p.2.1))::ch p.1 p.2.1))) (fun p=>aZ (so p.1 p.2.1) p.2.2 (acc p.1 p.2.1)) (fun p=>l.length - p.1) ?_ ?_
 · obtain⟨s,b,hs,hb,hl⟩:=h0
   exact⟨(0,s,b),⟨jE _,hs,hb⟩,hl⟩
 · rintro⟨i,s,b⟩ ⟨hi,hs,hb⟩
   simp only at hi hs hb ⊢
   rcases mL i l.length with hlt | hge
   · refine mE _ _ _ _ ?_ (AC mt hok (h1 i l[i] s b (eA hlt) hlt (by omega) (qF hlt) hs hb))
     rintro φ' st' ⟨s',b',h1',h2',h3'⟩
     exact⟨(i+1,s',b'),by simp only;omega,⟨by simp only;omega,h1',h2'⟩,h3'⟩
   · obtain rfl:i=l.length:=by omega
     refine fU.less (a6D b (acc l.length s) hb (fun e he=>(hw _ s hs e he).1) ⟨w,fun e he=>(hw _ s hs e he).2⟩ _) ?_
     refine mE _ _ _ _ ?_ (AC mt hok (h2 s b (by omega) hs))
     exact fun _ _ h=>h.elim
section
variable {P:Program}
def TJ(ops:Array Oper)(S:List Nat)(j:Nat):Bool:=S.all fun i=>wH ops ops.size j i
def xP(P:Program)(ops:Array Oper)(S:List Nat)(s0:aA)(K:AF→aA→Prop):Nat→Array Bool→AF→aA→Prop
 | 0,listed,φ,st=>Region.ready .any ops listed= []∧K φ st
 | f+1,listed,φ,st=>(Region.ready .any ops listed= []→K φ st)∧∀i∈Region.ready .any ops listed,∃o,ops[i]?=some o ∧
  ((S.contains i=true∧∃r,kT P st ops o r φ∧xP P ops S s0 K f (listed.setIfInBounds i true) (φ.put o.dst r) st) ∨
   (S.contains i=false∧j9 P ops o φ st (fun r st'=>(TJ ops S i=true∨eN s0 st')∧xP P ops S s0 K f (listed.setIfInBounds i true) (φ.put o.dst r) st')))
theorem L7{ops:Array Oper}{S:List Nat}{s0:aA}{K:AF→aA→Prop}:∀(f:Nat) (listed:Array Bool) (φ:AF) (st:aA),xP P ops S s0 K f listed φ st→L5 P ops K f listed φ st
 | 0,_,_,_,h=>h
 | f+1,listed,φ,st,h=>by
  refine⟨h.1,fun i hi=>?_⟩
  obtain⟨o,ho,h2⟩:=h.2 i hi
  refine⟨o,ho,?_⟩
  rcases h2 with ⟨_,r,y,k⟩ | ⟨_,k⟩
  · exact Z0 y (L7 f _ _ _ k)
  · exact uG (fun r s q=>L7 f _ _ _ q.2) k
theorem ZQ{ops:Array Oper}{S:List Nat}{s0:aA}{i:Nat}{oi:Oper}{v:AV}{K:AF→aA→Prop}(hi:ops[i]?=some oi)(hS:S.contains i=true) :
 ∀(f:Nat) (listed:Array Bool) (φ:AF) (st:aA),tY ops listed →
  (∀j oj,ops[j]?=some oj→j≠i→listed.getD j true=false→(∀e∈oj.after,Region.binds .any e=true→e.on≠i)→oi.apart ops oj=true) →
  i∈Region.ready .any ops listed→(∀s,eN s0 s→kT P s ops oi v φ)→eN s0 st →
  xP P ops S s0 K f (listed.setIfInBounds i true) (φ.put oi.dst v) st→xP P ops S s0 K (f+1) listed φ st:=by
 intro f
 induction f with
 | zero=>
  intro listed φ st hcl _ hr hy hx H
  refine⟨fun h=>(by rw[h] at hr;cases hr),fun j hj=>?_⟩
  by_cases hji:j=i
  · subst hji;exact⟨oi,hi,.inl ⟨hS,v,hy st hx,H⟩⟩
  · have:=ready_mono hj hji
    rw[H.1] at this
    cases this
 | succ f ih=>
  intro listed φ st hcl r9 hr hy hx H
  refine⟨fun h=>(by rw[h] at hr;cases hr),fun j hj=>?_⟩
  by_cases hji:j=i
  · subst hji;exact⟨oi,hi,.inl ⟨hS,v,hy st hx,H⟩⟩
  · obtain⟨oj,hoj,h1⟩:=H.2 j (ready_mono hj hji)
    obtain⟨qW,oj',C7,d7⟩:=mem_ready.1 hj
    have:oj'=oj:=nC (C7.symm.trans hoj)
    subst this
    have hun:=(mem_ready.1 hr).1
    have uY:∀e∈oj'.after,Region.binds .any e=true→e.on≠i:=fun e he hb heq=>by
     have h1:=d7 e he hb
     rw[heq,getD_both hun] at h1
     cases h1
    obtain⟨a1,a2,a3⟩:=Oper.apart_spec (r9 j oj' hoj hji qW uY)
    have wO:∀k ok,ops[k]?=some ok→k≠i→(listed.setIfInBounds j true).getD k true=false →
     (∀e∈ok.after,Region.binds .any e=true→e.on≠i)→oi.apart ops ok=true:=fun k ok hk hki hun hno=>by
     refine r9 k ok hk hki ?_ hno
     by_cases hjk:j=k
     · subst hjk;exact qW
     · rw[getD_set_ne true hjk] at hun;exact hun
    refine⟨oj',hoj,?_⟩
    rcases h1 with ⟨hSj,r,yj,h2⟩ | ⟨hSj,h2⟩
    · refine .inl ⟨hSj,r,(rQ φ v a1).1 yj,ih (listed.setIfInBounds j true) (φ.put oj'.dst r) st (hcl.set hj) wO (ready_mono hr (dH hji)) (fun s hs=>(rQ φ r a3).2 (hy s hs)) hx ?_⟩
      rw[EE _ _ hji,←put_comm φ v r a2]
      exact h2
    · refine .inr ⟨hSj,uG (fun r st' h3=>?_) ((RL φ v a1).1 h2)⟩
      refine⟨h3.1,?_⟩
      have hx':eN s0 st':=by
       rcases h3.1 with he | he
       · exfalso
         unfold TJ at he
         have hd:=eH.1 he i (by simpa using hS)
         exact M3 hcl (getD_both hun) _ j oj' hoj hd d7
       · exact he
      refine ih (listed.setIfInBounds j true) (φ.put oj'.dst r) st' (hcl.set hj) wO (ready_mono hr (dH hji)) (fun s hs=>(rQ φ r a3).2 (hy s hs)) hx' ?_
      rw[EE _ _ hji,←put_comm φ v r a2]
      exact h3.2
def tN(ops:Array Oper)(S:List Nat):List (Nat×Nat)→Array Bool→Bool
 | [],listed=>(Region.ready .any ops listed).isEmpty
 | (i,0)::r,listed=>decide (Region.ready .any ops listed= [i])&& !S.contains i&&tN ops S r (listed.setIfInBounds i true)
 | (i,1)::r,listed=>(Region.ready .any ops listed).contains i&&Region.free .any ops listed i&&S.contains i&&tN ops S r (listed.setIfInBounds i true)
 | (i,_)::r,listed=>decide (Region.ready .any ops listed= [i])&& !S.contains i&&TJ ops S i&&tN ops S r (listed.setIfInBounds i true)
def CD(P:Program)(ops:Array Oper)(s0:aA)(K:AF→aA→Prop):List (Nat×Nat)→AF→aA→Prop
 | [],φ,st=>K φ st
 | (i,0)::r,φ,st=>∃o,ops[i]?=some o∧j9 P ops o φ st (fun v st'=>eN s0 st'∧CD P ops s0 K r (φ.put o.dst v) st')
 | (i,1)::r,φ,st=>∃o,ops[i]?=some o∧∃v,(∀s,eN s0 s→kT P s ops o v φ)∧CD P ops s0 K r (φ.put o.dst v) st
 | (i,_)::r,φ,st=>∃o,ops[i]?=some o∧j9 P ops o φ st (fun v st'=>CD P ops s0 K r (φ.put o.dst v) st')
def DF:List (Nat×Nat)→Bool
 | []=>true
 | (_,0)::r=>DF r
 | (_,1)::r=>DF r
 | (_,_)::r=>r.all fun p=>p.2 != 1
theorem H9{ops:Array Oper}{S:List Nat}{s0:aA}{K:AF→aA→Prop}:∀(p:List (Nat×Nat)) (listed:Array Bool) (φ:AF) (st:aA),tY ops listed→tN ops S p listed=true→(DF p=true∧eN s0 st∨(p.all fun q=>q.2 != 1)=true)→CD P ops s0 K p φ st→xP P ops S s0 K p.length listed φ st
 | [],listed,φ,st,_,hB,hx,h=>⟨by simpa [tN] using hB,h⟩
 | (i,0)::r,listed,φ,st,hcl,hB,hx,h=>by
  simp only[tN,cF,bK,mG] at hB
  obtain⟨o,ho,h'⟩:=h
  have hr:i∈Region.ready .any ops listed:=by rw[hB.1.1];simp
  refine⟨fun h0=>(by rw[hB.1.1] at h0;cases h0),fun j hj=>?_⟩
  rw[hB.1.1] at hj
  obtain rfl:j=i:=by simpa using hj
  refine⟨o,ho,.inr ⟨hB.1.2,uG (fun v st' q=>⟨.inr q.1,H9 r _ _ _ (hcl.set hr) hB.2 ?_ q.2⟩) h'⟩⟩
  rcases hx with hx | hx
  · exact .inl ⟨hx.1,q.1⟩
  · refine .inr ?_
    simp only[kJ,cF] at hx
    exact hx.2
 | (i,1)::r,listed,φ,st,hcl,hB,hx,h=>by
  simp only[tN,cF] at hB
  obtain⟨⟨⟨hr,hf⟩,hS⟩,hB'⟩:=hB
  obtain⟨o,ho,v,hv,h'⟩:=h
  have hr':i∈Region.ready .any ops listed:=by simpa using hr
  rcases hx with hx | hx
  · exact ZQ ho hS _ listed φ st hcl (Region.free_spec ho hf) hr' hv hx.2 (H9 r _ _ _ (hcl.set hr') hB' (.inl hx) h')
  · simp at hx
 | (i,k+2)::r,listed,φ,st,hcl,hB,hx,h=>by
  simp only[tN,cF,bK,mG] at hB
  obtain⟨o,ho,h'⟩:=h
  have hr:i∈Region.ready .any ops listed:=by rw[hB.1.1.1];simp
  refine⟨fun h0=>(by rw[hB.1.1.1] at h0;cases h0),fun j hj=>?_⟩
  rw[hB.1.1.1] at hj
  obtain rfl:j=i:=by simpa using hj
  refine⟨o,ho,.inr ⟨hB.1.1.2,uG (fun v st' q=>⟨.inl hB.1.2,H9 r _ _ _ (hcl.set hr) hB.2 (.inr ?_) q⟩) h'⟩⟩
  rcases hx with hx | hx
  · exact hx.1
  · simp only[kJ,cF] at hx
    exact hx.2
theorem aWT{N:Nat}{id:Nat}{ops:Array Oper}{Q:Exit→AF→aA→Prop}{φ:AF}{st:aA}(p:List (Nat×Nat))(S:List Nat)(s0:aA)(hm:P.follows .mixedOrders=true)(hok:rE N ops=true)(hl:p.length=ops.size)(hB:tN ops S p (Array.replicate ops.size false)=true)(hf:DF p=true)(hs:eN s0 st)
 (h:CD P ops s0 (Q .normal) p φ st):fU P N (.region id ops true) Q φ st:=by
 intro a w R
 refine wp_region_any hm ?_
 have R0:Rel N a { w with drawn:=w.drawn+1 } φ st:=⟨R.size,R.defers,R.frame,R.store⟩
 have:=L7 _ _ _ _ (H9 p _ φ st (fun j o _ hl=>(by rw[TV] at hl;cases hl)) hB (.inl ⟨hf,hs⟩) h)
 rw[hl] at this
 exact L6 (A9 hok) (yZ hok) (w0:=w) (st0:=st) (fun φ' st' a' w' k R' T s=>⟨φ',st',R',T,s,k⟩) _ _ _ _ _ _ this R0 (cC.refl _ _) ⟨rfl,rfl,rfl⟩
def iX(P:Program)(ops:Array Oper)(s0:aA)(K:AF→aA→Prop):List (Nat×Nat)→AF→aA→Prop
 | [],φ,st=>K φ st
 | (i,0)::r,φ,st=>match ops[i]? with
  | none=>False
  | some o=>bF P [] ops [o] (fun φ' st'=>eN s0 st'∧iX P ops s0 K r φ' st') φ st
 | (i,1)::r,φ,st=>match ops[i]? with
  | none=>False
  | some o=>if lP o=true then bF P [] ops [o] (fun φ' _=>iX P ops s0 K r φ' st) φ s0 else
   match o.guard,o.op with
   | none,.call { callee:=.value f,args,.. }=>∃v,(∀s,eN s0 s→uL P (φ.eval f) (args.toList.map φ.eval) s (fun r' s'=>r'=v∧s'=s))∧iX P ops s0 K r (φ.put o.dst v) st
   | _,_=>False
 | (i,_)::r,φ,st=>match ops[i]? with
  | none=>False
  | some o=>bF P [] ops [o] (fun φ' st'=>iX P ops s0 K r φ' st') φ st
theorem v8{ops:Array Oper}{s0:aA}{K:AF→aA→Prop}:∀(p:List (Nat×Nat)) (φ:AF) (st:aA),iX P ops s0 K p φ st→CD P ops s0 K p φ st
 | [],_,_,h=>h
 | (i,0)::r,φ,st,h=>by
  simp only[iX] at h
  split at h
  · exact h.elim
  · rename_i o ho
    refine⟨o,ho,?_⟩
    simp only[bF] at h
    unfold j9
    split at h
    · rename_i hg
      rw[hg]
      exact CE (fun v s q=>⟨q.1,v8 r _ _ q.2⟩) h
    · rename_i hg
      rw[hg]
      exact⟨h.1,v8 r _ _ h.2⟩
    · exact h.elim
 | (i,1)::r,φ,st,h=>by
  simp only[iX] at h
  split at h
  · exact h.elim
  · rename_i o ho
    split at h
    · rename_i hp
      simp only[bF] at h
      split at h
      · rename_i hg
        rw[uH hp] at h
        split at h
        · rename_i v hv
          refine⟨o,ho,v,fun s hs=>.inl ⟨hg,?_⟩,v8 r _ _ h⟩
          rw[uH hp,ZY hs hv]
          exact⟨rfl,rfl⟩
        · exact h.elim
      · rename_i hg
        exact⟨o,ho,.undef,fun s _=>.inr ⟨hg,rfl⟩,v8 r _ _ h⟩
      · exact h.elim
    · split at h
      · rename_i f args ats hg hop
        obtain⟨v,h1,h2⟩:=h
        refine⟨o,ho,v,fun s hs=>.inl ⟨by simp only[j8,hg],?_⟩,v8 r _ _ h2⟩
        simp only[fM,hop]
        exact h1 s hs
      · exact h.elim
 | (i,k+2)::r,φ,st,h=>by
  simp only[iX] at h
  split at h
  · exact h.elim
  · rename_i o ho
    refine⟨o,ho,?_⟩
    simp only[bF] at h
    unfold j9
    split at h
    · rename_i hg
      rw[hg]
      exact CE (fun v s q=>v8 r _ _ q) h
    · rename_i hg
      rw[hg]
      exact v8 r _ _ h
    · exact h.elim
end
def WJ(P:Program)(ops:Array Oper)(s0:aA)(K:AF→aA→Prop)(r:List (Nat×Nat))(φ:AF)(st:aA):Prop:=eN s0 st∧iX P ops s0 K r φ st
def WH(P:Program)(ops:Array Oper)(s0:aA)(K:AF→aA→Prop)(r:List (Nat×Nat))(φ:AF)(st:aA):Prop:=iX P ops s0 K r φ st
def WG(P:Program)(ops:Array Oper)(s0:aA)(K:AF→aA→Prop)(r:List (Nat×Nat))(st:aA)(φ:AF)(_:aA):Prop:=iX P ops s0 K r φ st
def WF(P:Program)(ops:Array Oper)(s0:aA)(K:AF→aA→Prop)(r:List (Nat×Nat))(φ:AF)(dst:Option Tmp)(st:aA)(v:AV):Prop:=iX P ops s0 K r (φ.put dst v) st
def IV(P:Program)(s0:aA)(f:AV)(args:List AV)(K:AV→Prop):Prop:=∃v,(∀s,eN s0 s→uL P f args s (fun r' s'=>r'=v∧s'=s))∧K v
theorem MW{P:Program}{s0:aA}{g:FuncId}{args:List AV}{r:AV}{K:AV→Prop}(x:∀st,eN s0 st→aD P g args st (fun r' st'=>r'=r∧st'=st))(h:K r):IV P s0 (.func g []) args K:=⟨r,fun st hs=>by show aD P g (args++ []) st _;rw[gF];exact x st hs,h⟩
@[congr] theorem bCS {P:Program} {s0:aA} {f f':AV} {args args':List AV} {K:AV→Prop} (h0:f=f') (h1:args=args'):IV P s0 f args K=IV P s0 f' args' K:=by rw[h0,h1]
def GU(P:Program)(ops:Array Oper)(s0:aA)(K:AF→aA→Prop)(r:List (Nat×Nat))(φ:AF)(st:aA):Nat→Option Oper→Prop
 | 0,some o=>bF P [] ops [o] (WJ P ops s0 K r) φ st
 | 1,some o=>if lP o=true then bF P [] ops [o] (WG P ops s0 K r st) φ s0 else
  match o.guard,o.op with
  | none,.call { callee:=.value f,args,.. }=>IV P s0 (φ.eval f) (args.toList.map φ.eval) (WF P ops s0 K r φ o.dst st)
  | _,_=>False
 | _,some o=>bF P [] ops [o] (WH P ops s0 K r) φ st
 | _,none=>False
theorem aJ2{P:Program}{ops:Array Oper}{s0:aA}{K:AF→aA→Prop}{φ:AF}{st:aA}:iX P ops s0 K [] φ st=K φ st:=rfl
theorem aJ3{P:Program}{l:List Oper}{s0:aA}{K:AF→aA→Prop}{φ:AF}{st:aA}{i b:Nat}{r:List (Nat×Nat)}:iX P l.toArray s0 K ((i,b)::r) φ st=GU P l.toArray s0 K r φ st b l[i]?:=by
 match b with
 | 0=>simp only[iX,zR];cases l[i]?<;>rfl
 | 1=>simp only[iX,zR];cases l[i]?<;>rfl
 | b+2=>simp only[iX,zR];cases l[i]?<;>rfl
theorem aJ8{P:Program}{ops:Array Oper}{s0:aA}{K:AF→aA→Prop}{φ:AF}{st:aA}{r:List (Nat×Nat)}{o:Oper}:GU P ops s0 K r φ st 0 (some o)=bF P [] ops [o] (WJ P ops s0 K r) φ st:=rfl
theorem aJ9{P:Program}{ops:Array Oper}{s0:aA}{K:AF→aA→Prop}{φ:AF}{st:aA}{r:List (Nat×Nat)}{o:Oper}:GU P ops s0 K r φ st 1 (some o)=if lP o=true then bF P [] ops [o] (WG P ops s0 K r st) φ s0 else
      match o.guard,o.op with
      | none,.call { callee:=.value f,args,.. }=>IV P s0 (φ.eval f) (args.toList.map φ.eval) (WF P ops s0 K r φ o.dst st)
      | _,_=>False:=rfl
theorem aKA{P:Program}{ops:Array Oper}{s0:aA}{K:AF→aA→Prop}{φ:AF}{st:aA}{r:List (Nat×Nat)}{o:Oper}:GU P ops s0 K r φ st 2 (some o)=bF P [] ops [o] (WH P ops s0 K r) φ st:=rfl
theorem aJ7{P:Program}{ops:Array Oper}{s0:aA}{K:AF→aA→Prop}{φ:AF}{st:aA}{r:List (Nat×Nat)}:WJ P ops s0 K r φ st=(eN s0 st∧iX P ops s0 K r φ st):=rfl
theorem aJ6{P:Program}{ops:Array Oper}{s0:aA}{K:AF→aA→Prop}{φ:AF}{st:aA}{r:List (Nat×Nat)}:WH P ops s0 K r φ st=iX P ops s0 K r φ st:=rfl
theorem aJ5{P:Program}{ops:Array Oper}{s0:aA}{K:AF→aA→Prop}{φ:AF}{st s:aA}{r:List (Nat×Nat)}:WG P ops s0 K r st φ s=iX P ops s0 K r φ st:=rfl
theorem aJ4{P:Program}{ops:Array Oper}{s0:aA}{K:AF→aA→Prop}{φ:AF}{st:aA}{r:List (Nat×Nat)}{dst:Option Tmp}{v:AV}:WF P ops s0 K r φ dst st v=iX P ops s0 K r (φ.put dst v) st:=rfl
@[congr] theorem bCO {P:Program} {ops:Array Oper} {s0:aA} {K:AF→aA→Prop} {p:List (Nat×Nat)} {φ φ':AF} {st st':aA} (h1:φ=φ') (h2:st=st'):iX P ops s0 K p φ st=iX P ops s0 K p φ' st':=by rw[h1,h2]
@[congr] theorem bC2 {P:Program} {ops:Array Oper} {s0:aA} {K:AF→aA→Prop} {p:List (Nat×Nat)} {φ φ':AF} {st st':aA} {b:Nat} {o o':Option Oper} (h1:φ=φ') (h2:st=st') (h3:o=o'):GU P ops s0 K p φ st b o=GU P ops s0 K p φ' st' b o':=by rw[h1,h2,h3]
theorem vU{P:Program}{N:Nat}{id:Nat}{l:List Oper}{Q:Exit→AF→aA→Prop}{φ:AF}{st:aA}(p:List (Nat×Nat))(S:List Nat)(s0:aA)(hm:P.follows .mixedOrders=true)(hok:rE N l.toArray=true)(hl:p.length=l.length)(hB:tN l.toArray S p (Array.replicate l.length false)=true)(hf:DF p=true)(hs:eN s0 st)
 (h:iX P l.toArray s0 (Q .normal) p φ st):fU P N (.region id l.toArray true) Q φ st:=
 aWT p S s0 hm hok (by simpa using hl) (by simpa using hB) hf hs (v8 p φ st h)
def aRV(K:AV→aA→Prop)(st:aA):Option AV→Option AV→Prop
 | some r,some s=>mF [r,s]=true∧K (.tup [r,s]) st
 | _,_=>False
theorem aKQ{P:Program}{φ:AF}{st:aA}{p q:Tmp}{t u:TypeId}{K:AV→aA→Prop}:pK P [.cell p t,.cell q u] K φ st=aRV K st (iJ P st t (φ p)) (iJ P st u (φ q)):=by
 simp only[pK,qJ,EZ]
 cases iJ P st t (φ p)<;>cases iJ P st u (φ q)<;>rfl
theorem aKR{st:aA}{K:AV→aA→Prop}{r s:AV}:aRV K st (some r) (some s)=(mF [r,s]=true∧K (.tup [r,s]) st):=rfl
def one(b:Nat)(o:AO):aA:=d9.aC b o
theorem wY{b:Nat}{o:AO}:one b o b=some o:=aA.aJ _ _ _
theorem fR{b:Nat}{o:AO}{st:aA}(h:st b=some o):eN (one b o) st:=fun x p hx=>by
 simp only[one,aA.aC] at hx
 split at hx
 · rename_i e;cases hx;rw[e];exact h
 · cases hx
theorem eK{st:aA}:eN d9 st:=fun x p hx=>by cases hx
section
variable {α:Type}
def nH(f:α→α→Bool):List α→List α→Bool
 | [],[]=>true
 | x::xs,y::ys=>f x y&&nH f xs ys
 | _,_=>false
theorem TH(f:α→α→Bool):∀ {a b:List α},a.length≠b.length→nH f a b=false
 | [],[],h=>absurd rfl h
 | [],_::_,_=>rfl
 | _::_,[],_=>rfl
 | x::xs,y::ys,h=>by simp only[nH,TH f (a:=xs) (b:=ys) (by simpa using h),vW]
theorem TF(f:α→α→Bool):∀ {a b:List α} (i:Nat) (x y:α),a[i]?=some x→b[i]?=some y→f x y=false→nH f a b=false
 | [],_,i,x,y,h,_,_=>by simp at h
 | _::_,[],i,x,y,_,h,_=>by simp at h
 | t::ts,t'::ts',0,x,y,h1,h2,h=>by
  simp at h1 h2;subst h1;subst h2
  simp only[nH,h,iA]
 | t::ts,t'::ts',i+1,x,y,h1,h2,h=>by
  simp only[nH,TF f (a:=ts) (b:=ts') i x y (by simpa using h1) (by simpa using h2) h,vW]
theorem TE(f:α→α→Bool):∀ {a b:List α},a.length=b.length→(∀(i:Nat) (x y:α),a[i]?=some x→b[i]?=some y→f x y=true)→nH f a b=true
 | [],[],_,_=>rfl
 | t::ts,t'::ts',h,g=>by
  simp only[nH,cF]
  exact⟨g 0 t t' rfl rfl,TE f (by simpa using h) fun i x y h1 h2=>g (i+1) x y (by simpa using h1) (by simpa using h2)⟩
theorem TG{f:α→α→Bool}:∀ {a b:List α},(∀x∈a,∀y,f x y=true↔x=y)→(nH f a b=true↔a=b)
 | [],[],_=>by simp [nH]
 | [],_::_,_=>by simp [nH]
 | _::_,[],_=>by simp [nH]
 | x::xs,y::ys,h=>by
  simp only[nH,cF,List.cons.injEq,h x (by simp) y,TG (a:=xs) (b:=ys) fun z hz=>h z (by simp [hz])]
def bD(f:α→Nat):List α→Nat
 | []=>0
 | x::xs=>f x+bD f xs
theorem KX(f:α→Nat):∀ {l:List α} {i:Nat} {x:α},l[i]?=some x→bD f (l.take (i+1))=bD f (l.take i)+f x∧bD f (l.take (i+1))≤bD f l
 | [],i,x,h=>by simp at h
 | y::ys,0,x,h=>by simp at h;subst h;simp [bD]
 | y::ys,i+1,x,h=>by
  have:=KX f (l:=ys) (i:=i) (x:=x) (by simpa using h)
  simp only[xK,bD] at this ⊢
  omega
theorem KW{f:α→Nat}:∀ {l:List α} {x:α},x∈l→f x≤bD f l
 | y::ys,x,h=>by
  simp only[c7] at h
  simp only[bD]
  rcases h with rfl | h
  · omega
  · have:=KW (f:=f) h;omega
theorem bP{P:Program}{t:TypeId}{ag:Bool}{w:Nat}{av:α→AV}{l:List α}{i:Nat}{x:α}(hI:eI P t=some (ag,w))(h:l[i]?=some x)(hw:(av x).width=w):dG P t (.slice (l.map av)) (.int .i64 (i:Int))=some (.pptr (av x)):=by
 simp only[dG,hI,jQ,lY,h,pA,hw]
 simp
theorem a13{av:α→AV}{w:Nat}(hw:∀x,(av x).width=w)(l:List α):iV (l.map av):=⟨w,by intro e h;simp only[cH] at h;obtain⟨t,_,rfl⟩:=h;exact hw t⟩
theorem aQK(zs:List AV)(hz:zs≠[])(n:Nat):kM zs n=(List.replicate n zs).flatten:=by
 have hl:0<zs.length:=by cases zs with | nil=>exact absurd rfl hz | cons=>simp
 apply EJ
 intro i
 unfold kM
 induction n generalizing i with
 | zero=>simp
 | succ n ih=>
  rw[Q1,List.flatten_cons]
  rcases mL i zs.length with h | h
  · rw[YX h]
    have:i<(n+1)*zs.length:=by rw[uC];omega
    simp [this,Nat.mod_eq_of_lt h,h]
  · rw[YY h,←ih]
    have e1:i % zs.length=(i - zs.length) % zs.length:=by rw[Nat.mod_eq_sub_mod h]
    simp only[lY]
    by_cases h2:i - zs.length<n*zs.length
    · have h3:i<(n+1)*zs.length:=by rw[uC];omega
      simp [h2,h3,e1]
    · have h3:¬i<(n+1)*zs.length:=by rw[uC];omega
      simp [h2,h3]
end
theorem BE{zs:List AV}{x:List AV}{w:Nat}(h1:x.length=w)(h2:zs.length=w):aK zs 0 x=x:=by
 unfold aK
 simp [h1,h2]
theorem gG{x:AV}(h:x.isAgg=true):AV.agg x.cells=x:=by cases x<;>simp [AV.isAgg] at h<;>rfl
theorem gI{x:List AV}{w:Nat}(h:x.length=w):x.take w=x:=by rw[←h];exact dZ
inductive Tm where
 | mk (kind n:Int) (name:ByteArray) (kids:List Tm)
mutual
def Tm.av:Tm→AV
 | .mk k n s ts=>.agg [.int .i64 k,.int .i64 n,.str s,.slice (PW ts)]
def PW:List Tm→List AV
 | []=>[]
 | t::ts=>t.av::PW ts
end
theorem aT3:∀(ts:List Tm),PW ts=ts.map Tm.av
 | []=>rfl
 | t::ts=>by simp only[PW,bH,aT3 ts]
theorem bA(k n:Int)(s:ByteArray)(ts:List Tm):(Tm.mk k n s ts).av=.agg [.int .i64 k,.int .i64 n,.str s,.slice (ts.map Tm.av)]:=by simp only[Tm.av,aT3]
mutual
def Tm.same:Tm→Tm→Bool
 | .mk k n s ts,.mk k' n' s' ts'=>decide (k=k')&&decide (n=n')&&decide (s=s')&&P5 ts ts'
def P5:List Tm→List Tm→Bool
 | [],[]=>true
 | t::ts,t'::ts'=>t.same t'&&P5 ts ts'
 | _,_=>false
end
theorem aUB:∀(a b:List Tm),P5 a b=nH Tm.same a b
 | [],[]=>rfl
 | [],_::_=>rfl
 | _::_,[]=>rfl
 | t::ts,t'::ts'=>by simp only[P5,nH,aUB ts ts']
theorem Tm.WW(k n:Int)(s:ByteArray)(ts:List Tm)(k' n':Int)(s':ByteArray)(ts':List Tm):(Tm.mk k n s ts).same (Tm.mk k' n' s' ts')=(decide (k=k')&&decide (n=n')&&decide (s=s')&&nH Tm.same ts ts'):=by simp only[Tm.same,aUB]
theorem Tm.O2:∀(a b:Tm),a.same b=true↔a=b
 | .mk k n s ts,.mk k' n' s' ts'=>by
  have:=TG (f:=Tm.same) (a:=ts) (b:=ts') fun x hx y=>Tm.O2 x y
  simp only[Tm.WW,cF,bK,Tm.mk.injEq,and_assoc,this]
termination_by a=>SizeOf.sizeOf a
decreasing_by have:=List.sizeOf_lt_of_mem hx;simp only[Tm.mk.sizeOf_spec];omega
theorem bG(t:Tm):t.av.isAgg=true:=by cases t;rfl
theorem aO(t:Tm):t.av.width=4:=by cases t;rfl
theorem cL(t:Tm):t.av.cells.length=4:=by cases t;rfl
theorem cP(t:Tm):t.av.cells.all AV.storable=true:=by cases t;rfl
theorem cU(t:Tm):t.av.cE=false:=by cases t;rfl
theorem aMI{t:Tm}:t.av.isAgg=true:=bG t
theorem aMR{t:Tm}:t.av.width=4:=aO t
theorem aMP{t:Tm}:t.av.cells.all AV.storable=true:=cP t
theorem aML{t:Tm}:t.av.cE=false:=cU t
theorem aMM{t:Tm}:t.av.cells.length=4:=cL t
theorem aMQ{t:Tm}:t.av.cells.take 4=t.av.cells:=gI (cL t)
theorem aMJ{t:Tm}:AV.agg t.av.cells=t.av:=gG (bG t)
theorem aMN{t:Tm}{a b c d:AV}:aK [a,b,c,d] 0 t.av.cells=t.av.cells:=BE (cL t) rfl
theorem aMO{t u:Tm}:aK u.av.cells 0 t.av.cells=t.av.cells:=BE (cL t) (cL u)
theorem aMA{st:aA}{b:Nat}{o o':AO}:(st.aC b o).aC b o'=st.aC b o':=dS st b o o'
theorem aL9{st:aA}{b:Nat}{o:AO}:(st.aC b o) b=some o:=aA.aJ st b o
theorem aL8{st:aA}{b x:Nat}{o:AO}(h:x≠b):(st.aC b o) x=st x:=aA.aG st o h
theorem aMK{t:Tm}:t.av.cells.drop 4= []:=List.drop_of_length_le (by rw[cL];exact cY _)
inductive Pf where
 | mk (goal:Tm) (clause:Int) (kids:List Pf)
def aQW(k:Nat)(acc:List UInt8):List UInt8:=if k=0 then acc else aQW (k / 10) (UInt8.ofNat (48+k % 10)::acc)
termination_by k
decreasing_by omega
def mt(k:Int):ByteArray:=if k≤0 then⟨#[109,48]⟩ else⟨(109::aQW k.toNat []).toArray⟩
mutual
def Tm.vC:Tm→Nat
 | .mk _ _ _ ts=>3+P1 ts
def P1:List Tm→Nat
 | []=>0
 | t::ts=>t.vC+P1 ts
end
theorem aT8:∀(ts:List Tm),P1 ts=bD Tm.vC ts
 | []=>rfl
 | t::ts=>by simp only[P1,bD,aT8 ts]
theorem Tm.a63(k n:Int)(s:ByteArray)(ts:List Tm):(Tm.mk k n s ts).vC=3+bD Tm.vC ts:=by simp only[Tm.vC,aT8]
theorem aRF{st:aA}{k n:Int}{s:ByteArray}{ts:List Tm}{o:AV}{bs:List Nat} :
 bM st (Tm.mk k n s ts).av o bs↔∃q,o=.agg [.int .i64 k,.int .i64 n,.str s,q]∧bM st (.slice (ts.map Tm.av)) q bs:=by
 rw[bA]
 generalize AV.slice (ts.map Tm.av)=x
 simp only[bM,aW]
 constructor
 · rintro⟨os,rfl,o1,os1,b1,b1',rfl,rfl,⟨rfl,rfl⟩,o2,os2,b2,b2',rfl,rfl,⟨rfl,rfl⟩,o3,os3,b3,b3',rfl,rfl,⟨rfl,rfl⟩,o4,os4,b4,b4',rfl,rfl,h,rfl,rfl⟩
   exact⟨o4,rfl,by simpa using h⟩
 · rintro⟨q,rfl,h⟩
   exact⟨_,rfl,_,_,[],bs,rfl,rfl,⟨rfl,rfl⟩,_,_,[],bs,rfl,rfl,⟨rfl,rfl⟩,_,_,[],bs,rfl,rfl,⟨rfl,rfl⟩,q,[],bs,[],rfl,by simp,h,rfl,rfl⟩
abbrev iv (n:Int):AV:=.int .i64 n
theorem aQB(l:List Int):∀e∈l.map iv,e.width=1:=by intro e h;simp only[cH] at h;obtain⟨t,_,rfl⟩:=h;rfl
def dW(s:ByteArray):Nat:=
 cond (decide (s=⟨#[61]⟩)||decide (s=⟨#[92,61]⟩)||decide (s=⟨#[61,61]⟩)||decide (s=⟨#[60]⟩)||decide (s=⟨#[62]⟩)||decide (s=⟨#[61,60]⟩)||decide (s=⟨#[62,61]⟩)||decide (s=⟨#[61,58,61]⟩)||decide (s=⟨#[105,115]⟩)) 3 (cond (decide (s=⟨#[43]⟩)||decide (s=⟨#[45]⟩)) 2 (cond (decide (s=⟨#[42]⟩)||decide (s=⟨#[47,47]⟩)||decide (s=⟨#[109,111,100]⟩)) 1 0))
def isBuiltin(s:ByteArray)(n:Int):Bool:=
 cond (decide (s=⟨#[61]⟩)||decide (s=⟨#[92,61]⟩)||decide (s=⟨#[61,61]⟩)||decide (s=⟨#[60]⟩)||decide (s=⟨#[62]⟩)||decide (s=⟨#[61,60]⟩)||decide (s=⟨#[62,61]⟩)||decide (s=⟨#[61,58,61]⟩)||decide (s=⟨#[105,115]⟩)) (decide (n=2)) (cond (decide (s=⟨#[116,114,117,101]⟩)||decide (s=⟨#[102,97,105,108]⟩)) (decide (n=0)) (cond (decide (s=⟨#[118,97,114]⟩)||decide (s=⟨#[110,111,110,118,97,114]⟩)||decide (s=⟨#[97,116,111,109]⟩)||decide (s=⟨#[105,110,116]⟩)) (decide (n=1)) (cond (decide (s=⟨#[97,114,103]⟩)) (decide (n=3)) false)))
abbrev sb (s:ByteArray):List UInt8:=s.data.toList
theorem cQ(s:ByteArray):(sb s).length=s.size:=by simp only[sb,Array.length_toList];rfl
theorem u9{P:Program}{t:TypeId}{s:ByteArray}{i:Nat}{c:UInt8}(hu:P.underlying t=some .string)(h:(sb s)[i]?=some c):EW P t (.str s) (.int .i64 (i:Int))=some (.int .u8 (c.toNat:Int)):=by
 have hi:i<s.size:=by rw[←cQ];exact(fL.1 h).1
 have:s[i]?=some c:=by
  rw[getElem?_pos s i hi]
  obtain⟨h1,h2⟩:=fL.1 h
  rw[←h2]
  try rfl
 simp only[EW,hu,jQ,this]
 simp
def letter(c:UInt8):Bool:=decide (97≤c.toNat)&&decide (c.toNat≤122)
def vB(s:ByteArray):Bool:=(sb s).all letter&&(decide ((1:Int)≤(s.size:Int))&&decide ((s.size:Int)≤6))
theorem xT{α:Type}{p:α→Bool}{l:List α}{i:Nat}{x:α}(h:l[i]?=some x)(hp:p x=false):l.all p=false:=by
 rw[List.all_eq_false]
 exact⟨x,cM h,by simp [hp]⟩
theorem MC{α:Type}{p:α→Bool}{l:List α}(h:∀(i:Nat) x,l[i]?=some x→p x=true):l.all p=true:=by
 rw[eH]
 intro x hx
 obtain⟨i,hi⟩:=B4 hx
 exact h i x hi
end Go.AW
