/- Loops whose frame is kept, lists that are walked, lists that grow. -/
import Derived.Test.YtlepdbmhjkmelaaGreatWse
set_option linter.unusedSimpArgs false
set_option linter.unusedVariables false
set_option maxRecDepth 100000
namespace Go.AW
def jE(φ:AF):List Nat→List (Nat×AV)→List (Nat×AV)
 | [],l=>l
 | d::ds,l=>(d,φ d)::jE φ ds l
theorem Y6{φ:AF}{l:List (Nat×AV)}:jE φ [] l=l:=rfl
theorem Y7{φ:AF}{d:Nat}{ds:List Nat}{l:List (Nat×AV)}:jE φ (d::ds) l=(d,φ d)::jE φ ds l:=rfl
theorem d7{P:Program}{N:Nat}{c:Code}{Q:Exit→AF→aA→Prop}{φ:AF}{st:aA}{α σ:Type}(mt:List Nat)(bJ:List Nat)(l:List α)(inv:Nat→σ→Prop)(ch:Nat→σ→List (Nat×AV))(so:Nat→σ→aA)
 (hok:codeOk N c=true)
 (h0:∃s,inv 0 s∧aP φ st (jE φ bJ (ch 0 s)) (so 0 s))
 (h1:∀i x s,l[i]?=some x→i<l.length→((i:Int)<(l.length:Int))→l.drop i=x::l.drop (i+1)→inv i s→eL P N mt c (nS (fun φ' st'=>∃s',inv (i+1) s'∧aP φ' st' (jE φ bJ (ch (i+1) s')) (so (i+1) s')) Q) (tZ (jE φ bJ (ch i s))) (so i s))
 (h2:∀s,¬((l.length:Int)<(l.length:Int))→inv l.length s→eL P N mt c (nS (fun _ _=>False) Q) (tZ (jE φ bJ (ch l.length s))) (so l.length s)):d8 P N (.loop c) Q φ st:=by
 have mF:∀(k:AF→aA→Prop) (i:Nat) (s:σ),(∀φ' st',(∃s',inv (i+1) s'∧aP φ' st' (jE φ bJ (ch (i+1) s')) (so (i+1) s'))→k φ' st') →
  d8 P N c (nS (fun φ' st'=>∃s',inv (i+1) s'∧aP φ' st' (jE φ bJ (ch (i+1) s')) (so (i+1) s')) Q) (iQ (jE φ bJ (ch i s))) (so i s) →
  d8 P N c (nS k Q) (iQ (jE φ bJ (ch i s))) (so i s):=by
  intro k i s hk hr a w R
  refine wp_mono (hr a w R) ?_
  rintro e a' w' ⟨φ',st',R',T,sm,q⟩
  refine⟨φ',st',R',T,sm,?_⟩
  cases e with
  | normal=>exact hk _ _ q
  | _=>exact q
 refine KY (α:=Nat×σ) (fun p=>p.1≤l.length∧inv p.1 p.2) (fun p=>iQ (jE φ bJ (ch p.1 p.2))) (fun p=>so p.1 p.2) (fun p=>l.length - p.1) ?_ ?_
 · obtain⟨s,hs,hl⟩:=h0
   exact⟨(0,s),⟨f9 _,hs⟩,hl⟩
 · rintro⟨i,s⟩ ⟨hi,hs⟩
   simp only at hi hs ⊢
   rcases lM i l.length with hlt | hge
   · refine mF _ i s ?_ (qL mt hok (h1 i l[i] s (d4 hlt) hlt (by omega) (sT hlt) hs))
     rintro φ' st' ⟨s',h1',h2'⟩
     exact⟨(i+1,s'),by simp only;omega,⟨by simp only;omega,h1'⟩,h2'⟩
   · obtain rfl:i=l.length:=by omega
     intro a w R
     refine wp_mono (qL mt hok (h2 s (by omega) hs) a w R) ?_
     rintro e a' w' ⟨φ',st',R',T,sm,q⟩
     refine⟨φ',st',R',T,sm,?_⟩
     cases e with
     | normal=>exact q.elim
     | _=>exact q
theorem gW{P:Program}{N:Nat}{c:Code}{Q:Exit→AF→aA→Prop}{φ:AF}{st:aA}{σ:Type}(mt:List Nat)(bJ:List Nat)(inv:σ→Prop)(ch:σ→List (Nat×AV))(so:σ→aA)(μ:σ→Nat)
 (hok:codeOk N c=true)
 (h0:∃s,inv s∧aP φ st (jE φ bJ (ch s)) (so s))
 (h1:∀s,inv s→eL P N mt c (nS (fun φ' st'=>∃s',μ s'<μ s∧inv s'∧aP φ' st' (jE φ bJ (ch s')) (so s')) Q) (tZ (jE φ bJ (ch s))) (so s)):d8 P N (.loop c) Q φ st:=
 CN mt inv (fun s=>jE φ bJ (ch s)) so μ hok h0 h1
theorem bE{b:Bool}{p q:Prop}(h1:b=true→p)(h2:b=false→q):(b=true→p)∧(b=false→q):=⟨h1,h2⟩
theorem ZC{P:Program}{t:TypeId}{s:ByteArray}:oH P t (.str s)=match P.underlying t with | some .string=>some (.int .i64 s.size) | _=>none:=rfl
theorem ZB{P:Program}{t:TypeId}{es:List AV}:oH P t (.slice es)=match P.underlying t with | some (.slice _)=>some (.int .i64 es.length) | _=>none:=rfl
theorem Y9{P:Program}{t:TypeId}{es:List AV}:oH P t (.fslice es)=match P.underlying t with | some (.slice _)=>some (.int .i64 es.length) | _=>none:=rfl
theorem WW{P:Program}{t:TypeId}{es:List AV}:DB P t (.fslice es)=match P.underlying t with | some (.slice _)=>some (.int .i64 es.length) | _=>none:=rfl
theorem ZA{P:Program}{t:TypeId}{b o n w:Nat}:oH P t (.mslice b o n w)=match P.underlying t with | some (.slice _)=>some (.int .i64 n) | _=>none:=rfl
def bQ(w b:Nat):List AV→AV
 | []=>.fslice []
 | x::l=>.mslice b 0 (x::l).length w
def aU(st:aA)(b:Nat):List AV→aA
 | []=>st
 | x::l=>st.aC b (.cells ((x::l).flatMap AV.cells))
theorem jM{w b:Nat}:bQ w b []=.fslice []:=rfl
theorem rT{st:aA}{b:Nat}:aU st b []=st:=rfl
theorem tH{w b:Nat}{l:List AV}(h:l≠[]):bQ w b l=.mslice b 0 l.length w:=by cases l<;>first | exact absurd rfl h | rfl
theorem lO{st:aA}{b:Nat}{l:List AV}(h:l≠[]):aU st b l=st.aC b (.cells (l.flatMap AV.cells)):=by cases l<;>first | exact absurd rfl h | rfl
theorem tF{st:aA}{b x:Nat}{l:List AV}(h:x≠b):aU st b l x=st x:=by cases l<;>first | rfl | exact aA.aO _ _ h
theorem QG{st:aA}{b x:Nat}{l:List AV}(h:aU st b l x=none):st x=none∧(l≠[]→x≠b):=by
 cases l with
 | nil=>exact⟨h,fun h=>absurd rfl h⟩
 | cons y l=>
  simp only[aU,aA.aC] at h
  split at h
  · cases h
  · rename_i hn;exact⟨h,fun _=>hn⟩
theorem jL{w b:Nat}{l:List AV}:(bQ w b l).bO=false:=by cases l<;>rfl
theorem tG{w b:Nat}{l:List AV}:(bQ w b l).isAgg=false:=by cases l<;>rfl
theorem nG{w b:Nat}{l:List AV}:(bQ w b l).cells= [bQ w b l]:=by cases l<;>rfl
theorem iM{w b:Nat}{l:List AV}:(bQ w b l).storable=true:=by cases l<;>rfl
theorem DM{P:Program}{t e:TypeId}{w b:Nat}{l:List AV}(h:P.underlying t=some (.slice e)):oH P t (bQ w b l)=some (.int .i64 (l.length:Int)):=by
 cases l<;>simp [bQ,oH,h]
theorem aJ.aU{st st':aA}(x:aJ st st'){b:Nat}{l:List AV}(h:l≠[]→st' b=none):aJ (aU st b l) st':=by
 cases l with
 | nil=>exact x
 | cons y l=>exact x.aC (h (by simp))
theorem eE{P:Program}{t:TypeId}{ag:Bool}{w bytes:Nat}{zs:List AV}{st:aA}{b:Nat}{l xs:List AV}{x:AV}{K:AV→aA→Prop}
 (hI:eI P t=some (ag,w)) (hB:eB P t=some bytes) (hZ:eZ P t=some zs) (hz:zs.length=w) (hx:DE x=some xs) (fF:tJ w xs) (hw:∀e∈l,e.width=w) (hb:l≠[]→st b=none)
 (h1:(l.length+xs.length)*bytes≤140737488355328) (h2:l.length+xs.length≤9223372036854775807)
 (hK:∀b',(l++xs≠[]→st b'=none)→K (bQ w b' (l++xs)) (aU st b' (l++xs))):i8 P t (aU st b l) (bQ w b l) x K:=by
 unfold i8
 rw[hI,hB,hZ,hx]
 refine⟨hz,fF,?_⟩
 cases l with
 | nil=>
  show _∧_∧_∧_∧_
  refine⟨by simpa using h1,by simpa using h2,by simp,?_,?_⟩
  · rintro rfl
    have:=hK b (by simp)
    simpa [bQ,aU] using this
  · intro hne b' hb'
    have:=hK b' (fun _=>hb')
    rw[dI,tH hne,lO hne] at this
    simpa [aU] using this
 | cons y l=>
  have hb:=hb (by simp)
  show w=w∧_∧_∧_
  refine⟨rfl,h1,h2,?_⟩
  have hfl:((y::l).flatMap AV.cells).length=(y::l).length*w:=lQ hw
  simp only[aU,aA.aK]
  refine⟨by rw[hfl];exact c6 _,?_,?_⟩
  · have:=hK b (fun _=>hb)
    rw[tH (by simp),lO (by simp),wM,cX] at this
    rw[d3,←hfl,dR]
    exact this
  · intro b' hb'
    have hne:b'≠b:=by rintro rfl;rw[aA.aK] at hb';cases hb'
    rw[aA.aO _ _ hne] at hb'
    have:=hK b' (fun _=>hb')
    rw[tH (by simp),lO (by simp),wM,cX] at this
    rw[aA.xC _ _ _ hb,←hfl,dR]
    exact this
def AV.fin(b:Nat)(l:List AV)(r:AV):AV:=if l.isEmpty=true then r.soft else(r.fz b l).soft
theorem kY{w b:Nat}{l:List AV}:(bQ w b l).fin b l=.slice l:=by cases l<;>simp [bQ,AV.fin,AV.fz,AV.soft]
theorem yG:∀cs:List AV,fT cs=cs.map AV.soft
 | []=>rfl
 | c::cs=>by simp [fT,yG cs]
theorem xH{b:Nat}{l:List AV}:∀cs:List AV,iR b l cs=cs.map (AV.fz b l)
 | []=>rfl
 | c::cs=>by simp [iR,xH cs]
theorem fE{b:Nat}{l:List AV}{cs:List AV}:(AV.agg cs).fin b l=.agg (cs.map (AV.fin b l)):=by
 unfold AV.fin
 split
 · simp [AV.soft,yG]
 · simp [AV.fz,AV.soft,yG,xH]
theorem eW{b:Nat}{l:List AV}{cs:List AV}:(AV.tup cs).fin b l=.tup (cs.map (AV.fin b l)):=by
 unfold AV.fin
 split
 · simp [AV.soft,yG]
 · simp [AV.fz,AV.soft,yG,xH]
theorem fX{b:Nat}{l:List AV}{k:IntKind}{n:Int}:(AV.int k n).fin b l=.int k n:=by unfold AV.fin;split<;>rfl
theorem kN{b:Nat}{l:List AV}{n:Bool}:(AV.bool n).fin b l=.bool n:=by unfold AV.fin;split<;>rfl
theorem qQ{b:Nat}{l:List AV}{s:ByteArray}:(AV.str s).fin b l=.str s:=by unfold AV.fin;split<;>rfl
theorem gY{b:Nat}{l:List AV}{s:List AV}:(AV.slice s).fin b l=.slice s:=by unfold AV.fin;split<;>rfl
theorem lD{b:Nat}{l:List AV}{s:List AV}:(AV.fslice s).fin b l=.slice s:=by unfold AV.fin;split<;>rfl
theorem aSA{b:Nat}{l:List AV}{e:AV}:(AV.pptr e).fin b l=.pptr e:=by unfold AV.fin;split<;>rfl
theorem aDZ{b c o:Nat}{l:List AV}:(AV.ptr c o).fin b l=.ptr c o:=by unfold AV.fin;split<;>rfl
theorem aD.fin{P:Program}{g:FuncId}{args:List AV}{st:aA}{Q:AV→aA→Prop}
 (x:aD P g args st (fun r st'=>∃b l s0,st'=aU s0 b l∧(l≠[]→s0 b=none)∧(∀e∈l,e.bO=false)∧gN l∧Q (r.fin b l) s0)):aD P g args st Q:=
 x.mF fun r st' ⟨b,l,s0,h1,h0,h2,h3,h4⟩=>by
  cases l with
  | nil=>
   exact⟨r.fin b [],st',(aJ.refl _).o5,fun h v S y=>y.soft,by have e:st'=s0:=h1;rw[e];exact h4⟩
  | cons e l=>
   have hb:=h0 (by simp)
   subst h1
   have h1:aU s0 b (e::l) b=some (.cells ((e::l).flatMap AV.cells)):=by simp only[aU,aA.aK]
   have e1:(aU s0 b (e::l)).erase b=s0:=by simp only[aU];exact aA.xC _ _ _ hb
   refine⟨r.fin b (e::l),s0,?_,fun h v S y=>?_,h4⟩
   · have:=(aJ.iP (aU s0 b (e::l)) b).o5
     rwa [e1] at this
   · have:=y.fz S h1 h2 h3
     rw[e1] at this
     exact this.soft
mutual
def AV.m3:AV→Bool
 | .slice _=>false
 | .fslice es=>es.isEmpty
 | .pptr _=>false
 | .agg cs=>uO cs
 | .tup vs=>uO vs
 | .func _ cs=>uO cs
 | _=>true
def uO:List AV→Bool
 | []=>true
 | a::as=>a.m3&&uO as
end
def AO.m3:AO→Prop
 | .cells cs=>uO cs=true
 | .map f=>∀n a,f n=some a→a.m3=true
 | .tab _=>True
section
variable {h:aZ} {st st':aA}
mutual
theorem VC.anyS:∀(a:AV) (cs:List Value),a.m3=true→VC h st a cs→VC h st' a cs
 | .junk,_,_,x=>x
 | .undef,_,_,x=>x
 | .int _ _,_,_,x=>x
 | .bool _,_,_,x=>x
 | .str _,_,_,x=>x
 | .agg as,cs,s,x=>by simp only[VC] at x ⊢;exact aR.anyS as cs (by simpa [AV.m3] using s) x
 | .tup as,cs,s,x=>by
  simp only[VC] at x ⊢
  obtain⟨vs,e,r⟩:=x
  exact⟨vs,e,cW.anyS as vs (by simpa [AV.m3] using s) r⟩
 | .slice es,_,s,_=>by simp [AV.m3] at s
 | .fslice es,cs,s,x=>by
  have he:es= []:=by simpa [AV.m3] using s
  subst he
  unfold VC at x ⊢
  rcases x with x | ⟨b,off,e,_⟩
  · exact .inl x
  · exact .inl ⟨⟨_,e⟩,rfl⟩
 | .mslice b off len n,_,_,x=>x
 | .nilptr,_,_,x=>x
 | .ptr _ _,_,_,x=>x
 | .pptr e,_,s,_=>by simp [AV.m3] at s
 | .nilmap,_,_,x=>x
 | .map _,_,_,x=>x
 | .func _ as,cs,s,x=>by
  simp only[VC] at x ⊢
  obtain⟨vs,e,r⟩:=x
  exact⟨vs,e,cW.anyS as vs (by simpa [AV.m3] using s) r⟩
 | .raw _,_,_,x=>x
 | .eslice,_,_,x=>x
theorem aR.anyS:∀(as:List AV) (cs:List Value),uO as=true→aR h st as cs→aR h st' as cs
 | [],_,_,x=>x
 | a::as,cs,s,x=>by
  simp only[aR] at x ⊢
  simp only[uO,bG] at s
  obtain⟨c,r,e,x1,x2⟩:=x
  exact⟨c,r,e,VC.anyS a [c] s.1 x1,aR.anyS as r s.2 x2⟩
theorem cW.anyS:∀(as:List AV) (cs:List Value),uO as=true→cW h st as cs→cW h st' as cs
 | [],_,_,x=>x
 | a::as,cs,s,x=>by
  simp only[cW] at x ⊢
  simp only[uO,bG] at s
  obtain⟨v,r,e,x1,x2⟩:=x
  exact⟨v,r,e,⟨x1.1,VC.anyS a _ s.1 x1.2⟩,cW.anyS as r s.2 x2⟩
end
theorem aL.anyS{a:AV}{v:Value}(s:a.m3=true)(x:aL h st a v):aL h st' a v:=by
 cases a<;>first | trivial | exact⟨x.1,VC.anyS _ _ s x.2⟩
theorem kI.anyS{b:Nat}:∀ {o:AO},o.m3→kI h st b o→kI h st' b o
 | .cells as,s,x=>by
  obtain⟨c,t,e,l,vs,x1,x2⟩:=x
  exact⟨c,t,e,l,vs,x1,aR.anyS as vs s x2⟩
 | .map f,s,x=>by
  obtain⟨es,cl,e,x1,x2,x3⟩:=x
  refine⟨es,cl,e,x1,x2,fun n=>?_⟩
  have:=x3 n
  split
  · rename_i a ha
    rw[ha] at this
    obtain⟨e,he,hk,hv⟩:=this
    exact⟨e,he,hk,hv.anyS (s n a ha)⟩
  · rename_i ha
    rw[ha] at this
    exact this
 | .tab cs,_,x=>x
end
def aA.frame(st s0 s1:aA):aA:=fun b=>match s0 b,st b with
 | none,some o=>some o
 | _,_=>s1 b
theorem aD.frame{P:Program}{g:FuncId}{args args':List AV}{st s0:aA}{Q:AV→aA→Prop}(D:aJ st s0)
 (x:aD P g args s0 (fun r s1=>(∀b,s0 b=none→s1 b≠none→st b=none)→r.m3=true∧(∀b o,s1 b=some o→o.m3)∧Q r (st.frame s0 s1)))
 (hv:∀h vs,bZ h st→cJ h st args' vs→cJ h s0 args vs):aD P g args' st Q:=by
 refine⟨x.1,fun w vs S V=>(x.2 w vs (D.BX S) (hv _ _ S V)).mono ?_⟩
 rintro _ w' ⟨v,r,s1,rfl,hr,S1,T,sm,q⟩
 have hfr:∀b,s0 b=none→s1 b≠none→st b=none:=fun b h0 h1=>by
  cases hb:st b with
  | none=>rfl
  | some o=>exact absurd (T.bJ b (S b o hb).1 h0).2 h1
 obtain⟨hs,ho,hq⟩:=q hfr
 have T':bL w.heap st w'.heap (st.frame s0 s1):=by
  refine⟨T.size,fun b hb e=>?_,T.shape⟩
  obtain⟨k1,k2⟩:=T.bJ b hb ((D b).1 e)
  exact⟨k1,by simp only[aA.frame,e,k2];split<;>first | rfl | (rename_i h;cases h)⟩
 refine⟨v,r,st.frame s0 s1,rfl,hr.anyS hs,fun b o hb=>?_,T',sm,hq⟩
 simp only[aA.frame] at hb
 split at hb
 · rename_i o' h0 h1
   cases hb
   obtain⟨l,y⟩:=S b _ h1
   exact⟨sW l T.size,kI.mono T' (T.bJ b l h0).1 y⟩
 · obtain⟨l,y⟩:=S1 b o hb
   exact⟨l,y.anyS (ho b o hb)⟩
def dW:aA:=fun _=>none
theorem aJ.dW(st:aA):aJ st dW:=fun _=>⟨fun _=>rfl,fun _ h=>by cases h⟩
theorem aSJ(st:aA):st.frame dW dW=st:=by
 funext b;simp only[aA.frame,dW];split
 · rename_i h;exact h.symm
 · rename_i h;cases hb:st b with
   | none=>rfl
   | some o=>exact absurd hb (h o rfl)
theorem aD.aSI{P:Program}{g:FuncId}{args args':List AV}{st:aA}{r:AV}(hs:r.m3=true)
 (x:aD P g args dW (fun r' s1=>r'=r∧s1=dW))
 (hv:∀h vs,bZ h st→cJ h st args' vs→cJ h dW args vs):aD P g args' st (fun r' st'=>r'=r∧st'=st):=
 aD.frame (aJ.dW st) (x.mono fun r' s1 ⟨e1,e2⟩ _=>⟨by rw[e1];exact hs,(by rw[e2];intro b o h;cases h),e1,by rw[e2,aSJ]⟩) hv
mutual
def fB(st:aA):AV→AV→List Nat→Prop
 | .int k n,o,bs=>o=.int k n∧bs= []
 | .bool b,o,bs=>o=.bool b∧bs= []
 | .str s,o,bs=>o=.str s∧bs= []
 | .agg cs,o,bs=>∃os,o=.agg os∧eG st cs os bs
 | .slice es,o,bs=>(es= []∧o=.fslice []∧bs= [])∨∃b bs' os w,o=.mslice b 0 es.length w∧bs=b::bs'∧st b=some (.cells (os.flatMap AV.cells))∧eG st es os bs'∧(∀e∈es,e.width=w)
 | _,_,_=>False
def eG(st:aA):List AV→List AV→List Nat→Prop
 | [],os,bs=>os= []∧bs= []
 | a::as,os,bs=>∃o os' b1 b2,os=o::os'∧bs=b1++b2∧fB st a o b1∧eG st as os' b2
end
theorem eG.length{st:aA}:∀ {as os:List AV} {bs:List Nat},eG st as os bs→os.length=as.length
 | [],os,bs,x=>by simp only[eG] at x;simp [x.1]
 | a::as,os,bs,x=>by
  simp only[eG] at x
  obtain⟨o,os',b1,b2,rfl,rfl,_,x2⟩:=x
  simp [eG.length x2]
theorem fB.shape{st:aA}:∀ {a o:AV} {bs:List Nat},fB st a o bs→o.isAgg=a.isAgg∧o.width=a.width∧o.bO=false∧(∀cs,a=.agg cs→∃os,o=.agg os)
 | .int k n,o,bs,x=>by simp only[fB] at x;rw[x.1];exact⟨rfl,rfl,rfl,by simp⟩
 | .bool b,o,bs,x=>by simp only[fB] at x;rw[x.1];exact⟨rfl,rfl,rfl,by simp⟩
 | .str s,o,bs,x=>by simp only[fB] at x;rw[x.1];exact⟨rfl,rfl,rfl,by simp⟩
 | .agg cs,o,bs,x=>by
  simp only[fB] at x
  obtain⟨os,rfl,x⟩:=x
  exact⟨rfl,x.length,rfl,fun _ _=>⟨os,rfl⟩⟩
 | .slice es,o,bs,x=>by
  simp only[fB] at x
  rcases x with ⟨_,rfl,_⟩ | ⟨b,bs',os,w,rfl,_⟩<;>exact⟨rfl,rfl,rfl,by simp⟩
 | .junk,_,_,x=>x.elim
 | .undef,_,_,x=>x.elim
 | .tup _,_,_,x=>x.elim
 | .fslice _,_,_,x=>x.elim
 | .mslice _ _ _ _,_,_,x=>x.elim
 | .nilptr,_,_,x=>x.elim
 | .ptr _ _,_,_,x=>x.elim
 | .pptr _,_,_,x=>x.elim
 | .nilmap,_,_,x=>x.elim
 | .map _,_,_,x=>x.elim
 | .func _ _,_,_,x=>x.elim
 | .raw _,_,_,x=>x.elim
 | .eslice,_,_,x=>x.elim
section
variable {st st':aA}
end
section
variable {h:aZ} {st s0:aA}
mutual
theorem fB.view(S:bZ h st)(D:aJ st s0):∀(a o:AV) (bs:List Nat) (cs:List Value),fB st a o bs→(∀b∈bs,s0 b=none)→VC h st o cs→VC h s0 a cs
 | .int k n,o,bs,cs,x,_,y=>by simp only[fB] at x;rw[x.1] at y;exact y
 | .bool b,o,bs,cs,x,_,y=>by simp only[fB] at x;rw[x.1] at y;exact y
 | .str s,o,bs,cs,x,_,y=>by simp only[fB] at x;rw[x.1] at y;exact y
 | .agg as,o,bs,cs,x,hb,y=>by
  simp only[fB] at x
  obtain⟨os,rfl,x⟩:=x
  simp only[VC] at y ⊢
  exact eG.aJI S D as os bs cs x hb y
 | .slice es,o,bs,cs,x,hb,y=>by
  simp only[fB] at x
  rcases x with ⟨rfl,rfl,rfl⟩ | ⟨b,bs',os,w,rfl,rfl,e2,x,e3⟩
  · unfold VC at y ⊢
    rcases y with y | ⟨b,off,e,_⟩
    · exact .inl y
    · exact .inl ⟨⟨_,e⟩,rfl⟩
  · simp only[VC] at y
    obtain⟨cap,e,l1,l2,_⟩:=y
    obtain⟨hlt,c,t,q1,q2,vs,q3,q4⟩:=S b _ e2
    have hsh:=eG.BV x
    unfold VC
    refine .inr ⟨b,0,cap,e,l1,l2,hb b (by simp),hlt,⟨w,e3⟩,eG.CH S D b es os bs' 0 x (fun q hq=>hb q (by simp [hq])) (zD (fun q hq=>hsh q hq) q3 q4)⟩
 | .junk,_,_,_,x,_,_=>x.elim
 | .undef,_,_,_,x,_,_=>x.elim
 | .tup _,_,_,_,x,_,_=>x.elim
 | .fslice _,_,_,_,x,_,_=>x.elim
 | .mslice _ _ _ _,_,_,_,x,_,_=>x.elim
 | .nilptr,_,_,_,x,_,_=>x.elim
 | .ptr _ _,_,_,_,x,_,_=>x.elim
 | .pptr _,_,_,_,x,_,_=>x.elim
 | .nilmap,_,_,_,x,_,_=>x.elim
 | .map _,_,_,_,x,_,_=>x.elim
 | .func _ _,_,_,_,x,_,_=>x.elim
 | .raw _,_,_,_,x,_,_=>x.elim
 | .eslice,_,_,_,x,_,_=>x.elim
theorem eG.aJI(S:bZ h st)(D:aJ st s0):∀(as os:List AV) (bs:List Nat) (cs:List Value),eG st as os bs→(∀b∈bs,s0 b=none)→aR h st os cs→aR h s0 as cs
 | [],os,bs,cs,x,_,y=>by simp only[eG] at x;rw[x.1] at y;exact y
 | a::as,os,bs,cs,x,hb,y=>by
  simp only[eG] at x
  obtain⟨o,os',b1,b2,rfl,rfl,x1,x2⟩:=x
  simp only[aR] at y ⊢
  obtain⟨c,r,e,y1,y2⟩:=y
  exact⟨c,r,e,fB.view S D a o b1 [c] x1 (fun q hq=>hb q (by simp [hq])) y1,eG.aJI S D as os' b2 r x2 (fun q hq=>hb q (by simp [hq])) y2⟩
theorem eG.CH(S:bZ h st)(D:aJ st s0)(b:Nat):∀(as os:List AV) (bs:List Nat) (off:Nat),eG st as os bs→(∀b∈bs,s0 b=none)→cM h st b off os→cM h s0 b off as
 | [],os,bs,off,x,_,y=>by simp only[cM]
 | a::as,os,bs,off,x,hb,y=>by
  simp only[eG] at x
  obtain⟨o,os',b1,b2,rfl,rfl,x1,x2⟩:=x
  simp only[cM] at y ⊢
  obtain⟨⟨cs,y1,y2,y3⟩,y4⟩:=y
  have hw:=(fB.shape x1).2.1
  rw[hw] at y2 y4
  exact⟨⟨cs,y1,y2,fB.view S D a o b1 cs x1 (fun q hq=>hb q (by simp [hq])) y3⟩,eG.CH S D b as os' b2 _ x2 (fun q hq=>hb q (by simp [hq])) y4⟩
theorem eG.BV:∀ {as os:List AV} {bs:List Nat},eG st as os bs→∀o∈os,o.bO=false
 | [],os,bs,x=>by simp only[eG] at x;rw[x.1];simp
 | a::as,os,bs,x=>by
  simp only[eG] at x
  obtain⟨o,os',b1,b2,rfl,rfl,x1,x2⟩:=x
  intro q hq
  rcases cT.1 hq with rfl | hq
  · exact(fB.shape x1).2.2.1
  · exact eG.BV x2 q hq
end
theorem fB.CJ(S:bZ h st)(D:aJ st s0){a o:AV}{bs:List Nat}{v:Value}(x:fB st a o bs)(hb:∀b∈bs,s0 b=none)(y:aL h st o v):aL h s0 a v:=by
 have hs:=x.shape
 have key:o.isAgg=iW v∧VC h st o v.cells.toList:=by
  cases o<;>first | exact y | simp [AV.bO] at hs
 have z:a.isAgg=iW v∧VC h s0 a v.cells.toList:=⟨hs.1.symm.trans key.1,fB.view S D _ _ _ _ x hb key.2⟩
 cases ha:a<;>rw[ha] at z<;>first | trivial | exact z
end
def Made(st:aA)(a r:AV)(st':aA):Prop:=∃bs:List Nat,bs.Nodup∧(∀b∈bs,st b=none)∧fB st' a r bs∧∀b,b∉bs→st' b=st b
theorem aD.made{P:Program}{g:FuncId}{args:List AV}{st:aA}{a:AV}(x:aD P g args st (Made st a)):aD P g args st (fun r st'=>r=a∧st'=st):=
 x.mF fun r st' ⟨bs,_,h2,h3,h4⟩=>by
  have D:aJ st' st:=fun b=>⟨fun e=>by
   by_cases hb:b∈bs
   · exact h2 b hb
   · rw[←h4 b hb];exact e,fun o e=>by
   by_cases hb:b∈bs
   · rw[h2 b hb] at e;cases e
   · rw[h4 b hb];exact e⟩
  exact⟨a,st,D.o5,fun h v S y=>h3.CJ S D h2 y,rfl,rfl⟩
theorem aG0{A C B x:List AV}{n j:Nat}(hA:A.length=n)(hj:j+x.length≤C.length):aG (A++C++B) (n+j) x=A++aG C j x++B:=by
 subst hA
 unfold aG
 have h1:(A++C++B).take (A.length+j)=A++C.take j:=by
  rw[qE,List.take_length_add_append,GD (by omega)]
 have h2:(A++C++B).drop (A.length+j+x.length)=C.drop (j+x.length)++B:=by
  rw[qE,y8,List.drop_length_add_append,List.drop_append_of_le_length (by omega)]
 rw[h1,h2]
 simp
theorem aUX{A B:List AV}{n:Nat}(hA:A.length=n):(∀(C:List AV) (v:AV) (j:Nat),j<C.length→aG (A++C++B) (n+j) [v]=A++C.set j v++B)∧(∀(C:List AV) (c:Nat),c<C.length→n+c+1≤(A++C++B).length) ∧
 (∀(C:List AV) (c:Nat),c<C.length→(A++C++B)[n+c]?=C[c]?)∧(∀(C:List AV) (v:AV),0<C.length→aG (A++C++B) n [v]=A++C.set 0 v++B)∧(∀(C:List AV),0<C.length→n+1≤(A++C++B).length) ∧
 ∀(C:List AV),0<C.length→(A++C++B)[n]?=C[0]?:=by
 have k1:(∀(C:List AV) (v:AV) (j:Nat),j<C.length→aG (A++C++B) (n+j) [v]=A++C.set j v++B)∧(∀(C:List AV) (c:Nat),c<C.length→n+c+1≤(A++C++B).length)∧∀(C:List AV) (c:Nat),c<C.length→(A++C++B)[n+c]?=C[c]?:=?_
 · exact⟨k1.1,k1.2.1,k1.2.2,fun C v h=>k1.1 C v 0 h,fun C h=>k1.2.1 C 0 h,fun C h=>k1.2.2 C 0 h⟩
 refine⟨fun C v j h=>?_,fun C c h=>?_,fun C c h=>?_⟩
 · rw[aG0 hA (by simp;omega),GC,aN h]
   unfold aG
   simp
 · simp only[cX];omega
 · subst hA
   rw[qE,J8 (by omega),Nat.add_sub_cancel_left,PP h]
theorem NO{A B C x:List AV}{n w:Nat}(hA:A.length=n)(hC:C.length=w)(hx:x.length=w):aG (A++C++B) n x=A++x++B∧n+w≤(A++C++B).length:=by
 have h:=aG0 (A:=A) (C:=C) (B:=B) (x:=x) (n:=n) (j:=0) hA (by omega)
 rw[CU] at h
 refine⟨?_,by simp only[cX];omega⟩
 rw[h]
 unfold aG
 simp [hC,hx]
theorem AT{P:Program}{t:TypeId}{ag:Bool}{b len w i:Nat}(hI:eI P t=some (ag,w))(hi:i<len):dP P t (.mslice b 0 len w) (.int .i64 (i:Int))=some (.ptr b (i*w)):=by
 simp only[dP,hI,fV,jK]
 rw[aN ⟨by omega,by omega,trivial⟩]
def wW(b:Nat):List AV→List Nat
 | []=>[]
 | _::_=>[b]
theorem aVJ{s:aA}{b w:Nat}{es os:List AV}{bs:List Nat}(x:eG (aU s b os) es os bs)(hw:∀e∈es,e.width=w):fB (aU s b os) (.slice es) (bQ w b os) (wW b os++bs):=by
 have hl:=x.length
 cases os with
 | nil=>
  have:es= []:=rM (by simpa using hl.symm)
  subst this
  simp only[eG] at x
  simp only[fB,bQ,wW,x.2]
  exact .inl ⟨trivial,trivial,rfl⟩
 | cons o os=>
  simp only[fB,bQ,wW]
  refine .inr ⟨b,bs,o::os,w,by rw[hl],rfl,?_,x,hw⟩
  simp only[aU,aA.aK]
def AV.flat:AV→Bool
 | .int _ _ | .bool _ | .str _=>true
 | _=>false
theorem aD.kK{P:Program}{g:FuncId}{args:List AV}{st:aA}{r:AV}(x:aD P g args st (fun r' st'=>r'=r∧aJ st' st)):aD P g args st (fun r' st'=>r'=r∧st'=st):=
 (x.mono fun _ _ h=>⟨h.2,h.1⟩).drop
theorem aJ6{P:Program}{t:TypeId}{st:aA}{s x:AV}{K K':AV→aA→Prop}(h:∀r s,K r s→K' r s)(e:i8 P t st s x K):i8 P t st s x K':=by
 unfold i8 at *
 split at e
 case h_2=>exact e.elim
 refine⟨e.1,e.2.1,?_⟩
 have e:=e.2.2
 split at e
 · exact⟨e.1,e.2.1,e.2.2.1,fun q=>h _ _ (e.2.2.2.1 q),fun q b hb=>h _ _ (e.2.2.2.2 q b hb)⟩
 · refine⟨e.1,e.2.1,e.2.2.1,?_⟩
   have e:=e.2.2.2
   split at e
   · exact⟨e.1,h _ _ e.2.1,fun b hb=>h _ _ (e.2.2 b hb)⟩
   · exact e.elim
 · exact e.elim
theorem aJ5{P:Program}{t t':TypeId}{st:aA}{s x:AV}{K K':AV→aA→Prop}(h:∀r s,K r s→K' r s)(e:qI P t t' st s x K):qI P t t' st s x K':=by
 rcases e with ⟨tx,hx,e⟩ | e
 · refine .inl ⟨tx,hx,?_⟩
   unfold DA at *
   split at e
   case h_2=>exact e.elim
   obtain⟨e1,e2,e3,e4,e5,e6,e7,e8⟩:=e
   exact⟨e1,e2,e3,e4,e5,e6,fun q=>h _ _ (e7 q),fun q b hb=>h _ _ (e8 q b hb)⟩
 refine .inr ?_
 unfold zH at *
 split at e
 case h_2=>exact e.elim
 refine⟨e.1,e.2.1,e.2.2.1,e.2.2.2.1,?_⟩
 have e:=e.2.2.2.2
 split at e
 · exact⟨e.1,e.2.1,e.2.2.1,fun q=>h _ _ (e.2.2.2.1 q),fun q b hb=>h _ _ (e.2.2.2.2 q b hb)⟩
 · refine⟨e.1,e.2.1,e.2.2.1,?_⟩
   have e:=e.2.2.2
   split at e
   · exact⟨e.1,h _ _ e.2.1,fun b hb=>h _ _ (e.2.2 b hb)⟩
   · exact e.elim
 · exact e.elim
theorem wV{P:Program}{mt:List Nat}{φ:AF}{st:aA}{o:Oper}{K K':AV→aA→Prop}(h:∀r s,K r s→K' r s)(e:dZ P mt φ st o K):dZ P mt φ st o K':=by
 unfold dZ at *
 split at e
 · split at e
   · exact e.mono h
   · exact e.elim
 · split at e
   · split at e
     · rename_i ht;rw[aN ht];exact aJ6 h e
     · rename_i ht;rw[aH ht];exact aJ5 h e
   · exact e.elim
 · split at e
   · unfold DD at *
     split at e
     · split at e
       · exact h _ _ e
       · exact e.elim
     · exact e.elim
   · exact e.elim
 · split at e
   · unfold DC at *
     split at e
     · obtain⟨e1,e2,e3,e4,e5⟩:=e
       refine⟨e1,e2,e3,e4,?_⟩
       split at e5
       · exact⟨e5.1,h _ _ e5.2⟩
       · exact e5.elim
     · exact h _ _ e
     · exact e.elim
   · exact e.elim
 · split at e
   · rename_i hm
     rw[aN hm]
     exact⟨e.1,fun b hb=>h _ _ (e.2 b hb)⟩
   · rename_i hm
     rw[aH hm]
     split at e
     · exact h _ _ e
     · exact e.elim
 · split at e
   · exact fun b hb=>h _ _ (e b hb)
   · exact e.elim
 · split at e
   · split at e
     · exact⟨e.1,e.2.1,e.2.2.1,h _ _ e.2.2.2⟩
     · exact e.elim
   · exact e.elim
 · exact fun b hb=>h _ _ (e b hb)
 · unfold tC at *
   split at e
   · exact⟨e.1,e.2.1,e.2.2.1,e.2.2.2.1,e.2.2.2.2.1,e.2.2.2.2.2.1,fun b hb=>h _ _ (e.2.2.2.2.2.2 b hb)⟩
   · exact e.elim
 · unfold DF at *
   split at e
   · split at e
     · exact⟨e.1,h _ _ e.2⟩
     · exact e.elim
   · exact e.elim
 · split at e
   · exact h _ _ e
   · exact e.elim
def gQ(P:Program)(ops:Array Oper)(o:Oper)(φ:AF)(st:aA)(K:AV→aA→Prop):Prop:=match gP ops φ o with
 | some true=>dZ P [] φ st o K
 | some false=>K .undef st
 | none=>False
theorem qJ{P:Program}{ops:Array Oper}{o:Oper}{φ:AF}{st:aA}{K K':AV→aA→Prop}(h:∀r s,K r s→K' r s)(e:gQ P ops o φ st K):gQ P ops o φ st K':=by
 unfold gQ at *
 split at e
 · exact wV h e
 · exact h _ _ e
 · exact e.elim
section
variable {P:Program}
theorem aKA{ops:Array Oper}{oi oj:Oper}(φ:AF)(v:AV)(h:∀d,oj.dst=some d→d∉oi.looksAt ops):gP ops (φ.put oj.dst v) oi=gP ops φ oi:=by
 unfold gP
 cases hg:oi.guard with
 | none=>rfl
 | some gw=>
  obtain⟨g,want⟩:=gw
  cases ht:(ops[g]?).bind (·.dst) with
  | none=>simp only[ht]
  | some t=>
   simp only[ht]
   have:(φ.put oj.dst v) t=φ t:=by
    have:=IN (φ:=φ) (dst:=oj.dst) (v:=v) (x:=.tmp t) (fun d hd hxd=>h d hd (by
     cases hxd
     simp [Oper.looksAt,hg,ht]))
    exact this
   rw[this]
theorem KQ{ops:Array Oper}{oi oj:Oper}(φ:AF)(v:AV){st:aA}{K:AV→aA→Prop}(h:∀d,oj.dst=some d→d∉oi.looksAt ops):gQ P ops oi (φ.put oj.dst v) st K↔gQ P ops oi φ st K:=by
 have h1:dZ P [] (φ.put oj.dst v) st oi K=dZ P [] φ st oi K:=
  QB fun x hx=>IN fun d hd hxd=>h d hd (by
   subst hxd
   exact List.mem_append_left _ (List.mem_filterMap.2 ⟨.tmp d,by simpa using hx,rfl⟩))
 unfold gQ
 rw[h1,aKA φ v h]
theorem MO(n j:Nat):(Array.replicate n false).getD j false=false:=by
 rcases lM j n with h | h<;>simp [h]
def GJ(P:Program)(ops:Array Oper)(K:AF→aA→Prop):Nat→Array Bool→AF→aA→Prop
 | 0,aM,φ,st=>Region.ready .any ops aM= []∧K φ st
 | f+1,aM,φ,st=>(Region.ready .any ops aM= []→K φ st)∧∀i∈Region.ready .any ops aM,∃o,ops[i]?=some o∧gQ P ops o φ st (fun r st'=>GJ P ops K f (aM.setIfInBounds i true) (φ.put o.dst r) st')
theorem aKG{N:Nat}{ops:Array Oper}(hN:∀(j d:Nat),(ops[j]?).bind (·.dst)=some d→d<N){o:Oper}{i:Nat}{a:Act}{w:World}{φ:AF}{st:aA}{G:AV→aA→Prop}{K:Act→World→Prop}{Q:Exit→Act→World→Prop}(hi:ops[i]?=some o)
 (R:Rel N a w φ st) (hd:mP N o=true) (y:gQ P ops o φ st G) (h:∀a' w' r st',Rel N a' w' (φ.put o.dst r) st'→bL w.heap st w'.heap st'→dY w w'→G r st'→K a' w'):wpOp P ops Q i K a w:=by
 unfold gQ at y
 unfold wpOp
 simp only[hi]
 split at y
 · rename_i hg
   rw[aN (vC R hN hg)]
   refine .inl (GP R.frame R.store y fun v w' ⟨r',st',x1,x2,x3,x4,x5⟩=>?_)
   exact h _ _ r' st' (R.put hd x3 x2 x1) x3 x4 x5
 · rename_i hg
   rw[aH (by rw[vC R hN hg];simp)]
   exact h _ _ .undef st (R.put (r:=.undef) hd (bL.refl _ _) R.store ⟨rfl,rfl⟩) (bL.refl _ _) (dY.refl _) y
 · exact y.elim
theorem GK{N:Nat}{ops:Array Oper}(hN:∀(j d:Nat),(ops[j]?).bind (·.dst)=some d→d<N)(hD:∀o∈ops.toList,mP N o=true){K:AF→aA→Prop}{Q:Exit→Act→World→Prop}{w0:World}{st0:aA}
 (hK:∀φ st a w,K φ st→Rel N a w φ st→bL w0.heap st0 w.heap st→dY w0 w→Q .normal a w) :
 ∀(f:Nat) (aM:Array Bool) (φ:AF) (st:aA) (a:Act) (w:World),GJ P ops K f aM φ st→Rel N a w φ st→bL w0.heap st0 w.heap st→dY w0 w→wpAny P .any ops Q f aM a w
 | 0,aM,φ,st,a,w,h,R,T,s=>⟨h.1,hK φ st a w h.2 R T s⟩
 | f+1,aM,φ,st,a,w,h,R,T,s=>by
  refine⟨fun h0=>hK φ st a w (h.1 h0) R T s,fun i hi=>?_⟩
  obtain⟨o,ho,y⟩:=h.2 i hi
  exact aKG hN ho R (hD o (mG.2 (CO ho))) y fun a' w' r st' R' T' s' g=>GK hN hD hK f _ _ _ a' w' g R' (T.trans T') (s.trans s')
def P6(P:Program)(ops:Array Oper)(o:Oper)(r:AV)(φ:AF):Prop:=∀st,iD P st ops o r φ
theorem aZE{ops:Array Oper}{o:Oper}{r:AV}{φ:AF}(h:P6 P ops o r φ){st:aA}{K:AV→aA→Prop}(k:K r st):gQ P ops o φ st K:=by
 unfold gQ
 rcases h st with ⟨hg,hs⟩ | ⟨hg,rfl⟩
 · rw[hg];exact wV (fun r' s' ⟨e1,e2⟩=>by rw[e1,e2];exact k) hs
 · rw[hg];exact k
theorem QE{ops:Array Oper}{o:Oper}{r:AV}{φ:AF}{st:aA}(h:iD P st ops o r φ){K:AV→aA→Prop}(k:K r st):gQ P ops o φ st K:=by
 unfold gQ
 rcases h with ⟨hg,hs⟩ | ⟨hg,rfl⟩
 · rw[hg];exact wV (fun r' s' ⟨e1,e2⟩=>by rw[e1,e2];exact k) hs
 · rw[hg];exact k
def zG(P:Program)(ops:Array Oper)(S:List Nat)(K:AF→aA→Prop):Nat→Array Bool→AF→aA→Prop
 | 0,aM,φ,st=>Region.ready .any ops aM= []∧K φ st
 | f+1,aM,φ,st=>(Region.ready .any ops aM= []→K φ st)∧∀i∈Region.ready .any ops aM,∃o,ops[i]?=some o ∧
  ((S.contains i=true∧∃r,iD P st ops o r φ∧zG P ops S K f (aM.setIfInBounds i true) (φ.put o.dst r) st) ∨
   (S.contains i=false∧gQ P ops o φ st (fun r st'=>zG P ops S K f (aM.setIfInBounds i true) (φ.put o.dst r) st')))
theorem KL{ops:Array Oper}{S:List Nat}{K:AF→aA→Prop}:∀(f:Nat) (aM:Array Bool) (φ:AF) (st:aA),zG P ops S K f aM φ st→GJ P ops K f aM φ st
 | 0,_,_,_,h=>h
 | f+1,aM,φ,st,h=>by
  refine⟨h.1,fun i hi=>?_⟩
  obtain⟨o,ho,h2⟩:=h.2 i hi
  refine⟨o,ho,?_⟩
  rcases h2 with ⟨_,r,y,k⟩ | ⟨_,k⟩
  · exact QE y (KL f _ _ _ k)
  · exact qJ (fun r s q=>KL f _ _ _ q) k
def qB(ops:Array Oper)(aM:Array Bool):Prop:=∀j o,ops[j]?=some o→aM.getD j false=true→∀e∈o.after,Region.binds .any e=true→aM.getD e.on false=true
theorem qB.set{ops:Array Oper}{aM:Array Bool}{i:Nat}(h:qB ops aM)(hr:i∈Region.ready .any ops aM):qB ops (aM.setIfInBounds i true):=by
 intro j o ho hl e he hb
 by_cases hji:i=j
 · subst hji
   obtain⟨_,o',ho',cZ⟩:=mem_ready.1 hr
   rw[ho'] at ho;cases ho
   exact getD_set_true (cZ e he hb)
 · rw[getD_set_ne false hji] at hl
   exact getD_set_true (h j o ho hl e he hb)
def r6(ops:Array Oper):Nat→Nat→Nat→Bool
 | 0,_,_=>false
 | f+1,j,i=>match ops[j]? with
  | some o=>o.after.any fun e=>Region.binds .any e&&(e.on == i||r6 ops f e.on i)
  | none=>false
theorem HG{ops:Array Oper}{aM:Array Bool}{i:Nat}(h:qB ops aM)(hi:aM.getD i false=false):∀(f j:Nat) (o:Oper),ops[j]?=some o→r6 ops f j i=true→¬ ∀e∈o.after,Region.binds .any e=true→aM.getD e.on false=true
 | 0,j,o,_,hd=>by simp [r6] at hd
 | f+1,j,o,ho,hd=>by
  intro cZ
  simp only[r6,ho] at hd
  obtain⟨e,he,h2⟩:=Array.any_eq_true'.1 hd
  simp only[bG,kV,beq_iff_eq] at h2
  obtain⟨hb,h3⟩:=h2
  have hl:=cZ e he hb
  rcases h3 with h3 | h3
  · rw[h3,hi] at hl;cases hl
  · cases hk:ops[e.on]? with
    | none=>cases f<;>simp [r6,hk] at h3
    | some o2=>exact HG h hi f e.on o2 hk h3 (h e.on o2 hk hl)
def dX(st s:aA):Prop:=∀b o,st b=some o→s b=some o
theorem dX.refl(st:aA):dX st st:=fun _ _ h=>h
theorem dX.trans{a b c:aA}(x:dX a b)(y:dX b c):dX a c:=fun q o h=>y q o (x q o h)
def GR(o:Oper):Bool:=match o.op with
 | .alloc _=>true
 | _=>false
theorem aKF{ops:Array Oper}{o:Oper}{φ:AF}{st:aA}{K:AV→aA→Prop}(ho:GR o=true)(e:gQ P ops o φ st K):gQ P ops o φ st (fun r st'=>dX st st'∧K r st'):=by
 obtain⟨dst,op,type,pos,after,guard⟩:=o
 cases op<;>simp only[GR,iA] at ho
 unfold gQ at e ⊢
 split at e
 · simp only[dZ] at e ⊢
   split at e
   · intro b hb
     refine⟨fun q o hq=>?_,e b hb⟩
     rw[aA.aO _ _ (by rintro rfl;rw[hb] at hq;cases hq)]
     exact hq
   · cases e
 · exact⟨dX.refl _,e⟩
 · cases e
theorem KM{ops:Array Oper}{S:List Nat}{i:Nat}{oi:Oper}{v:AV}{K:AF→aA→Prop}(hi:ops[i]?=some oi)(hS:S.contains i=true) :
 ∀(f:Nat) (aM:Array Bool) (φ:AF) (st:aA),qB ops aM →
  (∀j oj,ops[j]?=some oj→j≠i→aM.getD j true=false→(∀e∈oj.after,Region.binds .any e=true→e.on≠i)→oi.apart ops oj=true) →
  i∈Region.ready .any ops aM→((∀s,iD P s ops oi v φ)∨(iD P st ops oi v φ∧∀j oj,ops[j]?=some oj→aM.getD j true=false→S.contains j=false→∃g,r6 ops g j i=true)∨((∀s,dX st s→iD P s ops oi v φ)∧∀j oj,ops[j]?=some oj→aM.getD j true=false→S.contains j=false→(∃g,r6 ops g j i=true)∨GR oj=true)) →
  zG P ops S K f (aM.setIfInBounds i true) (φ.put oi.dst v) st→zG P ops S K (f+1) aM φ st:=by
 intro f
 induction f with
 | zero=>
  intro aM φ st hcl _ hr hy H
  have hy0:iD P st ops oi v φ:=by
   rcases hy with h | h | h
   · exact h st
   · exact h.1
   · exact h.1 st (dX.refl st)
  refine⟨fun h=>(by rw[h] at hr;cases hr),fun j hj=>?_⟩
  by_cases hji:j=i
  · subst hji;exact⟨oi,hi,.inl ⟨hS,v,hy0,H⟩⟩
  · have:=ready_mono hj hji
    rw[H.1] at this
    cases this
 | succ f ih=>
  intro aM φ st hcl qU hr hy H
  have hy0:iD P st ops oi v φ:=by
   rcases hy with h | h | h
   · exact h st
   · exact h.1
   · exact h.1 st (dX.refl st)
  refine⟨fun h=>(by rw[h] at hr;cases hr),fun j hj=>?_⟩
  by_cases hji:j=i
  · subst hji;exact⟨oi,hi,.inl ⟨hS,v,hy0,H⟩⟩
  · obtain⟨oj,hoj,h1⟩:=H.2 j (ready_mono hj hji)
    obtain⟨nM,oj',xP,cZ⟩:=mem_ready.1 hj
    have:oj'=oj:=nD (xP.symm.trans hoj)
    subst this
    have hun:=(mem_ready.1 hr).1
    have uE:∀e∈oj'.after,Region.binds .any e=true→e.on≠i:=fun e he hb heq=>by
     have h1:=cZ e he hb
     rw[heq,getD_both hun] at h1
     cases h1
    obtain⟨a1,a2,a3⟩:=Oper.apart_spec (qU j oj' hoj hji nM uE)
    have r9:∀k ok,ops[k]?=some ok→k≠i→(aM.setIfInBounds j true).getD k true=false →
     (∀e∈ok.after,Region.binds .any e=true→e.on≠i)→oi.apart ops ok=true:=fun k ok hk hki hun hno=>by
     refine qU k ok hk hki ?_ hno
     by_cases hjk:j=k
     · subst hjk;exact nM
     · rw[getD_set_ne true hjk] at hun;exact hun
    have M9:∀k,(aM.setIfInBounds j true).getD k true=false→aM.getD k true=false:=fun k hk=>by
     by_cases hjk:j=k
     · subst hjk;exact nM
     · rw[getD_set_ne true hjk] at hk;exact hk
    refine⟨oj',hoj,?_⟩
    rcases h1 with ⟨hSj,r,yj,h2⟩ | ⟨hSj,h2⟩
    · refine .inl ⟨hSj,r,(oI φ v a1).1 yj,ih (aM.setIfInBounds j true) (φ.put oj'.dst r) st (hcl.set hj) r9 (ready_mono hr (dM hji)) ?_ ?_⟩
      · rcases hy with h | h | h
        · exact .inl fun s=>(oI φ r a3).2 (h s)
        · exact .inr (.inl ⟨(oI φ r a3).2 h.1,fun k ok hk hl hs=>h.2 k ok hk (M9 k hl) hs⟩)
        · exact .inr (.inr ⟨fun s hs=>(oI φ r a3).2 (h.1 s hs),fun k ok hk hl hs=>h.2 k ok hk (M9 k hl) hs⟩)
      · rw[yW _ _ hji,←put_comm φ v r a2]
        exact h2
    · rcases hy with hf | ⟨_,hd⟩ | ⟨hx,hd⟩
      · refine .inr ⟨hSj,qJ (fun r st' h3=>?_) ((KQ φ v a1).1 h2)⟩
        refine ih (aM.setIfInBounds j true) (φ.put oj'.dst r) st' (hcl.set hj) r9 (ready_mono hr (dM hji)) (.inl fun s=>(oI φ r a3).2 (hf s)) ?_
        rw[yW _ _ hji,←put_comm φ v r a2]
        exact h3
      · obtain⟨g,hg⟩:=hd j oj' hoj nM hSj
        exact absurd cZ (HG hcl (getD_both hun) g j oj' hoj hg)
      · rcases hd j oj' hoj nM hSj with ⟨g,hg⟩ | hal
        · exact absurd cZ (HG hcl (getD_both hun) g j oj' hoj hg)
        · refine .inr ⟨hSj,qJ (fun r st' h3=>?_) (aKF hal ((KQ φ v a1).1 h2))⟩
          refine ih (aM.setIfInBounds j true) (φ.put oj'.dst r) st' (hcl.set hj) r9 (ready_mono hr (dM hji)) (.inr (.inr ⟨fun s hs=>(oI φ r a3).2 (hx s (h3.1.trans hs)),fun k ok hk hl hs=>hd k ok hk (M9 k hl) hs⟩)) ?_
          rw[yW _ _ hji,←put_comm φ v r a2]
          exact h3.2
def aHG(ops:Array Oper)(S:List Nat)(aM:Array Bool)(i:Nat):Bool:=(List.range ops.size).all fun j=>aM.getD j true||S.contains j||r6 ops ops.size j i
def aHF(ops:Array Oper)(S:List Nat)(aM:Array Bool)(i:Nat):Bool:=(List.range ops.size).all fun j=>aM.getD j true||S.contains j||r6 ops ops.size j i||((ops[j]?).map GR).getD false
def aGI(ops:Array Oper)(i:Nat):Bool:=((ops[i]?).map iY).getD false
def qY(ops:Array Oper)(S:List Nat):List (Nat×Nat)→Array Bool→Bool
 | [],aM=>(Region.ready .any ops aM).isEmpty
 | (i,0)::r,aM=>decide (Region.ready .any ops aM= [i])&& !S.contains i&&qY ops S r (aM.setIfInBounds i true)
 | (i,1)::r,aM=>(Region.ready .any ops aM).contains i&&Region.free .any ops aM i&&S.contains i&&qY ops S r (aM.setIfInBounds i true)
 | (i,_)::r,aM=>(Region.ready .any ops aM).contains i&&Region.free .any ops aM i&&S.contains i&&(aHG ops S aM i||(aGI ops i&&aHF ops S aM i))&&qY ops S r (aM.setIfInBounds i true)
def zQ(P:Program)(ops:Array Oper)(K:AF→aA→Prop):List (Nat×Nat)→AF→aA→Prop
 | [],φ,st=>K φ st
 | (i,0)::r,φ,st=>∃o,ops[i]?=some o∧gQ P ops o φ st (fun v st'=>zQ P ops K r (φ.put o.dst v) st')
 | (i,1)::r,φ,st=>∃o,ops[i]?=some o∧∃v,P6 P ops o v φ∧zQ P ops K r (φ.put o.dst v) st
 | (i,_)::r,φ,st=>∃o,ops[i]?=some o∧∃v,iD P st ops o v φ∧zQ P ops K r (φ.put o.dst v) st
theorem aUO{t:TypeId}{ok:Bool}{x i r:AV}{st s:aA}(hs:dX st s)(h:rR P st t ok x i=some r):rR P s t ok x i=some r:=by
 unfold rR at *
 split at h
 · rename_i b n
   cases hb:st b with
   | none=>rw[hb] at h;cases h
   | some o=>rw[hs b o hb,←hb];exact h
 · cases h
theorem aUL{t:TypeId}{x r:AV}{st s:aA}(hs:dX st s)(h:fL P st t x=some r):fL P s t x=some r:=by
 unfold fL at *
 split at h
 · exact h
 · rename_i b o
   cases hb:st b with
   | none=>rw[hb] at h;split at h<;>simp_all
   | some o=>rw[hs b o hb,←hb];exact h
 · cases h
theorem QC{φ:AF}{o:Oper}{r:AV}{st s:aA}(hs:dX st s)(h:j6 P φ st o=some r):j6 P φ s o=some r:=by
 obtain⟨dst,op,type,pos,after,guard⟩:=o
 cases op
 case makeFunc fn a b=>cases fn<;>exact h
 case call c=>
  obtain⟨callee,args,ats⟩:=c
  cases callee
  case builtin b=>cases b<;>exact h
  all_goals exact h
 case load=>exact aUL hs h
 case lookup=>exact aUO hs h
 all_goals exact h
theorem aKL{ops:Array Oper}{o:Oper}{v:AV}{φ:AF}{st s:aA}(hp:iY o=true)(hs:dX st s)(h:iD P st ops o v φ):iD P s ops o v φ:=by
 rcases h with ⟨h1,h2⟩ | h
 · refine .inl ⟨h1,?_⟩
   rw[qK hp] at h2 ⊢
   cases hv:j6 P φ st o with
   | none=>rw[hv] at h2;cases h2
   | some r=>
    rw[hv] at h2
    rw[QC hs hv]
    exact⟨h2.1,rfl⟩
 · exact .inr h
theorem DJ{ops:Array Oper}{S:List Nat}{K:AF→aA→Prop}:∀(p:List (Nat×Nat)) (aM:Array Bool) (φ:AF) (st:aA),qB ops aM→qY ops S p aM=true→zQ P ops K p φ st→zG P ops S K p.length aM φ st
 | [],aM,φ,st,_,hB,h=>⟨by simpa [qY] using hB,h⟩
 | (i,0)::r,aM,φ,st,hcl,hB,h=>by
  simp only[qY,bG,bK,jI] at hB
  obtain⟨o,ho,h'⟩:=h
  have hr:i∈Region.ready .any ops aM:=by rw[hB.1.1];simp
  refine⟨fun h0=>(by rw[hB.1.1] at h0;cases h0),fun j hj=>?_⟩
  rw[hB.1.1] at hj
  obtain rfl:j=i:=by simpa using hj
  exact⟨o,ho,.inr ⟨hB.1.2,qJ (fun v st' q=>DJ r _ _ _ (hcl.set hr) hB.2 q) h'⟩⟩
 | (i,1)::r,aM,φ,st,hcl,hB,h=>by
  simp only[qY,bG] at hB
  obtain⟨⟨⟨hr,hf⟩,hS⟩,hB'⟩:=hB
  obtain⟨o,ho,v,hv,h'⟩:=h
  have hr':i∈Region.ready .any ops aM:=by simpa using hr
  exact KM ho hS _ aM φ st hcl (Region.free_spec ho hf) hr' (.inl hv) (DJ r _ _ _ (hcl.set hr') hB' h')
 | (i,k+2)::r,aM,φ,st,hcl,hB,h=>by
  simp only[qY,bG] at hB
  obtain⟨⟨⟨⟨hr,hf⟩,hS⟩,hd⟩,hB'⟩:=hB
  obtain⟨o,ho,v,hv,h'⟩:=h
  have hr':i∈Region.ready .any ops aM:=by simpa using hr
  rw[kV] at hd
  rcases hd with hd | hd
  · refine KM ho hS _ aM φ st hcl (Region.free_spec ho hf) hr' (.inr (.inl ⟨hv,fun j oj hj hl hs=>⟨ops.size,?_⟩⟩)) (DJ r _ _ _ (hcl.set hr') hB' h')
    simp only[aHG,dD,wN] at hd
    have:=hd j (J2.1 hj).1
    simpa only[hl,hs,rJ] using this
  · rw[bG] at hd
    obtain⟨hp,hd⟩:=hd
    simp only[aGI,ho,nC,zA] at hp
    refine KM ho hS _ aM φ st hcl (Region.free_spec ho hf) hr' (.inr (.inr ⟨fun s hs=>aKL hp hs hv,fun j oj hj hl hs=>?_⟩)) (DJ r _ _ _ (hcl.set hr') hB' h')
    simp only[aHF,dD,wN] at hd
    have:=hd j (J2.1 hj).1
    simp only[hl,hs,rJ,hj,nC,zA,kV] at this
    exact this.imp (fun h=>⟨ops.size,h⟩) id
theorem aLA{N:Nat}{id:Nat}{ops:Array Oper}{Q:Exit→AF→aA→Prop}{φ:AF}{st:aA}(p:List (Nat×Nat))(S:List Nat)(hm:P.follows .mixedOrders=true)(hok:nV N ops=true)(hl:p.length=ops.size)(hB:qY ops S p (Array.replicate ops.size false)=true)
 (h:zQ P ops (Q .normal) p φ st):d8 P N (.region id ops true) Q φ st:=by
 intro a w R
 refine wp_region_any hm ?_
 have R0:Rel N a { w with drawn:=w.drawn+1 } φ st:=⟨R.size,R.defers,R.frame,R.store⟩
 have:=KL _ _ _ _ (DJ p _ φ st (fun j o _ hl=>(by rw[MO] at hl;cases hl)) hB h)
 rw[hl] at this
 exact GK (vX hok) (uK hok) (w0:=w) (st0:=st) (fun φ' st' a' w' k R' T s=>⟨φ',st',R',T,s,k⟩) _ _ _ _ _ _ this R0 (bL.refl _ _) ⟨rfl,rfl,rfl⟩
theorem aUN{t:TypeId}{ok:Bool}{x i r:AV}(h:rR P dW t ok x i=some r)(st:aA):rR P st t ok x i=some r:=by
 unfold rR at *
 split at h
 · simp only[dW] at h;cases h
 · cases h
theorem aUK{t:TypeId}{x r:AV}(h:fL P dW t x=some r)(st:aA):fL P st t x=some r:=by
 unfold fL at *
 split at h
 · exact h
 · split at h
   · rename_i h1;simp only[dW] at h1;cases h1
   · cases h
 · cases h
theorem aKH{φ:AF}{o:Oper}{r:AV}(h:j6 P φ dW o=some r)(st:aA):j6 P φ st o=some r:=by
 obtain⟨dst,op,type,pos,after,guard⟩:=o
 cases op
 case makeFunc fn a b=>cases fn<;>exact h
 case call c=>
  obtain⟨callee,args,ats⟩:=c
  cases callee
  case builtin b=>cases b<;>exact h
  all_goals exact h
 case load=>exact aUK h st
 case lookup=>exact aUN h st
 all_goals exact h
def iC(P:Program)(ops:Array Oper)(K:AF→aA→Prop):List (Nat×Nat)→AF→aA→Prop
 | [],φ,st=>K φ st
 | (i,0)::r,φ,st=>match ops[i]? with
  | none=>False
  | some o=>aT P [] ops [o] (fun φ' st'=>iC P ops K r φ' st') φ st
 | (i,1)::r,φ,st=>match ops[i]? with
  | none=>False
  | some o=>if iY o=true then aT P [] ops [o] (fun φ' _=>iC P ops K r φ' st) φ dW else
   match o.guard,o.op with
   | none,.call { callee:=.value f,args,.. }=>∃v,(∀s,qN P (φ.eval f) (args.toList.map φ.eval) s (fun r' s'=>r'=v∧s'=s))∧iC P ops K r (φ.put o.dst v) st
   | _,_=>False
 | (i,_)::r,φ,st=>match ops[i]? with
  | none=>False
  | some o=>if iY o=true then aT P [] ops [o] (fun φ' _=>iC P ops K r φ' st) φ st else
   match o.guard,o.op with
   | none,.call { callee:=.value f,args,.. }=>∃v,qN P (φ.eval f) (args.toList.map φ.eval) st (fun r' s'=>r'=v∧s'=st)∧iC P ops K r (φ.put o.dst v) st
   | _,_=>False
theorem tD{ops:Array Oper}{K:AF→aA→Prop}:∀(p:List (Nat×Nat)) (φ:AF) (st:aA),iC P ops K p φ st→zQ P ops K p φ st
 | [],_,_,h=>h
 | (i,0)::r,φ,st,h=>by
  simp only[iC] at h
  split at h
  · exact h.elim
  · rename_i o ho
    refine⟨o,ho,?_⟩
    simp only[aT] at h
    unfold gQ
    split at h
    · rename_i hg
      rw[hg]
      exact wV (fun v s q=>tD r _ _ q) h
    · rename_i hg
      rw[hg]
      exact tD r _ _ h
    · exact h.elim
 | (i,1)::r,φ,st,h=>by
  simp only[iC] at h
  split at h
  · exact h.elim
  · rename_i o ho
    split at h
    · rename_i hp
      simp only[aT] at h
      split at h
      · rename_i hg
        rw[qK hp] at h
        split at h
        · rename_i v hv
          exact⟨o,ho,v,fun s=>.inl ⟨hg,by rw[qK hp,aKH hv s];exact⟨rfl,rfl⟩⟩,tD r _ _ h⟩
        · exact h.elim
      · rename_i hg
        exact⟨o,ho,.undef,fun s=>.inr ⟨hg,rfl⟩,tD r _ _ h⟩
      · exact h.elim
    · split at h
      · rename_i f args ats hg hop
        obtain⟨v,h1,h2⟩:=h
        refine⟨o,ho,v,fun s=>.inl ⟨by simp only[gP,hg],?_⟩,tD r _ _ h2⟩
        simp only[dZ,hop]
        exact h1 s
      · exact h.elim
 | (i,k+2)::r,φ,st,h=>by
  simp only[iC] at h
  split at h
  · exact h.elim
  · rename_i o ho
    split at h
    · rename_i hp
      simp only[aT] at h
      split at h
      · rename_i hg
        rw[qK hp] at h
        split at h
        · rename_i v hv
          exact⟨o,ho,v,.inl ⟨hg,by rw[qK hp,hv];exact⟨rfl,rfl⟩⟩,tD r _ _ h⟩
        · exact h.elim
      · rename_i hg
        exact⟨o,ho,.undef,.inr ⟨hg,rfl⟩,tD r _ _ h⟩
      · exact h.elim
    · split at h
      · rename_i f args ats hg hop
        obtain⟨v,h1,h2⟩:=h
        refine⟨o,ho,v,.inl ⟨by simp only[gP,hg],?_⟩,tD r _ _ h2⟩
        simp only[dZ,hop]
        exact h1
      · exact h.elim
end
def NS(P:Program)(ops:Array Oper)(K:AF→aA→Prop)(r:List (Nat×Nat))(φ:AF)(st:aA):Prop:=iC P ops K r φ st
def EY(P:Program)(ops:Array Oper)(K:AF→aA→Prop)(r:List (Nat×Nat))(st:aA)(φ:AF)(_:aA):Prop:=iC P ops K r φ st
def EX(P:Program)(ops:Array Oper)(K:AF→aA→Prop)(r:List (Nat×Nat))(φ:AF)(dst:Option Tmp)(st:aA)(v:AV):Prop:=iC P ops K r (φ.put dst v) st
def DX(P:Program)(f:AV)(args:List AV)(K:AV→Prop):Prop:=∃v,(∀s,qN P f args s (fun r' s'=>r'=v∧s'=s))∧K v
def BO(P:Program)(ops:Array Oper)(K:AF→aA→Prop)(r:List (Nat×Nat))(φ:AF)(st:aA):Nat→Option Oper→Prop
 | 0,some o=>aT P [] ops [o] (NS P ops K r) φ st
 | 1,some o=>if iY o=true then aT P [] ops [o] (EY P ops K r st) φ dW else
  match o.guard,o.op with
  | none,.call { callee:=.value f,args,.. }=>DX P (φ.eval f) (args.toList.map φ.eval) (EX P ops K r φ o.dst st)
  | _,_=>False
 | _,some o=>if iY o=true then aT P [] ops [o] (EY P ops K r st) φ st else
  match o.guard,o.op with
  | none,.call { callee:=.value f,args,.. }=>vH P (φ.eval f) (args.toList.map φ.eval) st (EX P ops K r φ o.dst st)
  | _,_=>False
 | _,none=>False
theorem Z3{P:Program}{ops:Array Oper}{K:AF→aA→Prop}{φ:AF}{st:aA}:iC P ops K [] φ st=K φ st:=rfl
theorem Z4{P:Program}{l:List Oper}{K:AF→aA→Prop}{φ:AF}{st:aA}{i b:Nat}{r:List (Nat×Nat)}:iC P l.toArray K ((i,b)::r) φ st=BO P l.toArray K r φ st b l[i]?:=by
 match b with
 | 0=>simp only[iC,u6];cases l[i]?<;>rfl
 | 1=>simp only[iC,u6];cases l[i]?<;>rfl
 | b+2=>simp only[iC,u6];cases l[i]?<;>rfl
theorem Z8{P:Program}{ops:Array Oper}{K:AF→aA→Prop}{φ:AF}{st:aA}{r:List (Nat×Nat)}{o:Oper}:BO P ops K r φ st 0 (some o)=aT P [] ops [o] (NS P ops K r) φ st:=rfl
theorem Z9{P:Program}{ops:Array Oper}{K:AF→aA→Prop}{φ:AF}{st:aA}{r:List (Nat×Nat)}{o:Oper}:BO P ops K r φ st 1 (some o)=if iY o=true then aT P [] ops [o] (EY P ops K r st) φ dW else
      match o.guard,o.op with
      | none,.call { callee:=.value f,args,.. }=>DX P (φ.eval f) (args.toList.map φ.eval) (EX P ops K r φ o.dst st)
      | _,_=>False:=rfl
theorem aAA{P:Program}{ops:Array Oper}{K:AF→aA→Prop}{φ:AF}{st:aA}{r:List (Nat×Nat)}{o:Oper}:BO P ops K r φ st 2 (some o)=if iY o=true then aT P [] ops [o] (EY P ops K r st) φ st else
      match o.guard,o.op with
      | none,.call { callee:=.value f,args,.. }=>vH P (φ.eval f) (args.toList.map φ.eval) st (EX P ops K r φ o.dst st)
      | _,_=>False:=rfl
theorem Z7{P:Program}{ops:Array Oper}{K:AF→aA→Prop}{φ:AF}{st:aA}{r:List (Nat×Nat)}:NS P ops K r φ st=iC P ops K r φ st:=rfl
theorem Z6{P:Program}{ops:Array Oper}{K:AF→aA→Prop}{φ:AF}{st s:aA}{r:List (Nat×Nat)}:EY P ops K r st φ s=iC P ops K r φ st:=rfl
theorem Z5{P:Program}{ops:Array Oper}{K:AF→aA→Prop}{φ:AF}{st:aA}{r:List (Nat×Nat)}{dst:Option Tmp}{v:AV}:EX P ops K r φ dst st v=iC P ops K r (φ.put dst v) st:=rfl
theorem LP{P:Program}{g:FuncId}{args:List AV}{r:AV}{K:AV→Prop}(x:∀st,aD P g args st (fun r' st'=>r'=r∧st'=st))(h:K r):DX P (.func g []) args K:=⟨r,fun st=>by show aD P g (args++ []) st _;rw[gI];exact x st,h⟩
@[congr] theorem aZQ {P:Program} {ops:Array Oper} {K:AF→aA→Prop} {p:List (Nat×Nat)} {φ φ':AF} {st st':aA} (h1:φ=φ') (h2:st=st'):iC P ops K p φ st=iC P ops K p φ' st':=by rw[h1,h2]
@[congr] theorem aZ1 {P:Program} {ops:Array Oper} {K:AF→aA→Prop} {p:List (Nat×Nat)} {φ φ':AF} {st st':aA} {b:Nat} {o o':Option Oper} (h1:φ=φ') (h2:st=st') (h3:o=o'):BO P ops K p φ st b o=BO P ops K p φ' st' b o':=by rw[h1,h2,h3]
@[congr] theorem aZU {P:Program} {f f':AV} {args args':List AV} {K:AV→Prop} (h0:f=f') (h1:args=args'):DX P f args K=DX P f' args' K:=by rw[h0,h1]
theorem zx5{P:Program}{N:Nat}{id:Nat}{l:List Oper}{Q:Exit→AF→aA→Prop}{φ:AF}{st:aA}(p:List (Nat×Nat))(S:List Nat)(hm:P.follows .mixedOrders=true)(hok:nV N l.toArray=true)(hl:p.length=l.length)(hB:qY l.toArray S p (Array.replicate l.length false)=true)
 (h:iC P l.toArray (Q .normal) p φ st):d8 P N (.region id l.toArray true) Q φ st:=
 aLA p S hm hok (by simpa using hl) (by simpa using hB) (tD p φ st h)
theorem aD.done{P:Program}{g:FuncId}{args:List AV}{st:aA}{r:AV}(x:aD P g args st (fun r' st'=>r'.soft=r∧aJ st' st)):aD P g args st (fun r' st'=>r'=r∧st'=st):=
 aD.kK (aD.soft x)
theorem aD.pN{P:Program}{g:FuncId}{args:List AV}{st:aA}{Q:AV→aA→Prop}(x:aD P g args st (fun r st'=>∃s2,aJ st' s2∧Q r s2)):aD P g args st Q:=
 x.mF fun r _ ⟨s2,D,q⟩=>⟨r,s2,D.o5,D.mF r,q⟩
theorem jF{cs:List AV}:(AV.agg cs).soft=.agg (cs.map AV.soft):=by simp only[AV.soft,yG]
theorem jW{cs:List AV}:(AV.tup cs).soft=.tup (cs.map AV.soft):=by simp only[AV.soft,yG]
theorem jG{k:IntKind}{n:Int}:(AV.int k n).soft=.int k n:=rfl
theorem q0{b:Bool}:(AV.bool b).soft=.bool b:=rfl
theorem mZ{s:ByteArray}:(AV.str s).soft=.str s:=rfl
theorem oZ{es:List AV}:(AV.slice es).soft=.slice es:=rfl
theorem mY{es:List AV}:(AV.fslice es).soft=.slice es:=rfl
def tW(b:Nat)(l:List AV):List (Nat×AV)→List (Nat×AV)
 | []=>[]
 | p::r=>(p.1,p.2.fin b l)::tW b l r
theorem XS{b:Nat}{l:List AV}:tW b l []= []:=rfl
theorem XT{b d:Nat}{l:List AV}{v:AV}{r:List (Nat×AV)}:tW b l ((d,v)::r)=(d,v.fin b l)::tW b l r:=rfl
theorem aR9{b:Nat}{l:List AV}:AV.junk.fin b l=.junk:=by unfold AV.fin;split<;>rfl
theorem jD{w b:Nat}{l:List AV}:(bQ w b l).fin b l=.slice l:=kY
theorem aUG{st:aA}(b:Nat)(l:List AV)(hb:l≠[]→st b=none)(hj:∀e∈l,e.bO=false)(hE:gN l)(L:List (Nat×AV)):eP (iQ L) (aU st b l) (iQ (tW b l L)) st:=by
 have key:∀L d,iQ (tW b l L) d=(iQ L d).fin b l:=by
  intro L
  induction L with
  | nil=>intro d;exact aR9.symm
  | cons p r ih=>
   obtain⟨e,v⟩:=p
   intro d
   show((iQ (tW b l r)).aC e (v.fin b l)) d=(((iQ r).aC e v) d).fin b l
   simp only[AF.aC]
   split
   · rfl
   · exact ih d
 intro h tmps S F
 cases l with
 | nil=>exact⟨S,bL.refl _ _,fun d=>by rw[key];exact(F d).soft⟩
 | cons y l=>
  have hst:(aU st b (y::l)) b=some (.cells ((y::l).flatMap AV.cells)):=aA.aK _ _ _
  have he:(aU st b (y::l)).erase b=st:=aA.xC st b _ (hb (by simp))
  have L1:eP (iQ L) (aU st b (y::l)) (fun d=>(iQ L d).fz b (y::l)) st:=by
   have:=eP.freeze (φ:=iQ L) hst hj hE
   rwa [he] at this
  obtain⟨a1,a2,a3⟩:=L1 h tmps S F
  exact⟨a1,a2,fun d=>by rw[key];exact(a3 d).soft⟩
theorem CM{P:Program}{N:Nat}{c:Code}{Q:Exit→AF→aA→Prop}{φ:AF}{st:aA}{α σ:Type}(mt:List Nat)(bJ:List Nat)(l:List α)(w d:Nat)(acc:Nat→σ→List AV)(inv:Nat→σ→Prop)(ch:Nat→σ→List (Nat×AV))(so:Nat→σ→aA)
 (hw:∀i s,inv i s→∀e∈acc i s,e.bO=false∧e.width=w)
 (hok:codeOk N c=true)
 (h0:∃s b,inv 0 s∧(acc 0 s≠[]→so 0 s b=none)∧aP φ st (jE φ bJ ((d,bQ w b (acc 0 s))::ch 0 s)) (aU (so 0 s) b (acc 0 s)))
 (h1:∀i x s b,l[i]?=some x→i<l.length→((i:Int)<(l.length:Int))→l.drop i=x::l.drop (i+1)→inv i s→(acc i s≠[]→so i s b=none) →
  eL P N mt c (nS (fun φ' st'=>∃s' b',inv (i+1) s'∧(acc (i+1) s'≠[]→so (i+1) s' b'=none)∧aP φ' st' (jE φ bJ ((d,bQ w b' (acc (i+1) s'))::ch (i+1) s')) (aU (so (i+1) s') b' (acc (i+1) s'))) Q) (tZ (jE φ bJ ((d,bQ w b (acc i s))::ch i s))) (aU (so i s) b (acc i s)))
 (h2:∀s b,¬((l.length:Int)<(l.length:Int))→inv l.length s→eL P N mt c (nS (fun _ _=>False) Q) (tZ (tW b (acc l.length s) (jE φ bJ ((d,bQ w b (acc l.length s))::ch l.length s)))) (so l.length s)):d8 P N (.loop c) Q φ st:=by
 have mF:∀(k:AF→aA→Prop) (φ0:AF) (st0:aA) (k':AF→aA→Prop),(∀φ' st',k' φ' st'→k φ' st') →
  d8 P N c (nS k' Q) φ0 st0→d8 P N c (nS k Q) φ0 st0:=by
  intro k φ0 st0 k' hk hr a w R
  refine wp_mono (hr a w R) ?_
  rintro e a' w' ⟨φ',st',R',T,sm,q⟩
  refine⟨φ',st',R',T,sm,?_⟩
  cases e with
  | normal=>exact hk _ _ q
  | _=>exact q
 refine KY (α:=Nat×σ×Nat) (fun p=>p.1≤l.length∧inv p.1 p.2.1∧(acc p.1 p.2.1≠[]→so p.1 p.2.1 p.2.2=none)) (fun p=>iQ (jE φ bJ ((d,bQ w p.2.2 (acc p.1 p.2.1))::ch p.1 p.2.1))) (fun p=>aU (so p.1 p.2.1) p.2.2 (acc p.1 p.2.1)) (fun p=>l.length - p.1) ?_ ?_
 · obtain⟨s,b,hs,hb,hl⟩:=h0
   exact⟨(0,s,b),⟨f9 _,hs,hb⟩,hl⟩
 · rintro⟨i,s,b⟩ ⟨hi,hs,hb⟩
   simp only at hi hs hb ⊢
   rcases lM i l.length with hlt | hge
   · refine mF _ _ _ _ ?_ (qL mt hok (h1 i l[i] s b (d4 hlt) hlt (by omega) (sT hlt) hs hb))
     rintro φ' st' ⟨s',b',h1',h2',h3'⟩
     exact⟨(i+1,s',b'),by simp only;omega,⟨by simp only;omega,h1',h2'⟩,h3'⟩
   · obtain rfl:i=l.length:=by omega
     refine d8.less (aUG b (acc l.length s) hb (fun e he=>(hw _ s hs e he).1) ⟨w,fun e he=>(hw _ s hs e he).2⟩ _) ?_
     refine mF _ _ _ _ ?_ (qL mt hok (h2 s b (by omega) hs))
     exact fun _ _ h=>h.elim
section
variable {P:Program}
def MI(ops:Array Oper)(S:List Nat)(j:Nat):Bool:=S.all fun i=>r6 ops ops.size j i
def tA(P:Program)(ops:Array Oper)(S:List Nat)(s0:aA)(K:AF→aA→Prop):Nat→Array Bool→AF→aA→Prop
 | 0,aM,φ,st=>Region.ready .any ops aM= []∧K φ st
 | f+1,aM,φ,st=>(Region.ready .any ops aM= []→K φ st)∧∀i∈Region.ready .any ops aM,∃o,ops[i]?=some o ∧
  ((S.contains i=true∧∃r,iD P st ops o r φ∧tA P ops S s0 K f (aM.setIfInBounds i true) (φ.put o.dst r) st) ∨
   (S.contains i=false∧gQ P ops o φ st (fun r st'=>(MI ops S i=true∨dX s0 st')∧tA P ops S s0 K f (aM.setIfInBounds i true) (φ.put o.dst r) st')))
theorem GM{ops:Array Oper}{S:List Nat}{s0:aA}{K:AF→aA→Prop}:∀(f:Nat) (aM:Array Bool) (φ:AF) (st:aA),tA P ops S s0 K f aM φ st→GJ P ops K f aM φ st
 | 0,_,_,_,h=>h
 | f+1,aM,φ,st,h=>by
  refine⟨h.1,fun i hi=>?_⟩
  obtain⟨o,ho,h2⟩:=h.2 i hi
  refine⟨o,ho,?_⟩
  rcases h2 with ⟨_,r,y,k⟩ | ⟨_,k⟩
  · exact QE y (GM f _ _ _ k)
  · exact qJ (fun r s q=>GM f _ _ _ q.2) k
theorem P4{ops:Array Oper}{S:List Nat}{s0:aA}{i:Nat}{oi:Oper}{v:AV}{K:AF→aA→Prop}(hi:ops[i]?=some oi)(hS:S.contains i=true) :
 ∀(f:Nat) (aM:Array Bool) (φ:AF) (st:aA),qB ops aM →
  (∀j oj,ops[j]?=some oj→j≠i→aM.getD j true=false→(∀e∈oj.after,Region.binds .any e=true→e.on≠i)→oi.apart ops oj=true) →
  i∈Region.ready .any ops aM→(∀s,dX s0 s→iD P s ops oi v φ)→dX s0 st →
  tA P ops S s0 K f (aM.setIfInBounds i true) (φ.put oi.dst v) st→tA P ops S s0 K (f+1) aM φ st:=by
 intro f
 induction f with
 | zero=>
  intro aM φ st hcl _ hr hy hx H
  refine⟨fun h=>(by rw[h] at hr;cases hr),fun j hj=>?_⟩
  by_cases hji:j=i
  · subst hji;exact⟨oi,hi,.inl ⟨hS,v,hy st hx,H⟩⟩
  · have:=ready_mono hj hji
    rw[H.1] at this
    cases this
 | succ f ih=>
  intro aM φ st hcl qU hr hy hx H
  refine⟨fun h=>(by rw[h] at hr;cases hr),fun j hj=>?_⟩
  by_cases hji:j=i
  · subst hji;exact⟨oi,hi,.inl ⟨hS,v,hy st hx,H⟩⟩
  · obtain⟨oj,hoj,h1⟩:=H.2 j (ready_mono hj hji)
    obtain⟨nM,oj',xP,cZ⟩:=mem_ready.1 hj
    have:oj'=oj:=nD (xP.symm.trans hoj)
    subst this
    have hun:=(mem_ready.1 hr).1
    have uE:∀e∈oj'.after,Region.binds .any e=true→e.on≠i:=fun e he hb heq=>by
     have h1:=cZ e he hb
     rw[heq,getD_both hun] at h1
     cases h1
    obtain⟨a1,a2,a3⟩:=Oper.apart_spec (qU j oj' hoj hji nM uE)
    have r9:∀k ok,ops[k]?=some ok→k≠i→(aM.setIfInBounds j true).getD k true=false →
     (∀e∈ok.after,Region.binds .any e=true→e.on≠i)→oi.apart ops ok=true:=fun k ok hk hki hun hno=>by
     refine qU k ok hk hki ?_ hno
     by_cases hjk:j=k
     · subst hjk;exact nM
     · rw[getD_set_ne true hjk] at hun;exact hun
    refine⟨oj',hoj,?_⟩
    rcases h1 with ⟨hSj,r,yj,h2⟩ | ⟨hSj,h2⟩
    · refine .inl ⟨hSj,r,(oI φ v a1).1 yj,ih (aM.setIfInBounds j true) (φ.put oj'.dst r) st (hcl.set hj) r9 (ready_mono hr (dM hji)) (fun s hs=>(oI φ r a3).2 (hy s hs)) hx ?_⟩
      rw[yW _ _ hji,←put_comm φ v r a2]
      exact h2
    · refine .inr ⟨hSj,qJ (fun r st' h3=>?_) ((KQ φ v a1).1 h2)⟩
      refine⟨h3.1,?_⟩
      have hx':dX s0 st':=by
       rcases h3.1 with he | he
       · exfalso
         unfold MI at he
         have hd:=dD.1 he i (by simpa using hS)
         exact HG hcl (getD_both hun) _ j oj' hoj hd cZ
       · exact he
      refine ih (aM.setIfInBounds j true) (φ.put oj'.dst r) st' (hcl.set hj) r9 (ready_mono hr (dM hji)) (fun s hs=>(oI φ r a3).2 (hy s hs)) hx' ?_
      rw[yW _ _ hji,←put_comm φ v r a2]
      exact h3.2
def pV(ops:Array Oper)(S:List Nat):List (Nat×Nat)→Array Bool→Bool
 | [],aM=>(Region.ready .any ops aM).isEmpty
 | (i,0)::r,aM=>decide (Region.ready .any ops aM= [i])&& !S.contains i&&pV ops S r (aM.setIfInBounds i true)
 | (i,1)::r,aM=>(Region.ready .any ops aM).contains i&&Region.free .any ops aM i&&S.contains i&&pV ops S r (aM.setIfInBounds i true)
 | (i,_)::r,aM=>decide (Region.ready .any ops aM= [i])&& !S.contains i&&MI ops S i&&pV ops S r (aM.setIfInBounds i true)
def wT(P:Program)(ops:Array Oper)(s0:aA)(K:AF→aA→Prop):List (Nat×Nat)→AF→aA→Prop
 | [],φ,st=>K φ st
 | (i,0)::r,φ,st=>∃o,ops[i]?=some o∧gQ P ops o φ st (fun v st'=>dX s0 st'∧wT P ops s0 K r (φ.put o.dst v) st')
 | (i,1)::r,φ,st=>∃o,ops[i]?=some o∧∃v,(∀s,dX s0 s→iD P s ops o v φ)∧wT P ops s0 K r (φ.put o.dst v) st
 | (i,_)::r,φ,st=>∃o,ops[i]?=some o∧gQ P ops o φ st (fun v st'=>wT P ops s0 K r (φ.put o.dst v) st')
def xV:List (Nat×Nat)→Bool
 | []=>true
 | (_,0)::r=>xV r
 | (_,1)::r=>xV r
 | (_,_)::r=>r.all fun p=>p.2 != 1
theorem DI{ops:Array Oper}{S:List Nat}{s0:aA}{K:AF→aA→Prop}:∀(p:List (Nat×Nat)) (aM:Array Bool) (φ:AF) (st:aA),qB ops aM→pV ops S p aM=true→(xV p=true∧dX s0 st∨(p.all fun q=>q.2 != 1)=true)→wT P ops s0 K p φ st→tA P ops S s0 K p.length aM φ st
 | [],aM,φ,st,_,hB,hx,h=>⟨by simpa [pV] using hB,h⟩
 | (i,0)::r,aM,φ,st,hcl,hB,hx,h=>by
  simp only[pV,bG,bK,jI] at hB
  obtain⟨o,ho,h'⟩:=h
  have hr:i∈Region.ready .any ops aM:=by rw[hB.1.1];simp
  refine⟨fun h0=>(by rw[hB.1.1] at h0;cases h0),fun j hj=>?_⟩
  rw[hB.1.1] at hj
  obtain rfl:j=i:=by simpa using hj
  refine⟨o,ho,.inr ⟨hB.1.2,qJ (fun v st' q=>⟨.inr q.1,DI r _ _ _ (hcl.set hr) hB.2 ?_ q.2⟩) h'⟩⟩
  rcases hx with hx | hx
  · exact .inl ⟨hx.1,q.1⟩
  · refine .inr ?_
    simp only[kH,bG] at hx
    exact hx.2
 | (i,1)::r,aM,φ,st,hcl,hB,hx,h=>by
  simp only[pV,bG] at hB
  obtain⟨⟨⟨hr,hf⟩,hS⟩,hB'⟩:=hB
  obtain⟨o,ho,v,hv,h'⟩:=h
  have hr':i∈Region.ready .any ops aM:=by simpa using hr
  rcases hx with hx | hx
  · exact P4 ho hS _ aM φ st hcl (Region.free_spec ho hf) hr' hv hx.2 (DI r _ _ _ (hcl.set hr') hB' (.inl hx) h')
  · simp at hx
 | (i,k+2)::r,aM,φ,st,hcl,hB,hx,h=>by
  simp only[pV,bG,bK,jI] at hB
  obtain⟨o,ho,h'⟩:=h
  have hr:i∈Region.ready .any ops aM:=by rw[hB.1.1.1];simp
  refine⟨fun h0=>(by rw[hB.1.1.1] at h0;cases h0),fun j hj=>?_⟩
  rw[hB.1.1.1] at hj
  obtain rfl:j=i:=by simpa using hj
  refine⟨o,ho,.inr ⟨hB.1.1.2,qJ (fun v st' q=>⟨.inl hB.1.2,DI r _ _ _ (hcl.set hr) hB.2 (.inr ?_) q⟩) h'⟩⟩
  rcases hx with hx | hx
  · exact hx.1
  · simp only[kH,bG] at hx
    exact hx.2
theorem aLB{N:Nat}{id:Nat}{ops:Array Oper}{Q:Exit→AF→aA→Prop}{φ:AF}{st:aA}(p:List (Nat×Nat))(S:List Nat)(s0:aA)(hm:P.follows .mixedOrders=true)(hok:nV N ops=true)(hl:p.length=ops.size)(hB:pV ops S p (Array.replicate ops.size false)=true)(hf:xV p=true)(hs:dX s0 st)
 (h:wT P ops s0 (Q .normal) p φ st):d8 P N (.region id ops true) Q φ st:=by
 intro a w R
 refine wp_region_any hm ?_
 have R0:Rel N a { w with drawn:=w.drawn+1 } φ st:=⟨R.size,R.defers,R.frame,R.store⟩
 have:=GM _ _ _ _ (DI p _ φ st (fun j o _ hl=>(by rw[MO] at hl;cases hl)) hB (.inl ⟨hf,hs⟩) h)
 rw[hl] at this
 exact GK (vX hok) (uK hok) (w0:=w) (st0:=st) (fun φ' st' a' w' k R' T s=>⟨φ',st',R',T,s,k⟩) _ _ _ _ _ _ this R0 (bL.refl _ _) ⟨rfl,rfl,rfl⟩
def fW(P:Program)(ops:Array Oper)(s0:aA)(K:AF→aA→Prop):List (Nat×Nat)→AF→aA→Prop
 | [],φ,st=>K φ st
 | (i,0)::r,φ,st=>match ops[i]? with
  | none=>False
  | some o=>aT P [] ops [o] (fun φ' st'=>dX s0 st'∧fW P ops s0 K r φ' st') φ st
 | (i,1)::r,φ,st=>match ops[i]? with
  | none=>False
  | some o=>if iY o=true then aT P [] ops [o] (fun φ' _=>fW P ops s0 K r φ' st) φ s0 else
   match o.guard,o.op with
   | none,.call { callee:=.value f,args,.. }=>∃v,(∀s,dX s0 s→qN P (φ.eval f) (args.toList.map φ.eval) s (fun r' s'=>r'=v∧s'=s))∧fW P ops s0 K r (φ.put o.dst v) st
   | _,_=>False
 | (i,_)::r,φ,st=>match ops[i]? with
  | none=>False
  | some o=>aT P [] ops [o] (fun φ' st'=>fW P ops s0 K r φ' st') φ st
theorem rS{ops:Array Oper}{s0:aA}{K:AF→aA→Prop}:∀(p:List (Nat×Nat)) (φ:AF) (st:aA),fW P ops s0 K p φ st→wT P ops s0 K p φ st
 | [],_,_,h=>h
 | (i,0)::r,φ,st,h=>by
  simp only[fW] at h
  split at h
  · exact h.elim
  · rename_i o ho
    refine⟨o,ho,?_⟩
    simp only[aT] at h
    unfold gQ
    split at h
    · rename_i hg
      rw[hg]
      exact wV (fun v s q=>⟨q.1,rS r _ _ q.2⟩) h
    · rename_i hg
      rw[hg]
      exact⟨h.1,rS r _ _ h.2⟩
    · exact h.elim
 | (i,1)::r,φ,st,h=>by
  simp only[fW] at h
  split at h
  · exact h.elim
  · rename_i o ho
    split at h
    · rename_i hp
      simp only[aT] at h
      split at h
      · rename_i hg
        rw[qK hp] at h
        split at h
        · rename_i v hv
          refine⟨o,ho,v,fun s hs=>.inl ⟨hg,?_⟩,rS r _ _ h⟩
          rw[qK hp,QC hs hv]
          exact⟨rfl,rfl⟩
        · exact h.elim
      · rename_i hg
        exact⟨o,ho,.undef,fun s _=>.inr ⟨hg,rfl⟩,rS r _ _ h⟩
      · exact h.elim
    · split at h
      · rename_i f args ats hg hop
        obtain⟨v,h1,h2⟩:=h
        refine⟨o,ho,v,fun s hs=>.inl ⟨by simp only[gP,hg],?_⟩,rS r _ _ h2⟩
        simp only[dZ,hop]
        exact h1 s hs
      · exact h.elim
 | (i,k+2)::r,φ,st,h=>by
  simp only[fW] at h
  split at h
  · exact h.elim
  · rename_i o ho
    refine⟨o,ho,?_⟩
    simp only[aT] at h
    unfold gQ
    split at h
    · rename_i hg
      rw[hg]
      exact wV (fun v s q=>rS r _ _ q) h
    · rename_i hg
      rw[hg]
      exact rS r _ _ h
    · exact h.elim
end
def NT(P:Program)(ops:Array Oper)(s0:aA)(K:AF→aA→Prop)(r:List (Nat×Nat))(φ:AF)(st:aA):Prop:=dX s0 st∧fW P ops s0 K r φ st
def NR(P:Program)(ops:Array Oper)(s0:aA)(K:AF→aA→Prop)(r:List (Nat×Nat))(φ:AF)(st:aA):Prop:=fW P ops s0 K r φ st
def NQ(P:Program)(ops:Array Oper)(s0:aA)(K:AF→aA→Prop)(r:List (Nat×Nat))(st:aA)(φ:AF)(_:aA):Prop:=fW P ops s0 K r φ st
def NP(P:Program)(ops:Array Oper)(s0:aA)(K:AF→aA→Prop)(r:List (Nat×Nat))(φ:AF)(dst:Option Tmp)(st:aA)(v:AV):Prop:=fW P ops s0 K r (φ.put dst v) st
def SN(P:Program)(s0:aA)(f:AV)(args:List AV)(K:AV→Prop):Prop:=∃v,(∀s,dX s0 s→qN P f args s (fun r' s'=>r'=v∧s'=s))∧K v
def BP(P:Program)(ops:Array Oper)(s0:aA)(K:AF→aA→Prop)(r:List (Nat×Nat))(φ:AF)(st:aA):Nat→Option Oper→Prop
 | 0,some o=>aT P [] ops [o] (NT P ops s0 K r) φ st
 | 1,some o=>if iY o=true then aT P [] ops [o] (NQ P ops s0 K r st) φ s0 else
  match o.guard,o.op with
  | none,.call { callee:=.value f,args,.. }=>SN P s0 (φ.eval f) (args.toList.map φ.eval) (NP P ops s0 K r φ o.dst st)
  | _,_=>False
 | _,some o=>aT P [] ops [o] (NR P ops s0 K r) φ st
 | _,none=>False
theorem aAB{P:Program}{ops:Array Oper}{s0:aA}{K:AF→aA→Prop}{φ:AF}{st:aA}:fW P ops s0 K [] φ st=K φ st:=rfl
theorem aAC{P:Program}{l:List Oper}{s0:aA}{K:AF→aA→Prop}{φ:AF}{st:aA}{i b:Nat}{r:List (Nat×Nat)}:fW P l.toArray s0 K ((i,b)::r) φ st=BP P l.toArray s0 K r φ st b l[i]?:=by
 match b with
 | 0=>simp only[fW,u6];cases l[i]?<;>rfl
 | 1=>simp only[fW,u6];cases l[i]?<;>rfl
 | b+2=>simp only[fW,u6];cases l[i]?<;>rfl
theorem aAH{P:Program}{ops:Array Oper}{s0:aA}{K:AF→aA→Prop}{φ:AF}{st:aA}{r:List (Nat×Nat)}{o:Oper}:BP P ops s0 K r φ st 0 (some o)=aT P [] ops [o] (NT P ops s0 K r) φ st:=rfl
theorem aAI{P:Program}{ops:Array Oper}{s0:aA}{K:AF→aA→Prop}{φ:AF}{st:aA}{r:List (Nat×Nat)}{o:Oper}:BP P ops s0 K r φ st 1 (some o)=if iY o=true then aT P [] ops [o] (NQ P ops s0 K r st) φ s0 else
      match o.guard,o.op with
      | none,.call { callee:=.value f,args,.. }=>SN P s0 (φ.eval f) (args.toList.map φ.eval) (NP P ops s0 K r φ o.dst st)
      | _,_=>False:=rfl
theorem aAJ{P:Program}{ops:Array Oper}{s0:aA}{K:AF→aA→Prop}{φ:AF}{st:aA}{r:List (Nat×Nat)}{o:Oper}:BP P ops s0 K r φ st 2 (some o)=aT P [] ops [o] (NR P ops s0 K r) φ st:=rfl
theorem aAG{P:Program}{ops:Array Oper}{s0:aA}{K:AF→aA→Prop}{φ:AF}{st:aA}{r:List (Nat×Nat)}:NT P ops s0 K r φ st=(dX s0 st∧fW P ops s0 K r φ st):=rfl
theorem aAF{P:Program}{ops:Array Oper}{s0:aA}{K:AF→aA→Prop}{φ:AF}{st:aA}{r:List (Nat×Nat)}:NR P ops s0 K r φ st=fW P ops s0 K r φ st:=rfl
theorem aAE{P:Program}{ops:Array Oper}{s0:aA}{K:AF→aA→Prop}{φ:AF}{st s:aA}{r:List (Nat×Nat)}:NQ P ops s0 K r st φ s=fW P ops s0 K r φ st:=rfl
theorem aAD{P:Program}{ops:Array Oper}{s0:aA}{K:AF→aA→Prop}{φ:AF}{st:aA}{r:List (Nat×Nat)}{dst:Option Tmp}{v:AV}:NP P ops s0 K r φ dst st v=fW P ops s0 K r (φ.put dst v) st:=rfl
@[congr] theorem aZR {P:Program} {ops:Array Oper} {s0:aA} {K:AF→aA→Prop} {p:List (Nat×Nat)} {φ φ':AF} {st st':aA} (h1:φ=φ') (h2:st=st'):fW P ops s0 K p φ st=fW P ops s0 K p φ' st':=by rw[h1,h2]
@[congr] theorem aZ2 {P:Program} {ops:Array Oper} {s0:aA} {K:AF→aA→Prop} {p:List (Nat×Nat)} {φ φ':AF} {st st':aA} {b:Nat} {o o':Option Oper} (h1:φ=φ') (h2:st=st') (h3:o=o'):BP P ops s0 K p φ st b o=BP P ops s0 K p φ' st' b o':=by rw[h1,h2,h3]
theorem CL{P:Program}{N:Nat}{id:Nat}{l:List Oper}{Q:Exit→AF→aA→Prop}{φ:AF}{st:aA}(p:List (Nat×Nat))(S:List Nat)(s0:aA)(hm:P.follows .mixedOrders=true)(hok:nV N l.toArray=true)(hl:p.length=l.length)(hB:pV l.toArray S p (Array.replicate l.length false)=true)(hf:xV p=true)(hs:dX s0 st)
 (h:fW P l.toArray s0 (Q .normal) p φ st):d8 P N (.region id l.toArray true) Q φ st:=
 aLB p S s0 hm hok (by simpa using hl) (by simpa using hB) hf hs (rS p φ st h)
def aGS(K:AV→aA→Prop)(st:aA):Option AV→Option AV→Prop
 | some r,some s=>jY [r,s]=true∧K (.tup [r,s]) st
 | _,_=>False
theorem aAZ{P:Program}{φ:AF}{st:aA}{p q:Tmp}{t u:TypeId}{K:AV→aA→Prop}:lG P [.cell p t,.cell q u] K φ st=aGS K st (fL P st t (φ p)) (fL P st u (φ q)):=by
 simp only[lG,mL,wU]
 cases fL P st t (φ p)<;>cases fL P st u (φ q)<;>rfl
theorem aA0{st:aA}{K:AV→aA→Prop}{r s:AV}:aGS K st (some r) (some s)=(jY [r,s]=true∧K (.tup [r,s]) st):=rfl
def one(b:Nat)(o:AO):aA:=dW.aC b o
theorem NK{b:Nat}{o:AO}:one b o b=some o:=aA.aK _ _ _
theorem lP{b:Nat}{o:AO}{st:aA}(h:st b=some o):dX (one b o) st:=fun x p hx=>by
 simp only[one,aA.aC] at hx
 split at hx
 · rename_i e;cases hx;rw[e];exact h
 · cases hx
theorem cY{st:aA}:dX dW st:=fun x p hx=>by cases hx
section
variable {α:Type}
def pP(f:α→α→Bool):List α→List α→Bool
 | [],[]=>true
 | x::xs,y::ys=>f x y&&pP f xs ys
 | _,_=>false
theorem ME(f:α→α→Bool):∀ {a b:List α},a.length≠b.length→pP f a b=false
 | [],[],h=>absurd rfl h
 | [],_::_,_=>rfl
 | _::_,[],_=>rfl
 | x::xs,y::ys,h=>by simp only[pP,ME f (a:=xs) (b:=ys) (by simpa using h),sS]
theorem MD(f:α→α→Bool):∀ {a b:List α} (i:Nat) (x y:α),a[i]?=some x→b[i]?=some y→f x y=false→pP f a b=false
 | [],_,i,x,y,h,_,_=>by simp at h
 | _::_,[],i,x,y,_,h,_=>by simp at h
 | t::ts,t'::ts',0,x,y,h1,h2,h=>by
  simp at h1 h2;subst h1;subst h2
  simp only[pP,h,eT]
 | t::ts,t'::ts',i+1,x,y,h1,h2,h=>by
  simp only[pP,MD f (a:=ts) (b:=ts') i x y (by simpa using h1) (by simpa using h2) h,sS]
theorem MC(f:α→α→Bool):∀ {a b:List α},a.length=b.length→(∀(i:Nat) (x y:α),a[i]?=some x→b[i]?=some y→f x y=true)→pP f a b=true
 | [],[],_,_=>rfl
 | t::ts,t'::ts',h,g=>by
  simp only[pP,bG]
  exact⟨g 0 t t' rfl rfl,MC f (by simpa using h) fun i x y h1 h2=>g (i+1) x y (by simpa using h1) (by simpa using h2)⟩
def bU(f:α→Nat):List α→Nat
 | []=>0
 | x::xs=>f x+bU f xs
theorem I1(f:α→Nat):∀ {l:List α} {i:Nat} {x:α},l[i]?=some x→bU f (l.take (i+1))=bU f (l.take i)+f x∧bU f (l.take (i+1))≤bU f l
 | [],i,x,h=>by simp at h
 | y::ys,0,x,h=>by simp at h;subst h;simp [bU]
 | y::ys,i+1,x,h=>by
  have:=I1 f (l:=ys) (i:=i) (x:=x) (by simpa using h)
  simp only[sV,bU] at this ⊢
  omega
theorem E9{f:α→Nat}:∀ {l:List α} {x:α},x∈l→f x≤bU f l
 | y::ys,x,h=>by
  simp only[cT] at h
  simp only[bU]
  rcases h with rfl | h
  · omega
  · have:=E9 (f:=f) h;omega
theorem bR{P:Program}{t:TypeId}{ag:Bool}{w:Nat}{av:α→AV}{l:List α}{i:Nat}{x:α}(hI:eI P t=some (ag,w))(h:l[i]?=some x)(hw:(av x).width=w):dP P t (.slice (l.map av)) (.int .i64 (i:Int))=some (.pptr (av x)):=by
 simp only[dP,hI,fV,mI,h,nC,hw]
 simp
theorem aP6{av:α→AV}{w:Nat}(hw:∀x,(av x).width=w)(l:List α):gN (l.map av):=⟨w,by intro e h;simp only[cL] at h;obtain⟨t,_,rfl⟩:=h;exact hw t⟩
theorem NE(zs:List AV)(hz:zs≠[])(n:Nat):iG zs n=(List.replicate n zs).flatten:=by
 have hl:0<zs.length:=by cases zs with | nil=>exact absurd rfl hz | cons=>simp
 apply F9
 intro i
 unfold iG
 induction n generalizing i with
 | zero=>simp
 | succ n ih=>
  rw[KE,List.flatten_cons]
  rcases lM i zs.length with h | h
  · rw[PP h]
    have:i<(n+1)*zs.length:=by rw[pB];omega
    simp [this,CV h,h]
  · rw[J8 h,←ih]
    have e1:i % zs.length=(i - zs.length) % zs.length:=by rw[Nat.mod_eq_sub_mod h]
    simp only[mI]
    by_cases h2:i - zs.length<n*zs.length
    · have h3:i<(n+1)*zs.length:=by rw[pB];omega
      simp [h2,h3,e1]
    · have h3:¬i<(n+1)*zs.length:=by rw[pB];omega
      simp [h2,h3]
end
theorem aG1{zs:List AV}{x:List AV}{w:Nat}(h1:x.length=w)(h2:zs.length=w):aG zs 0 x=x:=by
 unfold aG
 simp [h1,h2]
theorem fN{x:AV}(h:x.isAgg=true):AV.agg x.cells=x:=by cases x<;>simp [AV.isAgg] at h<;>rfl
theorem fU{x:List AV}{w:Nat}(h:x.length=w):x.take w=x:=by rw[←h];exact dR
inductive Tm where
 | mk (kind n:Int) (name:ByteArray) (kids:List Tm)
mutual
def Tm.av:Tm→AV
 | .mk k n s ts=>.agg [.int .i64 k,.int .i64 n,.str s,.slice (JI ts)]
def JI:List Tm→List AV
 | []=>[]
 | t::ts=>t.av::JI ts
end
theorem aIN:∀(ts:List Tm),JI ts=ts.map Tm.av
 | []=>rfl
 | t::ts=>by simp only[JI,bF,aIN ts]
theorem bY(k n:Int)(s:ByteArray)(ts:List Tm):(Tm.mk k n s ts).av=.agg [.int .i64 k,.int .i64 n,.str s,.slice (ts.map Tm.av)]:=by simp only[Tm.av,aIN]
mutual
def Tm.same:Tm→Tm→Bool
 | .mk k n s ts,.mk k' n' s' ts'=>decide (k=k')&&decide (n=n')&&decide (s=s')&&JQ ts ts'
def JQ:List Tm→List Tm→Bool
 | [],[]=>true
 | t::ts,t'::ts'=>t.same t'&&JQ ts ts'
 | _,_=>false
end
theorem aIU:∀(a b:List Tm),JQ a b=pP Tm.same a b
 | [],[]=>rfl
 | [],_::_=>rfl
 | _::_,[]=>rfl
 | t::ts,t'::ts'=>by simp only[JQ,pP,aIU ts ts']
theorem Tm.aGZ(k n:Int)(s:ByteArray)(ts:List Tm)(k' n':Int)(s':ByteArray)(ts':List Tm):(Tm.mk k n s ts).same (Tm.mk k' n' s' ts')=(decide (k=k')&&decide (n=n')&&decide (s=s')&&pP Tm.same ts ts'):=by simp only[Tm.same,aIU]
theorem bM(t:Tm):t.av.isAgg=true:=by cases t;rfl
theorem aQ(t:Tm):t.av.width=4:=by cases t;rfl
theorem cH(t:Tm):t.av.cells.length=4:=by cases t;rfl
theorem cO(t:Tm):t.av.cells.all AV.storable=true:=by cases t;rfl
theorem cR(t:Tm):t.av.bO=false:=by cases t;rfl
theorem aCT{t:Tm}:t.av.isAgg=true:=bM t
theorem aC2{t:Tm}:t.av.width=4:=aQ t
theorem aC0{t:Tm}:t.av.cells.all AV.storable=true:=cO t
theorem aCW{t:Tm}:t.av.bO=false:=cR t
theorem aCX{t:Tm}:t.av.cells.length=4:=cH t
theorem aC1{t:Tm}:t.av.cells.take 4=t.av.cells:=fU (cH t)
theorem aCU{t:Tm}:AV.agg t.av.cells=t.av:=fN (bM t)
theorem aCY{t:Tm}{a b c d:AV}:aG [a,b,c,d] 0 t.av.cells=t.av.cells:=aG1 (cH t) rfl
theorem aCZ{t u:Tm}:aG u.av.cells 0 t.av.cells=t.av.cells:=aG1 (cH t) (cH u)
theorem aCL{st:aA}{b:Nat}{o o':AO}:(st.aC b o).aC b o'=st.aC b o':=d3 st b o o'
theorem aCK{st:aA}{b:Nat}{o:AO}:(st.aC b o) b=some o:=aA.aK st b o
theorem aCJ{st:aA}{b x:Nat}{o:AO}(h:x≠b):(st.aC b o) x=st x:=aA.aO st o h
theorem aCV{t:Tm}:t.av.cells.drop 4= []:=List.drop_of_length_le (by rw[cH];exact c6 _)
inductive Pf where
 | mk (goal:Tm) (clause:Int) (kids:List Pf)
mutual
def Pf.av:Pf→AV
 | .mk (.mk k n s ts) c ps=>.agg [.int .i64 k,.int .i64 n,.str s,.slice (ts.map Tm.av),.int .i64 c,.slice (aGG ps)]
def aGG:List Pf→List AV
 | []=>[]
 | t::ts=>t.av::aGG ts
end
mutual
def Pf.same:Pf→Pf→Bool
 | .mk g c ps,.mk g' c' ps'=>g.same g'&&decide (c=c')&&aGH ps ps'
def aGH:List Pf→List Pf→Bool
 | [],[]=>true
 | t::ts,t'::ts'=>t.same t'&&aGH ts ts'
 | _,_=>false
end
def dB(s:ByteArray):Nat:=
 cond (decide (s=⟨#[61]⟩)||decide (s=⟨#[92,61]⟩)||decide (s=⟨#[61,61]⟩)||decide (s=⟨#[60]⟩)||decide (s=⟨#[62]⟩)||decide (s=⟨#[61,60]⟩)||decide (s=⟨#[62,61]⟩)||decide (s=⟨#[61,58,61]⟩)||decide (s=⟨#[105,115]⟩)) 3 (cond (decide (s=⟨#[43]⟩)||decide (s=⟨#[45]⟩)) 2 (cond (decide (s=⟨#[42]⟩)||decide (s=⟨#[47,47]⟩)||decide (s=⟨#[109,111,100]⟩)) 1 0))
def isBuiltin(s:ByteArray)(n:Int):Bool:=
 cond (decide (s=⟨#[61]⟩)||decide (s=⟨#[92,61]⟩)||decide (s=⟨#[61,61]⟩)||decide (s=⟨#[60]⟩)||decide (s=⟨#[62]⟩)||decide (s=⟨#[61,60]⟩)||decide (s=⟨#[62,61]⟩)||decide (s=⟨#[61,58,61]⟩)||decide (s=⟨#[105,115]⟩)) (decide (n=2)) (cond (decide (s=⟨#[116,114,117,101]⟩)||decide (s=⟨#[102,97,105,108]⟩)) (decide (n=0)) (cond (decide (s=⟨#[118,97,114]⟩)||decide (s=⟨#[110,111,110,118,97,114]⟩)||decide (s=⟨#[97,116,111,109]⟩)||decide (s=⟨#[105,110,116]⟩)) (decide (n=1)) (cond (decide (s=⟨#[97,114,103]⟩)) (decide (n=3)) false)))
abbrev sb (s:ByteArray):List UInt8:=s.data.toList
theorem bX(s:ByteArray):(sb s).length=s.size:=by simp only[sb,Array.length_toList];rfl
theorem pS{P:Program}{t:TypeId}{s:ByteArray}{i:Nat}{c:UInt8}(hu:P.underlying t=some .string)(h:(sb s)[i]?=some c):zL P t (.str s) (.int .i64 (i:Int))=some (.int .u8 (c.toNat:Int)):=by
 have hi:i<s.size:=by rw[←bX];exact(gJ.1 h).1
 have:s[i]?=some c:=by
  rw[getElem?_pos s i hi]
  obtain⟨h1,h2⟩:=gJ.1 h
  rw[←h2]
  try rfl
 simp only[zL,hu,fV,this]
 simp
def kC(c:UInt8):Bool:=decide (97≤c.toNat)&&decide (c.toNat≤122)
def vU(s:ByteArray):Bool:=(sb s).all kC&&(decide ((1:Int)≤(s.size:Int))&&decide ((s.size:Int)≤6))
theorem vD{α:Type}{p:α→Bool}{l:List α}{i:Nat}{x:α}(h:l[i]?=some x)(hp:p x=false):l.all p=false:=by
 rw[List.all_eq_false]
 exact⟨x,cQ h,by simp [hp]⟩
theorem QN{α:Type}{p:α→Bool}{l:List α}(h:∀(i:Nat) x,l[i]?=some x→p x=true):l.all p=true:=by
 rw[dD]
 intro x hx
 obtain⟨i,hi⟩:=GB hx
 exact h i x hi
end Go.AW
