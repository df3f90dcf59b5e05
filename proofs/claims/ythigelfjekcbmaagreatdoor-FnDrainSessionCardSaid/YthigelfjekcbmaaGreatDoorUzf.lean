/- Loops whose frame is kept, lists that are walked, lists that grow. -/
import Derived.Test.YthigelfjekcbmaaGreatDoorUze
set_option linter.unusedSimpArgs false
set_option linter.unusedVariables false
set_option maxRecDepth 100000
namespace Go.AW
def lR(φ:AF):List Nat→List (Nat×AV)→List (Nat×AV)
 | [],l=>l
 | d::ds,l=>(d,φ d)::lR φ ds l
theorem aHQ{φ:AF}{l:List (Nat×AV)}:lR φ [] l=l:=rfl
theorem aHR{φ:AF}{d:Nat}{ds:List Nat}{l:List (Nat×AV)}:lR φ (d::ds) l=(d,φ d)::lR φ ds l:=rfl
theorem eL{P:Program}{N:Nat}{c:Code}{Q:Exit→AF→aB→Prop}{φ:AF}{st:aB}{α σ:Type}(mt:List Nat)(a7:List Nat)(l:List α)(inv:Nat→σ→Prop)(ch:Nat→σ→List (Nat×AV))(so:Nat→σ→aB)
 (hok:codeOk N c=true)
 (h0:∃s,inv 0 s∧aP φ st (lR φ a7 (ch 0 s)) (so 0 s))
 (h1:∀i x s,l[i]?=some x→i<l.length→((i:Int)<(l.length:Int))→l.drop i=x::l.drop (i+1)→inv i s→gY P N mt c (qX (fun φ' st'=>∃s',inv (i+1) s'∧aP φ' st' (lR φ a7 (ch (i+1) s')) (so (i+1) s')) Q) (xM (lR φ a7 (ch i s))) (so i s))
 (h2:∀s,¬((l.length:Int)<(l.length:Int))→inv l.length s→gY P N mt c (qX (fun _ _=>False) Q) (xM (lR φ a7 (ch l.length s))) (so l.length s)):g8 P N (.loop c) Q φ st:=by
 have nY:∀(k:AF→aB→Prop) (i:Nat) (s:σ),(∀φ' st',(∃s',inv (i+1) s'∧aP φ' st' (lR φ a7 (ch (i+1) s')) (so (i+1) s'))→k φ' st') →
  g8 P N c (qX (fun φ' st'=>∃s',inv (i+1) s'∧aP φ' st' (lR φ a7 (ch (i+1) s')) (so (i+1) s')) Q) (lB (lR φ a7 (ch i s))) (so i s) →
  g8 P N c (qX k Q) (lB (lR φ a7 (ch i s))) (so i s):=by
  intro k i s hk hr a w R
  refine wp_mono (hr a w R) ?_
  rintro e a' w' ⟨φ',st',R',T,sm,q⟩
  refine⟨φ',st',R',T,sm,?_⟩
  cases e with
  | normal=>exact hk _ _ q
  | _=>exact q
 refine RL (α:=Nat×σ) (fun p=>p.1≤l.length∧inv p.1 p.2) (fun p=>lB (lR φ a7 (ch p.1 p.2))) (fun p=>so p.1 p.2) (fun p=>l.length - p.1) ?_ ?_
 · obtain⟨s,hs,hl⟩:=h0
   exact⟨(0,s),⟨jU _,hs⟩,hl⟩
 · rintro⟨i,s⟩ ⟨hi,hs⟩
   simp only at hi hs ⊢
   rcases k7 i l.length with hlt | hge
   · refine nY _ i s ?_ (HX mt hok (h1 i l[i] s (fF hlt) hlt (by omega) (rH hlt) hs))
     rintro φ' st' ⟨s',h1',h2'⟩
     exact⟨(i+1,s'),by simp only;omega,⟨by simp only;omega,h1'⟩,h2'⟩
   · obtain rfl:i=l.length:=by omega
     intro a w R
     refine wp_mono (HX mt hok (h2 s (by omega) hs) a w R) ?_
     rintro e a' w' ⟨φ',st',R',T,sm,q⟩
     refine⟨φ',st',R',T,sm,?_⟩
     cases e with
     | normal=>exact q.elim
     | _=>exact q
theorem iT{P:Program}{N:Nat}{c:Code}{Q:Exit→AF→aB→Prop}{φ:AF}{st:aB}{σ:Type}(mt:List Nat)(a7:List Nat)(inv:σ→Prop)(ch:σ→List (Nat×AV))(so:σ→aB)(μ:σ→Nat)
 (hok:codeOk N c=true)
 (h0:∃s,inv s∧aP φ st (lR φ a7 (ch s)) (so s))
 (h1:∀s,inv s→gY P N mt c (qX (fun φ' st'=>∃s',μ s'<μ s∧inv s'∧aP φ' st' (lR φ a7 (ch s')) (so s')) Q) (xM (lR φ a7 (ch s))) (so s)):g8 P N (.loop c) Q φ st:=
 yP mt inv (fun s=>lR φ a7 (ch s)) so μ hok h0 h1
theorem aQ{b:Bool}{p q:Prop}(h1:b=true→p)(h2:b=false→q):(b=true→p)∧(b=false→q):=⟨h1,h2⟩
theorem aHW{P:Program}{t:TypeId}{s:ByteArray}:mO P t (.str s)=match P.underlying t with | some .string=>some (.int .i64 s.size) | _=>none:=rfl
theorem aHV{P:Program}{t:TypeId}{es:List AV}:mO P t (.slice es)=match P.underlying t with | some (.slice _)=>some (.int .i64 es.length) | _=>none:=rfl
theorem aHT{P:Program}{t:TypeId}{es:List AV}:mO P t (.fslice es)=match P.underlying t with | some (.slice _)=>some (.int .i64 es.length) | _=>none:=rfl
theorem aHU{P:Program}{t:TypeId}{b o n w:Nat}:mO P t (.mslice b o n w)=match P.underlying t with | some (.slice _)=>some (.int .i64 n) | _=>none:=rfl
def aZ(w b:Nat):List AV→AV
 | []=>.fslice []
 | x::l=>.mslice b 0 (x::l).length w
def aV(st:aB)(b:Nat):List AV→aB
 | []=>st
 | x::l=>st.aC b (.cells ((x::l).flatMap AV.cells))
theorem jV{w b:Nat}:aZ w b []=.fslice []:=rfl
theorem oA{st:aB}{b:Nat}:aV st b []=st:=rfl
theorem pQ{w b:Nat}{l:List AV}(h:l≠[]):aZ w b l=.mslice b 0 l.length w:=by cases l<;>first | exact absurd rfl h | rfl
theorem jD{st:aB}{b:Nat}{l:List AV}(h:l≠[]):aV st b l=st.aC b (.cells (l.flatMap AV.cells)):=by cases l<;>first | exact absurd rfl h | rfl
theorem nL{st:aB}{b x:Nat}{l:List AV}(h:x≠b):aV st b l x=st x:=by cases l<;>first | rfl | exact aB.aG _ _ h
theorem ER{st:aB}{b x:Nat}{l:List AV}(h:aV st b l x=none):st x=none∧(l≠[]→x≠b):=by
 cases l with
 | nil=>exact⟨h,fun h=>absurd rfl h⟩
 | cons y l=>
  simp only[aV,aB.aC] at h
  split at h
  · cases h
  · rename_i hn;exact⟨h,fun _=>hn⟩
theorem nM{w b:Nat}{l:List AV}:(aZ w b l).cJ=false:=by cases l<;>rfl
theorem mP{w b:Nat}{l:List AV}:(aZ w b l).isAgg=false:=by cases l<;>rfl
theorem mQ{w b:Nat}{l:List AV}:(aZ w b l).cells= [aZ w b l]:=by cases l<;>rfl
theorem fH{w b:Nat}{l:List AV}:(aZ w b l).storable=true:=by cases l<;>rfl
theorem vO{P:Program}{t e:TypeId}{w b:Nat}{l:List AV}(h:P.underlying t=some (.slice e)):mO P t (aZ w b l)=some (.int .i64 (l.length:Int)):=by
 cases l<;>simp [aZ,mO,h]
theorem aL.aV{st st':aB}(x:aL st st'){b:Nat}{l:List AV}(h:l≠[]→st' b=none):aL (aV st b l) st':=by
 cases l with
 | nil=>exact x
 | cons y l=>exact x.aC (h (by simp))
theorem eE{P:Program}{t:TypeId}{ag:Bool}{w bytes:Nat}{zs:List AV}{st:aB}{b:Nat}{l xs:List AV}{x:AV}{K:AV→aB→Prop}
 (hI:eI P t=some (ag,w)) (hB:eB P t=some bytes) (hZ:eZ P t=some zs) (hz:zs.length=w) (hx:BV x=some xs) (g7:vQ w xs) (hw:∀e∈l,e.width=w) (hb:l≠[]→st b=none)
 (h1:(l.length+xs.length)*bytes≤140737488355328) (h2:l.length+xs.length≤9223372036854775807)
 (hK:∀b',(l++xs≠[]→st b'=none)→K (aZ w b' (l++xs)) (aV st b' (l++xs))):kP P t (aV st b l) (aZ w b l) x K:=by
 unfold kP
 rw[hI,hB,hZ,hx]
 refine⟨hz,g7,?_⟩
 cases l with
 | nil=>
  show _∧_∧_∧_∧_
  refine⟨by simpa using h1,by simpa using h2,by simp,?_,?_⟩
  · rintro rfl
    have:=hK b (by simp)
    simpa [aZ,aV] using this
  · intro hne b' hb'
    have:=hK b' (fun _=>hb')
    rw[eD,pQ hne,jD hne] at this
    simpa [aV] using this
 | cons y l=>
  have hb:=hb (by simp)
  show w=w∧_∧_∧_
  refine⟨rfl,h1,h2,?_⟩
  have hfl:((y::l).flatMap AV.cells).length=(y::l).length*w:=qP hw
  simp only[aV,aB.aJ]
  refine⟨by rw[hfl];exact dC _,?_,?_⟩
  · have:=hK b (fun _=>hb)
    rw[pQ (by simp),jD (by simp),BF,dW] at this
    rw[cK,←hfl,fG]
    exact this
  · intro b' hb'
    have hne:b'≠b:=by rintro rfl;rw[aB.aJ] at hb';cases hb'
    rw[aB.aG _ _ hne] at hb'
    have:=hK b' (fun _=>hb')
    rw[pQ (by simp),jD (by simp),BF,dW] at this
    rw[aB.xH _ _ _ hb,←hfl,fG]
    exact this
def AV.fin(b:Nat)(l:List AV)(r:AV):AV:=if l.isEmpty=true then r.soft else(r.fz b l).soft
theorem jE{w b:Nat}{l:List AV}:(aZ w b l).fin b l=.slice l:=by cases l<;>simp [aZ,AV.fin,AV.fz,AV.soft]
theorem AS:∀cs:List AV,jA cs=cs.map AV.soft
 | []=>rfl
 | c::cs=>by simp [jA,AS cs]
theorem CN{b:Nat}{l:List AV}:∀cs:List AV,lC b l cs=cs.map (AV.fz b l)
 | []=>rfl
 | c::cs=>by simp [lC,CN cs]
theorem gG{b:Nat}{l:List AV}{cs:List AV}:(AV.agg cs).fin b l=.agg (cs.map (AV.fin b l)):=by
 unfold AV.fin
 split
 · simp [AV.soft,AS]
 · simp [AV.fz,AV.soft,AS,CN]
theorem kK{b:Nat}{l:List AV}{cs:List AV}:(AV.tup cs).fin b l=.tup (cs.map (AV.fin b l)):=by
 unfold AV.fin
 split
 · simp [AV.soft,AS]
 · simp [AV.fz,AV.soft,AS,CN]
theorem eS{b:Nat}{l:List AV}{k:IntKind}{n:Int}:(AV.int k n).fin b l=.int k n:=by unfold AV.fin;split<;>rfl
theorem rP{b:Nat}{l:List AV}{n:Bool}:(AV.bool n).fin b l=.bool n:=by unfold AV.fin;split<;>rfl
theorem kA{b:Nat}{l:List AV}{s:ByteArray}:(AV.str s).fin b l=.str s:=by unfold AV.fin;split<;>rfl
theorem jF{b:Nat}{l:List AV}{s:List AV}:(AV.slice s).fin b l=.slice s:=by unfold AV.fin;split<;>rfl
theorem qO{b:Nat}{l:List AV}{s:List AV}:(AV.fslice s).fin b l=.slice s:=by unfold AV.fin;split<;>rfl
theorem FC{b:Nat}{l:List AV}{e:AV}:(AV.pptr e).fin b l=.pptr e:=by unfold AV.fin;split<;>rfl
theorem I6{b c o:Nat}{l:List AV}:(AV.ptr c o).fin b l=.ptr c o:=by unfold AV.fin;split<;>rfl
theorem aM6{b:Nat}{l:List AV}{g:FuncId}{cs:List AV}:(AV.func g cs).fin b l=.func g cs:=by unfold AV.fin;split<;>rfl
theorem aD.fin{P:Program}{g:FuncId}{args:List AV}{st:aB}{Q:AV→aB→Prop}
 (x:aD P g args st (fun r st'=>∃b l s0,st'=aV s0 b l∧(l≠[]→s0 b=none)∧(∀e∈l,e.cJ=false)∧iU l∧Q (r.fin b l) s0)):aD P g args st Q:=
 x.nY fun r st' ⟨b,l,s0,h1,h0,h2,h3,h4⟩=>by
  cases l with
  | nil=>
   exact⟨r.fin b [],st',(aL.refl _).tO,fun h v S y=>y.soft,by have e:st'=s0:=h1;rw[e];exact h4⟩
  | cons e l=>
   have hb:=h0 (by simp)
   subst h1
   have h1:aV s0 b (e::l) b=some (.cells ((e::l).flatMap AV.cells)):=by simp only[aV,aB.aJ]
   have e1:(aV s0 b (e::l)).erase b=s0:=by simp only[aV];exact aB.xH _ _ _ hb
   refine⟨r.fin b (e::l),s0,?_,fun h v S y=>?_,h4⟩
   · have:=(kJ (aV s0 b (e::l)) b).tO
     rwa [e1] at this
   · have:=y.fz S h1 h2 h3
     rw[e1] at this
     exact this.soft
mutual
def AV.gV:AV→Bool
 | .slice _=>false
 | .fslice es=>es.isEmpty
 | .pptr _=>false
 | .agg cs=>mF cs
 | .tup vs=>mF vs
 | .func _ cs=>mF cs
 | _=>true
def mF:List AV→Bool
 | []=>true
 | a::as=>a.gV&&mF as
end
def AO.gV:AO→Prop
 | .cells cs=>mF cs=true
 | .map f=>∀n a,f n=some a→a.gV=true
section
variable {h:bS} {st st':aB}
mutual
theorem VC.anyS:∀(a:AV) (cs:List Value),a.gV=true→VC h st a cs→VC h st' a cs
 | .junk,_,_,x=>x
 | .undef,_,_,x=>x
 | .int _ _,_,_,x=>x
 | .bool _,_,_,x=>x
 | .str _,_,_,x=>x
 | .agg as,cs,s,x=>by simp only[VC] at x ⊢;exact bD.anyS as cs (by simpa [AV.gV] using s) x
 | .tup as,cs,s,x=>by
  simp only[VC] at x ⊢
  obtain⟨vs,e,r⟩:=x
  exact⟨vs,e,d6.anyS as vs (by simpa [AV.gV] using s) r⟩
 | .slice es,_,s,_=>by simp [AV.gV] at s
 | .fslice es,cs,s,x=>by
  have he:es= []:=by simpa [AV.gV] using s
  subst he
  unfold VC at x ⊢
  rcases x with x | ⟨b,off,e,_⟩
  · exact .inl x
  · exact .inl ⟨⟨_,e⟩,rfl⟩
 | .mslice b off len n,_,_,x=>x
 | .nilptr,_,_,x=>x
 | .ptr _ _,_,_,x=>x
 | .pptr e,_,s,_=>by simp [AV.gV] at s
 | .nilmap,_,_,x=>x
 | .map _,_,_,x=>x
 | .func _ as,cs,s,x=>by
  simp only[VC] at x ⊢
  obtain⟨vs,e,r⟩:=x
  exact⟨vs,e,d6.anyS as vs (by simpa [AV.gV] using s) r⟩
 | .raw _,_,_,x=>x
 | .eslice,_,_,x=>x
theorem bD.anyS:∀(as:List AV) (cs:List Value),mF as=true→bD h st as cs→bD h st' as cs
 | [],_,_,x=>x
 | a::as,cs,s,x=>by
  simp only[bD] at x ⊢
  simp only[mF,cE] at s
  obtain⟨c,r,e,x1,x2⟩:=x
  exact⟨c,r,e,VC.anyS a [c] s.1 x1,bD.anyS as r s.2 x2⟩
theorem d6.anyS:∀(as:List AV) (cs:List Value),mF as=true→d6 h st as cs→d6 h st' as cs
 | [],_,_,x=>x
 | a::as,cs,s,x=>by
  simp only[d6] at x ⊢
  simp only[mF,cE] at s
  obtain⟨v,r,e,x1,x2⟩:=x
  exact⟨v,r,e,⟨x1.1,VC.anyS a _ s.1 x1.2⟩,d6.anyS as r s.2 x2⟩
end
theorem aR.anyS{a:AV}{v:Value}(s:a.gV=true)(x:aR h st a v):aR h st' a v:=by
 cases a<;>first | trivial | exact⟨x.1,VC.anyS _ _ s x.2⟩
theorem mM.anyS{b:Nat}:∀ {o:AO},o.gV→mM h st b o→mM h st' b o
 | .cells as,s,x=>by
  obtain⟨c,t,e,l,vs,x1,x2⟩:=x
  exact⟨c,t,e,l,vs,x1,bD.anyS as vs s x2⟩
 | .map f,s,x=>by
  obtain⟨es,cl,e,x1,x2,x3⟩:=x
  refine⟨es,cl,e,x1,x2,fun n=>?_⟩
  have:=x3 n
  split
  · rename_i a ha
    rw[ha] at this
    obtain⟨e,he,hk,hv⟩:=this
    exact⟨e,he,hk,hv.anyS (s n a ha)⟩
  · rename_i ha
    rw[ha] at this
    exact this
end
def aB.frame(st s0 s1:aB):aB:=fun b=>match s0 b,st b with
 | none,some o=>some o
 | _,_=>s1 b
theorem aD.frame{P:Program}{g:FuncId}{args args':List AV}{st s0:aB}{Q:AV→aB→Prop}(D:aL st s0)
 (x:aD P g args s0 (fun r s1=>(∀b,s0 b=none→s1 b≠none→st b=none)→r.gV=true∧(∀b o,s1 b=some o→o.gV)∧Q r (st.frame s0 s1)))
 (hv:∀h vs,dD h st→cZ h st args' vs→cZ h s0 args vs):aD P g args' st Q:=by
 refine⟨x.1,fun w vs S V=>(x.2 w vs (D.GN S) (hv _ _ S V)).mono ?_⟩
 rintro _ w' ⟨v,r,s1,rfl,hr,S1,T,sm,q⟩
 have hfr:∀b,s0 b=none→s1 b≠none→st b=none:=fun b h0 h1=>by
  cases hb:st b with
  | none=>rfl
  | some o=>exact absurd (T.a7 b (S b o hb).1 h0).2 h1
 obtain⟨hs,ho,hq⟩:=q hfr
 have T':cL w.heap st w'.heap (st.frame s0 s1):=by
  refine⟨T.size,fun b hb e=>?_,T.shape⟩
  obtain⟨k1,k2⟩:=T.a7 b hb ((D b).1 e)
  exact⟨k1,by simp only[aB.frame,e,k2];split<;>first | rfl | (rename_i h;cases h)⟩
 refine⟨v,r,st.frame s0 s1,rfl,hr.anyS hs,fun b o hb=>?_,T',sm,hq⟩
 simp only[aB.frame] at hb
 split at hb
 · rename_i o' h0 h1
   cases hb
   obtain⟨l,y⟩:=S b _ h1
   exact⟨wR l T.size,mM.mono T' (T.a7 b l h0).1 y⟩
 · obtain⟨l,y⟩:=S1 b o hb
   exact⟨l,y.anyS (ho b o hb)⟩
def dQ:aB:=fun _=>none
theorem aL.dQ(st:aB):aL st dQ:=fun _=>⟨fun _=>rfl,fun _ h=>by cases h⟩
theorem a0T(st:aB):st.frame dQ dQ=st:=by
 funext b;simp only[aB.frame,dQ];split
 · rename_i h;exact h.symm
 · rename_i h;cases hb:st b with
   | none=>rfl
   | some o=>exact absurd hb (h o rfl)
theorem aD.aNG{P:Program}{g:FuncId}{args args':List AV}{st:aB}{r:AV}(hs:r.gV=true)
 (x:aD P g args dQ (fun r' s1=>r'=r∧s1=dQ))
 (hv:∀h vs,dD h st→cZ h st args' vs→cZ h dQ args vs):aD P g args' st (fun r' st'=>r'=r∧st'=st):=
 aD.frame (aL.dQ st) (x.mono fun r' s1 ⟨e1,e2⟩ _=>⟨by rw[e1];exact hs,(by rw[e2];intro b o h;cases h),e1,by rw[e2,a0T]⟩) hv
mutual
def bL(st:aB):AV→AV→List Nat→Prop
 | .int k n,o,bs=>o=.int k n∧bs= []
 | .bool b,o,bs=>o=.bool b∧bs= []
 | .str s,o,bs=>o=.str s∧bs= []
 | .agg cs,o,bs=>∃os,o=.agg os∧bA st cs os bs
 | .slice es,o,bs=>(es= []∧o=.fslice []∧bs= [])∨∃b bs' os w,o=.mslice b 0 es.length w∧bs=b::bs'∧st b=some (.cells (os.flatMap AV.cells))∧bA st es os bs'∧(∀e∈es,e.width=w)
 | _,_,_=>False
def bA(st:aB):List AV→List AV→List Nat→Prop
 | [],os,bs=>os= []∧bs= []
 | a::as,os,bs=>∃o os' b1 b2,os=o::os'∧bs=b1++b2∧bL st a o b1∧bA st as os' b2
end
theorem bA.length{st:aB}:∀ {as os:List AV} {bs:List Nat},bA st as os bs→os.length=as.length
 | [],os,bs,x=>by simp only[bA] at x;simp [x.1]
 | a::as,os,bs,x=>by
  simp only[bA] at x
  obtain⟨o,os',b1,b2,rfl,rfl,_,x2⟩:=x
  simp [bA.length x2]
theorem bL.shape{st:aB}:∀ {a o:AV} {bs:List Nat},bL st a o bs→o.isAgg=a.isAgg∧o.width=a.width∧o.cJ=false∧(∀cs,a=.agg cs→∃os,o=.agg os)
 | .int k n,o,bs,x=>by simp only[bL] at x;rw[x.1];exact⟨rfl,rfl,rfl,by simp⟩
 | .bool b,o,bs,x=>by simp only[bL] at x;rw[x.1];exact⟨rfl,rfl,rfl,by simp⟩
 | .str s,o,bs,x=>by simp only[bL] at x;rw[x.1];exact⟨rfl,rfl,rfl,by simp⟩
 | .agg cs,o,bs,x=>by
  simp only[bL] at x
  obtain⟨os,rfl,x⟩:=x
  exact⟨rfl,x.length,rfl,fun _ _=>⟨os,rfl⟩⟩
 | .slice es,o,bs,x=>by
  simp only[bL] at x
  rcases x with ⟨_,rfl,_⟩ | ⟨b,bs',os,w,rfl,_⟩<;>exact⟨rfl,rfl,rfl,by simp⟩
 | .junk,_,_,x=>x.elim
 | .undef,_,_,x=>x.elim
 | .tup _,_,_,x=>x.elim
 | .fslice _,_,_,x=>x.elim
 | .mslice _ _ _ _,_,_,x=>x.elim
 | .nilptr,_,_,x=>x.elim
 | .ptr _ _,_,_,x=>x.elim
 | .pptr _,_,_,x=>x.elim
 | .nilmap,_,_,x=>x.elim
 | .map _,_,_,x=>x.elim
 | .func _ _,_,_,x=>x.elim
 | .raw _,_,_,x=>x.elim
 | .eslice,_,_,x=>x.elim
section
variable {st st':aB}
mutual
theorem bL.a7:∀(a o:AV) (bs:List Nat),(∀b∈bs,st' b=st b)→bL st a o bs→bL st' a o bs
 | .int k n,o,bs,_,x=>x
 | .bool b,o,bs,_,x=>x
 | .str s,o,bs,_,x=>x
 | .agg cs,o,bs,h,x=>by
  simp only[bL] at x ⊢
  obtain⟨os,e,x⟩:=x
  exact⟨os,e,bA.a7 cs os bs h x⟩
 | .slice es,o,bs,h,x=>by
  simp only[bL] at x ⊢
  rcases x with x | ⟨b,bs',os,w,e1,rfl,e2,x,e3⟩
  · exact .inl x
  · exact .inr ⟨b,bs',os,w,e1,rfl,(h b (by simp)).trans e2,bA.a7 es os bs' (fun q hq=>h q (by simp [hq])) x,e3⟩
 | .junk,_,_,_,x=>x
 | .undef,_,_,_,x=>x
 | .tup _,_,_,_,x=>x
 | .fslice _,_,_,_,x=>x
 | .mslice _ _ _ _,_,_,_,x=>x
 | .nilptr,_,_,_,x=>x
 | .ptr _ _,_,_,_,x=>x
 | .pptr _,_,_,_,x=>x
 | .nilmap,_,_,_,x=>x
 | .map _,_,_,_,x=>x
 | .func _ _,_,_,_,x=>x
 | .raw _,_,_,_,x=>x
 | .eslice,_,_,_,x=>x
theorem bA.a7:∀(as os:List AV) (bs:List Nat),(∀b∈bs,st' b=st b)→bA st as os bs→bA st' as os bs
 | [],os,bs,_,x=>x
 | a::as,os,bs,h,x=>by
  simp only[bA] at x ⊢
  obtain⟨o,os',b1,b2,e1,rfl,x1,x2⟩:=x
  exact⟨o,os',b1,b2,e1,rfl,bL.a7 a o b1 (fun q hq=>h q (by simp [hq])) x1,bA.a7 as os' b2 (fun q hq=>h q (by simp [hq])) x2⟩
end
mutual
theorem bL.gV:∀(a o:AV) (bs:List Nat),bL st a o bs→o.gV=true∧o.cells.all AV.storable=o.cells.all AV.storable∧∀b∈bs,∃cs,st b=some (.cells cs)∧mF cs=true
 | .int k n,o,bs,x=>by simp only[bL] at x;rw[x.1,x.2];exact⟨rfl,rfl,by simp⟩
 | .bool b,o,bs,x=>by simp only[bL] at x;rw[x.1,x.2];exact⟨rfl,rfl,by simp⟩
 | .str s,o,bs,x=>by simp only[bL] at x;rw[x.1,x.2];exact⟨rfl,rfl,by simp⟩
 | .agg cs,o,bs,x=>by
  simp only[bL] at x
  obtain⟨os,rfl,x⟩:=x
  obtain⟨h1,h2⟩:=bA.gV cs os bs x
  exact⟨by simpa [AV.gV] using h1.1,rfl,h2⟩
 | .slice es,o,bs,x=>by
  simp only[bL] at x
  rcases x with ⟨_,rfl,rfl⟩ | ⟨b,bs',os,w,rfl,rfl,e2,x,e3⟩
  · exact⟨rfl,rfl,by simp⟩
  · obtain⟨h1,h2⟩:=bA.gV es os bs' x
    refine⟨rfl,rfl,fun q hq=>?_⟩
    rcases dB.1 hq with rfl | hq
    · exact⟨_,e2,h1.2⟩
    · exact h2 q hq
 | .junk,_,_,x=>x.elim
 | .undef,_,_,x=>x.elim
 | .tup _,_,_,x=>x.elim
 | .fslice _,_,_,x=>x.elim
 | .mslice _ _ _ _,_,_,x=>x.elim
 | .nilptr,_,_,x=>x.elim
 | .ptr _ _,_,_,x=>x.elim
 | .pptr _,_,_,x=>x.elim
 | .nilmap,_,_,x=>x.elim
 | .map _,_,_,x=>x.elim
 | .func _ _,_,_,x=>x.elim
 | .raw _,_,_,x=>x.elim
 | .eslice,_,_,x=>x.elim
theorem bA.gV:∀(as os:List AV) (bs:List Nat),bA st as os bs→(mF os=true∧mF (os.flatMap AV.cells)=true)∧∀b∈bs,∃cs,st b=some (.cells cs)∧mF cs=true
 | [],os,bs,x=>by simp only[bA] at x;rw[x.1,x.2];exact⟨⟨rfl,rfl⟩,by simp⟩
 | a::as,os,bs,x=>by
  simp only[bA] at x
  obtain⟨o,os',b1,b2,rfl,rfl,x1,x2⟩:=x
  obtain⟨h1,_,h2⟩:=bL.gV a o b1 x1
  obtain⟨⟨h3,h4⟩,h5⟩:=bA.gV as os' b2 x2
  have NL:∀(p q:List AV),mF p=true→mF q=true→mF (p++q)=true:=by
   intro p q hp hq
   induction p with
   | nil=>exact hq
   | cons c p ih=>simp only[mF,cE,fE] at hp ⊢;exact⟨hp.1,ih hp.2⟩
  have hc:mF o.cells=true:=by cases o<;>first | (simpa [AV.cells,mF] using h1) | (simpa [AV.cells,AV.gV] using h1)
  refine⟨⟨by simp [mF,h1,h3],by rw[vL];exact NL _ _ hc h4⟩,fun q hq=>?_⟩
  rcases eK.1 hq with hq | hq
  · exact h2 q hq
  · exact h5 q hq
end
end
section
variable {h:bS} {st s0:aB}
mutual
theorem bL.view(S:dD h st)(D:aL st s0):∀(a o:AV) (bs:List Nat) (cs:List Value),bL st a o bs→(∀b∈bs,s0 b=none)→VC h st o cs→VC h s0 a cs
 | .int k n,o,bs,cs,x,_,y=>by simp only[bL] at x;rw[x.1] at y;exact y
 | .bool b,o,bs,cs,x,_,y=>by simp only[bL] at x;rw[x.1] at y;exact y
 | .str s,o,bs,cs,x,_,y=>by simp only[bL] at x;rw[x.1] at y;exact y
 | .agg as,o,bs,cs,x,hb,y=>by
  simp only[bL] at x
  obtain⟨os,rfl,x⟩:=x
  simp only[VC] at y ⊢
  exact bA.aS8 S D as os bs cs x hb y
 | .slice es,o,bs,cs,x,hb,y=>by
  simp only[bL] at x
  rcases x with ⟨rfl,rfl,rfl⟩ | ⟨b,bs',os,w,rfl,rfl,e2,x,e3⟩
  · unfold VC at y ⊢
    rcases y with y | ⟨b,off,e,_⟩
    · exact .inl y
    · exact .inl ⟨⟨_,e⟩,rfl⟩
  · simp only[VC] at y
    obtain⟨cap,e,l1,l2,_⟩:=y
    obtain⟨hlt,c,t,q1,q2,vs,q3,q4⟩:=S b _ e2
    have hsh:=bA.OV x
    unfold VC
    refine .inr ⟨b,0,cap,e,l1,l2,hb b (by simp),hlt,⟨w,e3⟩,bA.XZ S D b es os bs' 0 x (fun q hq=>hb q (by simp [hq])) (HK (fun q hq=>hsh q hq) q3 q4)⟩
 | .junk,_,_,_,x,_,_=>x.elim
 | .undef,_,_,_,x,_,_=>x.elim
 | .tup _,_,_,_,x,_,_=>x.elim
 | .fslice _,_,_,_,x,_,_=>x.elim
 | .mslice _ _ _ _,_,_,_,x,_,_=>x.elim
 | .nilptr,_,_,_,x,_,_=>x.elim
 | .ptr _ _,_,_,_,x,_,_=>x.elim
 | .pptr _,_,_,_,x,_,_=>x.elim
 | .nilmap,_,_,_,x,_,_=>x.elim
 | .map _,_,_,_,x,_,_=>x.elim
 | .func _ _,_,_,_,x,_,_=>x.elim
 | .raw _,_,_,_,x,_,_=>x.elim
 | .eslice,_,_,_,x,_,_=>x.elim
theorem bA.aS8(S:dD h st)(D:aL st s0):∀(as os:List AV) (bs:List Nat) (cs:List Value),bA st as os bs→(∀b∈bs,s0 b=none)→bD h st os cs→bD h s0 as cs
 | [],os,bs,cs,x,_,y=>by simp only[bA] at x;rw[x.1] at y;exact y
 | a::as,os,bs,cs,x,hb,y=>by
  simp only[bA] at x
  obtain⟨o,os',b1,b2,rfl,rfl,x1,x2⟩:=x
  simp only[bD] at y ⊢
  obtain⟨c,r,e,y1,y2⟩:=y
  exact⟨c,r,e,bL.view S D a o b1 [c] x1 (fun q hq=>hb q (by simp [hq])) y1,bA.aS8 S D as os' b2 r x2 (fun q hq=>hb q (by simp [hq])) y2⟩
theorem bA.XZ(S:dD h st)(D:aL st s0)(b:Nat):∀(as os:List AV) (bs:List Nat) (off:Nat),bA st as os bs→(∀b∈bs,s0 b=none)→dF h st b off os→dF h s0 b off as
 | [],os,bs,off,x,_,y=>by simp only[dF]
 | a::as,os,bs,off,x,hb,y=>by
  simp only[bA] at x
  obtain⟨o,os',b1,b2,rfl,rfl,x1,x2⟩:=x
  simp only[dF] at y ⊢
  obtain⟨⟨cs,y1,y2,y3⟩,y4⟩:=y
  have hw:=(bL.shape x1).2.1
  rw[hw] at y2 y4
  exact⟨⟨cs,y1,y2,bL.view S D a o b1 cs x1 (fun q hq=>hb q (by simp [hq])) y3⟩,bA.XZ S D b as os' b2 _ x2 (fun q hq=>hb q (by simp [hq])) y4⟩
theorem bA.OV:∀ {as os:List AV} {bs:List Nat},bA st as os bs→∀o∈os,o.cJ=false
 | [],os,bs,x=>by simp only[bA] at x;rw[x.1];simp
 | a::as,os,bs,x=>by
  simp only[bA] at x
  obtain⟨o,os',b1,b2,rfl,rfl,x1,x2⟩:=x
  intro q hq
  rcases dB.1 hq with rfl | hq
  · exact(bL.shape x1).2.2.1
  · exact bA.OV x2 q hq
end
theorem bL.X0(S:dD h st)(D:aL st s0){a o:AV}{bs:List Nat}{v:Value}(x:bL st a o bs)(hb:∀b∈bs,s0 b=none)(y:aR h st o v):aR h s0 a v:=by
 have hs:=x.shape
 have key:o.isAgg=lY v∧VC h st o v.cells.toList:=by
  cases o<;>first | exact y | simp [AV.cJ] at hs
 have z:a.isAgg=lY v∧VC h s0 a v.cells.toList:=⟨hs.1.symm.trans key.1,bL.view S D _ _ _ _ x hb key.2⟩
 cases ha:a<;>rw[ha] at z<;>first | trivial | exact z
end
def Seen(st s0:aB):List AV→List AV→Prop
 | [],as=>as= []
 | o::os,as=>∃a as',as=a::as'∧(o=a∨∃bs,bL st a o bs∧∀b∈bs,s0 b=none)∧Seen st s0 os as'
theorem Seen.rel{st s0:aB}(D:aL st s0):∀ {os as:List AV},Seen st s0 os as→∀h vs,dD h st→cZ h st os vs→cZ h s0 as vs
 | [],as,x,h,vs,_,y=>by simp only[Seen] at x;rw[x];exact y
 | o::os,as,x,h,vs,S,y=>by
  simp only[Seen] at x
  obtain⟨a,as',rfl,x1,x2⟩:=x
  simp only[cZ] at y ⊢
  obtain⟨v,r,rfl,y1,y2⟩:=y
  refine⟨v,r,rfl,?_,Seen.rel D x2 h r S y2⟩
  rcases x1 with rfl | ⟨bs,x1,hb⟩
  · exact y1.mono (D.step h)
  · exact x1.X0 S D hb y1
def Made(st:aB)(a r:AV)(st':aB):Prop:=∃bs:List Nat,bs.Nodup∧(∀b∈bs,st b=none)∧bL st' a r bs∧∀b,b∉bs→st' b=st b
theorem bA.aM9{st:aB}{w:Nat}:∀ {as os:List AV} {bs:List Nat},bA st as os bs→(∀e∈as,e.width=w)→(os.flatMap AV.cells).length=as.length*w
 | [],os,bs,x,_=>by simp only[bA] at x;rw[x.1];simp
 | a::as,os,bs,x,h=>by
  simp only[bA] at x
  obtain⟨o,os',b1,b2,rfl,rfl,x1,x2⟩:=x
  have:=bA.aM9 x2 (fun e he=>h e (by simp [he]))
  rw[vL,dW,this,w9,(bL.shape x1).2.1,h a (by simp),aT,sK]
  omega
theorem aQM{A C B x:List AV}{n j:Nat}(hA:A.length=n)(hj:j+x.length≤C.length):aK (A++C++B) (n+j) x=A++aK C j x++B:=by
 subst hA
 unfold aK
 have h1:(A++C++B).take (A.length+j)=A++C.take j:=by
  rw[nE,List.take_length_add_append,EE (by omega)]
 have h2:(A++C++B).drop (A.length+j+x.length)=C.drop (j+x.length)++B:=by
  rw[nE,EG,List.drop_length_add_append,QL (by omega)]
 rw[h1,h2]
 simp
theorem VJ{A B:List AV}{n:Nat}(hA:A.length=n):(∀(C:List AV) (v:AV) (j:Nat),j<C.length→aK (A++C++B) (n+j) [v]=A++C.set j v++B)∧(∀(C:List AV) (c:Nat),c<C.length→n+c+1≤(A++C++B).length) ∧
 (∀(C:List AV) (c:Nat),c<C.length→(A++C++B)[n+c]?=C[c]?)∧(∀(C:List AV) (v:AV),0<C.length→aK (A++C++B) n [v]=A++C.set 0 v++B)∧(∀(C:List AV),0<C.length→n+1≤(A++C++B).length) ∧
 ∀(C:List AV),0<C.length→(A++C++B)[n]?=C[0]?:=by
 have k1:(∀(C:List AV) (v:AV) (j:Nat),j<C.length→aK (A++C++B) (n+j) [v]=A++C.set j v++B)∧(∀(C:List AV) (c:Nat),c<C.length→n+c+1≤(A++C++B).length)∧∀(C:List AV) (c:Nat),c<C.length→(A++C++B)[n+c]?=C[c]?:=?_
 · exact⟨k1.1,k1.2.1,k1.2.2,fun C v h=>k1.1 C v 0 h,fun C h=>k1.2.1 C 0 h,fun C h=>k1.2.2 C 0 h⟩
 refine⟨fun C v j h=>?_,fun C c h=>?_,fun C c h=>?_⟩
 · rw[aQM hA (by simp;omega),List.set_eq_take_append_cons_drop,aH h]
   unfold aK
   simp
 · simp only[dW];omega
 · subst hA
   rw[nE,X9 (by omega),Nat.add_sub_cancel_left,X8 h]
theorem a43{A B C x:List AV}{n w:Nat}(hA:A.length=n)(hC:C.length=w)(hx:x.length=w):aK (A++C++B) n x=A++x++B∧n+w≤(A++C++B).length:=by
 have h:=aQM (A:=A) (C:=C) (B:=B) (x:=x) (n:=n) (j:=0) hA (by omega)
 rw[HD] at h
 refine⟨?_,by simp only[dW];omega⟩
 rw[h]
 unfold aK
 simp [hC,hx]
theorem CW{P:Program}{t:TypeId}{ag:Bool}{b len w i:Nat}(hI:eI P t=some (ag,w))(hi:i<len):dN P t (.mslice b 0 len w) (.int .i64 (i:Int))=some (.ptr b (i*w)):=by
 simp only[dN,hI,jT,iA]
 rw[aH ⟨by omega,by omega,trivial⟩]
theorem bL.ZB{st:aB}:∀ {cs os:List AV} {bs:List Nat},bA st cs os bs→(∀c∈cs,c.isAgg=false)→os.all AV.storable=true∧os.flatMap AV.cells=os
 | [],os,bs,x,_=>by simp only[bA] at x;rw[x.1];simp
 | a::as,os,bs,x,h=>by
  simp only[bA] at x
  obtain⟨o,os',b1,b2,rfl,rfl,x1,x2⟩:=x
  have ih:=bL.ZB x2 (fun c hc=>h c (by simp [hc]))
  have ha:=h a (by simp)
  have ho:o.storable=true∧o.cells= [o]:=by
   cases a<;>simp only[bL] at x1<;>try exact x1.elim
   case int=>rw[x1.1];exact⟨rfl,rfl⟩
   case bool=>rw[x1.1];exact⟨rfl,rfl⟩
   case str=>rw[x1.1];exact⟨rfl,rfl⟩
   case agg=>simp [AV.isAgg] at ha
   case slice=>rcases x1 with ⟨_,rfl,_⟩ | ⟨b,bs',os,w,rfl,_⟩<;>exact⟨rfl,rfl⟩
  rw[k0,ho.1,ih.1,vL,ih.2,ho.2]
  exact⟨rfl,rfl⟩
theorem bA.snoc{st st':aB}{a o:AV}{b2:List Nat}:∀ {as os:List AV} {b1:List Nat},bA st as os b1→(∀b∈b1,st' b=st b)→bL st' a o b2→bA st' (as++ [a]) (os++ [o]) (b1++b2)
 | [],os,b1,x,_,y=>by
  simp only[bA] at x
  rw[x.1,x.2]
  simp only[eD,bA]
  exact⟨o,[],b2,[],rfl,by simp,y,rfl,rfl⟩
 | c::as,os,b1,x,h,y=>by
  simp only[bA] at x
  obtain⟨o1,os',b3,b4,rfl,rfl,x1,x2⟩:=x
  simp only[fE,bA]
  exact⟨o1,os'++ [o],b3,b4++b2,rfl,by simp,bL.a7 _ _ _ (fun q hq=>h q (by simp [hq])) x1,bA.snoc x2 (fun q hq=>h q (by simp [hq])) y⟩
def YB(st:aB)(ds:List Nat)(a r:AV)(st':aB):Prop:=∃bs:List Nat,bs.Nodup∧(∀b∈bs,st b=none)∧(∀d∈ds,st d=none∧d∉bs)∧bL st' a r bs∧∀b,b∉bs→b∉ds→st' b=st b
theorem aD.VH{P:Program}{g:FuncId}{args:List AV}{st:aB}{a:AV}(x:aD P g args st (fun r st'=>∃ds,YB st ds a r st')):aD P g args st (Made st a):=
 x.nY fun r st' ⟨ds,bs,h1,h2,hd,h3,h4⟩=>by
  refine⟨r,fun q=>if q∈ds then none else st' q,?_,?_,bs,h1,h2,?_,fun b hb=>?_⟩
  · have D:aL st' (fun q=>if q∈ds then none else st' q):=fun q=>by
     by_cases hq:q∈ds
     · simp only[hq,fS];exact⟨fun _=>trivial,fun o h=>by cases h⟩
     · simp only[hq,d4];exact⟨id,fun o h=>h⟩
    exact D.tO
  · have D:aL st' (fun q=>if q∈ds then none else st' q):=fun q=>by
     by_cases hq:q∈ds
     · simp only[hq,fS];exact⟨fun _=>trivial,fun o h=>by cases h⟩
     · simp only[hq,d4];exact⟨id,fun o h=>h⟩
    exact D.nY r
  · exact bL.a7 _ _ _ (fun q hq=>aE fun h=>(hd q h).2 hq) h3
  · by_cases hq:b∈ds
    · simp only[hq,fS];exact(hd b hq).1.symm
    · simp only[hq,d4];exact h4 b hb hq
def t7(b:Nat):List AV→List Nat
 | []=>[]
 | _::_=>[b]
theorem aP0{s:aB}{b w:Nat}{es os:List AV}{bs:List Nat}(x:bA (aV s b os) es os bs)(hw:∀e∈es,e.width=w):bL (aV s b os) (.slice es) (aZ w b os) (t7 b os++bs):=by
 have hl:=x.length
 cases os with
 | nil=>
  have:es= []:=sI (by simpa using hl.symm)
  subst this
  simp only[bA] at x
  simp only[bL,aZ,t7,x.2]
  exact .inl ⟨trivial,trivial,rfl⟩
 | cons o os=>
  simp only[bL,aZ,t7]
  refine .inr ⟨b,bs,o::os,w,by rw[hl],rfl,?_,x,hw⟩
  simp only[aV,aB.aJ]
def AV.flat:AV→Bool
 | .int _ _ | .bool _ | .str _=>true
 | _=>false
theorem bA.flat{s:aB}:∀ {es:List AV},es.all AV.flat=true→bA s es es []
 | [],_=>⟨rfl,rfl⟩
 | e::es,h=>by
  simp only[k0,cE] at h
  simp only[bA]
  refine⟨e,es,[],[],rfl,rfl,?_,bA.flat h.2⟩
  cases e<;>simp [AV.flat] at h<;>simp [bL]
theorem Seen.nil{st s0:aB}:Seen st s0 [] []:=rfl
theorem Seen.same{st s0:aB}{x:AV}{os as:List AV}(h:Seen st s0 os as):Seen st s0 (x::os) (x::as):=⟨x,as,rfl,.inl rfl,h⟩
theorem Seen.own{st:aB}{a o:AV}{bs:List Nat}{os as:List AV}(hO:bL st a o bs)(h:Seen st dQ os as):Seen st dQ (o::os) (a::as):=⟨a,as,rfl,.inr ⟨bs,hO,fun _ _=>rfl⟩,h⟩
theorem aD.see{P:Program}{g:FuncId}{args args':List AV}{st:aB}{r:AV}(x:∀s,aD P g args s (fun r' s'=>r'=r∧s'=s))(hv:Seen st dQ args' args)(hs:r.gV=true):aD P g args' st (fun r' s'=>r'=r∧s'=st):=
 aD.aNG hs (x dQ) (Seen.rel (aL.dQ st) hv)
theorem aD.qM{P:Program}{g:FuncId}{args:List AV}{st:aB}{r:AV}(x:aD P g args st (fun r' st'=>r'=r∧aL st' st)):aD P g args st (fun r' st'=>r'=r∧st'=st):=
 (x.mono fun _ _ h=>⟨h.2,h.1⟩).drop
theorem aTR{P:Program}{t:TypeId}{st:aB}{s x:AV}{K K':AV→aB→Prop}(h:∀r s,K r s→K' r s)(e:kP P t st s x K):kP P t st s x K':=by
 unfold kP at *
 split at e
 case h_2=>exact e.elim
 refine⟨e.1,e.2.1,?_⟩
 have e:=e.2.2
 split at e
 · exact⟨e.1,e.2.1,e.2.2.1,fun q=>h _ _ (e.2.2.2.1 q),fun q b hb=>h _ _ (e.2.2.2.2 q b hb)⟩
 · refine⟨e.1,e.2.1,e.2.2.1,?_⟩
   have e:=e.2.2.2
   split at e
   · exact⟨e.1,h _ _ e.2.1,fun b hb=>h _ _ (e.2.2 b hb)⟩
   · exact e.elim
 · exact e.elim
theorem aTQ{P:Program}{t t':TypeId}{st:aB}{s x:AV}{K K':AV→aB→Prop}(h:∀r s,K r s→K' r s)(e:tW P t t' st s x K):tW P t t' st s x K':=by
 unfold tW at *
 split at e
 case h_2=>exact e.elim
 refine⟨e.1,e.2.1,e.2.2.1,e.2.2.2.1,?_⟩
 have e:=e.2.2.2.2
 split at e
 · exact⟨e.1,e.2.1,e.2.2.1,fun q=>h _ _ (e.2.2.2.1 q),fun q b hb=>h _ _ (e.2.2.2.2 q b hb)⟩
 · refine⟨e.1,e.2.1,e.2.2.1,?_⟩
   have e:=e.2.2.2
   split at e
   · exact⟨e.1,h _ _ e.2.1,fun b hb=>h _ _ (e.2.2 b hb)⟩
   · exact e.elim
 · exact e.elim
theorem BX{P:Program}{mt:List Nat}{φ:AF}{st:aB}{o:Oper}{K K':AV→aB→Prop}(h:∀r s,K r s→K' r s)(e:fZ P mt φ st o K):fZ P mt φ st o K':=by
 unfold fZ at *
 split at e
 · split at e
   · exact e.mono h
   · exact e.elim
 · split at e
   · split at e
     · rename_i ht;rw[aH ht];exact aTR h e
     · rename_i ht;rw[aE ht];exact aTQ h e
   · exact e.elim
 · split at e
   · unfold BU at *
     split at e
     · split at e
       · exact h _ _ e
       · exact e.elim
     · exact e.elim
   · exact e.elim
 · split at e
   · rename_i hm
     rw[aH hm]
     exact⟨e.1,fun b hb=>h _ _ (e.2 b hb)⟩
   · rename_i hm
     rw[aE hm]
     split at e
     · exact h _ _ e
     · exact e.elim
 · split at e
   · exact fun b hb=>h _ _ (e b hb)
   · exact e.elim
 · split at e
   · split at e
     · exact⟨e.1,e.2.1,e.2.2.1,h _ _ e.2.2.2⟩
     · exact e.elim
   · exact e.elim
 · exact fun b hb=>h _ _ (e b hb)
 · unfold zD at *
   split at e
   · exact⟨e.1,e.2.1,e.2.2.1,e.2.2.2.1,e.2.2.2.2.1,e.2.2.2.2.2.1,fun b hb=>h _ _ (e.2.2.2.2.2.2 b hb)⟩
   · exact e.elim
 · unfold tX at *
   split at e
   · split at e
     · exact⟨e.1,h _ _ e.2⟩
     · exact e.elim
   · exact e.elim
 · split at e
   · exact h _ _ e
   · exact e.elim
def kH(P:Program)(ops:Array Oper)(o:Oper)(φ:AF)(st:aB)(K:AV→aB→Prop):Prop:=match kG ops φ o with
 | some true=>fZ P [] φ st o K
 | some false=>K .undef st
 | none=>False
theorem tZ{P:Program}{ops:Array Oper}{o:Oper}{φ:AF}{st:aB}{K K':AV→aB→Prop}(h:∀r s,K r s→K' r s)(e:kH P ops o φ st K):kH P ops o φ st K':=by
 unfold kH at *
 split at e
 · exact BX h e
 · exact h _ _ e
 · exact e.elim
section
variable {P:Program}
theorem aTU{ops:Array Oper}{oi oj:Oper}(φ:AF)(v:AV)(h:∀d,oj.dst=some d→d∉oi.looksAt ops):kG ops (φ.put oj.dst v) oi=kG ops φ oi:=by
 unfold kG
 cases hg:oi.guard with
 | none=>rfl
 | some gw=>
  obtain⟨g,want⟩:=gw
  cases ht:(ops[g]?).bind (·.dst) with
  | none=>simp only[ht]
  | some t=>
   simp only[ht]
   have:(φ.put oj.dst v) t=φ t:=by
    have:=ON (φ:=φ) (dst:=oj.dst) (v:=v) (x:=.tmp t) (fun d hd hxd=>h d hd (by
     cases hxd
     simp [Oper.looksAt,hg,ht]))
    exact this
   rw[this]
theorem RA{ops:Array Oper}{oi oj:Oper}(φ:AF)(v:AV){st:aB}{K:AV→aB→Prop}(h:∀d,oj.dst=some d→d∉oi.looksAt ops):kH P ops oi (φ.put oj.dst v) st K↔kH P ops oi φ st K:=by
 have h1:fZ P [] (φ.put oj.dst v) st oi K=fZ P [] φ st oi K:=
  YZ fun x hx=>ON fun d hd hxd=>h d hd (by
   subst hxd
   exact List.mem_append_left _ (List.mem_filterMap.2 ⟨.tmp d,by simpa using hx,rfl⟩))
 unfold kH
 rw[h1,aTU φ v h]
theorem TU(n j:Nat):(Array.replicate n false).getD j false=false:=by
 rcases k7 j n with h | h<;>simp [h]
def LT(P:Program)(ops:Array Oper)(K:AF→aB→Prop):Nat→Array Bool→AF→aB→Prop
 | 0,listed,φ,st=>Region.ready .any ops listed= []∧K φ st
 | f+1,listed,φ,st=>(Region.ready .any ops listed= []→K φ st)∧∀i∈Region.ready .any ops listed,∃o,ops[i]?=some o∧kH P ops o φ st (fun r st'=>LT P ops K f (listed.setIfInBounds i true) (φ.put o.dst r) st')
theorem aT4{N:Nat}{ops:Array Oper}(hN:∀(j d:Nat),(ops[j]?).bind (·.dst)=some d→d<N){o:Oper}{i:Nat}{a:Act}{w:World}{φ:AF}{st:aB}{G:AV→aB→Prop}{K:Act→World→Prop}{Q:Exit→Act→World→Prop}(hi:ops[i]?=some o)
 (R:Rel N a w φ st) (hd:rO N o=true) (y:kH P ops o φ st G) (h:∀a' w' r st',Rel N a' w' (φ.put o.dst r) st'→cL w.heap st w'.heap st'→gQ w w'→G r st'→K a' w'):wpOp P ops Q i K a w:=by
 unfold kH at y
 unfold wpOp
 simp only[hi]
 split at y
 · rename_i hg
   rw[aH (zC R hN hg)]
   refine .inl (LY R.frame R.store y fun v w' ⟨r',st',x1,x2,x3,x4,x5⟩=>?_)
   exact h _ _ r' st' (R.put hd x3 x2 x1) x3 x4 x5
 · rename_i hg
   rw[aE (by rw[zC R hN hg];simp)]
   exact h _ _ .undef st (R.put (r:=.undef) hd (cL.refl _ _) R.store ⟨rfl,rfl⟩) (cL.refl _ _) (gQ.refl _) y
 · exact y.elim
theorem LU{N:Nat}{ops:Array Oper}(hN:∀(j d:Nat),(ops[j]?).bind (·.dst)=some d→d<N)(hD:∀o∈ops.toList,rO N o=true){K:AF→aB→Prop}{Q:Exit→Act→World→Prop}{w0:World}{st0:aB}
 (hK:∀φ st a w,K φ st→Rel N a w φ st→cL w0.heap st0 w.heap st→gQ w0 w→Q .normal a w) :
 ∀(f:Nat) (listed:Array Bool) (φ:AF) (st:aB) (a:Act) (w:World),LT P ops K f listed φ st→Rel N a w φ st→cL w0.heap st0 w.heap st→gQ w0 w→wpAny P .any ops Q f listed a w
 | 0,listed,φ,st,a,w,h,R,T,s=>⟨h.1,hK φ st a w h.2 R T s⟩
 | f+1,listed,φ,st,a,w,h,R,T,s=>by
  refine⟨fun h0=>hK φ st a w (h.1 h0) R T s,fun i hi=>?_⟩
  obtain⟨o,ho,y⟩:=h.2 i hi
  exact aT4 hN ho R (hD o (pL.2 (sG ho))) y fun a' w' r st' R' T' s' g=>LU hN hD hK f _ _ _ a' w' g R' (T.trans T') (s.trans s')
def YU(P:Program)(ops:Array Oper)(o:Oper)(r:AV)(φ:AF):Prop:=∀st,k9 P st ops o r φ
theorem a9G{ops:Array Oper}{o:Oper}{r:AV}{φ:AF}(h:YU P ops o r φ){st:aB}{K:AV→aB→Prop}(k:K r st):kH P ops o φ st K:=by
 unfold kH
 rcases h st with ⟨hg,hs⟩ | ⟨hg,rfl⟩
 · rw[hg];exact BX (fun r' s' ⟨e1,e2⟩=>by rw[e1,e2];exact k) hs
 · rw[hg];exact k
theorem Y2{ops:Array Oper}{o:Oper}{r:AV}{φ:AF}{st:aB}(h:k9 P st ops o r φ){K:AV→aB→Prop}(k:K r st):kH P ops o φ st K:=by
 unfold kH
 rcases h with ⟨hg,hs⟩ | ⟨hg,rfl⟩
 · rw[hg];exact BX (fun r' s' ⟨e1,e2⟩=>by rw[e1,e2];exact k) hs
 · rw[hg];exact k
def EL(P:Program)(ops:Array Oper)(S:List Nat)(K:AF→aB→Prop):Nat→Array Bool→AF→aB→Prop
 | 0,listed,φ,st=>Region.ready .any ops listed= []∧K φ st
 | f+1,listed,φ,st=>(Region.ready .any ops listed= []→K φ st)∧∀i∈Region.ready .any ops listed,∃o,ops[i]?=some o ∧
  ((S.contains i=true∧∃r,k9 P st ops o r φ∧EL P ops S K f (listed.setIfInBounds i true) (φ.put o.dst r) st) ∨
   (S.contains i=false∧kH P ops o φ st (fun r st'=>EL P ops S K f (listed.setIfInBounds i true) (φ.put o.dst r) st')))
theorem Q4{ops:Array Oper}{S:List Nat}{K:AF→aB→Prop}:∀(f:Nat) (listed:Array Bool) (φ:AF) (st:aB),EL P ops S K f listed φ st→LT P ops K f listed φ st
 | 0,_,_,_,h=>h
 | f+1,listed,φ,st,h=>by
  refine⟨h.1,fun i hi=>?_⟩
  obtain⟨o,ho,h2⟩:=h.2 i hi
  refine⟨o,ho,?_⟩
  rcases h2 with ⟨_,r,y,k⟩ | ⟨_,k⟩
  · exact Y2 y (Q4 f _ _ _ k)
  · exact tZ (fun r s q=>Q4 f _ _ _ q) k
def tQ(ops:Array Oper)(listed:Array Bool):Prop:=∀j o,ops[j]?=some o→listed.getD j false=true→∀e∈o.after,Region.binds .any e=true→listed.getD e.on false=true
theorem tQ.set{ops:Array Oper}{listed:Array Bool}{i:Nat}(h:tQ ops listed)(hr:i∈Region.ready .any ops listed):tQ ops (listed.setIfInBounds i true):=by
 intro j o ho hl e he hb
 by_cases hji:i=j
 · subst hji
   obtain⟨_,o',ho',cS⟩:=mem_ready.1 hr
   rw[ho'] at ho;cases ho
   exact getD_set_true (cS e he hb)
 · rw[getD_set_ne false hji] at hl
   exact getD_set_true (h j o ho hl e he hb)
def vW(ops:Array Oper):Nat→Nat→Nat→Bool
 | 0,_,_=>false
 | f+1,j,i=>match ops[j]? with
  | some o=>o.after.any fun e=>Region.binds .any e&&(e.on == i||vW ops f e.on i)
  | none=>false
theorem MV{ops:Array Oper}{listed:Array Bool}{i:Nat}(h:tQ ops listed)(hi:listed.getD i false=false):∀(f j:Nat) (o:Oper),ops[j]?=some o→vW ops f j i=true→¬ ∀e∈o.after,Region.binds .any e=true→listed.getD e.on false=true
 | 0,j,o,_,hd=>by simp [vW] at hd
 | f+1,j,o,ho,hd=>by
  intro cS
  simp only[vW,ho] at hd
  obtain⟨e,he,h2⟩:=Array.any_eq_true'.1 hd
  simp only[cE,oV,beq_iff_eq] at h2
  obtain⟨hb,h3⟩:=h2
  have hl:=cS e he hb
  rcases h3 with h3 | h3
  · rw[h3,hi] at hl;cases hl
  · cases hk:ops[e.on]? with
    | none=>cases f<;>simp [vW,hk] at h3
    | some o2=>exact MV h hi f e.on o2 hk h3 (h e.on o2 hk hl)
def eT(st s:aB):Prop:=∀b o,st b=some o→s b=some o
theorem eT.refl(st:aB):eT st st:=fun _ _ h=>h
theorem eT.trans{a b c:aB}(x:eT a b)(y:eT b c):eT a c:=fun q o h=>y q o (x q o h)
def L4(o:Oper):Bool:=match o.op with
 | .alloc _=>true
 | _=>false
theorem aT3{ops:Array Oper}{o:Oper}{φ:AF}{st:aB}{K:AV→aB→Prop}(ho:L4 o=true)(e:kH P ops o φ st K):kH P ops o φ st (fun r st'=>eT st st'∧K r st'):=by
 obtain⟨dst,op,type,pos,after,guard⟩:=o
 cases op<;>simp only[L4,jR] at ho
 unfold kH at e ⊢
 split at e
 · simp only[fZ] at e ⊢
   split at e
   · intro b hb
     refine⟨fun q o hq=>?_,e b hb⟩
     rw[aB.aG _ _ (by rintro rfl;rw[hb] at hq;cases hq)]
     exact hq
   · cases e
 · exact⟨eT.refl _,e⟩
 · cases e
theorem Q5{ops:Array Oper}{S:List Nat}{i:Nat}{oi:Oper}{v:AV}{K:AF→aB→Prop}(hi:ops[i]?=some oi)(hS:S.contains i=true) :
 ∀(f:Nat) (listed:Array Bool) (φ:AF) (st:aB),tQ ops listed →
  (∀j oj,ops[j]?=some oj→j≠i→listed.getD j true=false→(∀e∈oj.after,Region.binds .any e=true→e.on≠i)→oi.apart ops oj=true) →
  i∈Region.ready .any ops listed→((∀s,k9 P s ops oi v φ)∨(k9 P st ops oi v φ∧∀j oj,ops[j]?=some oj→listed.getD j true=false→S.contains j=false→∃g,vW ops g j i=true)∨((∀s,eT st s→k9 P s ops oi v φ)∧∀j oj,ops[j]?=some oj→listed.getD j true=false→S.contains j=false→(∃g,vW ops g j i=true)∨L4 oj=true)) →
  EL P ops S K f (listed.setIfInBounds i true) (φ.put oi.dst v) st→EL P ops S K (f+1) listed φ st:=by
 intro f
 induction f with
 | zero=>
  intro listed φ st hcl _ hr hy H
  have hy0:k9 P st ops oi v φ:=by
   rcases hy with h | h | h
   · exact h st
   · exact h.1
   · exact h.1 st (eT.refl st)
  refine⟨fun h=>(by rw[h] at hr;cases hr),fun j hj=>?_⟩
  by_cases hji:j=i
  · subst hji;exact⟨oi,hi,.inl ⟨hS,v,hy0,H⟩⟩
  · have:=ready_mono hj hji
    rw[H.1] at this
    cases this
 | succ f ih=>
  intro listed φ st hcl rV hr hy H
  have hy0:k9 P st ops oi v φ:=by
   rcases hy with h | h | h
   · exact h st
   · exact h.1
   · exact h.1 st (eT.refl st)
  refine⟨fun h=>(by rw[h] at hr;cases hr),fun j hj=>?_⟩
  by_cases hji:j=i
  · subst hji;exact⟨oi,hi,.inl ⟨hS,v,hy0,H⟩⟩
  · obtain⟨oj,hoj,h1⟩:=H.2 j (ready_mono hj hji)
    obtain⟨qT,oj',CZ,cS⟩:=mem_ready.1 hj
    have:oj'=oj:=jL (CZ.symm.trans hoj)
    subst this
    have hun:=(mem_ready.1 hr).1
    have uM:∀e∈oj'.after,Region.binds .any e=true→e.on≠i:=fun e he hb heq=>by
     have h1:=cS e he hb
     rw[heq,getD_both hun] at h1
     cases h1
    obtain⟨a1,a2,a3⟩:=Oper.apart_spec (rV j oj' hoj hji qT uM)
    have v6:∀k ok,ops[k]?=some ok→k≠i→(listed.setIfInBounds j true).getD k true=false →
     (∀e∈ok.after,Region.binds .any e=true→e.on≠i)→oi.apart ops ok=true:=fun k ok hk hki hun hno=>by
     refine rV k ok hk hki ?_ hno
     by_cases hjk:j=k
     · subst hjk;exact qT
     · rw[getD_set_ne true hjk] at hun;exact hun
    have U3:∀k,(listed.setIfInBounds j true).getD k true=false→listed.getD k true=false:=fun k hk=>by
     by_cases hjk:j=k
     · subst hjk;exact qT
     · rw[getD_set_ne true hjk] at hk;exact hk
    refine⟨oj',hoj,?_⟩
    rcases h1 with ⟨hSj,r,yj,h2⟩ | ⟨hSj,h2⟩
    · refine .inl ⟨hSj,r,(rL φ v a1).1 yj,ih (listed.setIfInBounds j true) (φ.put oj'.dst r) st (hcl.set hj) v6 (ready_mono hr (dG hji)) ?_ ?_⟩
      · rcases hy with h | h | h
        · exact .inl fun s=>(rL φ r a3).2 (h s)
        · exact .inr (.inl ⟨(rL φ r a3).2 h.1,fun k ok hk hl hs=>h.2 k ok hk (U3 k hl) hs⟩)
        · exact .inr (.inr ⟨fun s hs=>(rL φ r a3).2 (h.1 s hs),fun k ok hk hl hs=>h.2 k ok hk (U3 k hl) hs⟩)
      · rw[D8 _ _ hji,←put_comm φ v r a2]
        exact h2
    · rcases hy with hf | ⟨_,hd⟩ | ⟨hx,hd⟩
      · refine .inr ⟨hSj,tZ (fun r st' h3=>?_) ((RA φ v a1).1 h2)⟩
        refine ih (listed.setIfInBounds j true) (φ.put oj'.dst r) st' (hcl.set hj) v6 (ready_mono hr (dG hji)) (.inl fun s=>(rL φ r a3).2 (hf s)) ?_
        rw[D8 _ _ hji,←put_comm φ v r a2]
        exact h3
      · obtain⟨g,hg⟩:=hd j oj' hoj qT hSj
        exact absurd cS (MV hcl (getD_both hun) g j oj' hoj hg)
      · rcases hd j oj' hoj qT hSj with ⟨g,hg⟩ | hal
        · exact absurd cS (MV hcl (getD_both hun) g j oj' hoj hg)
        · refine .inr ⟨hSj,tZ (fun r st' h3=>?_) (aT3 hal ((RA φ v a1).1 h2))⟩
          refine ih (listed.setIfInBounds j true) (φ.put oj'.dst r) st' (hcl.set hj) v6 (ready_mono hr (dG hji)) (.inr (.inr ⟨fun s hs=>(rL φ r a3).2 (hx s (h3.1.trans hs)),fun k ok hk hl hs=>hd k ok hk (U3 k hl) hs⟩)) ?_
          rw[D8 _ _ hji,←put_comm φ v r a2]
          exact h3.2
def aQ9(ops:Array Oper)(S:List Nat)(listed:Array Bool)(i:Nat):Bool:=(List.range ops.size).all fun j=>listed.getD j true||S.contains j||vW ops ops.size j i
def aQ8(ops:Array Oper)(S:List Nat)(listed:Array Bool)(i:Nat):Bool:=(List.range ops.size).all fun j=>listed.getD j true||S.contains j||vW ops ops.size j i||((ops[j]?).map L4).getD false
def aP6(ops:Array Oper)(i:Nat):Bool:=((ops[i]?).map lN).getD false
def uT(ops:Array Oper)(S:List Nat):List (Nat×Nat)→Array Bool→Bool
 | [],listed=>(Region.ready .any ops listed).isEmpty
 | (i,0)::r,listed=>decide (Region.ready .any ops listed= [i])&& !S.contains i&&uT ops S r (listed.setIfInBounds i true)
 | (i,1)::r,listed=>(Region.ready .any ops listed).contains i&&Region.free .any ops listed i&&S.contains i&&uT ops S r (listed.setIfInBounds i true)
 | (i,_)::r,listed=>(Region.ready .any ops listed).contains i&&Region.free .any ops listed i&&S.contains i&&(aQ9 ops S listed i||(aP6 ops i&&aQ8 ops S listed i))&&uT ops S r (listed.setIfInBounds i true)
def EP(P:Program)(ops:Array Oper)(K:AF→aB→Prop):List (Nat×Nat)→AF→aB→Prop
 | [],φ,st=>K φ st
 | (i,0)::r,φ,st=>∃o,ops[i]?=some o∧kH P ops o φ st (fun v st'=>EP P ops K r (φ.put o.dst v) st')
 | (i,1)::r,φ,st=>∃o,ops[i]?=some o∧∃v,YU P ops o v φ∧EP P ops K r (φ.put o.dst v) st
 | (i,_)::r,φ,st=>∃o,ops[i]?=some o∧∃v,k9 P st ops o v φ∧EP P ops K r (φ.put o.dst v) st
theorem a4A{t:TypeId}{ok:Bool}{x i r:AV}{st s:aB}(hs:eT st s)(h:qH P st t ok x i=some r):qH P s t ok x i=some r:=by
 unfold qH at *
 split at h
 · rename_i b n
   cases hb:st b with
   | none=>rw[hb] at h;cases h
   | some o=>rw[hs b o hb,←hb];exact h
 · cases h
theorem a35{t:TypeId}{x r:AV}{st s:aB}(hs:eT st s)(h:jK P st t x=some r):jK P s t x=some r:=by
 unfold jK at *
 split at h
 · exact h
 · rename_i b o
   cases hb:st b with
   | none=>rw[hb] at h;split at h<;>simp_all
   | some o=>rw[hs b o hb,←hb];exact h
 · cases h
theorem Y0{φ:AF}{o:Oper}{r:AV}{st s:aB}(hs:eT st s)(h:mA P φ st o=some r):mA P φ s o=some r:=by
 obtain⟨dst,op,type,pos,after,guard⟩:=o
 cases op
 case makeFunc fn a b=>cases fn<;>exact h
 case call c=>
  obtain⟨callee,args,ats⟩:=c
  cases callee
  case builtin b=>cases b<;>exact h
  all_goals exact h
 case load=>exact a35 hs h
 case lookup=>exact a4A hs h
 all_goals exact h
theorem aT9{ops:Array Oper}{o:Oper}{v:AV}{φ:AF}{st s:aB}(hp:lN o=true)(hs:eT st s)(h:k9 P st ops o v φ):k9 P s ops o v φ:=by
 rcases h with ⟨h1,h2⟩ | h
 · refine .inl ⟨h1,?_⟩
   rw[t6 hp] at h2 ⊢
   cases hv:mA P φ st o with
   | none=>rw[hv] at h2;cases h2
   | some r=>
    rw[hv] at h2
    rw[Y0 hs hv]
    exact⟨h2.1,rfl⟩
 · exact .inr h
theorem HR{ops:Array Oper}{S:List Nat}{K:AF→aB→Prop}:∀(p:List (Nat×Nat)) (listed:Array Bool) (φ:AF) (st:aB),tQ ops listed→uT ops S p listed=true→EP P ops K p φ st→EL P ops S K p.length listed φ st
 | [],listed,φ,st,_,hB,h=>⟨by simpa [uT] using hB,h⟩
 | (i,0)::r,listed,φ,st,hcl,hB,h=>by
  simp only[uT,cE,bK,lT] at hB
  obtain⟨o,ho,h'⟩:=h
  have hr:i∈Region.ready .any ops listed:=by rw[hB.1.1];simp
  refine⟨fun h0=>(by rw[hB.1.1] at h0;cases h0),fun j hj=>?_⟩
  rw[hB.1.1] at hj
  obtain rfl:j=i:=by simpa using hj
  exact⟨o,ho,.inr ⟨hB.1.2,tZ (fun v st' q=>HR r _ _ _ (hcl.set hr) hB.2 q) h'⟩⟩
 | (i,1)::r,listed,φ,st,hcl,hB,h=>by
  simp only[uT,cE] at hB
  obtain⟨⟨⟨hr,hf⟩,hS⟩,hB'⟩:=hB
  obtain⟨o,ho,v,hv,h'⟩:=h
  have hr':i∈Region.ready .any ops listed:=by simpa using hr
  exact Q5 ho hS _ listed φ st hcl (Region.free_spec ho hf) hr' (.inl hv) (HR r _ _ _ (hcl.set hr') hB' h')
 | (i,k+2)::r,listed,φ,st,hcl,hB,h=>by
  simp only[uT,cE] at hB
  obtain⟨⟨⟨⟨hr,hf⟩,hS⟩,hd⟩,hB'⟩:=hB
  obtain⟨o,ho,v,hv,h'⟩:=h
  have hr':i∈Region.ready .any ops listed:=by simpa using hr
  rw[oV] at hd
  rcases hd with hd | hd
  · refine Q5 ho hS _ listed φ st hcl (Region.free_spec ho hf) hr' (.inr (.inl ⟨hv,fun j oj hj hl hs=>⟨ops.size,?_⟩⟩)) (HR r _ _ _ (hcl.set hr') hB' h')
    simp only[aQ9,eM,yY] at hd
    have:=hd j (QD.1 hj).1
    simpa only[hl,hs,sH] using this
  · rw[cE] at hd
    obtain⟨hp,hd⟩:=hd
    simp only[aP6,ho,pN,Option.getD_some] at hp
    refine Q5 ho hS _ listed φ st hcl (Region.free_spec ho hf) hr' (.inr (.inr ⟨fun s hs=>aT9 hp hs hv,fun j oj hj hl hs=>?_⟩)) (HR r _ _ _ (hcl.set hr') hB' h')
    simp only[aQ8,eM,yY] at hd
    have:=hd j (QD.1 hj).1
    simp only[hl,hs,sH,hj,pN,Option.getD_some,oV] at this
    exact this.imp (fun h=>⟨ops.size,h⟩) id
theorem aUU{N:Nat}{id:Nat}{ops:Array Oper}{Q:Exit→AF→aB→Prop}{φ:AF}{st:aB}(p:List (Nat×Nat))(S:List Nat)(hm:P.follows .mixedOrders=true)(hok:q9 N ops=true)(hl:p.length=ops.size)(hB:uT ops S p (Array.replicate ops.size false)=true)
 (h:EP P ops (Q .normal) p φ st):g8 P N (.region id ops true) Q φ st:=by
 intro a w R
 refine wp_region_any hm ?_
 have R0:Rel N a { w with drawn:=w.drawn+1 } φ st:=⟨R.size,R.defers,R.frame,R.store⟩
 have:=Q4 _ _ _ _ (HR p _ φ st (fun j o _ hl=>(by rw[TU] at hl;cases hl)) hB h)
 rw[hl] at this
 exact LU (AI hok) (x7 hok) (w0:=w) (st0:=st) (fun φ' st' a' w' k R' T s=>⟨φ',st',R',T,s,k⟩) _ _ _ _ _ _ this R0 (cL.refl _ _) ⟨rfl,rfl,rfl⟩
theorem a39{t:TypeId}{ok:Bool}{x i r:AV}(h:qH P dQ t ok x i=some r)(st:aB):qH P st t ok x i=some r:=by
 unfold qH at *
 split at h
 · simp only[dQ] at h;cases h
 · cases h
theorem a34{t:TypeId}{x r:AV}(h:jK P dQ t x=some r)(st:aB):jK P st t x=some r:=by
 unfold jK at *
 split at h
 · exact h
 · split at h
   · rename_i h1;simp only[dQ] at h1;cases h1
   · cases h
 · cases h
theorem aT5{φ:AF}{o:Oper}{r:AV}(h:mA P φ dQ o=some r)(st:aB):mA P φ st o=some r:=by
 obtain⟨dst,op,type,pos,after,guard⟩:=o
 cases op
 case makeFunc fn a b=>cases fn<;>exact h
 case call c=>
  obtain⟨callee,args,ats⟩:=c
  cases callee
  case builtin b=>cases b<;>exact h
  all_goals exact h
 case load=>exact a34 h st
 case lookup=>exact a39 h st
 all_goals exact h
def k8(P:Program)(ops:Array Oper)(K:AF→aB→Prop):List (Nat×Nat)→AF→aB→Prop
 | [],φ,st=>K φ st
 | (i,0)::r,φ,st=>match ops[i]? with
  | none=>False
  | some o=>bJ P [] ops [o] (fun φ' st'=>k8 P ops K r φ' st') φ st
 | (i,1)::r,φ,st=>match ops[i]? with
  | none=>False
  | some o=>if lN o=true then bJ P [] ops [o] (fun φ' _=>k8 P ops K r φ' st) φ dQ else
   match o.guard,o.op with
   | none,.call { callee:=.value f,args,.. }=>∃v,(∀s,uB P (φ.eval f) (args.toList.map φ.eval) s (fun r' s'=>r'=v∧s'=s))∧k8 P ops K r (φ.put o.dst v) st
   | _,_=>False
 | (i,_)::r,φ,st=>match ops[i]? with
  | none=>False
  | some o=>if lN o=true then bJ P [] ops [o] (fun φ' _=>k8 P ops K r φ' st) φ st else
   match o.guard,o.op with
   | none,.call { callee:=.value f,args,.. }=>∃v,uB P (φ.eval f) (args.toList.map φ.eval) st (fun r' s'=>r'=v∧s'=st)∧k8 P ops K r (φ.put o.dst v) st
   | _,_=>False
theorem wY{ops:Array Oper}{K:AF→aB→Prop}:∀(p:List (Nat×Nat)) (φ:AF) (st:aB),k8 P ops K p φ st→EP P ops K p φ st
 | [],_,_,h=>h
 | (i,0)::r,φ,st,h=>by
  simp only[k8] at h
  split at h
  · exact h.elim
  · rename_i o ho
    refine⟨o,ho,?_⟩
    simp only[bJ] at h
    unfold kH
    split at h
    · rename_i hg
      rw[hg]
      exact BX (fun v s q=>wY r _ _ q) h
    · rename_i hg
      rw[hg]
      exact wY r _ _ h
    · exact h.elim
 | (i,1)::r,φ,st,h=>by
  simp only[k8] at h
  split at h
  · exact h.elim
  · rename_i o ho
    split at h
    · rename_i hp
      simp only[bJ] at h
      split at h
      · rename_i hg
        rw[t6 hp] at h
        split at h
        · rename_i v hv
          exact⟨o,ho,v,fun s=>.inl ⟨hg,by rw[t6 hp,aT5 hv s];exact⟨rfl,rfl⟩⟩,wY r _ _ h⟩
        · exact h.elim
      · rename_i hg
        exact⟨o,ho,.undef,fun s=>.inr ⟨hg,rfl⟩,wY r _ _ h⟩
      · exact h.elim
    · split at h
      · rename_i f args ats hg hop
        obtain⟨v,h1,h2⟩:=h
        refine⟨o,ho,v,fun s=>.inl ⟨by simp only[kG,hg],?_⟩,wY r _ _ h2⟩
        simp only[fZ,hop]
        exact h1 s
      · exact h.elim
 | (i,k+2)::r,φ,st,h=>by
  simp only[k8] at h
  split at h
  · exact h.elim
  · rename_i o ho
    split at h
    · rename_i hp
      simp only[bJ] at h
      split at h
      · rename_i hg
        rw[t6 hp] at h
        split at h
        · rename_i v hv
          exact⟨o,ho,v,.inl ⟨hg,by rw[t6 hp,hv];exact⟨rfl,rfl⟩⟩,wY r _ _ h⟩
        · exact h.elim
      · rename_i hg
        exact⟨o,ho,.undef,.inr ⟨hg,rfl⟩,wY r _ _ h⟩
      · exact h.elim
    · split at h
      · rename_i f args ats hg hop
        obtain⟨v,h1,h2⟩:=h
        refine⟨o,ho,v,.inl ⟨by simp only[kG,hg],?_⟩,wY r _ _ h2⟩
        simp only[fZ,hop]
        exact h1
      · exact h.elim
end
def V8(P:Program)(ops:Array Oper)(K:AF→aB→Prop)(r:List (Nat×Nat))(φ:AF)(st:aB):Prop:=k8 P ops K r φ st
def J5(P:Program)(ops:Array Oper)(K:AF→aB→Prop)(r:List (Nat×Nat))(st:aB)(φ:AF)(_:aB):Prop:=k8 P ops K r φ st
def DI(P:Program)(ops:Array Oper)(K:AF→aB→Prop)(r:List (Nat×Nat))(φ:AF)(dst:Option Tmp)(st:aB)(v:AV):Prop:=k8 P ops K r (φ.put dst v) st
def IB(P:Program)(f:AV)(args:List AV)(K:AV→Prop):Prop:=∃v,(∀s,uB P f args s (fun r' s'=>r'=v∧s'=s))∧K v
def GC(P:Program)(ops:Array Oper)(K:AF→aB→Prop)(r:List (Nat×Nat))(φ:AF)(st:aB):Nat→Option Oper→Prop
 | 0,some o=>bJ P [] ops [o] (V8 P ops K r) φ st
 | 1,some o=>if lN o=true then bJ P [] ops [o] (J5 P ops K r st) φ dQ else
  match o.guard,o.op with
  | none,.call { callee:=.value f,args,.. }=>IB P (φ.eval f) (args.toList.map φ.eval) (DI P ops K r φ o.dst st)
  | _,_=>False
 | _,some o=>if lN o=true then bJ P [] ops [o] (J5 P ops K r st) φ st else
  match o.guard,o.op with
  | none,.call { callee:=.value f,args,.. }=>zQ P (φ.eval f) (args.toList.map φ.eval) st (DI P ops K r φ o.dst st)
  | _,_=>False
 | _,none=>False
theorem aIN{P:Program}{ops:Array Oper}{K:AF→aB→Prop}{φ:AF}{st:aB}:k8 P ops K [] φ st=K φ st:=rfl
theorem aIO{P:Program}{l:List Oper}{K:AF→aB→Prop}{φ:AF}{st:aB}{i b:Nat}{r:List (Nat×Nat)}:k8 P l.toArray K ((i,b)::r) φ st=GC P l.toArray K r φ st b l[i]?:=by
 match b with
 | 0=>simp only[k8,yV];cases l[i]?<;>rfl
 | 1=>simp only[k8,yV];cases l[i]?<;>rfl
 | b+2=>simp only[k8,yV];cases l[i]?<;>rfl
theorem aIS{P:Program}{ops:Array Oper}{K:AF→aB→Prop}{φ:AF}{st:aB}{r:List (Nat×Nat)}{o:Oper}:GC P ops K r φ st 0 (some o)=bJ P [] ops [o] (V8 P ops K r) φ st:=rfl
theorem aIT{P:Program}{ops:Array Oper}{K:AF→aB→Prop}{φ:AF}{st:aB}{r:List (Nat×Nat)}{o:Oper}:GC P ops K r φ st 1 (some o)=if lN o=true then bJ P [] ops [o] (J5 P ops K r st) φ dQ else
      match o.guard,o.op with
      | none,.call { callee:=.value f,args,.. }=>IB P (φ.eval f) (args.toList.map φ.eval) (DI P ops K r φ o.dst st)
      | _,_=>False:=rfl
theorem aIU{P:Program}{ops:Array Oper}{K:AF→aB→Prop}{φ:AF}{st:aB}{r:List (Nat×Nat)}{o:Oper}:GC P ops K r φ st 2 (some o)=if lN o=true then bJ P [] ops [o] (J5 P ops K r st) φ st else
      match o.guard,o.op with
      | none,.call { callee:=.value f,args,.. }=>zQ P (φ.eval f) (args.toList.map φ.eval) st (DI P ops K r φ o.dst st)
      | _,_=>False:=rfl
theorem aIR{P:Program}{ops:Array Oper}{K:AF→aB→Prop}{φ:AF}{st:aB}{r:List (Nat×Nat)}:V8 P ops K r φ st=k8 P ops K r φ st:=rfl
theorem aIQ{P:Program}{ops:Array Oper}{K:AF→aB→Prop}{φ:AF}{st s:aB}{r:List (Nat×Nat)}:J5 P ops K r st φ s=k8 P ops K r φ st:=rfl
theorem aIP{P:Program}{ops:Array Oper}{K:AF→aB→Prop}{φ:AF}{st:aB}{r:List (Nat×Nat)}{dst:Option Tmp}{v:AV}:DI P ops K r φ dst st v=k8 P ops K r (φ.put dst v) st:=rfl
theorem SO{P:Program}{g:FuncId}{args:List AV}{r:AV}{K:AV→Prop}(x:∀st,aD P g args st (fun r' st'=>r'=r∧st'=st))(h:K r):IB P (.func g []) args K:=⟨r,fun st=>by show aD P g (args++ []) st _;rw[iV];exact x st,h⟩
@[congr] theorem a9T {P:Program} {ops:Array Oper} {K:AF→aB→Prop} {p:List (Nat×Nat)} {φ φ':AF} {st st':aB} (h1:φ=φ') (h2:st=st'):k8 P ops K p φ st=k8 P ops K p φ' st':=by rw[h1,h2]
@[congr] theorem a96 {P:Program} {ops:Array Oper} {K:AF→aB→Prop} {p:List (Nat×Nat)} {φ φ':AF} {st st':aB} {b:Nat} {o o':Option Oper} (h1:φ=φ') (h2:st=st') (h3:o=o'):GC P ops K p φ st b o=GC P ops K p φ' st' b o':=by rw[h1,h2,h3]
@[congr] theorem a95 {P:Program} {ops:Array Oper} {K:AF→aB→Prop} {p:List (Nat×Nat)} {φ φ':AF} {dst:Option Tmp} {st st':aB} {v v':AV} (h1:φ=φ') (h2:st=st') (h3:v=v'):DI P ops K p φ dst st v=DI P ops K p φ' dst st' v':=by rw[h1,h2,h3]
@[congr] theorem a9X {P:Program} {f f':AV} {args args':List AV} {K:AV→Prop} (h0:f=f') (h1:args=args'):IB P f args K=IB P f' args' K:=by rw[h0,h1]
theorem zx5{P:Program}{N:Nat}{id:Nat}{l:List Oper}{Q:Exit→AF→aB→Prop}{φ:AF}{st:aB}(p:List (Nat×Nat))(S:List Nat)(hm:P.follows .mixedOrders=true)(hok:q9 N l.toArray=true)(hl:p.length=l.length)(hB:uT l.toArray S p (Array.replicate l.length false)=true)
 (h:k8 P l.toArray (Q .normal) p φ st):g8 P N (.region id l.toArray true) Q φ st:=
 aUU p S hm hok (by simpa using hl) (by simpa using hB) (wY p φ st h)
theorem Y4{P:Program}{t:TypeId}{ag:Bool}{w bytes:Nat}{zs:List AV}{s:aB}{b:Nat}{l xs:List AV}{x:AV}{K:AV→aB→Prop}
 (hI:eI P t=some (ag,w)) (hB:eB P t=some bytes) (hZ:eZ P t=some zs) (hz:zs.length=w) (hx:BV x=some xs) (g7:vQ w xs) (hw:∀e∈l,e.width=w) (hb:l≠[]→s b=some (.cells (l.flatMap AV.cells)))
 (h1:(l.length+xs.length)*bytes≤140737488355328) (h2:l.length+xs.length≤9223372036854775807)
 (hK:∀b' s',(l++xs≠[]→s' b'=some (.cells ((l++xs).flatMap AV.cells)))→(l++xs≠[]→b'=b∧l≠[]∨s b'=none)→(∀q,(l++xs≠[]→q≠b')→(l≠[]→q≠b)→s' q=s q)→(l≠[]→b'≠b→s' b=none)→K (aZ w b' (l++xs)) s'):kP P t s (aZ w b l) x K:=by
 unfold kP
 rw[hI,hB,hZ,hx]
 refine⟨hz,g7,?_⟩
 cases l with
 | nil=>
  show _∧_∧_∧_∧_
  refine⟨by simpa using h1,by simpa using h2,by simp,?_,?_⟩
  · rintro rfl
    have:=hK b s (by simp) (by simp) (fun _ _ _=>rfl) (by simp)
    simpa [aZ] using this
  · intro hne b' hb'
    have:=hK b' (s.aC b' (.cells (xs.flatMap AV.cells))) (fun _=>by rw[aB.aJ];simp) (fun _=>.inr hb') (fun q h _=>aB.aG _ _ (h (by simpa using hne))) (by simp)
    rw[eD,pQ hne] at this
    simpa using this
 | cons y l=>
  have hb:=hb (by simp)
  show w=w∧_∧_∧_
  refine⟨rfl,h1,h2,?_⟩
  have hfl:((y::l).flatMap AV.cells).length=(y::l).length*w:=qP hw
  rw[hb]
  refine⟨by rw[hfl];exact dC _,?_,?_⟩
  · have:=hK b (s.aC b (.cells ((y::l++xs).flatMap AV.cells))) (fun _=>aB.aJ _ _ _) (fun _=>.inl ⟨rfl,by simp⟩) (fun q h _=>aB.aG _ _ (h (by simp))) (fun _ h=>absurd rfl h)
    rw[pQ (by simp),BF,dW] at this
    rw[←hfl,fG]
    exact this
  · intro b' hb'
    have hne:b'≠b:=by rintro rfl;rw[hb] at hb';cases hb'
    have:=hK b' ((s.erase b).aC b' (.cells ((y::l++xs).flatMap AV.cells))) (fun _=>aB.aJ _ _ _) (fun _=>.inr hb') (fun q h h'=>by
     rw[aB.aG _ _ (h (by simp))]
     simp only[aB.erase,h' (by simp),d4]) (fun _ _=>by rw[aB.aG _ _ (dG hne)];exact aB.aCE _ _)
    rw[pQ (by simp),BF,dW] at this
    rw[←hfl,fG]
    exact this
def tR(es:List AV)(st:aB)(i:Nat)(os:List AV)(bs:List Nat)(b:Nat)(s:aB):Prop:=
 os.length=i∧bA s (es.take i) os bs∧bs.Nodup∧(∀q∈bs,st q=none)∧(os≠[]→st b=none∧b∉bs∧s b=some (.cells (os.flatMap AV.cells)))∧∀q,q∉bs→(os≠[]→q≠b)→s q=st q
theorem tR.start{es:List AV}{st:aB}{b:Nat}:tR es st 0 [] [] b st:=⟨rfl,by simp [bA],mK,by simp,by simp,fun _ _ _=>rfl⟩
theorem FX{b x:Nat}{l:List AV}:x∈t7 b l↔x=b∧l≠[]:=by cases l<;>simp [t7]
theorem tR.done{es:List AV}{st:aB}{n w:Nat}{os:List AV}{bs:List Nat}{b:Nat}{s:aB}(h:tR es st n os bs b s)(hl:es.length=n)(hw:∀e∈es,e.width=w):Made st (.slice es) (aZ w b os) s:=by
 obtain⟨h1,h2,h3,h4,h5,h6⟩:=h
 rw[n7 (by omega)] at h2
 refine⟨t7 b os++bs,?_,fun q hq=>?_,?_,fun q hq=>?_⟩
 · rw[n6]
   refine⟨by cases os<;>simp [t7],h3,fun x hx y hy e=>?_⟩
   obtain⟨rfl,hne⟩:=FX.1 hx
   exact(h5 hne).2.1 (e▸hy)
 · rcases eK.1 hq with hq | hq
   · obtain⟨rfl,hne⟩:=FX.1 hq
     exact(h5 hne).1
   · exact h4 q hq
 · cases os with
   | nil=>
    have:es= []:=by simpa using h2.length.symm
    subst this
    simp only[bA] at h2
    simp only[bL,aZ,t7,h2.2]
    exact .inl ⟨trivial,trivial,rfl⟩
   | cons o os=>
    simp only[bL,aZ,t7]
    refine .inr ⟨b,bs,o::os,w,by rw[h2.length],rfl,(h5 (by simp)).2.2,h2,hw⟩
 · simp only[eK,FX,oG,not_and] at hq
   exact h6 q hq.2 (fun hne e=>hq.1 e hne)
theorem bA.D4{st:aB}{w:Nat}:∀ {as os:List AV} {bs:List Nat},bA st as os bs→(∀e∈as,e.width=w)→∀o∈os,o.width=w
 | [],os,bs,x,_=>by simp only[bA] at x;rw[x.1];simp
 | a::as,os,bs,x,h=>by
  simp only[bA] at x
  obtain⟨o,os',b1,b2,rfl,rfl,x1,x2⟩:=x
  intro q hq
  rcases dB.1 hq with rfl | hq
  · rw[(bL.shape x1).2.1,h a (by simp)]
  · exact bA.D4 x2 (fun e he=>h e (by simp [he])) q hq
theorem bL.aBO{st:aB}{e r:AV}{bs:List Nat}{w:Nat}(m3:bL st e r bs)(hwe:e.width=w)(hst:e.cells.all AV.storable=true):r.width=w∧r.cells.length=w∧r.cells.all AV.storable=true:=by
 refine⟨(bL.shape m3).2.1.trans hwe,by rw[w9,(bL.shape m3).2.1,hwe],?_⟩
 cases e<;>simp only[bL] at m3<;>try exact m3.elim
 case int=>rw[m3.1];try rfl
 case bool=>rw[m3.1];try rfl
 case str=>rw[m3.1];try rfl
 case slice=>rcases m3 with ⟨_,rfl,_⟩ | ⟨_,_,_,_,rfl,_⟩<;>rfl
 case agg cs=>
  obtain⟨q,rfl,m3⟩:=m3
  refine(bL.ZB m3 fun c hc=>?_).1
  have hst:cs.all AV.storable=true:=hst
  have:=eM.1 hst c hc
  cases c<;>first | rfl | (simp [AV.storable] at this)
theorem tR.step{es:List AV}{st:aB}{i:Nat}{os:List AV}{bs bx:List Nat}{b x b':Nat}{s s2 s':aB}{o:AO}{e r:AV}(h:tR es st i os bs b s)(hx:s x=none)(he:es[i]?=some e)
 (m1:bx.Nodup) (m2:∀q∈bx,(s.aC x o) q=none) (m3:bL s2 e r bx) (m4:∀q,q∉bx→s2 q=(s.aC x o) q)
 (k1:s' b'=some (.cells ((os++ [r]).flatMap AV.cells))) (k2:b'=b∧os≠[]∨s2 b'=none) (k3:∀q,q≠b'→(os≠[]→q≠b)→s' q=s2 q) (k4:os≠[]→b'≠b→s' b=none) :
 tR es st (i+1) (os++ [r]) (bs++bx) b' (s'.erase x):=by
 obtain⟨h1,h2,h3,h4,h5,h6⟩:=h
 have AA:=bA.gV _ _ _ h2
 have hi:i<es.length:=(gW.1 he).1
 have sV:∀q∈bs,s q≠none:=fun q hq=>by obtain⟨cs,e1,_⟩:=AA.2 q hq;rw[e1];simp
 have a24:x∉bs:=fun hq=>sV x hq hx
 have hxb:os≠[]→x≠b:=fun hne e=>by have:=(h5 hne).2.2;rw[←e,hx] at this;cases this
 have U7:x∉bx:=fun hq=>by have:=m2 x hq;rw[aB.aJ] at this;cases this
 have hbx:∀q∈bx,s q=none:=fun q hq=>by
  have:=m2 q hq
  have hne:q≠x:=fun e=>U7 (e▸hq)
  rwa [aB.aG _ _ hne] at this
 have qS:∀q∈bs,q∉bx:=fun q hq hq'=>sV q hq (hbx q hq')
 have aN0:os≠[]→b∉bx:=fun hne hq=>by have:=hbx b hq;rw[(h5 hne).2.2] at this;cases this
 have a2U:s2 x=some o:=by rw[m4 x U7,aB.aJ]
 have hs2:∀q,q∉bx→q≠x→s2 q=s q:=fun q h1 h2=>by rw[m4 q h1,aB.aG _ _ h2]
 have UA:b'≠x:=by
  rcases k2 with ⟨rfl,hne⟩ | hn
  · exact dG (hxb hne)
  · rintro rfl;rw[a2U] at hn;cases hn
 have NM:b'∉bx:=by
  rcases k2 with ⟨rfl,hne⟩ | hn
  · exact aN0 hne
  · intro hq
    obtain⟨cs,e1,_⟩:=(bL.gV _ _ _ m3).2.2 b' hq
    rw[e1] at hn;cases hn
 have T9:b'∉bs:=by
  rcases k2 with ⟨rfl,hne⟩ | hn
  · exact(h5 hne).2.1
  · intro hq
    rw[hs2 b' NM UA] at hn
    exact sV b' hq hn
 have a2W:st b'=none:=by
  rcases k2 with ⟨rfl,hne⟩ | hn
  · exact(h5 hne).1
  · rw[hs2 b' NM UA] at hn
    by_cases hbb:os≠[]∧b'=b
    · rw[hbb.2];exact(h5 hbb.1).1
    · rw[←h6 b' T9 (fun hne e=>hbb ⟨hne,e⟩)];exact hn
 have a1B:os≠[]→∀q∈bs,q≠b:=fun hne q hq e=>(h5 hne).2.1 (e▸hq)
 have a12:∀q∈bs,(s'.erase x) q=s q:=fun q hq=>by
  have hqx:q≠x:=fun e=>a24 (e▸hq)
  simp only[aB.erase,hqx,d4]
  rw[k3 q (fun e=>T9 (e▸hq)) (fun hne=>a1B hne q hq),hs2 q (qS q hq) hqx]
 have a13:∀q∈bx,(s'.erase x) q=s2 q:=fun q hq=>by
  have hqx:q≠x:=fun e=>U7 (e▸hq)
  simp only[aB.erase,hqx,d4]
  exact k3 q (fun e=>NM (e▸hq)) (fun hne e=>aN0 hne (e▸hq))
 refine⟨by simp [h1],?_,n6.2 ⟨h3,m1,fun a ha c hc e=>qS a ha (e▸hc)⟩,fun q hq=>?_,fun _=>⟨a2W,?_,?_⟩,fun q hq hqb=>?_⟩
 · rw[gC,he]
   exact bA.snoc h2 a12 (bL.a7 _ _ _ a13 m3)
 · rcases eK.1 hq with hq | hq
   · exact h4 q hq
   · by_cases hbb:os≠[]∧q=b
     · rw[hbb.2];exact(h5 hbb.1).1
     · by_cases hqs:q∈bs
       · exact h4 q hqs
       · rw[←h6 q hqs (fun hne e=>hbb ⟨hne,e⟩)];exact hbx q hq
 · intro hq
   rcases eK.1 hq with hq | hq
   · exact T9 hq
   · exact NM hq
 · simp only[aB.erase,UA,d4]
   exact k1
 · simp only[eK,oG] at hq
   have aOK:=hqb (by simp)
   by_cases hqx:q=x
   · subst hqx
     simp only[aB.erase,fS]
     rw[←h6 q hq.1 hxb,hx]
   · simp only[aB.erase,hqx,d4]
     by_cases hbb:os≠[]∧q=b
     · rw[hbb.2,k4 hbb.1 (fun e=>aOK (hbb.2.trans e.symm)),(h5 hbb.1).1]
     · rw[k3 q aOK (fun hne e=>hbb ⟨hne,e⟩),hs2 q hq.2 hqx]
       exact h6 q hq.1 (fun hne e=>hbb ⟨hne,e⟩)
theorem aD.done{P:Program}{g:FuncId}{args:List AV}{st:aB}{r:AV}(x:aD P g args st (fun r' st'=>r'.soft=r∧aL st' st)):aD P g args st (fun r' st'=>r'=r∧st'=st):=
 aD.qM (aD.soft x)
theorem aD.kS{P:Program}{g:FuncId}{args:List AV}{st:aB}{Q:AV→aB→Prop}(x:aD P g args st (fun r st'=>∃s2,aL st' s2∧Q r s2)):aD P g args st Q:=
 x.nY fun r _ ⟨s2,D,q⟩=>⟨r,s2,D.tO,D.nY r,q⟩
theorem jI{cs:List AV}:(AV.agg cs).soft=.agg (cs.map AV.soft):=by simp only[AV.soft,AS]
theorem jQ{cs:List AV}:(AV.tup cs).soft=.tup (cs.map AV.soft):=by simp only[AV.soft,AS]
theorem jB{k:IntKind}{n:Int}:(AV.int k n).soft=.int k n:=rfl
theorem sB{b:Bool}:(AV.bool b).soft=.bool b:=rfl
theorem nB{s:ByteArray}:(AV.str s).soft=.str s:=rfl
theorem nA{es:List AV}:(AV.slice es).soft=.slice es:=rfl
theorem lW{es:List AV}:(AV.fslice es).soft=.slice es:=rfl
def xK(b:Nat)(l:List AV):List (Nat×AV)→List (Nat×AV)
 | []=>[]
 | p::r=>(p.1,p.2.fin b l)::xK b l r
theorem aGD{b:Nat}{l:List AV}:xK b l []= []:=rfl
theorem aGE{b d:Nat}{l:List AV}{v:AV}{r:List (Nat×AV)}:xK b l ((d,v)::r)=(d,v.fin b l)::xK b l r:=rfl
theorem a0M{b:Nat}{l:List AV}:AV.junk.fin b l=.junk:=by unfold AV.fin;split<;>rfl
theorem mV{w b:Nat}{l:List AV}:(aZ w b l).fin b l=.slice l:=jE
theorem a3Z{st:aB}(b:Nat)(l:List AV)(hb:l≠[]→st b=none)(hj:∀e∈l,e.cJ=false)(hE:iU l)(L:List (Nat×AV)):fV (lB L) (aV st b l) (lB (xK b l L)) st:=by
 have key:∀L d,lB (xK b l L) d=(lB L d).fin b l:=by
  intro L
  induction L with
  | nil=>intro d;exact a0M.symm
  | cons p r ih=>
   obtain⟨e,v⟩:=p
   intro d
   show((lB (xK b l r)).aC e (v.fin b l)) d=(((lB r).aC e v) d).fin b l
   simp only[AF.aC]
   split
   · rfl
   · exact ih d
 intro h tmps S F
 cases l with
 | nil=>exact⟨S,cL.refl _ _,fun d=>by rw[key];exact(F d).soft⟩
 | cons y l=>
  have hst:(aV st b (y::l)) b=some (.cells ((y::l).flatMap AV.cells)):=aB.aJ _ _ _
  have he:(aV st b (y::l)).erase b=st:=aB.xH st b _ (hb (by simp))
  have L1:fV (lB L) (aV st b (y::l)) (fun d=>(lB L d).fz b (y::l)) st:=by
   have:=fV.freeze (φ:=lB L) hst hj hE
   rwa [he] at this
  obtain⟨a1,a2,a3⟩:=L1 h tmps S F
  exact⟨a1,a2,fun d=>by rw[key];exact(a3 d).soft⟩
theorem vG{P:Program}{N:Nat}{c:Code}{Q:Exit→AF→aB→Prop}{φ:AF}{st:aB}{α σ:Type}(mt:List Nat)(a7:List Nat)(l:List α)(w d:Nat)(acc:Nat→σ→List AV)(inv:Nat→σ→Prop)(ch:Nat→σ→List (Nat×AV))(so:Nat→σ→aB)
 (hw:∀i s,inv i s→∀e∈acc i s,e.cJ=false∧e.width=w)
 (hok:codeOk N c=true)
 (h0:∃s b,inv 0 s∧(acc 0 s≠[]→so 0 s b=none)∧aP φ st (lR φ a7 ((d,aZ w b (acc 0 s))::ch 0 s)) (aV (so 0 s) b (acc 0 s)))
 (h1:∀i x s b,l[i]?=some x→i<l.length→((i:Int)<(l.length:Int))→l.drop i=x::l.drop (i+1)→inv i s→(acc i s≠[]→so i s b=none) →
  gY P N mt c (qX (fun φ' st'=>∃s' b',inv (i+1) s'∧(acc (i+1) s'≠[]→so (i+1) s' b'=none)∧aP φ' st' (lR φ a7 ((d,aZ w b' (acc (i+1) s'))::ch (i+1) s')) (aV (so (i+1) s') b' (acc (i+1) s'))) Q) (xM (lR φ a7 ((d,aZ w b (acc i s))::ch i s))) (aV (so i s) b (acc i s)))
 (h2:∀s b,¬((l.length:Int)<(l.length:Int))→inv l.length s→gY P N mt c (qX (fun _ _=>False) Q) (xM (xK b (acc l.length s) (lR φ a7 ((d,aZ w b (acc l.length s))::ch l.length s)))) (so l.length s)):g8 P N (.loop c) Q φ st:=by
 have nY:∀(k:AF→aB→Prop) (φ0:AF) (st0:aB) (k':AF→aB→Prop),(∀φ' st',k' φ' st'→k φ' st') →
  g8 P N c (qX k' Q) φ0 st0→g8 P N c (qX k Q) φ0 st0:=by
  intro k φ0 st0 k' hk hr a w R
  refine wp_mono (hr a w R) ?_
  rintro e a' w' ⟨φ',st',R',T,sm,q⟩
  refine⟨φ',st',R',T,sm,?_⟩
  cases e with
  | normal=>exact hk _ _ q
  | _=>exact q
 refine RL (α:=Nat×σ×Nat) (fun p=>p.1≤l.length∧inv p.1 p.2.1∧(acc p.1 p.2.1≠[]→so p.1 p.2.1 p.2.2=none)) (fun p=>lB (lR φ a7 ((d,aZ w p.2.2 (acc p.1 p.2.1))::ch p.1 p.2.1))) (fun p=>aV (so p.1 p.2.1) p.2.2 (acc p.1 p.2.1)) (fun p=>l.length - p.1) ?_ ?_
 · obtain⟨s,b,hs,hb,hl⟩:=h0
   exact⟨(0,s,b),⟨jU _,hs,hb⟩,hl⟩
 · rintro⟨i,s,b⟩ ⟨hi,hs,hb⟩
   simp only at hi hs hb ⊢
   rcases k7 i l.length with hlt | hge
   · refine nY _ _ _ _ ?_ (HX mt hok (h1 i l[i] s b (fF hlt) hlt (by omega) (rH hlt) hs hb))
     rintro φ' st' ⟨s',b',h1',h2',h3'⟩
     exact⟨(i+1,s',b'),by simp only;omega,⟨by simp only;omega,h1',h2'⟩,h3'⟩
   · obtain rfl:i=l.length:=by omega
     refine g8.less (a3Z b (acc l.length s) hb (fun e he=>(hw _ s hs e he).1) ⟨w,fun e he=>(hw _ s hs e he).2⟩ _) ?_
     refine nY _ _ _ _ ?_ (HX mt hok (h2 s b (by omega) hs))
     exact fun _ _ h=>h.elim
section
variable {P:Program}
def S7(ops:Array Oper)(S:List Nat)(j:Nat):Bool:=S.all fun i=>vW ops ops.size j i
def wV(P:Program)(ops:Array Oper)(S:List Nat)(s0:aB)(K:AF→aB→Prop):Nat→Array Bool→AF→aB→Prop
 | 0,listed,φ,st=>Region.ready .any ops listed= []∧K φ st
 | f+1,listed,φ,st=>(Region.ready .any ops listed= []→K φ st)∧∀i∈Region.ready .any ops listed,∃o,ops[i]?=some o ∧
  ((S.contains i=true∧∃r,k9 P st ops o r φ∧wV P ops S s0 K f (listed.setIfInBounds i true) (φ.put o.dst r) st) ∨
   (S.contains i=false∧kH P ops o φ st (fun r st'=>(S7 ops S i=true∨eT s0 st')∧wV P ops S s0 K f (listed.setIfInBounds i true) (φ.put o.dst r) st')))
theorem LV{ops:Array Oper}{S:List Nat}{s0:aB}{K:AF→aB→Prop}:∀(f:Nat) (listed:Array Bool) (φ:AF) (st:aB),wV P ops S s0 K f listed φ st→LT P ops K f listed φ st
 | 0,_,_,_,h=>h
 | f+1,listed,φ,st,h=>by
  refine⟨h.1,fun i hi=>?_⟩
  obtain⟨o,ho,h2⟩:=h.2 i hi
  refine⟨o,ho,?_⟩
  rcases h2 with ⟨_,r,y,k⟩ | ⟨_,k⟩
  · exact Y2 y (LV f _ _ _ k)
  · exact tZ (fun r s q=>LV f _ _ _ q.2) k
theorem YR{ops:Array Oper}{S:List Nat}{s0:aB}{i:Nat}{oi:Oper}{v:AV}{K:AF→aB→Prop}(hi:ops[i]?=some oi)(hS:S.contains i=true) :
 ∀(f:Nat) (listed:Array Bool) (φ:AF) (st:aB),tQ ops listed →
  (∀j oj,ops[j]?=some oj→j≠i→listed.getD j true=false→(∀e∈oj.after,Region.binds .any e=true→e.on≠i)→oi.apart ops oj=true) →
  i∈Region.ready .any ops listed→(∀s,eT s0 s→k9 P s ops oi v φ)→eT s0 st →
  wV P ops S s0 K f (listed.setIfInBounds i true) (φ.put oi.dst v) st→wV P ops S s0 K (f+1) listed φ st:=by
 intro f
 induction f with
 | zero=>
  intro listed φ st hcl _ hr hy hx H
  refine⟨fun h=>(by rw[h] at hr;cases hr),fun j hj=>?_⟩
  by_cases hji:j=i
  · subst hji;exact⟨oi,hi,.inl ⟨hS,v,hy st hx,H⟩⟩
  · have:=ready_mono hj hji
    rw[H.1] at this
    cases this
 | succ f ih=>
  intro listed φ st hcl rV hr hy hx H
  refine⟨fun h=>(by rw[h] at hr;cases hr),fun j hj=>?_⟩
  by_cases hji:j=i
  · subst hji;exact⟨oi,hi,.inl ⟨hS,v,hy st hx,H⟩⟩
  · obtain⟨oj,hoj,h1⟩:=H.2 j (ready_mono hj hji)
    obtain⟨qT,oj',CZ,cS⟩:=mem_ready.1 hj
    have:oj'=oj:=jL (CZ.symm.trans hoj)
    subst this
    have hun:=(mem_ready.1 hr).1
    have uM:∀e∈oj'.after,Region.binds .any e=true→e.on≠i:=fun e he hb heq=>by
     have h1:=cS e he hb
     rw[heq,getD_both hun] at h1
     cases h1
    obtain⟨a1,a2,a3⟩:=Oper.apart_spec (rV j oj' hoj hji qT uM)
    have v6:∀k ok,ops[k]?=some ok→k≠i→(listed.setIfInBounds j true).getD k true=false →
     (∀e∈ok.after,Region.binds .any e=true→e.on≠i)→oi.apart ops ok=true:=fun k ok hk hki hun hno=>by
     refine rV k ok hk hki ?_ hno
     by_cases hjk:j=k
     · subst hjk;exact qT
     · rw[getD_set_ne true hjk] at hun;exact hun
    refine⟨oj',hoj,?_⟩
    rcases h1 with ⟨hSj,r,yj,h2⟩ | ⟨hSj,h2⟩
    · refine .inl ⟨hSj,r,(rL φ v a1).1 yj,ih (listed.setIfInBounds j true) (φ.put oj'.dst r) st (hcl.set hj) v6 (ready_mono hr (dG hji)) (fun s hs=>(rL φ r a3).2 (hy s hs)) hx ?_⟩
      rw[D8 _ _ hji,←put_comm φ v r a2]
      exact h2
    · refine .inr ⟨hSj,tZ (fun r st' h3=>?_) ((RA φ v a1).1 h2)⟩
      refine⟨h3.1,?_⟩
      have hx':eT s0 st':=by
       rcases h3.1 with he | he
       · exfalso
         unfold S7 at he
         have hd:=eM.1 he i (by simpa using hS)
         exact MV hcl (getD_both hun) _ j oj' hoj hd cS
       · exact he
      refine ih (listed.setIfInBounds j true) (φ.put oj'.dst r) st' (hcl.set hj) v6 (ready_mono hr (dG hji)) (fun s hs=>(rL φ r a3).2 (hy s hs)) hx' ?_
      rw[D8 _ _ hji,←put_comm φ v r a2]
      exact h3.2
def tA(ops:Array Oper)(S:List Nat):List (Nat×Nat)→Array Bool→Bool
 | [],listed=>(Region.ready .any ops listed).isEmpty
 | (i,0)::r,listed=>decide (Region.ready .any ops listed= [i])&& !S.contains i&&tA ops S r (listed.setIfInBounds i true)
 | (i,1)::r,listed=>(Region.ready .any ops listed).contains i&&Region.free .any ops listed i&&S.contains i&&tA ops S r (listed.setIfInBounds i true)
 | (i,_)::r,listed=>decide (Region.ready .any ops listed= [i])&& !S.contains i&&S7 ops S i&&tA ops S r (listed.setIfInBounds i true)
def BW(P:Program)(ops:Array Oper)(s0:aB)(K:AF→aB→Prop):List (Nat×Nat)→AF→aB→Prop
 | [],φ,st=>K φ st
 | (i,0)::r,φ,st=>∃o,ops[i]?=some o∧kH P ops o φ st (fun v st'=>eT s0 st'∧BW P ops s0 K r (φ.put o.dst v) st')
 | (i,1)::r,φ,st=>∃o,ops[i]?=some o∧∃v,(∀s,eT s0 s→k9 P s ops o v φ)∧BW P ops s0 K r (φ.put o.dst v) st
 | (i,_)::r,φ,st=>∃o,ops[i]?=some o∧kH P ops o φ st (fun v st'=>BW P ops s0 K r (φ.put o.dst v) st')
def DA:List (Nat×Nat)→Bool
 | []=>true
 | (_,0)::r=>DA r
 | (_,1)::r=>DA r
 | (_,_)::r=>r.all fun p=>p.2 != 1
theorem HQ{ops:Array Oper}{S:List Nat}{s0:aB}{K:AF→aB→Prop}:∀(p:List (Nat×Nat)) (listed:Array Bool) (φ:AF) (st:aB),tQ ops listed→tA ops S p listed=true→(DA p=true∧eT s0 st∨(p.all fun q=>q.2 != 1)=true)→BW P ops s0 K p φ st→wV P ops S s0 K p.length listed φ st
 | [],listed,φ,st,_,hB,hx,h=>⟨by simpa [tA] using hB,h⟩
 | (i,0)::r,listed,φ,st,hcl,hB,hx,h=>by
  simp only[tA,cE,bK,lT] at hB
  obtain⟨o,ho,h'⟩:=h
  have hr:i∈Region.ready .any ops listed:=by rw[hB.1.1];simp
  refine⟨fun h0=>(by rw[hB.1.1] at h0;cases h0),fun j hj=>?_⟩
  rw[hB.1.1] at hj
  obtain rfl:j=i:=by simpa using hj
  refine⟨o,ho,.inr ⟨hB.1.2,tZ (fun v st' q=>⟨.inr q.1,HQ r _ _ _ (hcl.set hr) hB.2 ?_ q.2⟩) h'⟩⟩
  rcases hx with hx | hx
  · exact .inl ⟨hx.1,q.1⟩
  · refine .inr ?_
    simp only[k0,cE] at hx
    exact hx.2
 | (i,1)::r,listed,φ,st,hcl,hB,hx,h=>by
  simp only[tA,cE] at hB
  obtain⟨⟨⟨hr,hf⟩,hS⟩,hB'⟩:=hB
  obtain⟨o,ho,v,hv,h'⟩:=h
  have hr':i∈Region.ready .any ops listed:=by simpa using hr
  rcases hx with hx | hx
  · exact YR ho hS _ listed φ st hcl (Region.free_spec ho hf) hr' hv hx.2 (HQ r _ _ _ (hcl.set hr') hB' (.inl hx) h')
  · simp at hx
 | (i,k+2)::r,listed,φ,st,hcl,hB,hx,h=>by
  simp only[tA,cE,bK,lT] at hB
  obtain⟨o,ho,h'⟩:=h
  have hr:i∈Region.ready .any ops listed:=by rw[hB.1.1.1];simp
  refine⟨fun h0=>(by rw[hB.1.1.1] at h0;cases h0),fun j hj=>?_⟩
  rw[hB.1.1.1] at hj
  obtain rfl:j=i:=by simpa using hj
  refine⟨o,ho,.inr ⟨hB.1.1.2,tZ (fun v st' q=>⟨.inl hB.1.2,HQ r _ _ _ (hcl.set hr) hB.2 (.inr ?_) q⟩) h'⟩⟩
  rcases hx with hx | hx
  · exact hx.1
  · simp only[k0,cE] at hx
    exact hx.2
theorem aUV{N:Nat}{id:Nat}{ops:Array Oper}{Q:Exit→AF→aB→Prop}{φ:AF}{st:aB}(p:List (Nat×Nat))(S:List Nat)(s0:aB)(hm:P.follows .mixedOrders=true)(hok:q9 N ops=true)(hl:p.length=ops.size)(hB:tA ops S p (Array.replicate ops.size false)=true)(hf:DA p=true)(hs:eT s0 st)
 (h:BW P ops s0 (Q .normal) p φ st):g8 P N (.region id ops true) Q φ st:=by
 intro a w R
 refine wp_region_any hm ?_
 have R0:Rel N a { w with drawn:=w.drawn+1 } φ st:=⟨R.size,R.defers,R.frame,R.store⟩
 have:=LV _ _ _ _ (HQ p _ φ st (fun j o _ hl=>(by rw[TU] at hl;cases hl)) hB (.inl ⟨hf,hs⟩) h)
 rw[hl] at this
 exact LU (AI hok) (x7 hok) (w0:=w) (st0:=st) (fun φ' st' a' w' k R' T s=>⟨φ',st',R',T,s,k⟩) _ _ _ _ _ _ this R0 (cL.refl _ _) ⟨rfl,rfl,rfl⟩
def jM(P:Program)(ops:Array Oper)(s0:aB)(K:AF→aB→Prop):List (Nat×Nat)→AF→aB→Prop
 | [],φ,st=>K φ st
 | (i,0)::r,φ,st=>match ops[i]? with
  | none=>False
  | some o=>bJ P [] ops [o] (fun φ' st'=>eT s0 st'∧jM P ops s0 K r φ' st') φ st
 | (i,1)::r,φ,st=>match ops[i]? with
  | none=>False
  | some o=>if lN o=true then bJ P [] ops [o] (fun φ' _=>jM P ops s0 K r φ' st) φ s0 else
   match o.guard,o.op with
   | none,.call { callee:=.value f,args,.. }=>∃v,(∀s,eT s0 s→uB P (φ.eval f) (args.toList.map φ.eval) s (fun r' s'=>r'=v∧s'=s))∧jM P ops s0 K r (φ.put o.dst v) st
   | _,_=>False
 | (i,_)::r,φ,st=>match ops[i]? with
  | none=>False
  | some o=>bJ P [] ops [o] (fun φ' st'=>jM P ops s0 K r φ' st') φ st
theorem vN{ops:Array Oper}{s0:aB}{K:AF→aB→Prop}:∀(p:List (Nat×Nat)) (φ:AF) (st:aB),jM P ops s0 K p φ st→BW P ops s0 K p φ st
 | [],_,_,h=>h
 | (i,0)::r,φ,st,h=>by
  simp only[jM] at h
  split at h
  · exact h.elim
  · rename_i o ho
    refine⟨o,ho,?_⟩
    simp only[bJ] at h
    unfold kH
    split at h
    · rename_i hg
      rw[hg]
      exact BX (fun v s q=>⟨q.1,vN r _ _ q.2⟩) h
    · rename_i hg
      rw[hg]
      exact⟨h.1,vN r _ _ h.2⟩
    · exact h.elim
 | (i,1)::r,φ,st,h=>by
  simp only[jM] at h
  split at h
  · exact h.elim
  · rename_i o ho
    split at h
    · rename_i hp
      simp only[bJ] at h
      split at h
      · rename_i hg
        rw[t6 hp] at h
        split at h
        · rename_i v hv
          refine⟨o,ho,v,fun s hs=>.inl ⟨hg,?_⟩,vN r _ _ h⟩
          rw[t6 hp,Y0 hs hv]
          exact⟨rfl,rfl⟩
        · exact h.elim
      · rename_i hg
        exact⟨o,ho,.undef,fun s _=>.inr ⟨hg,rfl⟩,vN r _ _ h⟩
      · exact h.elim
    · split at h
      · rename_i f args ats hg hop
        obtain⟨v,h1,h2⟩:=h
        refine⟨o,ho,v,fun s hs=>.inl ⟨by simp only[kG,hg],?_⟩,vN r _ _ h2⟩
        simp only[fZ,hop]
        exact h1 s hs
      · exact h.elim
 | (i,k+2)::r,φ,st,h=>by
  simp only[jM] at h
  split at h
  · exact h.elim
  · rename_i o ho
    refine⟨o,ho,?_⟩
    simp only[bJ] at h
    unfold kH
    split at h
    · rename_i hg
      rw[hg]
      exact BX (fun v s q=>vN r _ _ q) h
    · rename_i hg
      rw[hg]
      exact vN r _ _ h
    · exact h.elim
end
def V9(P:Program)(ops:Array Oper)(s0:aB)(K:AF→aB→Prop)(r:List (Nat×Nat))(φ:AF)(st:aB):Prop:=eT s0 st∧jM P ops s0 K r φ st
def V4(P:Program)(ops:Array Oper)(s0:aB)(K:AF→aB→Prop)(r:List (Nat×Nat))(φ:AF)(st:aB):Prop:=jM P ops s0 K r φ st
def V3(P:Program)(ops:Array Oper)(s0:aB)(K:AF→aB→Prop)(r:List (Nat×Nat))(st:aB)(φ:AF)(_:aB):Prop:=jM P ops s0 K r φ st
def V0(P:Program)(ops:Array Oper)(s0:aB)(K:AF→aB→Prop)(r:List (Nat×Nat))(φ:AF)(dst:Option Tmp)(st:aB)(v:AV):Prop:=jM P ops s0 K r (φ.put dst v) st
def ID(P:Program)(s0:aB)(f:AV)(args:List AV)(K:AV→Prop):Prop:=∃v,(∀s,eT s0 s→uB P f args s (fun r' s'=>r'=v∧s'=s))∧K v
theorem MP{P:Program}{s0:aB}{g:FuncId}{args:List AV}{r:AV}{K:AV→Prop}(x:∀st,eT s0 st→aD P g args st (fun r' st'=>r'=r∧st'=st))(h:K r):ID P s0 (.func g []) args K:=⟨r,fun st hs=>by show aD P g (args++ []) st _;rw[iV];exact x st hs,h⟩
@[congr] theorem a9Y {P:Program} {s0:aB} {f f':AV} {args args':List AV} {K:AV→Prop} (h0:f=f') (h1:args=args'):ID P s0 f args K=ID P s0 f' args' K:=by rw[h0,h1]
def GD(P:Program)(ops:Array Oper)(s0:aB)(K:AF→aB→Prop)(r:List (Nat×Nat))(φ:AF)(st:aB):Nat→Option Oper→Prop
 | 0,some o=>bJ P [] ops [o] (V9 P ops s0 K r) φ st
 | 1,some o=>if lN o=true then bJ P [] ops [o] (V3 P ops s0 K r st) φ s0 else
  match o.guard,o.op with
  | none,.call { callee:=.value f,args,.. }=>ID P s0 (φ.eval f) (args.toList.map φ.eval) (V0 P ops s0 K r φ o.dst st)
  | _,_=>False
 | _,some o=>bJ P [] ops [o] (V4 P ops s0 K r) φ st
 | _,none=>False
theorem aIV{P:Program}{ops:Array Oper}{s0:aB}{K:AF→aB→Prop}{φ:AF}{st:aB}:jM P ops s0 K [] φ st=K φ st:=rfl
theorem aIW{P:Program}{l:List Oper}{s0:aB}{K:AF→aB→Prop}{φ:AF}{st:aB}{i b:Nat}{r:List (Nat×Nat)}:jM P l.toArray s0 K ((i,b)::r) φ st=GD P l.toArray s0 K r φ st b l[i]?:=by
 match b with
 | 0=>simp only[jM,yV];cases l[i]?<;>rfl
 | 1=>simp only[jM,yV];cases l[i]?<;>rfl
 | b+2=>simp only[jM,yV];cases l[i]?<;>rfl
theorem aI1{P:Program}{ops:Array Oper}{s0:aB}{K:AF→aB→Prop}{φ:AF}{st:aB}{r:List (Nat×Nat)}{o:Oper}:GD P ops s0 K r φ st 0 (some o)=bJ P [] ops [o] (V9 P ops s0 K r) φ st:=rfl
theorem aI2{P:Program}{ops:Array Oper}{s0:aB}{K:AF→aB→Prop}{φ:AF}{st:aB}{r:List (Nat×Nat)}{o:Oper}:GD P ops s0 K r φ st 1 (some o)=if lN o=true then bJ P [] ops [o] (V3 P ops s0 K r st) φ s0 else
      match o.guard,o.op with
      | none,.call { callee:=.value f,args,.. }=>ID P s0 (φ.eval f) (args.toList.map φ.eval) (V0 P ops s0 K r φ o.dst st)
      | _,_=>False:=rfl
theorem aI3{P:Program}{ops:Array Oper}{s0:aB}{K:AF→aB→Prop}{φ:AF}{st:aB}{r:List (Nat×Nat)}{o:Oper}:GD P ops s0 K r φ st 2 (some o)=bJ P [] ops [o] (V4 P ops s0 K r) φ st:=rfl
theorem aI0{P:Program}{ops:Array Oper}{s0:aB}{K:AF→aB→Prop}{φ:AF}{st:aB}{r:List (Nat×Nat)}:V9 P ops s0 K r φ st=(eT s0 st∧jM P ops s0 K r φ st):=rfl
theorem aIZ{P:Program}{ops:Array Oper}{s0:aB}{K:AF→aB→Prop}{φ:AF}{st:aB}{r:List (Nat×Nat)}:V4 P ops s0 K r φ st=jM P ops s0 K r φ st:=rfl
theorem aIY{P:Program}{ops:Array Oper}{s0:aB}{K:AF→aB→Prop}{φ:AF}{st s:aB}{r:List (Nat×Nat)}:V3 P ops s0 K r st φ s=jM P ops s0 K r φ st:=rfl
theorem aIX{P:Program}{ops:Array Oper}{s0:aB}{K:AF→aB→Prop}{φ:AF}{st:aB}{r:List (Nat×Nat)}{dst:Option Tmp}{v:AV}:V0 P ops s0 K r φ dst st v=jM P ops s0 K r (φ.put dst v) st:=rfl
@[congr] theorem a9U {P:Program} {ops:Array Oper} {s0:aB} {K:AF→aB→Prop} {p:List (Nat×Nat)} {φ φ':AF} {st st':aB} (h1:φ=φ') (h2:st=st'):jM P ops s0 K p φ st=jM P ops s0 K p φ' st':=by rw[h1,h2]
@[congr] theorem a97 {P:Program} {ops:Array Oper} {s0:aB} {K:AF→aB→Prop} {p:List (Nat×Nat)} {φ φ':AF} {st st':aB} {b:Nat} {o o':Option Oper} (h1:φ=φ') (h2:st=st') (h3:o=o'):GD P ops s0 K p φ st b o=GD P ops s0 K p φ' st' b o':=by rw[h1,h2,h3]
theorem vF{P:Program}{N:Nat}{id:Nat}{l:List Oper}{Q:Exit→AF→aB→Prop}{φ:AF}{st:aB}(p:List (Nat×Nat))(S:List Nat)(s0:aB)(hm:P.follows .mixedOrders=true)(hok:q9 N l.toArray=true)(hl:p.length=l.length)(hB:tA l.toArray S p (Array.replicate l.length false)=true)(hf:DA p=true)(hs:eT s0 st)
 (h:jM P l.toArray s0 (Q .normal) p φ st):g8 P N (.region id l.toArray true) Q φ st:=
 aUV p S s0 hm hok (by simpa using hl) (by simpa using hB) hf hs (vN p φ st h)
def OS(K:AV→aB→Prop)(st:aB):Option AV→Option AV→Prop
 | some r,some s=>lS [r,s]=true∧K (.tup [r,s]) st
 | _,_=>False
theorem aJJ{P:Program}{φ:AF}{st:aB}{p q:Tmp}{t u:TypeId}{K:AV→aB→Prop}:oL P [.cell p t,.cell q u] K φ st=OS K st (jK P st t (φ p)) (jK P st u (φ q)):=by
 simp only[oL,rK,EQ]
 cases jK P st t (φ p)<;>cases jK P st u (φ q)<;>rfl
theorem aJK{st:aB}{K:AV→aB→Prop}{r s:AV}:OS K st (some r) (some s)=(lS [r,s]=true∧K (.tup [r,s]) st):=rfl
@[congr] theorem a99 {K:AV→aB→Prop} {st:aB} {x x' y y':Option AV} (h1:x=x') (h2:y=y'):OS K st x y=OS K st x' y':=by rw[h1,h2]
def one(b:Nat)(o:AO):aB:=dQ.aC b o
theorem wC{b:Nat}{o:AO}:one b o b=some o:=aB.aJ _ _ _
theorem eV{b:Nat}{o:AO}{st:aB}(h:st b=some o):eT (one b o) st:=fun x p hx=>by
 simp only[one,aB.aC] at hx
 split at hx
 · rename_i e;cases hx;rw[e];exact h
 · cases hx
theorem dY{st:aB}:eT dQ st:=fun x p hx=>by cases hx
section
variable {α:Type}
def jP(f:α→α→Bool):List α→List α→Bool
 | [],[]=>true
 | x::xs,y::ys=>f x y&&jP f xs ys
 | _,_=>false
theorem CK(f:α→α→Bool):∀ {a b:List α},a.length≠b.length→jP f a b=false
 | [],[],h=>absurd rfl h
 | [],_::_,_=>rfl
 | _::_,[],_=>rfl
 | x::xs,y::ys,h=>by simp only[jP,CK f (a:=xs) (b:=ys) (by simpa using h),vH]
theorem CJ(f:α→α→Bool):∀ {a b:List α} (i:Nat) (x y:α),a[i]?=some x→b[i]?=some y→f x y=false→jP f a b=false
 | [],_,i,x,y,h,_,_=>by simp at h
 | _::_,[],i,x,y,_,h,_=>by simp at h
 | t::ts,t'::ts',0,x,y,h1,h2,h=>by
  simp at h1 h2;subst h1;subst h2
  simp only[jP,h,g9]
 | t::ts,t'::ts',i+1,x,y,h1,h2,h=>by
  simp only[jP,CJ f (a:=ts) (b:=ts') i x y (by simpa using h1) (by simpa using h2) h,vH]
theorem CI(f:α→α→Bool):∀ {a b:List α},a.length=b.length→(∀(i:Nat) (x y:α),a[i]?=some x→b[i]?=some y→f x y=true)→jP f a b=true
 | [],[],_,_=>rfl
 | t::ts,t'::ts',h,g=>by
  simp only[jP,cE]
  exact⟨g 0 t t' rfl rfl,CI f (by simpa using h) fun i x y h1 h2=>g (i+1) x y (by simpa using h1) (by simpa using h2)⟩
theorem E9{f:α→α→Bool}:∀ {a b:List α},(∀x∈a,∀y,f x y=true↔x=y)→(jP f a b=true↔a=b)
 | [],[],_=>by simp [jP]
 | [],_::_,_=>by simp [jP]
 | _::_,[],_=>by simp [jP]
 | x::xs,y::ys,h=>by
  simp only[jP,cE,List.cons.injEq,h x (by simp) y,E9 (a:=xs) (b:=ys) fun z hz=>h z (by simp [hz])]
def bH(f:α→Nat):List α→Nat
 | []=>0
 | x::xs=>f x+bH f xs
theorem KJ(f:α→Nat):∀ {l:List α} {i:Nat} {x:α},l[i]?=some x→bH f (l.take (i+1))=bH f (l.take i)+f x∧bH f (l.take (i+1))≤bH f l
 | [],i,x,h=>by simp at h
 | y::ys,0,x,h=>by simp at h;subst h;simp [bH]
 | y::ys,i+1,x,h=>by
  have:=KJ f (l:=ys) (i:=i) (x:=x) (by simpa using h)
  simp only[wQ,bH] at this ⊢
  omega
theorem KI{f:α→Nat}:∀ {l:List α} {x:α},x∈l→f x≤bH f l
 | y::ys,x,h=>by
  simp only[dB] at h
  simp only[bH]
  rcases h with rfl | h
  · omega
  · have:=KI (f:=f) h;omega
theorem bQ{P:Program}{t:TypeId}{ag:Bool}{w:Nat}{av:α→AV}{l:List α}{i:Nat}{x:α}(hI:eI P t=some (ag,w))(h:l[i]?=some x)(hw:(av x).width=w):dN P t (.slice (l.map av)) (.int .i64 (i:Int))=some (.pptr (av x)):=by
 simp only[dN,hI,jT,oX,h,pN,hw]
 simp
theorem aZ2{av:α→AV}{w:Nat}(hw:∀x,(av x).width=w)(l:List α):iU (l.map av):=⟨w,by intro e h;simp only[cY] at h;obtain⟨t,_,rfl⟩:=h;exact hw t⟩
theorem aO8(zs:List AV)(hz:zs≠[])(n:Nat):nS zs n=(List.replicate n zs).flatten:=by
 have hl:0<zs.length:=by cases zs with | nil=>exact absurd rfl hz | cons=>simp
 apply LM
 intro i
 unfold nS
 induction n generalizing i with
 | zero=>simp
 | succ n ih=>
  rw[List.replicate_succ,List.flatten_cons]
  rcases k7 i zs.length with h | h
  · rw[X8 h]
    have:i<(n+1)*zs.length:=by rw[sK];omega
    simp [this,Nat.mod_eq_of_lt h,h]
  · rw[X9 h,←ih]
    have e1:i % zs.length=(i - zs.length) % zs.length:=by rw[Nat.mod_eq_sub_mod h]
    simp only[oX]
    by_cases h2:i - zs.length<n*zs.length
    · have h3:i<(n+1)*zs.length:=by rw[sK];omega
      simp [h2,h3,e1]
    · have h3:¬i<(n+1)*zs.length:=by rw[sK];omega
      simp [h2,h3]
end
theorem AP{zs:List AV}{x:List AV}{w:Nat}(h1:x.length=w)(h2:zs.length=w):aK zs 0 x=x:=by
 unfold aK
 simp [h1,h2]
theorem eU{x:AV}(h:x.isAgg=true):AV.agg x.cells=x:=by cases x<;>simp [AV.isAgg] at h<;>rfl
theorem eW{x:List AV}{w:Nat}(h:x.length=w):x.take w=x:=by rw[←h];exact fG
inductive Tm where
 | mk (kind n:Int) (name:ByteArray) (kids:List Tm)
mutual
def Tm.av:Tm→AV
 | .mk k n s ts=>.agg [.int .i64 k,.int .i64 n,.str s,.slice (PK ts)]
def PK:List Tm→List AV
 | []=>[]
 | t::ts=>t.av::PK ts
end
theorem aSE:∀(ts:List Tm),PK ts=ts.map Tm.av
 | []=>rfl
 | t::ts=>by simp only[PK,bB,aSE ts]
theorem a8(k n:Int)(s:ByteArray)(ts:List Tm):(Tm.mk k n s ts).av=.agg [.int .i64 k,.int .i64 n,.str s,.slice (ts.map Tm.av)]:=by simp only[Tm.av,aSE]
mutual
def Tm.same:Tm→Tm→Bool
 | .mk k n s ts,.mk k' n' s' ts'=>decide (k=k')&&decide (n=n')&&decide (s=s')&&PU ts ts'
def PU:List Tm→List Tm→Bool
 | [],[]=>true
 | t::ts,t'::ts'=>t.same t'&&PU ts ts'
 | _,_=>false
end
theorem aSM:∀(a b:List Tm),PU a b=jP Tm.same a b
 | [],[]=>rfl
 | [],_::_=>rfl
 | _::_,[]=>rfl
 | t::ts,t'::ts'=>by simp only[PU,jP,aSM ts ts']
theorem Tm.WJ(k n:Int)(s:ByteArray)(ts:List Tm)(k' n':Int)(s':ByteArray)(ts':List Tm):(Tm.mk k n s ts).same (Tm.mk k' n' s' ts')=(decide (k=k')&&decide (n=n')&&decide (s=s')&&jP Tm.same ts ts'):=by simp only[Tm.same,aSM]
theorem Tm.DN:∀(a b:Tm),a.same b=true↔a=b
 | .mk k n s ts,.mk k' n' s' ts'=>by
  have:=E9 (f:=Tm.same) (a:=ts) (b:=ts') fun x hx y=>Tm.DN x y
  simp only[Tm.WJ,cE,bK,Tm.mk.injEq,and_assoc,this]
termination_by a=>SizeOf.sizeOf a
decreasing_by have:=List.sizeOf_lt_of_mem hx;simp only[Tm.mk.sizeOf_spec];omega
theorem aY(t:Tm):t.av.isAgg=true:=by cases t;rfl
theorem aM(t:Tm):t.av.width=4:=by cases t;rfl
theorem b9(t:Tm):t.av.cells.length=4:=by cases t;rfl
theorem cH(t:Tm):t.av.cells.all AV.storable=true:=by cases t;rfl
theorem cP(t:Tm):t.av.cJ=false:=by cases t;rfl
theorem aLB{t:Tm}:t.av.isAgg=true:=aY t
theorem aLK{t:Tm}:t.av.width=4:=aM t
theorem aLI{t:Tm}:t.av.cells.all AV.storable=true:=cH t
theorem aLE{t:Tm}:t.av.cJ=false:=cP t
theorem aLF{t:Tm}:t.av.cells.length=4:=b9 t
theorem aLJ{t:Tm}:t.av.cells.take 4=t.av.cells:=eW (b9 t)
theorem aLC{t:Tm}:AV.agg t.av.cells=t.av:=eU (aY t)
theorem aLG{t:Tm}{a b c d:AV}:aK [a,b,c,d] 0 t.av.cells=t.av.cells:=AP (b9 t) rfl
theorem aLH{t u:Tm}:aK u.av.cells 0 t.av.cells=t.av.cells:=AP (b9 t) (b9 u)
theorem aK3{st:aB}{b:Nat}{o o':AO}:(st.aC b o).aC b o'=st.aC b o':=cK st b o o'
theorem aK2{st:aB}{b:Nat}{o:AO}:(st.aC b o) b=some o:=aB.aJ st b o
theorem aK1{st:aB}{b x:Nat}{o:AO}(h:x≠b):(st.aC b o) x=st x:=aB.aG st o h
theorem aLD{t:Tm}:t.av.cells.drop 4= []:=List.drop_of_length_le (by rw[b9];exact dC _)
inductive Pf where
 | mk (goal:Tm) (clause:Int) (kids:List Pf)
def aPE(k:Nat)(acc:List UInt8):List UInt8:=if k=0 then acc else aPE (k / 10) (UInt8.ofNat (48+k % 10)::acc)
termination_by k
decreasing_by omega
def mt(k:Int):ByteArray:=if k≤0 then⟨#[109,48]⟩ else⟨(109::aPE k.toNat []).toArray⟩
mutual
def Tm.uS:Tm→Nat
 | .mk _ _ _ ts=>3+PP ts
def PP:List Tm→Nat
 | []=>0
 | t::ts=>t.uS+PP ts
end
theorem aSJ:∀(ts:List Tm),PP ts=bH Tm.uS ts
 | []=>rfl
 | t::ts=>by simp only[PP,bH,aSJ ts]
theorem Tm.a4N(k n:Int)(s:ByteArray)(ts:List Tm):(Tm.mk k n s ts).uS=3+bH Tm.uS ts:=by simp only[Tm.uS,aSJ]
theorem aPZ{st:aB}{k n:Int}{s:ByteArray}{ts:List Tm}{o:AV}{bs:List Nat} :
 bL st (Tm.mk k n s ts).av o bs↔∃q,o=.agg [.int .i64 k,.int .i64 n,.str s,q]∧bL st (.slice (ts.map Tm.av)) q bs:=by
 rw[a8]
 generalize AV.slice (ts.map Tm.av)=x
 simp only[bL,bA]
 constructor
 · rintro⟨os,rfl,o1,os1,b1,b1',rfl,rfl,⟨rfl,rfl⟩,o2,os2,b2,b2',rfl,rfl,⟨rfl,rfl⟩,o3,os3,b3,b3',rfl,rfl,⟨rfl,rfl⟩,o4,os4,b4,b4',rfl,rfl,h,rfl,rfl⟩
   exact⟨o4,rfl,by simpa using h⟩
 · rintro⟨q,rfl,h⟩
   exact⟨_,rfl,_,_,[],bs,rfl,rfl,⟨rfl,rfl⟩,_,_,[],bs,rfl,rfl,⟨rfl,rfl⟩,_,_,[],bs,rfl,rfl,⟨rfl,rfl⟩,q,[],bs,[],rfl,by simp,h,rfl,rfl⟩
abbrev iv (n:Int):AV:=.int .i64 n
theorem aO1(l:List Int):∀e∈l.map iv,e.width=1:=by intro e h;simp only[cY] at h;obtain⟨t,_,rfl⟩:=h;rfl
def dZ(s:ByteArray):Nat:=
 cond (decide (s=⟨#[61]⟩)||decide (s=⟨#[92,61]⟩)||decide (s=⟨#[61,61]⟩)||decide (s=⟨#[60]⟩)||decide (s=⟨#[62]⟩)||decide (s=⟨#[61,60]⟩)||decide (s=⟨#[62,61]⟩)||decide (s=⟨#[61,58,61]⟩)||decide (s=⟨#[105,115]⟩)) 3 (cond (decide (s=⟨#[43]⟩)||decide (s=⟨#[45]⟩)) 2 (cond (decide (s=⟨#[42]⟩)||decide (s=⟨#[47,47]⟩)||decide (s=⟨#[109,111,100]⟩)) 1 0))
def isBuiltin(s:ByteArray)(n:Int):Bool:=
 cond (decide (s=⟨#[61]⟩)||decide (s=⟨#[92,61]⟩)||decide (s=⟨#[61,61]⟩)||decide (s=⟨#[60]⟩)||decide (s=⟨#[62]⟩)||decide (s=⟨#[61,60]⟩)||decide (s=⟨#[62,61]⟩)||decide (s=⟨#[61,58,61]⟩)||decide (s=⟨#[105,115]⟩)) (decide (n=2)) (cond (decide (s=⟨#[116,114,117,101]⟩)||decide (s=⟨#[102,97,105,108]⟩)) (decide (n=0)) (cond (decide (s=⟨#[118,97,114]⟩)||decide (s=⟨#[110,111,110,118,97,114]⟩)||decide (s=⟨#[97,116,111,109]⟩)||decide (s=⟨#[105,110,116]⟩)) (decide (n=1)) (cond (decide (s=⟨#[97,114,103]⟩)) (decide (n=3)) false)))
abbrev sb (s:ByteArray):List UInt8:=s.data.toList
theorem cV(s:ByteArray):(sb s).length=s.size:=by simp only[sb,Array.length_toList];rfl
theorem uP{P:Program}{t:TypeId}{s:ByteArray}{i:Nat}{c:UInt8}(hu:P.underlying t=some .string)(h:(sb s)[i]?=some c):EN P t (.str s) (.int .i64 (i:Int))=some (.int .u8 (c.toNat:Int)):=by
 have hi:i<s.size:=by rw[←cV];exact(gW.1 h).1
 have:s[i]?=some c:=by
  rw[getElem?_pos s i hi]
  obtain⟨h1,h2⟩:=gW.1 h
  rw[←h2]
  try rfl
 simp only[EN,hu,jT,this]
 simp
def letter(c:UInt8):Bool:=decide (97≤c.toNat)&&decide (c.toNat≤122)
def uR(s:ByteArray):Bool:=(sb s).all letter&&(decide ((1:Int)≤(s.size:Int))&&decide ((s.size:Int)≤6))
theorem wZ{α:Type}{p:α→Bool}{l:List α}{i:Nat}{x:α}(h:l[i]?=some x)(hp:p x=false):l.all p=false:=by
 rw[List.all_eq_false]
 exact⟨x,dA h,by simp [hp]⟩
theorem L0{α:Type}{p:α→Bool}{l:List α}(h:∀(i:Nat) x,l[i]?=some x→p x=true):l.all p=true:=by
 rw[eM]
 intro x hx
 obtain⟨i,hi⟩:=G8 hx
 exact h i x hi
end Go.AW
