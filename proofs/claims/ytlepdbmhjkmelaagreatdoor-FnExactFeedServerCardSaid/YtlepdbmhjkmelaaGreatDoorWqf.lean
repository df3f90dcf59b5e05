/- Loops whose frame is kept, lists that are walked, lists that grow. -/
import Derived.Test.YtlepdbmhjkmelaaGreatDoorWqe
set_option linter.unusedSimpArgs false
set_option linter.unusedVariables false
set_option maxRecDepth 100000
namespace Go.AW
def kU(φ:AF):List Nat→List (Nat×AV)→List (Nat×AV)
 | [],l=>l
 | d::ds,l=>(d,φ d)::kU φ ds l
theorem aFJ{φ:AF}{l:List (Nat×AV)}:kU φ [] l=l:=rfl
theorem aFK{φ:AF}{d:Nat}{ds:List Nat}{l:List (Nat×AV)}:kU φ (d::ds) l=(d,φ d)::kU φ ds l:=rfl
theorem dI{P:Program}{N:Nat}{c:Code}{Q:Exit→AF→aA→Prop}{φ:AF}{st:aA}{α σ:Type}(mt:List Nat)(aU:List Nat)(l:List α)(inv:Nat→σ→Prop)(ch:Nat→σ→List (Nat×AV))(so:Nat→σ→aA)
 (hok:codeOk N c=true)
 (h0:∃s,inv 0 s∧aP φ st (kU φ aU (ch 0 s)) (so 0 s))
 (h1:∀i x s,l[i]?=some x→i<l.length→((i:Int)<(l.length:Int))→l.drop i=x::l.drop (i+1)→inv i s→gH P N mt c (qA (fun φ' st'=>∃s',inv (i+1) s'∧aP φ' st' (kU φ aU (ch (i+1) s')) (so (i+1) s')) Q) (wW (kU φ aU (ch i s))) (so i s))
 (h2:∀s,¬((l.length:Int)<(l.length:Int))→inv l.length s→gH P N mt c (qA (fun _ _=>False) Q) (wW (kU φ aU (ch l.length s))) (so l.length s)):fR P N (.loop c) Q φ st:=by
 have lN:∀(k:AF→aA→Prop) (i:Nat) (s:σ),(∀φ' st',(∃s',inv (i+1) s'∧aP φ' st' (kU φ aU (ch (i+1) s')) (so (i+1) s'))→k φ' st') →
  fR P N c (qA (fun φ' st'=>∃s',inv (i+1) s'∧aP φ' st' (kU φ aU (ch (i+1) s')) (so (i+1) s')) Q) (kJ (kU φ aU (ch i s))) (so i s) →
  fR P N c (qA k Q) (kJ (kU φ aU (ch i s))) (so i s):=by
  intro k i s hk hr a w R
  refine wp_mono (hr a w R) ?_
  rintro e a' w' ⟨φ',st',R',T,sm,q⟩
  refine⟨φ',st',R',T,sm,?_⟩
  cases e with
  | normal=>exact hk _ _ q
  | _=>exact q
 refine PO (α:=Nat×σ) (fun p=>p.1≤l.length∧inv p.1 p.2) (fun p=>kJ (kU φ aU (ch p.1 p.2))) (fun p=>so p.1 p.2) (fun p=>l.length - p.1) ?_ ?_
 · obtain⟨s,hs,hl⟩:=h0
   exact⟨(0,s),⟨nO _,hs⟩,hl⟩
 · rintro⟨i,s⟩ ⟨hi,hs⟩
   simp only at hi hs ⊢
   rcases mB i l.length with hlt | hge
   · refine lN _ i s ?_ (nD mt hok (h1 i l[i] s (eK hlt) hlt (by omega) (oM hlt) hs))
     rintro φ' st' ⟨s',h1',h2'⟩
     exact⟨(i+1,s'),by simp only;omega,⟨by simp only;omega,h1'⟩,h2'⟩
   · obtain rfl:i=l.length:=by omega
     intro a w R
     refine wp_mono (nD mt hok (h2 s (by omega) hs) a w R) ?_
     rintro e a' w' ⟨φ',st',R',T,sm,q⟩
     refine⟨φ',st',R',T,sm,?_⟩
     cases e with
     | normal=>exact q.elim
     | _=>exact q
theorem oI{P:Program}{N:Nat}{c:Code}{Q:Exit→AF→aA→Prop}{φ:AF}{st:aA}{σ:Type}(mt:List Nat)(aU:List Nat)(inv:σ→Prop)(ch:σ→List (Nat×AV))(so:σ→aA)(μ:σ→Nat)
 (hok:codeOk N c=true)
 (h0:∃s,inv s∧aP φ st (kU φ aU (ch s)) (so s))
 (h1:∀s,inv s→gH P N mt c (qA (fun φ' st'=>∃s',μ s'<μ s∧inv s'∧aP φ' st' (kU φ aU (ch s')) (so s')) Q) (wW (kU φ aU (ch s))) (so s)):fR P N (.loop c) Q φ st:=
 oJ mt inv (fun s=>kU φ aU (ch s)) so μ hok h0 h1
theorem aQ{b:Bool}{p q:Prop}(h1:b=true→p)(h2:b=false→q):(b=true→p)∧(b=false→q):=⟨h1,h2⟩
theorem aFP{P:Program}{t:TypeId}{s:ByteArray}:mP P t (.str s)=match P.underlying t with | some .string=>some (.int .i64 s.size) | _=>none:=rfl
theorem aFO{P:Program}{t:TypeId}{es:List AV}:mP P t (.slice es)=match P.underlying t with | some (.slice _)=>some (.int .i64 es.length) | _=>none:=rfl
theorem aFM{P:Program}{t:TypeId}{es:List AV}:mP P t (.fslice es)=match P.underlying t with | some (.slice _)=>some (.int .i64 es.length) | _=>none:=rfl
theorem aDA{P:Program}{t:TypeId}{es:List AV}:GB P t (.fslice es)=match P.underlying t with | some (.slice _)=>some (.int .i64 es.length) | _=>none:=rfl
theorem aFN{P:Program}{t:TypeId}{b o n w:Nat}:mP P t (.mslice b o n w)=match P.underlying t with | some (.slice _)=>some (.int .i64 n) | _=>none:=rfl
def bQ(w b:Nat):List AV→AV
 | []=>.fslice []
 | x::l=>.mslice b 0 (x::l).length w
def bK(st:aA)(b:Nat):List AV→aA
 | []=>st
 | x::l=>st.aC b (.cells ((x::l).flatMap AV.cells))
theorem lT{w b:Nat}:bQ w b []=.fslice []:=rfl
theorem AC{st:aA}{b:Nat}:bK st b []=st:=rfl
theorem r7{w b:Nat}{l:List AV}(h:l≠[]):bQ w b l=.mslice b 0 l.length w:=by cases l<;>first | exact absurd rfl h | rfl
theorem lS{st:aA}{b:Nat}{l:List AV}(h:l≠[]):bK st b l=st.aC b (.cells (l.flatMap AV.cells)):=by cases l<;>first | exact absurd rfl h | rfl
theorem nQ{st:aA}{b x:Nat}{l:List AV}(h:x≠b):bK st b l x=st x:=by cases l<;>first | rfl | exact aA.aF _ _ h
theorem CS{st:aA}{b x:Nat}{l:List AV}(h:bK st b l x=none):st x=none∧(l≠[]→x≠b):=by
 cases l with
 | nil=>exact⟨h,fun h=>absurd rfl h⟩
 | cons y l=>
  simp only[bK,aA.aC] at h
  split at h
  · cases h
  · rename_i hn;exact⟨h,fun _=>hn⟩
theorem mC{w b:Nat}{l:List AV}:(bQ w b l).bV=false:=by cases l<;>rfl
theorem rZ{w b:Nat}{l:List AV}:(bQ w b l).isAgg=false:=by cases l<;>rfl
theorem nS{w b:Nat}{l:List AV}:(bQ w b l).cells= [bQ w b l]:=by cases l<;>rfl
theorem iK{w b:Nat}{l:List AV}:(bQ w b l).storable=true:=by cases l<;>rfl
theorem GI{P:Program}{t e:TypeId}{w b:Nat}{l:List AV}(h:P.underlying t=some (.slice e)):mP P t (bQ w b l)=some (.int .i64 (l.length:Int)):=by
 cases l<;>simp [bQ,mP,h]
theorem aO.bK{st st':aA}(x:aO st st'){b:Nat}{l:List AV}(h:l≠[]→st' b=none):aO (bK st b l) st':=by
 cases l with
 | nil=>exact x
 | cons y l=>exact x.aC (h (by simp))
theorem gA{P:Program}{t:TypeId}{ag:Bool}{w bytes:Nat}{zs:List AV}{st:aA}{b:Nat}{l xs:List AV}{x:AV}{K:AV→aA→Prop}
 (hI:eI P t=some (ag,w)) (hB:eB P t=some bytes) (hZ:eZ P t=some zs) (hz:zs.length=w) (hx:z7 x=some xs) (eW:tO w xs) (hw:∀e∈l,e.width=w) (hb:l≠[]→st b=none)
 (h1:(l.length+xs.length)*bytes≤140737488355328) (h2:l.length+xs.length≤9223372036854775807)
 (hK:∀b',(l++xs≠[]→st b'=none)→K (bQ w b' (l++xs)) (bK st b' (l++xs))):kF P t (bK st b l) (bQ w b l) x K:=by
 unfold kF
 rw[hI,hB,hZ,hx]
 refine⟨hz,eW,?_⟩
 cases l with
 | nil=>
  show _∧_∧_∧_∧_
  refine⟨by simpa using h1,by simpa using h2,by simp,?_,?_⟩
  · rintro rfl
    have:=hK b (by simp)
    simpa [bQ,bK] using this
  · intro hne b' hb'
    have:=hK b' (fun _=>hb')
    rw[eE,r7 hne,lS hne] at this
    simpa [bK] using this
 | cons y l=>
  have hb:=hb (by simp)
  show w=w∧_∧_∧_
  refine⟨rfl,h1,h2,?_⟩
  have hfl:((y::l).flatMap AV.cells).length=(y::l).length*w:=mD hw
  simp only[bK,aA.aJ]
  refine⟨by rw[hfl];exact cZ _,?_,?_⟩
  · have:=hK b (fun _=>hb)
    rw[r7 (by simp),lS (by simp),vZ,dS] at this
    rw[dR,←hfl,eD]
    exact this
  · intro b' hb'
    have hne:b'≠b:=by rintro rfl;rw[aA.aJ] at hb';cases hb'
    rw[aA.aF _ _ hne] at hb'
    have:=hK b' (fun _=>hb')
    rw[r7 (by simp),lS (by simp),vZ,dS] at this
    rw[aA.AL _ _ _ hb,←hfl,eD]
    exact this
def AV.fin(b:Nat)(l:List AV)(r:AV):AV:=if l.isEmpty=true then r.soft else(r.fz b l).soft
theorem nT{w b:Nat}{l:List AV}:(bQ w b l).fin b l=.slice l:=by cases l<;>simp [bQ,AV.fin,AV.fz,AV.soft]
theorem BR:∀cs:List AV,pB cs=cs.map AV.soft
 | []=>rfl
 | c::cs=>by simp [pB,BR cs]
theorem AQ{b:Nat}{l:List AV}:∀cs:List AV,kK b l cs=cs.map (AV.fz b l)
 | []=>rfl
 | c::cs=>by simp [kK,AQ cs]
theorem gJ{b:Nat}{l:List AV}{cs:List AV}:(AV.agg cs).fin b l=.agg (cs.map (AV.fin b l)):=by
 unfold AV.fin
 split
 · simp [AV.soft,BR]
 · simp [AV.fz,AV.soft,BR,AQ]
theorem iM{b:Nat}{l:List AV}{cs:List AV}:(AV.tup cs).fin b l=.tup (cs.map (AV.fin b l)):=by
 unfold AV.fin
 split
 · simp [AV.soft,BR]
 · simp [AV.fz,AV.soft,BR,AQ]
theorem gW{b:Nat}{l:List AV}{k:IntKind}{n:Int}:(AV.int k n).fin b l=.int k n:=by unfold AV.fin;split<;>rfl
theorem lV{b:Nat}{l:List AV}{n:Bool}:(AV.bool n).fin b l=.bool n:=by unfold AV.fin;split<;>rfl
theorem pV{b:Nat}{l:List AV}{s:ByteArray}:(AV.str s).fin b l=.str s:=by unfold AV.fin;split<;>rfl
theorem iC{b:Nat}{l:List AV}{s:List AV}:(AV.slice s).fin b l=.slice s:=by unfold AV.fin;split<;>rfl
theorem nE{b:Nat}{l:List AV}{s:List AV}:(AV.fslice s).fin b l=.slice s:=by unfold AV.fin;split<;>rfl
theorem DJ{b:Nat}{l:List AV}{e:AV}:(AV.pptr e).fin b l=.pptr e:=by unfold AV.fin;split<;>rfl
theorem K4{b c o:Nat}{l:List AV}:(AV.ptr c o).fin b l=.ptr c o:=by unfold AV.fin;split<;>rfl
theorem aKA{b:Nat}{l:List AV}{g:FuncId}{cs:List AV}:(AV.func g cs).fin b l=.func g cs:=by unfold AV.fin;split<;>rfl
theorem aD.fin{P:Program}{g:FuncId}{args:List AV}{st:aA}{Q:AV→aA→Prop}
 (x:aD P g args st (fun r st'=>∃b l s0,st'=bK s0 b l∧(l≠[]→s0 b=none)∧(∀e∈l,e.bV=false)∧jU l∧Q (r.fin b l) s0)):aD P g args st Q:=
 x.lN fun r st' ⟨b,l,s0,h1,h0,h2,h3,h4⟩=>by
  cases l with
  | nil=>
   exact⟨r.fin b [],st',(aO.refl _).uV,fun h v S y=>y.soft,by have e:st'=s0:=h1;rw[e];exact h4⟩
  | cons e l=>
   have hb:=h0 (by simp)
   subst h1
   have h1:bK s0 b (e::l) b=some (.cells ((e::l).flatMap AV.cells)):=by simp only[bK,aA.aJ]
   have e1:(bK s0 b (e::l)).erase b=s0:=by simp only[bK];exact aA.AL _ _ _ hb
   refine⟨r.fin b (e::l),s0,?_,fun h v S y=>?_,h4⟩
   · have:=(jD (bK s0 b (e::l)) b).uV
     rwa [e1] at this
   · have:=y.fz S h1 h2 h3
     rw[e1] at this
     exact this.soft
mutual
def AV.gK:AV→Bool
 | .slice _=>false
 | .fslice es=>es.isEmpty
 | .pptr _=>false
 | .agg cs=>lY cs
 | .tup vs=>lY vs
 | .func _ cs=>lY cs
 | _=>true
def lY:List AV→Bool
 | []=>true
 | a::as=>a.gK&&lY as
end
def AO.gK:AO→Prop
 | .cells cs=>lY cs=true
 | .map f=>∀n a,f n=some a→a.gK=true
 | .tab _=>True
section
variable {h:bE} {st st':aA}
mutual
theorem VC.anyS:∀(a:AV) (cs:List Value),a.gK=true→VC h st a cs→VC h st' a cs
 | .junk,_,_,x=>x
 | .undef,_,_,x=>x
 | .int _ _,_,_,x=>x
 | .bool _,_,_,x=>x
 | .str _,_,_,x=>x
 | .agg as,cs,s,x=>by simp only[VC] at x ⊢;exact aY.anyS as cs (by simpa [AV.gK] using s) x
 | .tup as,cs,s,x=>by
  simp only[VC] at x ⊢
  obtain⟨vs,e,r⟩:=x
  exact⟨vs,e,d8.anyS as vs (by simpa [AV.gK] using s) r⟩
 | .slice es,_,s,_=>by simp [AV.gK] at s
 | .fslice es,cs,s,x=>by
  have he:es= []:=by simpa [AV.gK] using s
  subst he
  unfold VC at x ⊢
  rcases x with x | ⟨b,off,e,_⟩
  · exact .inl x
  · exact .inl ⟨⟨_,e⟩,rfl⟩
 | .mslice b off len n,_,_,x=>x
 | .nilptr,_,_,x=>x
 | .ptr _ _,_,_,x=>x
 | .pptr e,_,s,_=>by simp [AV.gK] at s
 | .nilmap,_,_,x=>x
 | .map _,_,_,x=>x
 | .func _ as,cs,s,x=>by
  simp only[VC] at x ⊢
  obtain⟨vs,e,r⟩:=x
  exact⟨vs,e,d8.anyS as vs (by simpa [AV.gK] using s) r⟩
 | .raw _,_,_,x=>x
 | .eslice,_,_,x=>x
theorem aY.anyS:∀(as:List AV) (cs:List Value),lY as=true→aY h st as cs→aY h st' as cs
 | [],_,_,x=>x
 | a::as,cs,s,x=>by
  simp only[aY] at x ⊢
  simp only[lY,cY] at s
  obtain⟨c,r,e,x1,x2⟩:=x
  exact⟨c,r,e,VC.anyS a [c] s.1 x1,aY.anyS as r s.2 x2⟩
theorem d8.anyS:∀(as:List AV) (cs:List Value),lY as=true→d8 h st as cs→d8 h st' as cs
 | [],_,_,x=>x
 | a::as,cs,s,x=>by
  simp only[d8] at x ⊢
  simp only[lY,cY] at s
  obtain⟨v,r,e,x1,x2⟩:=x
  exact⟨v,r,e,⟨x1.1,VC.anyS a _ s.1 x1.2⟩,d8.anyS as r s.2 x2⟩
end
theorem aR.anyS{a:AV}{v:Value}(s:a.gK=true)(x:aR h st a v):aR h st' a v:=by
 cases a<;>first | trivial | exact⟨x.1,VC.anyS _ _ s x.2⟩
theorem lB.anyS{b:Nat}:∀ {o:AO},o.gK→lB h st b o→lB h st' b o
 | .cells as,s,x=>by
  obtain⟨c,t,e,l,vs,x1,x2⟩:=x
  exact⟨c,t,e,l,vs,x1,aY.anyS as vs s x2⟩
 | .map f,s,x=>by
  obtain⟨es,cl,e,x1,x2,x3⟩:=x
  refine⟨es,cl,e,x1,x2,fun n=>?_⟩
  have:=x3 n
  split
  · rename_i a ha
    rw[ha] at this
    obtain⟨e,he,hk,hv⟩:=this
    exact⟨e,he,hk,hv.anyS (s n a ha)⟩
  · rename_i ha
    rw[ha] at this
    exact this
 | .tab cs,_,x=>x
end
def aA.frame(st s0 s1:aA):aA:=fun b=>match s0 b,st b with
 | none,some o=>some o
 | _,_=>s1 b
theorem aD.frame{P:Program}{g:FuncId}{args args':List AV}{st s0:aA}{Q:AV→aA→Prop}(D:aO st s0)
 (x:aD P g args s0 (fun r s1=>(∀b,s0 b=none→s1 b≠none→st b=none)→r.gK=true∧(∀b o,s1 b=some o→o.gK)∧Q r (st.frame s0 s1)))
 (hv:∀h vs,cK h st→cT h st args' vs→cT h s0 args vs):aD P g args' st Q:=by
 refine⟨x.1,fun w vs S V=>(x.2 w vs (D.IE S) (hv _ _ S V)).mono ?_⟩
 rintro _ w' ⟨v,r,s1,rfl,hr,S1,T,sm,q⟩
 have hfr:∀b,s0 b=none→s1 b≠none→st b=none:=fun b h0 h1=>by
  cases hb:st b with
  | none=>rfl
  | some o=>exact absurd (T.aU b (S b o hb).1 h0).2 h1
 obtain⟨hs,ho,hq⟩:=q hfr
 have T':bT w.heap st w'.heap (st.frame s0 s1):=by
  refine⟨T.size,fun b hb e=>?_,T.shape⟩
  obtain⟨k1,k2⟩:=T.aU b hb ((D b).1 e)
  exact⟨k1,by simp only[aA.frame,e,k2];split<;>first | rfl | (rename_i h;cases h)⟩
 refine⟨v,r,st.frame s0 s1,rfl,hr.anyS hs,fun b o hb=>?_,T',sm,hq⟩
 simp only[aA.frame] at hb
 split at hb
 · rename_i o' h0 h1
   cases hb
   obtain⟨l,y⟩:=S b _ h1
   exact⟨zW l T.size,lB.mono T' (T.aU b l h0).1 y⟩
 · obtain⟨l,y⟩:=S1 b o hb
   exact⟨l,y.anyS (ho b o hb)⟩
def dJ:aA:=fun _=>none
theorem aO.dJ(st:aA):aO st dJ:=fun _=>⟨fun _=>rfl,fun _ h=>by cases h⟩
theorem a1W(st:aA):st.frame dJ dJ=st:=by
 funext b;simp only[aA.frame,dJ];split
 · rename_i h;exact h.symm
 · rename_i h;cases hb:st b with
   | none=>rfl
   | some o=>exact absurd hb (h o rfl)
theorem aD.aKH{P:Program}{g:FuncId}{args args':List AV}{st:aA}{r:AV}(hs:r.gK=true)
 (x:aD P g args dJ (fun r' s1=>r'=r∧s1=dJ))
 (hv:∀h vs,cK h st→cT h st args' vs→cT h dJ args vs):aD P g args' st (fun r' st'=>r'=r∧st'=st):=
 aD.frame (aO.dJ st) (x.mono fun r' s1 ⟨e1,e2⟩ _=>⟨by rw[e1];exact hs,(by rw[e2];intro b o h;cases h),e1,by rw[e2,a1W]⟩) hv
mutual
def aS(st:aA):AV→AV→List Nat→Prop
 | .int k n,o,bs=>o=.int k n∧bs= []
 | .bool b,o,bs=>o=.bool b∧bs= []
 | .str s,o,bs=>o=.str s∧bs= []
 | .agg cs,o,bs=>∃os,o=.agg os∧aV st cs os bs
 | .slice es,o,bs=>(es= []∧o=.fslice []∧bs= [])∨∃b bs' os w,o=.mslice b 0 es.length w∧bs=b::bs'∧st b=some (.cells (os.flatMap AV.cells))∧aV st es os bs'∧(∀e∈es,e.width=w)
 | _,_,_=>False
def aV(st:aA):List AV→List AV→List Nat→Prop
 | [],os,bs=>os= []∧bs= []
 | a::as,os,bs=>∃o os' b1 b2,os=o::os'∧bs=b1++b2∧aS st a o b1∧aV st as os' b2
end
theorem aV.length{st:aA}:∀ {as os:List AV} {bs:List Nat},aV st as os bs→os.length=as.length
 | [],os,bs,x=>by simp only[aV] at x;simp [x.1]
 | a::as,os,bs,x=>by
  simp only[aV] at x
  obtain⟨o,os',b1,b2,rfl,rfl,_,x2⟩:=x
  simp [aV.length x2]
theorem aS.shape{st:aA}:∀ {a o:AV} {bs:List Nat},aS st a o bs→o.isAgg=a.isAgg∧o.width=a.width∧o.bV=false∧(∀cs,a=.agg cs→∃os,o=.agg os)
 | .int k n,o,bs,x=>by simp only[aS] at x;rw[x.1];exact⟨rfl,rfl,rfl,by simp⟩
 | .bool b,o,bs,x=>by simp only[aS] at x;rw[x.1];exact⟨rfl,rfl,rfl,by simp⟩
 | .str s,o,bs,x=>by simp only[aS] at x;rw[x.1];exact⟨rfl,rfl,rfl,by simp⟩
 | .agg cs,o,bs,x=>by
  simp only[aS] at x
  obtain⟨os,rfl,x⟩:=x
  exact⟨rfl,x.length,rfl,fun _ _=>⟨os,rfl⟩⟩
 | .slice es,o,bs,x=>by
  simp only[aS] at x
  rcases x with ⟨_,rfl,_⟩ | ⟨b,bs',os,w,rfl,_⟩<;>exact⟨rfl,rfl,rfl,by simp⟩
 | .junk,_,_,x=>x.elim
 | .undef,_,_,x=>x.elim
 | .tup _,_,_,x=>x.elim
 | .fslice _,_,_,x=>x.elim
 | .mslice _ _ _ _,_,_,x=>x.elim
 | .nilptr,_,_,x=>x.elim
 | .ptr _ _,_,_,x=>x.elim
 | .pptr _,_,_,x=>x.elim
 | .nilmap,_,_,x=>x.elim
 | .map _,_,_,x=>x.elim
 | .func _ _,_,_,x=>x.elim
 | .raw _,_,_,x=>x.elim
 | .eslice,_,_,x=>x.elim
section
variable {st st':aA}
mutual
theorem aS.aU:∀(a o:AV) (bs:List Nat),(∀b∈bs,st' b=st b)→aS st a o bs→aS st' a o bs
 | .int k n,o,bs,_,x=>x
 | .bool b,o,bs,_,x=>x
 | .str s,o,bs,_,x=>x
 | .agg cs,o,bs,h,x=>by
  simp only[aS] at x ⊢
  obtain⟨os,e,x⟩:=x
  exact⟨os,e,aV.aU cs os bs h x⟩
 | .slice es,o,bs,h,x=>by
  simp only[aS] at x ⊢
  rcases x with x | ⟨b,bs',os,w,e1,rfl,e2,x,e3⟩
  · exact .inl x
  · exact .inr ⟨b,bs',os,w,e1,rfl,(h b (by simp)).trans e2,aV.aU es os bs' (fun q hq=>h q (by simp [hq])) x,e3⟩
 | .junk,_,_,_,x=>x
 | .undef,_,_,_,x=>x
 | .tup _,_,_,_,x=>x
 | .fslice _,_,_,_,x=>x
 | .mslice _ _ _ _,_,_,_,x=>x
 | .nilptr,_,_,_,x=>x
 | .ptr _ _,_,_,_,x=>x
 | .pptr _,_,_,_,x=>x
 | .nilmap,_,_,_,x=>x
 | .map _,_,_,_,x=>x
 | .func _ _,_,_,_,x=>x
 | .raw _,_,_,_,x=>x
 | .eslice,_,_,_,x=>x
theorem aV.aU:∀(as os:List AV) (bs:List Nat),(∀b∈bs,st' b=st b)→aV st as os bs→aV st' as os bs
 | [],os,bs,_,x=>x
 | a::as,os,bs,h,x=>by
  simp only[aV] at x ⊢
  obtain⟨o,os',b1,b2,e1,rfl,x1,x2⟩:=x
  exact⟨o,os',b1,b2,e1,rfl,aS.aU a o b1 (fun q hq=>h q (by simp [hq])) x1,aV.aU as os' b2 (fun q hq=>h q (by simp [hq])) x2⟩
end
mutual
theorem aS.gK:∀(a o:AV) (bs:List Nat),aS st a o bs→o.gK=true∧o.cells.all AV.storable=o.cells.all AV.storable∧∀b∈bs,∃cs,st b=some (.cells cs)∧lY cs=true
 | .int k n,o,bs,x=>by simp only[aS] at x;rw[x.1,x.2];exact⟨rfl,rfl,by simp⟩
 | .bool b,o,bs,x=>by simp only[aS] at x;rw[x.1,x.2];exact⟨rfl,rfl,by simp⟩
 | .str s,o,bs,x=>by simp only[aS] at x;rw[x.1,x.2];exact⟨rfl,rfl,by simp⟩
 | .agg cs,o,bs,x=>by
  simp only[aS] at x
  obtain⟨os,rfl,x⟩:=x
  obtain⟨h1,h2⟩:=aV.gK cs os bs x
  exact⟨by simpa [AV.gK] using h1.1,rfl,h2⟩
 | .slice es,o,bs,x=>by
  simp only[aS] at x
  rcases x with ⟨_,rfl,rfl⟩ | ⟨b,bs',os,w,rfl,rfl,e2,x,e3⟩
  · exact⟨rfl,rfl,by simp⟩
  · obtain⟨h1,h2⟩:=aV.gK es os bs' x
    refine⟨rfl,rfl,fun q hq=>?_⟩
    rcases cG.1 hq with rfl | hq
    · exact⟨_,e2,h1.2⟩
    · exact h2 q hq
 | .junk,_,_,x=>x.elim
 | .undef,_,_,x=>x.elim
 | .tup _,_,_,x=>x.elim
 | .fslice _,_,_,x=>x.elim
 | .mslice _ _ _ _,_,_,x=>x.elim
 | .nilptr,_,_,x=>x.elim
 | .ptr _ _,_,_,x=>x.elim
 | .pptr _,_,_,x=>x.elim
 | .nilmap,_,_,x=>x.elim
 | .map _,_,_,x=>x.elim
 | .func _ _,_,_,x=>x.elim
 | .raw _,_,_,x=>x.elim
 | .eslice,_,_,x=>x.elim
theorem aV.gK:∀(as os:List AV) (bs:List Nat),aV st as os bs→(lY os=true∧lY (os.flatMap AV.cells)=true)∧∀b∈bs,∃cs,st b=some (.cells cs)∧lY cs=true
 | [],os,bs,x=>by simp only[aV] at x;rw[x.1,x.2];exact⟨⟨rfl,rfl⟩,by simp⟩
 | a::as,os,bs,x=>by
  simp only[aV] at x
  obtain⟨o,os',b1,b2,rfl,rfl,x1,x2⟩:=x
  obtain⟨h1,_,h2⟩:=aS.gK a o b1 x1
  obtain⟨⟨h3,h4⟩,h5⟩:=aV.gK as os' b2 x2
  have a2A:∀(p q:List AV),lY p=true→lY q=true→lY (p++q)=true:=by
   intro p q hp hq
   induction p with
   | nil=>exact hq
   | cons c p ih=>simp only[lY,cY,gR] at hp ⊢;exact⟨hp.1,ih hp.2⟩
  have hc:lY o.cells=true:=by cases o<;>first | (simpa [AV.cells,lY] using h1) | (simpa [AV.cells,AV.gK] using h1)
  refine⟨⟨by simp [lY,h1,h3],by rw[rU];exact a2A _ _ hc h4⟩,fun q hq=>?_⟩
  rcases eL.1 hq with hq | hq
  · exact h2 q hq
  · exact h5 q hq
end
end
section
variable {h:bE} {st s0:aA}
mutual
theorem aS.view(S:cK h st)(D:aO st s0):∀(a o:AV) (bs:List Nat) (cs:List Value),aS st a o bs→(∀b∈bs,s0 b=none)→VC h st o cs→VC h s0 a cs
 | .int k n,o,bs,cs,x,_,y=>by simp only[aS] at x;rw[x.1] at y;exact y
 | .bool b,o,bs,cs,x,_,y=>by simp only[aS] at x;rw[x.1] at y;exact y
 | .str s,o,bs,cs,x,_,y=>by simp only[aS] at x;rw[x.1] at y;exact y
 | .agg as,o,bs,cs,x,hb,y=>by
  simp only[aS] at x
  obtain⟨os,rfl,x⟩:=x
  simp only[VC] at y ⊢
  exact aV.aQU S D as os bs cs x hb y
 | .slice es,o,bs,cs,x,hb,y=>by
  simp only[aS] at x
  rcases x with ⟨rfl,rfl,rfl⟩ | ⟨b,bs',os,w,rfl,rfl,e2,x,e3⟩
  · unfold VC at y ⊢
    rcases y with y | ⟨b,off,e,_⟩
    · exact .inl y
    · exact .inl ⟨⟨_,e⟩,rfl⟩
  · simp only[VC] at y
    obtain⟨cap,e,l1,l2,_⟩:=y
    obtain⟨hlt,c,t,q1,q2,vs,q3,q4⟩:=S b _ e2
    have hsh:=aV.EU x
    unfold VC
    refine .inr ⟨b,0,cap,e,l1,l2,hb b (by simp),hlt,⟨w,e3⟩,aV.I3 S D b es os bs' 0 x (fun q hq=>hb q (by simp [hq])) (CH (fun q hq=>hsh q hq) q3 q4)⟩
 | .junk,_,_,_,x,_,_=>x.elim
 | .undef,_,_,_,x,_,_=>x.elim
 | .tup _,_,_,_,x,_,_=>x.elim
 | .fslice _,_,_,_,x,_,_=>x.elim
 | .mslice _ _ _ _,_,_,_,x,_,_=>x.elim
 | .nilptr,_,_,_,x,_,_=>x.elim
 | .ptr _ _,_,_,_,x,_,_=>x.elim
 | .pptr _,_,_,_,x,_,_=>x.elim
 | .nilmap,_,_,_,x,_,_=>x.elim
 | .map _,_,_,_,x,_,_=>x.elim
 | .func _ _,_,_,_,x,_,_=>x.elim
 | .raw _,_,_,_,x,_,_=>x.elim
 | .eslice,_,_,_,x,_,_=>x.elim
theorem aV.aQU(S:cK h st)(D:aO st s0):∀(as os:List AV) (bs:List Nat) (cs:List Value),aV st as os bs→(∀b∈bs,s0 b=none)→aY h st os cs→aY h s0 as cs
 | [],os,bs,cs,x,_,y=>by simp only[aV] at x;rw[x.1] at y;exact y
 | a::as,os,bs,cs,x,hb,y=>by
  simp only[aV] at x
  obtain⟨o,os',b1,b2,rfl,rfl,x1,x2⟩:=x
  simp only[aY] at y ⊢
  obtain⟨c,r,e,y1,y2⟩:=y
  exact⟨c,r,e,aS.view S D a o b1 [c] x1 (fun q hq=>hb q (by simp [hq])) y1,aV.aQU S D as os' b2 r x2 (fun q hq=>hb q (by simp [hq])) y2⟩
theorem aV.I3(S:cK h st)(D:aO st s0)(b:Nat):∀(as os:List AV) (bs:List Nat) (off:Nat),aV st as os bs→(∀b∈bs,s0 b=none)→cW h st b off os→cW h s0 b off as
 | [],os,bs,off,x,_,y=>by simp only[cW]
 | a::as,os,bs,off,x,hb,y=>by
  simp only[aV] at x
  obtain⟨o,os',b1,b2,rfl,rfl,x1,x2⟩:=x
  simp only[cW] at y ⊢
  obtain⟨⟨cs,y1,y2,y3⟩,y4⟩:=y
  have hw:=(aS.shape x1).2.1
  rw[hw] at y2 y4
  exact⟨⟨cs,y1,y2,aS.view S D a o b1 cs x1 (fun q hq=>hb q (by simp [hq])) y3⟩,aV.I3 S D b as os' b2 _ x2 (fun q hq=>hb q (by simp [hq])) y4⟩
theorem aV.EU:∀ {as os:List AV} {bs:List Nat},aV st as os bs→∀o∈os,o.bV=false
 | [],os,bs,x=>by simp only[aV] at x;rw[x.1];simp
 | a::as,os,bs,x=>by
  simp only[aV] at x
  obtain⟨o,os',b1,b2,rfl,rfl,x1,x2⟩:=x
  intro q hq
  rcases cG.1 hq with rfl | hq
  · exact(aS.shape x1).2.2.1
  · exact aV.EU x2 q hq
end
theorem aS.I4(S:cK h st)(D:aO st s0){a o:AV}{bs:List Nat}{v:Value}(x:aS st a o bs)(hb:∀b∈bs,s0 b=none)(y:aR h st o v):aR h s0 a v:=by
 have hs:=x.shape
 have key:o.isAgg=jS v∧VC h st o v.cells.toList:=by
  cases o<;>first | exact y | simp [AV.bV] at hs
 have z:a.isAgg=jS v∧VC h s0 a v.cells.toList:=⟨hs.1.symm.trans key.1,aS.view S D _ _ _ _ x hb key.2⟩
 cases ha:a<;>rw[ha] at z<;>first | trivial | exact z
end
def Seen(st s0:aA):List AV→List AV→Prop
 | [],as=>as= []
 | o::os,as=>∃a as',as=a::as'∧(o=a∨∃bs,aS st a o bs∧∀b∈bs,s0 b=none)∧Seen st s0 os as'
theorem Seen.rel{st s0:aA}(D:aO st s0):∀ {os as:List AV},Seen st s0 os as→∀h vs,cK h st→cT h st os vs→cT h s0 as vs
 | [],as,x,h,vs,_,y=>by simp only[Seen] at x;rw[x];exact y
 | o::os,as,x,h,vs,S,y=>by
  simp only[Seen] at x
  obtain⟨a,as',rfl,x1,x2⟩:=x
  simp only[cT] at y ⊢
  obtain⟨v,r,rfl,y1,y2⟩:=y
  refine⟨v,r,rfl,?_,Seen.rel D x2 h r S y2⟩
  rcases x1 with rfl | ⟨bs,x1,hb⟩
  · exact y1.mono (D.step h)
  · exact x1.I4 S D hb y1
def Made(st:aA)(a r:AV)(st':aA):Prop:=∃bs:List Nat,bs.Nodup∧(∀b∈bs,st b=none)∧aS st' a r bs∧∀b,b∉bs→st' b=st b
theorem aD.made{P:Program}{g:FuncId}{args:List AV}{st:aA}{a:AV}(x:aD P g args st (Made st a)):aD P g args st (fun r st'=>r=a∧st'=st):=
 x.lN fun r st' ⟨bs,_,h2,h3,h4⟩=>by
  have D:aO st' st:=fun b=>⟨fun e=>by
   by_cases hb:b∈bs
   · exact h2 b hb
   · rw[←h4 b hb];exact e,fun o e=>by
   by_cases hb:b∈bs
   · rw[h2 b hb] at e;cases e
   · rw[h4 b hb];exact e⟩
  exact⟨a,st,D.uV,fun h v S y=>h3.I4 S D h2 y,rfl,rfl⟩
theorem aD.aKI{P:Program}{g:FuncId}{args args':List AV}{st:aA}{a:AV}
 (x:aD P g args dJ (Made dJ a))
 (hv:∀h vs,cK h st→cT h st args' vs→cT h dJ args vs):aD P g args' st (Made st a):=by
 refine aD.frame (aO.dJ st) (x.mono ?_) hv
 rintro r s1 ⟨bs,h1,_,h3,h4⟩ hfr
 have hso:=aS.gK _ _ _ h3
 have hbs:∀b∈bs,st b=none:=fun b hb=>hfr b rfl (by
  obtain⟨cs,e,_⟩:=hso.2.2 b hb
  rw[e];simp)
 have hfb:∀b∈bs,(st.frame dJ s1) b=s1 b:=fun b hb=>by simp only[aA.frame,hbs b hb];split<;>simp_all
 refine⟨hso.1,fun b o e=>?_,bs,h1,hbs,aS.aU _ _ _ hfb h3,fun b hb=>?_⟩
 · by_cases hb:b∈bs
   · obtain⟨cs,e2,hs⟩:=hso.2.2 b hb
     rw[e] at e2;cases e2;exact hs
   · rw[h4 b hb] at e;cases e
 · have:=h4 b hb
   simp only[aA.frame,dJ] at this ⊢
   cases hst:st b with
   | none=>exact this
   | some o=>rfl
theorem aV.focus{st:aA}:∀ {as os:List AV} {bs:List Nat},aV st as os bs→bs.Nodup→∀(i:Nat) (a:AV),as[i]?=some a →
 ∃od o orr bo,os=od++o::orr∧od.length=i∧aS st a o bo∧bo.Nodup∧(∀b∈bo,b∈bs) ∧
  ∀(st':aA) (a' o':AV),(∀b∈bs,b∉bo→st' b=st b)→aS st' a' o' bo→aV st' (as.set i a') (od++o'::orr) bs
 | [],os,bs,_,_,i,a,h=>by simp at h
 | c::as,os,bs,x,nd,0,a,h=>by
  simp only[aV] at x
  obtain⟨o,os',b1,b2,rfl,rfl,x1,x2⟩:=x
  simp at h;subst h
  rw[mA] at nd
  refine⟨[],o,os',b1,rfl,rfl,x1,nd.1,fun b hb=>by simp [hb],fun st' a' o' hk y=>?_⟩
  simp only[qL,eE,aV]
  exact⟨o',os',b1,b2,rfl,rfl,y,aV.aU _ _ _ (fun q hq=>hk q (by simp [hq]) (fun hq'=>nd.2.2 q hq' q hq rfl)) x2⟩
 | c::as,os,bs,x,nd,i+1,a,h=>by
  simp only[aV] at x
  obtain⟨o,os',b1,b2,rfl,rfl,x1,x2⟩:=x
  rw[mA] at nd
  obtain⟨od,o2,orr,bo,rfl,hl,y1,y2,y3,y4⟩:=aV.focus x2 nd.2.1 i a (by simpa using h)
  refine⟨o::od,o2,orr,bo,rfl,by simp [hl],y1,y2,fun b hb=>by simp [y3 b hb],fun st' a' o' hk y=>?_⟩
  simp only[v7,gR,aV]
  refine⟨o,_,b1,b2,rfl,rfl,aS.aU _ _ _ (fun q hq=>hk q (by simp [hq]) (fun hq'=>nd.2.2 q hq q (y3 q hq') rfl)) x1,y4 st' a' o' (fun q hq hn=>hk q (by simp [hq]) hn) y⟩
theorem aV.K9{st:aA}{w:Nat}:∀ {as os:List AV} {bs:List Nat},aV st as os bs→(∀e∈as,e.width=w)→(os.flatMap AV.cells).length=as.length*w
 | [],os,bs,x,_=>by simp only[aV] at x;rw[x.1];simp
 | a::as,os,bs,x,h=>by
  simp only[aV] at x
  obtain⟨o,os',b1,b2,rfl,rfl,x1,x2⟩:=x
  have:=aV.K9 x2 (fun e he=>h e (by simp [he]))
  rw[rU,dS,this,wK,(aS.shape x1).2.1,h a (by simp),a8,v8]
  omega
theorem aV.take{st:aA}:∀ {as od or':List AV} {bs:List Nat},aV st as (od++or') bs→∃bs',aV st (as.take od.length) od bs'
 | as,[],or',bs,_=>⟨[],by simp [aV]⟩
 | [],o::od,or',bs,x=>by simp [aV] at x
 | a::as,o::od,or',bs,x=>by
  simp only[aV,gR] at x
  obtain⟨o1,os',b1,b2,e,rfl,x1,x2⟩:=x
  obtain⟨rfl,rfl⟩:=pK e
  obtain⟨bs',h⟩:=aV.take x2
  exact⟨b1++bs',by simp only[a8,x8,aV];exact⟨o,od,b1,bs',rfl,rfl,x1,h⟩⟩
theorem aS.focus{st:aA}{es:List AV}{o:AV}{bs:List Nat}(x:aS st (.slice es) o bs)(nd:bs.Nodup){i:Nat}{e:AV}(h:es[i]?=some e) :
 ∃b bs' w A oe bo B,o=.mslice b 0 es.length w∧bs=b::bs'∧st b=some (.cells (A++oe.cells++B))∧A.length=i*w∧aS st e oe bo∧bo.Nodup∧b∉bo∧(∀q∈bo,q∈bs)∧e.width=w∧i<es.length ∧
  ∀(st':aA) (e' oe':AV),e'.width=w→(∀q∈bs,q≠b→q∉bo→st' q=st q)→st' b=some (.cells (A++oe'.cells++B))→aS st' e' oe' bo→aS st' (.slice (es.set i e')) o bs:=by
 have hi:i<es.length:=(fC.1 h).1
 simp only[aS] at x
 rcases x with ⟨rfl,_⟩ | ⟨b,bs',os,w,rfl,rfl,e2,x,e3⟩
 · simp at h
 · rw[FS] at nd
   obtain⟨od,oe,orr,bo,rfl,hl,y1,y2,y3,y4⟩:=aV.focus x nd.2 i e h
   have hA:(od.flatMap AV.cells).length=i*w:=by
    obtain⟨bs2,ht⟩:=aV.take x
    rw[ht.K9 (fun q hq=>e3 q (l9 hq)),dZ,hl,kQ (by omega)]
   refine⟨b,bs',w,od.flatMap AV.cells,oe,bo,orr.flatMap AV.cells,rfl,rfl,by rw[e2];simp,hA,y1,y2,fun hb=>nd.1 (y3 b hb),fun q hq=>by simp [y3 q hq],e3 e (cH h),hi,?_⟩
   intro st' e' oe' hw hk hb hO
   simp only[aS]
   refine .inr ⟨b,bs',od++oe'::orr,w,by simp,rfl,by rw[hb];simp,y4 st' e' oe' (fun q hq hn=>hk q (by simp [hq]) (fun hqb=>nd.1 (hqb▸hq)) hn) hO,fun q hq=>?_⟩
   rcases List.mem_or_eq_of_mem_set hq with hq | rfl
   · exact e3 q hq
   · exact hw
theorem TP{A C B x:List AV}{n j:Nat}(hA:A.length=n)(hj:j+x.length≤C.length):aM (A++C++B) (n+j) x=A++aM C j x++B:=by
 subst hA
 unfold aM
 have h1:(A++C++B).take (A.length+j)=A++C.take j:=by
  rw[kC,List.take_length_add_append,CB (by omega)]
 have h2:(A++C++B).drop (A.length+j+x.length)=C.drop (j+x.length)++B:=by
  rw[kC,zU,List.drop_length_add_append,List.drop_append_of_le_length (by omega)]
 rw[h1,h2]
 simp
theorem vN{A B:List AV}{n:Nat}(hA:A.length=n):(∀(C:List AV) (v:AV) (j:Nat),j<C.length→aM (A++C++B) (n+j) [v]=A++C.set j v++B)∧(∀(C:List AV) (c:Nat),c<C.length→n+c+1≤(A++C++B).length) ∧
 (∀(C:List AV) (c:Nat),c<C.length→(A++C++B)[n+c]?=C[c]?)∧(∀(C:List AV) (v:AV),0<C.length→aM (A++C++B) n [v]=A++C.set 0 v++B)∧(∀(C:List AV),0<C.length→n+1≤(A++C++B).length) ∧
 ∀(C:List AV),0<C.length→(A++C++B)[n]?=C[0]?:=by
 have k1:(∀(C:List AV) (v:AV) (j:Nat),j<C.length→aM (A++C++B) (n+j) [v]=A++C.set j v++B)∧(∀(C:List AV) (c:Nat),c<C.length→n+c+1≤(A++C++B).length)∧∀(C:List AV) (c:Nat),c<C.length→(A++C++B)[n+c]?=C[c]?:=?_
 · exact⟨k1.1,k1.2.1,k1.2.2,fun C v h=>k1.1 C v 0 h,fun C h=>k1.2.1 C 0 h,fun C h=>k1.2.2 C 0 h⟩
 refine⟨fun C v j h=>?_,fun C c h=>?_,fun C c h=>?_⟩
 · rw[TP hA (by simp;omega),OW,aN h]
   unfold aM
   simp
 · simp only[dS];omega
 · subst hA
   rw[kC,VZ (by omega),Nat.add_sub_cancel_left,VY h]
theorem EK{A B C x:List AV}{n w:Nat}(hA:A.length=n)(hC:C.length=w)(hx:x.length=w):aM (A++C++B) n x=A++x++B∧n+w≤(A++C++B).length:=by
 have h:=TP (A:=A) (C:=C) (B:=B) (x:=x) (n:=n) (j:=0) hA (by omega)
 rw[lQ] at h
 refine⟨?_,by simp only[dS];omega⟩
 rw[h]
 unfold aM
 simp [hC,hx]
theorem kT{P:Program}{t:TypeId}{ag:Bool}{b len w i:Nat}(hI:eI P t=some (ag,w))(hi:i<len):dP P t (.mslice b 0 len w) (.int .i64 (i:Int))=some (.ptr b (i*w)):=by
 simp only[dP,hI,kB,jW]
 rw[aN ⟨by omega,by omega,trivial⟩]
theorem aS.PJ{st:aA}:∀ {cs os:List AV} {bs:List Nat},aV st cs os bs→(∀c∈cs,c.isAgg=false)→os.all AV.storable=true∧os.flatMap AV.cells=os
 | [],os,bs,x,_=>by simp only[aV] at x;rw[x.1];simp
 | a::as,os,bs,x,h=>by
  simp only[aV] at x
  obtain⟨o,os',b1,b2,rfl,rfl,x1,x2⟩:=x
  have ih:=aS.PJ x2 (fun c hc=>h c (by simp [hc]))
  have ha:=h a (by simp)
  have ho:o.storable=true∧o.cells= [o]:=by
   cases a<;>simp only[aS] at x1<;>try exact x1.elim
   case int=>rw[x1.1];exact⟨rfl,rfl⟩
   case bool=>rw[x1.1];exact⟨rfl,rfl⟩
   case str=>rw[x1.1];exact⟨rfl,rfl⟩
   case agg=>simp [AV.isAgg] at ha
   case slice=>rcases x1 with ⟨_,rfl,_⟩ | ⟨b,bs',os,w,rfl,_⟩<;>exact⟨rfl,rfl⟩
  rw[jK,ho.1,ih.1,rU,ih.2,ho.2]
  exact⟨rfl,rfl⟩
theorem aV.snoc{st st':aA}{a o:AV}{b2:List Nat}:∀ {as os:List AV} {b1:List Nat},aV st as os b1→(∀b∈b1,st' b=st b)→aS st' a o b2→aV st' (as++ [a]) (os++ [o]) (b1++b2)
 | [],os,b1,x,_,y=>by
  simp only[aV] at x
  rw[x.1,x.2]
  simp only[eE,aV]
  exact⟨o,[],b2,[],rfl,by simp,y,rfl,rfl⟩
 | c::as,os,b1,x,h,y=>by
  simp only[aV] at x
  obtain⟨o1,os',b3,b4,rfl,rfl,x1,x2⟩:=x
  simp only[gR,aV]
  exact⟨o1,os'++ [o],b3,b4++b2,rfl,by simp,aS.aU _ _ _ (fun q hq=>h q (by simp [hq])) x1,aV.snoc x2 (fun q hq=>h q (by simp [hq])) y⟩
def oP(es:List AV)(zs:List AV)(b:Nat)(st:aA)(i:Nat)(p:List AV×List Nat×aA):Prop:=
 p.1.length=i∧aV p.2.2 (es.take i) p.1 p.2.1∧p.2.1.Nodup∧b∉p.2.1∧(∀q∈p.2.1,st q=none)∧st b=none∧p.2.2 b=some (.cells (p.1.flatMap AV.cells++(List.replicate (es.length - i) zs).flatten))∧∀q,q≠b→q∉p.2.1→p.2.2 q=st q
theorem oP.start{es zs:List AV}{b n:Nat}{st:aA}(hn:st b=none)(hl:n=es.length):oP es zs b st 0 ([],[],st.aC b (.cells (List.replicate n zs).flatten)):=
 ⟨rfl,by simp [aV],mJ,by simp,by simp,hn,by simp [aA.aJ,hl],fun q h _=>aA.aF _ _ h⟩
theorem oP.done{es zs:List AV}{b n w:Nat}{st:aA}{os:List AV}{bs:List Nat}{s:aA}(h:oP es zs b st n (os,bs,s))(hl:es.length=n)(hw:∀e∈es,e.width=w):Made st (.slice es) (.mslice b 0 n w) s:=by
 obtain⟨h1,h2,h3,h4,h5,h6,h7,h8⟩:=h
 simp only at h1 h2 h3 h4 h5 h7 h8
 rw[m9 (by omega)] at h2
 refine⟨b::bs,FS.2 ⟨h4,h3⟩,fun q hq=>?_,?_,fun q hq=>h8 q (fun e=>hq (by simp [e])) (fun e=>hq (by simp [e]))⟩
 · rcases cG.1 hq with rfl | hq
   · exact h6
   · exact h5 q hq
 · simp only[aS]
   refine .inr ⟨b,bs,os,w,by rw[hl],rfl,?_,h2,hw⟩
   rw[h7,hl]
   simp
theorem oP.step{es zs:List AV}{b i w:Nat}{st:aA}{os:List AV}{bs:List Nat}{s s2:aA}{e r:AV}(h:oP es zs b st i (os,bs,s))(hm:Made s e r s2)(he:es[i]?=some e)(hwe:e.width=w)(hw:∀e∈es,e.width=w)(hz:zs.length=w)
 (hst:e.cells.all AV.storable=true) (hag:e.isAgg=true∨e.cells= [e]) :
 ∃A B,s2 b=some (.cells (A++zs++B))∧A.length=i*w∧r.cells.length=w∧r.cells.all AV.storable=true∧oP es zs b st (i+1) (os++ [r],bs++hm.choose,s2.aC b (.cells (A++r.cells++B))):=by
 obtain⟨h1,h2,h3,h4,h5,h6,h7,h8⟩:=h
 simp only at h1 h2 h3 h4 h5 h7 h8
 obtain⟨m1,m2,m3,m4⟩:=hm.choose_spec
 generalize hm.choose=bx at *
 have hi:i<es.length:=(fC.1 he).1
 have hbx:b∉bx:=fun hb=>by have:=m2 b hb;rw[h7] at this;cases this
 have hs2:s2 b=s b:=m4 b hbx
 have hlt:(os.flatMap AV.cells).length=i*w:=by rw[h2.K9 (fun q hq=>hw q (l9 hq)),dZ,kQ (by omega)]
 have yR:=aV.gK _ _ _ h2
 have kS:∀q∈bs,q∉bx:=fun q hq hx=>by
  obtain⟨cs,e1,_⟩:=yR.2 q hq
  rw[m2 q hx] at e1;cases e1
 have a3Z:(List.replicate (es.length - i) zs).flatten=zs++(List.replicate (es.length - (i+1)) zs).flatten:=by
  rw[show es.length - i=(es.length - (i+1))+1 by omega,FT,JD]
 have hb2:s2 b=some (.cells (os.flatMap AV.cells++zs++(List.replicate (es.length - (i+1)) zs).flatten)):=by rw[hs2,h7,a3Z,kC]
 have hrl:r.cells.length=w:=by rw[wK,(aS.shape m3).2.1,hwe]
 have hrs:r.cells.all AV.storable=true:=by
  cases e<;>simp only[aS] at m3<;>try exact m3.elim
  case int=>rw[m3.1];try rfl
  case bool=>rw[m3.1];try rfl
  case str=>rw[m3.1];try rfl
  case slice=>rcases m3 with ⟨_,rfl,_⟩ | ⟨_,_,_,_,rfl,_⟩<;>rfl
  case agg cs=>
   obtain⟨q,rfl,m3⟩:=m3
   refine(aS.PJ m3 fun c hc=>?_).1
   have hst:cs.all AV.storable=true:=hst
   have:=fU.1 hst c hc
   cases c<;>first | rfl | (simp [AV.storable] at this)
 refine⟨os.flatMap AV.cells,_,hb2,hlt,hrl,hrs,by simp [h1],?_,?_,?_,?_,h6,?_,?_⟩
 · rw[fN,he]
   have hne:∀q,q≠b→(s2.aC b (.cells (os.flatMap AV.cells++r.cells++(List.replicate (es.length - (i+1)) zs).flatten))) q=s2 q:=fun q hq=>aA.aF _ _ hq
   exact aV.snoc h2 (fun q hq=>(hne q (fun e=>h4 (e▸hq))).trans (m4 q (kS q hq))) (aS.aU _ _ _ (fun q hq=>hne q (fun e=>hbx (e▸hq))) m3)
 · exact mA.2 ⟨h3,m1,fun a ha c hc e=>kS a ha (e▸hc)⟩
 · intro hb
   rcases eL.1 hb with hb | hb
   · exact h4 hb
   · exact hbx hb
 · intro q hq
   rcases eL.1 hq with hq | hq
   · exact h5 q hq
   · by_cases hqb:q=b
     · rw[hqb];exact h6
     · by_cases hqs:q∈bs
       · exact h5 q hqs
       · rw[←h8 q hqb hqs];exact m2 q hq
 · simp only[aA.aJ]
   simp
 · intro q hq hn
   simp only[eL,jI] at hn
   exact(aA.aF _ _ hq).trans ((m4 q hn.2).trans (h8 q hq hn.1))
def JI(st:aA)(ds:List Nat)(a r:AV)(st':aA):Prop:=∃bs:List Nat,bs.Nodup∧(∀b∈bs,st b=none)∧(∀d∈ds,st d=none∧d∉bs)∧aS st' a r bs∧∀b,b∉bs→b∉ds→st' b=st b
theorem aD.uH{P:Program}{g:FuncId}{args:List AV}{st:aA}{a:AV}(x:aD P g args st (fun r st'=>∃ds,JI st ds a r st')):aD P g args st (Made st a):=
 x.lN fun r st' ⟨ds,bs,h1,h2,hd,h3,h4⟩=>by
  refine⟨r,fun q=>if q∈ds then none else st' q,?_,?_,bs,h1,h2,?_,fun b hb=>?_⟩
  · have D:aO st' (fun q=>if q∈ds then none else st' q):=fun q=>by
     by_cases hq:q∈ds
     · simp only[hq,dV];exact⟨fun _=>trivial,fun o h=>by cases h⟩
     · simp only[hq,cM];exact⟨id,fun o h=>h⟩
    exact D.uV
  · have D:aO st' (fun q=>if q∈ds then none else st' q):=fun q=>by
     by_cases hq:q∈ds
     · simp only[hq,dV];exact⟨fun _=>trivial,fun o h=>by cases h⟩
     · simp only[hq,cM];exact⟨id,fun o h=>h⟩
    exact D.lN r
  · exact aS.aU _ _ _ (fun q hq=>aK fun h=>(hd q h).2 hq) h3
  · by_cases hq:b∈ds
    · simp only[hq,dV];exact(hd b hq).1.symm
    · simp only[hq,cM];exact h4 b hb hq
def pQ(b:Nat):List AV→List Nat
 | []=>[]
 | _::_=>[b]
theorem SZ{s:aA}{b w:Nat}{es os:List AV}{bs:List Nat}(x:aV (bK s b os) es os bs)(hw:∀e∈es,e.width=w):aS (bK s b os) (.slice es) (bQ w b os) (pQ b os++bs):=by
 have hl:=x.length
 cases os with
 | nil=>
  have:es= []:=rT (by simpa using hl.symm)
  subst this
  simp only[aV] at x
  simp only[aS,bQ,pQ,x.2]
  exact .inl ⟨trivial,trivial,rfl⟩
 | cons o os=>
  simp only[aS,bQ,pQ]
  refine .inr ⟨b,bs,o::os,w,by rw[hl],rfl,?_,x,hw⟩
  simp only[bK,aA.aJ]
def AV.flat:AV→Bool
 | .int _ _ | .bool _ | .str _=>true
 | _=>false
theorem aV.flat{s:aA}:∀ {es:List AV},es.all AV.flat=true→aV s es es []
 | [],_=>⟨rfl,rfl⟩
 | e::es,h=>by
  simp only[jK,cY] at h
  simp only[aV]
  refine⟨e,es,[],[],rfl,rfl,?_,aV.flat h.2⟩
  cases e<;>simp [AV.flat] at h<;>simp [aS]
theorem Seen.nil{st s0:aA}:Seen st s0 [] []:=rfl
theorem Seen.same{st s0:aA}{x:AV}{os as:List AV}(h:Seen st s0 os as):Seen st s0 (x::os) (x::as):=⟨x,as,rfl,.inl rfl,h⟩
theorem Seen.own{st:aA}{a o:AV}{bs:List Nat}{os as:List AV}(hO:aS st a o bs)(h:Seen st dJ os as):Seen st dJ (o::os) (a::as):=⟨a,as,rfl,.inr ⟨bs,hO,fun _ _=>rfl⟩,h⟩
theorem aD.BQ{P:Program}{g:FuncId}{args args':List AV}{st:aA}{r:AV}(x:∀s,aD P g args s (fun r' s'=>r'=r∧s'=s))(hv:Seen st dJ args' args)(hs:r.gK=true):aD P g args' st (fun r' s'=>r'=r∧s'=st):=
 aD.aKH hs (x dJ) (Seen.rel (aO.dJ st) hv)
theorem aD.a7Z{P:Program}{g:FuncId}{args args':List AV}{st:aA}{a:AV}(x:∀s,aD P g args s (Made s a))(hv:Seen st dJ args' args):aD P g args' st (Made st a):=
 aD.aKI (x dJ) (Seen.rel (aO.dJ st) hv)
theorem aD.oS{P:Program}{g:FuncId}{args:List AV}{st:aA}{r:AV}(x:aD P g args st (fun r' st'=>r'=r∧aO st' st)):aD P g args st (fun r' st'=>r'=r∧st'=st):=
 (x.mono fun _ _ h=>⟨h.2,h.1⟩).drop
theorem aRF{P:Program}{t:TypeId}{st:aA}{s x:AV}{K K':AV→aA→Prop}(h:∀r s,K r s→K' r s)(e:kF P t st s x K):kF P t st s x K':=by
 unfold kF at *
 split at e
 case h_2=>exact e.elim
 refine⟨e.1,e.2.1,?_⟩
 have e:=e.2.2
 split at e
 · exact⟨e.1,e.2.1,e.2.2.1,fun q=>h _ _ (e.2.2.2.1 q),fun q b hb=>h _ _ (e.2.2.2.2 q b hb)⟩
 · refine⟨e.1,e.2.1,e.2.2.1,?_⟩
   have e:=e.2.2.2
   split at e
   · exact⟨e.1,h _ _ e.2.1,fun b hb=>h _ _ (e.2.2 b hb)⟩
   · exact e.elim
 · exact e.elim
theorem aRE{P:Program}{t t':TypeId}{st:aA}{s x:AV}{K K':AV→aA→Prop}(h:∀r s,K r s→K' r s)(e:qO P t t' st s x K):qO P t t' st s x K':=by
 unfold qO at *
 split at e
 case h_2=>exact e.elim
 refine⟨e.1,e.2.1,e.2.2.1,e.2.2.2.1,?_⟩
 have e:=e.2.2.2.2
 split at e
 · exact⟨e.1,e.2.1,e.2.2.1,fun q=>h _ _ (e.2.2.2.1 q),fun q b hb=>h _ _ (e.2.2.2.2 q b hb)⟩
 · refine⟨e.1,e.2.1,e.2.2.1,?_⟩
   have e:=e.2.2.2
   split at e
   · exact⟨e.1,h _ _ e.2.1,fun b hb=>h _ _ (e.2.2 b hb)⟩
   · exact e.elim
 · exact e.elim
theorem AA{P:Program}{mt:List Nat}{φ:AF}{st:aA}{o:Oper}{K K':AV→aA→Prop}(h:∀r s,K r s→K' r s)(e:fL P mt φ st o K):fL P mt φ st o K':=by
 unfold fL at *
 split at e
 · split at e
   · exact e.mono h
   · exact e.elim
 · split at e
   · split at e
     · rename_i ht;rw[aN ht];exact aRF h e
     · rename_i ht;rw[aK ht];exact aRE h e
   · exact e.elim
 · split at e
   · unfold z6 at *
     split at e
     · split at e
       · exact h _ _ e
       · exact e.elim
     · exact e.elim
   · exact e.elim
 · split at e
   · unfold wC at *
     split at e
     · obtain⟨e1,e2,e3,e4,e5⟩:=e
       refine⟨e1,e2,e3,e4,?_⟩
       split at e5
       · exact⟨e5.1,h _ _ e5.2⟩
       · exact e5.elim
     · exact h _ _ e
     · exact e.elim
   · exact e.elim
 · split at e
   · rename_i hm
     rw[aN hm]
     exact⟨e.1,fun b hb=>h _ _ (e.2 b hb)⟩
   · rename_i hm
     rw[aK hm]
     split at e
     · exact h _ _ e
     · exact e.elim
 · split at e
   · exact fun b hb=>h _ _ (e b hb)
   · exact e.elim
 · split at e
   · split at e
     · exact⟨e.1,e.2.1,e.2.2.1,h _ _ e.2.2.2⟩
     · exact e.elim
   · exact e.elim
 · exact fun b hb=>h _ _ (e b hb)
 · unfold qQ at *
   split at e
   · exact⟨e.1,e.2.1,e.2.2.1,e.2.2.2.1,e.2.2.2.2.1,e.2.2.2.2.2.1,fun b hb=>h _ _ (e.2.2.2.2.2.2 b hb)⟩
   · exact e.elim
 · unfold tK at *
   split at e
   · split at e
     · exact⟨e.1,h _ _ e.2⟩
     · exact e.elim
   · exact e.elim
 · split at e
   · exact h _ _ e
   · exact e.elim
def i8(P:Program)(ops:Array Oper)(o:Oper)(φ:AF)(st:aA)(K:AV→aA→Prop):Prop:=match iZ ops φ o with
 | some true=>fL P [] φ st o K
 | some false=>K .undef st
 | none=>False
theorem tL{P:Program}{ops:Array Oper}{o:Oper}{φ:AF}{st:aA}{K K':AV→aA→Prop}(h:∀r s,K r s→K' r s)(e:i8 P ops o φ st K):i8 P ops o φ st K':=by
 unfold i8 at *
 split at e
 · exact AA h e
 · exact h _ _ e
 · exact e.elim
section
variable {P:Program}
theorem aRI{ops:Array Oper}{oi oj:Oper}(φ:AF)(v:AV)(h:∀d,oj.dst=some d→d∉oi.looksAt ops):iZ ops (φ.put oj.dst v) oi=iZ ops φ oi:=by
 unfold iZ
 cases hg:oi.guard with
 | none=>rfl
 | some gw=>
  obtain⟨g,want⟩:=gw
  cases ht:(ops[g]?).bind (·.dst) with
  | none=>simp only[ht]
  | some t=>
   simp only[ht]
   have:(φ.put oj.dst v) t=φ t:=by
    have:=MI (φ:=φ) (dst:=oj.dst) (v:=v) (x:=.tmp t) (fun d hd hxd=>h d hd (by
     cases hxd
     simp [Oper.looksAt,hg,ht]))
    exact this
   rw[this]
theorem PE{ops:Array Oper}{oi oj:Oper}(φ:AF)(v:AV){st:aA}{K:AV→aA→Prop}(h:∀d,oj.dst=some d→d∉oi.looksAt ops):i8 P ops oi (φ.put oj.dst v) st K↔i8 P ops oi φ st K:=by
 have h1:fL P [] (φ.put oj.dst v) st oi K=fL P [] φ st oi K:=
  WU fun x hx=>MI fun d hd hxd=>h d hd (by
   subst hxd
   exact List.mem_append_left _ (List.mem_filterMap.2 ⟨.tmp d,by simpa using hx,rfl⟩))
 unfold i8
 rw[h1,aRI φ v h]
theorem Q9(n j:Nat):(Array.replicate n false).getD j false=false:=by
 rcases mB j n with h | h<;>simp [h]
def JO(P:Program)(ops:Array Oper)(K:AF→aA→Prop):Nat→Array Bool→AF→aA→Prop
 | 0,listed,φ,st=>Region.ready .any ops listed= []∧K φ st
 | f+1,listed,φ,st=>(Region.ready .any ops listed= []→K φ st)∧∀i∈Region.ready .any ops listed,∃o,ops[i]?=some o∧i8 P ops o φ st (fun r st'=>JO P ops K f (listed.setIfInBounds i true) (φ.put o.dst r) st')
theorem aRM{N:Nat}{ops:Array Oper}(hN:∀(j d:Nat),(ops[j]?).bind (·.dst)=some d→d<N){o:Oper}{i:Nat}{a:Act}{w:World}{φ:AF}{st:aA}{G:AV→aA→Prop}{K:Act→World→Prop}{Q:Exit→Act→World→Prop}(hi:ops[i]?=some o)
 (R:Rel N a w φ st) (hd:oU N o=true) (y:i8 P ops o φ st G) (h:∀a' w' r st',Rel N a' w' (φ.put o.dst r) st'→bT w.heap st w'.heap st'→fO w w'→G r st'→K a' w'):wpOp P ops Q i K a w:=by
 unfold i8 at y
 unfold wpOp
 simp only[hi]
 split at y
 · rename_i hg
   rw[aN (yB R hN hg)]
   refine .inl (JT R.frame R.store y fun v w' ⟨r',st',x1,x2,x3,x4,x5⟩=>?_)
   exact h _ _ r' st' (R.put hd x3 x2 x1) x3 x4 x5
 · rename_i hg
   rw[aK (by rw[yB R hN hg];simp)]
   exact h _ _ .undef st (R.put (r:=.undef) hd (bT.refl _ _) R.store ⟨rfl,rfl⟩) (bT.refl _ _) (fO.refl _) y
 · exact y.elim
theorem JP{N:Nat}{ops:Array Oper}(hN:∀(j d:Nat),(ops[j]?).bind (·.dst)=some d→d<N)(hD:∀o∈ops.toList,oU N o=true){K:AF→aA→Prop}{Q:Exit→Act→World→Prop}{w0:World}{st0:aA}
 (hK:∀φ st a w,K φ st→Rel N a w φ st→bT w0.heap st0 w.heap st→fO w0 w→Q .normal a w) :
 ∀(f:Nat) (listed:Array Bool) (φ:AF) (st:aA) (a:Act) (w:World),JO P ops K f listed φ st→Rel N a w φ st→bT w0.heap st0 w.heap st→fO w0 w→wpAny P .any ops Q f listed a w
 | 0,listed,φ,st,a,w,h,R,T,s=>⟨h.1,hK φ st a w h.2 R T s⟩
 | f+1,listed,φ,st,a,w,h,R,T,s=>by
  refine⟨fun h0=>hK φ st a w (h.1 h0) R T s,fun i hi=>?_⟩
  obtain⟨o,ho,y⟩:=h.2 i hi
  exact aRM hN ho R (hD o (oK.2 (B6 ho))) y fun a' w' r st' R' T' s' g=>JP hN hD hK f _ _ _ a' w' g R' (T.trans T') (s.trans s')
def WP(P:Program)(ops:Array Oper)(o:Oper)(r:AV)(φ:AF):Prop:=∀st,jY P st ops o r φ
theorem bBQ{ops:Array Oper}{o:Oper}{r:AV}{φ:AF}(h:WP P ops o r φ){st:aA}{K:AV→aA→Prop}(k:K r st):i8 P ops o φ st K:=by
 unfold i8
 rcases h st with ⟨hg,hs⟩ | ⟨hg,rfl⟩
 · rw[hg];exact AA (fun r' s' ⟨e1,e2⟩=>by rw[e1,e2];exact k) hs
 · rw[hg];exact k
theorem WX{ops:Array Oper}{o:Oper}{r:AV}{φ:AF}{st:aA}(h:jY P st ops o r φ){K:AV→aA→Prop}(k:K r st):i8 P ops o φ st K:=by
 unfold i8
 rcases h with ⟨hg,hs⟩ | ⟨hg,rfl⟩
 · rw[hg];exact AA (fun r' s' ⟨e1,e2⟩=>by rw[e1,e2];exact k) hs
 · rw[hg];exact k
def CL(P:Program)(ops:Array Oper)(S:List Nat)(K:AF→aA→Prop):Nat→Array Bool→AF→aA→Prop
 | 0,listed,φ,st=>Region.ready .any ops listed= []∧K φ st
 | f+1,listed,φ,st=>(Region.ready .any ops listed= []→K φ st)∧∀i∈Region.ready .any ops listed,∃o,ops[i]?=some o ∧
  ((S.contains i=true∧∃r,jY P st ops o r φ∧CL P ops S K f (listed.setIfInBounds i true) (φ.put o.dst r) st) ∨
   (S.contains i=false∧i8 P ops o φ st (fun r st'=>CL P ops S K f (listed.setIfInBounds i true) (φ.put o.dst r) st')))
theorem O8{ops:Array Oper}{S:List Nat}{K:AF→aA→Prop}:∀(f:Nat) (listed:Array Bool) (φ:AF) (st:aA),CL P ops S K f listed φ st→JO P ops K f listed φ st
 | 0,_,_,_,h=>h
 | f+1,listed,φ,st,h=>by
  refine⟨h.1,fun i hi=>?_⟩
  obtain⟨o,ho,h2⟩:=h.2 i hi
  refine⟨o,ho,?_⟩
  rcases h2 with ⟨_,r,y,k⟩ | ⟨_,k⟩
  · exact WX y (O8 f _ _ _ k)
  · exact tL (fun r s q=>O8 f _ _ _ q) k
def tG(ops:Array Oper)(listed:Array Bool):Prop:=∀j o,ops[j]?=some o→listed.getD j false=true→∀e∈o.after,Region.binds .any e=true→listed.getD e.on false=true
theorem tG.set{ops:Array Oper}{listed:Array Bool}{i:Nat}(h:tG ops listed)(hr:i∈Region.ready .any ops listed):tG ops (listed.setIfInBounds i true):=by
 intro j o ho hl e he hb
 by_cases hji:i=j
 · subst hji
   obtain⟨_,o',ho',dN⟩:=mem_ready.1 hr
   rw[ho'] at ho;cases ho
   exact getD_set_true (dN e he hb)
 · rw[getD_set_ne false hji] at hl
   exact getD_set_true (h j o ho hl e he hb)
def vD(ops:Array Oper):Nat→Nat→Nat→Bool
 | 0,_,_=>false
 | f+1,j,i=>match ops[j]? with
  | some o=>o.after.any fun e=>Region.binds .any e&&(e.on == i||vD ops f e.on i)
  | none=>false
theorem KN{ops:Array Oper}{listed:Array Bool}{i:Nat}(h:tG ops listed)(hi:listed.getD i false=false):∀(f j:Nat) (o:Oper),ops[j]?=some o→vD ops f j i=true→¬ ∀e∈o.after,Region.binds .any e=true→listed.getD e.on false=true
 | 0,j,o,_,hd=>by simp [vD] at hd
 | f+1,j,o,ho,hd=>by
  intro dN
  simp only[vD,ho] at hd
  obtain⟨e,he,h2⟩:=Array.any_eq_true'.1 hd
  simp only[cY,tF,beq_iff_eq] at h2
  obtain⟨hb,h3⟩:=h2
  have hl:=dN e he hb
  rcases h3 with h3 | h3
  · rw[h3,hi] at hl;cases hl
  · cases hk:ops[e.on]? with
    | none=>cases f<;>simp [vD,hk] at h3
    | some o2=>exact KN h hi f e.on o2 hk h3 (h e.on o2 hk hl)
def eQ(st s:aA):Prop:=∀b o,st b=some o→s b=some o
theorem eQ.refl(st:aA):eQ st st:=fun _ _ h=>h
theorem eQ.trans{a b c:aA}(x:eQ a b)(y:eQ b c):eQ a c:=fun q o h=>y q o (x q o h)
def JY(o:Oper):Bool:=match o.op with
 | .alloc _=>true
 | _=>false
theorem aRL{ops:Array Oper}{o:Oper}{φ:AF}{st:aA}{K:AV→aA→Prop}(ho:JY o=true)(e:i8 P ops o φ st K):i8 P ops o φ st (fun r st'=>eQ st st'∧K r st'):=by
 obtain⟨dst,op,type,pos,after,guard⟩:=o
 cases op<;>simp only[JY,iE] at ho
 unfold i8 at e ⊢
 split at e
 · simp only[fL] at e ⊢
   split at e
   · intro b hb
     refine⟨fun q o hq=>?_,e b hb⟩
     rw[aA.aF _ _ (by rintro rfl;rw[hb] at hq;cases hq)]
     exact hq
   · cases e
 · exact⟨eQ.refl _,e⟩
 · cases e
theorem O9{ops:Array Oper}{S:List Nat}{i:Nat}{oi:Oper}{v:AV}{K:AF→aA→Prop}(hi:ops[i]?=some oi)(hS:S.contains i=true) :
 ∀(f:Nat) (listed:Array Bool) (φ:AF) (st:aA),tG ops listed →
  (∀j oj,ops[j]?=some oj→j≠i→listed.getD j true=false→(∀e∈oj.after,Region.binds .any e=true→e.on≠i)→oi.apart ops oj=true) →
  i∈Region.ready .any ops listed→((∀s,jY P s ops oi v φ)∨(jY P st ops oi v φ∧∀j oj,ops[j]?=some oj→listed.getD j true=false→S.contains j=false→∃g,vD ops g j i=true)∨((∀s,eQ st s→jY P s ops oi v φ)∧∀j oj,ops[j]?=some oj→listed.getD j true=false→S.contains j=false→(∃g,vD ops g j i=true)∨JY oj=true)) →
  CL P ops S K f (listed.setIfInBounds i true) (φ.put oi.dst v) st→CL P ops S K (f+1) listed φ st:=by
 intro f
 induction f with
 | zero=>
  intro listed φ st hcl _ hr hy H
  have hy0:jY P st ops oi v φ:=by
   rcases hy with h | h | h
   · exact h st
   · exact h.1
   · exact h.1 st (eQ.refl st)
  refine⟨fun h=>(by rw[h] at hr;cases hr),fun j hj=>?_⟩
  by_cases hji:j=i
  · subst hji;exact⟨oi,hi,.inl ⟨hS,v,hy0,H⟩⟩
  · have:=ready_mono hj hji
    rw[H.1] at this
    cases this
 | succ f ih=>
  intro listed φ st hcl rB hr hy H
  have hy0:jY P st ops oi v φ:=by
   rcases hy with h | h | h
   · exact h st
   · exact h.1
   · exact h.1 st (eQ.refl st)
  refine⟨fun h=>(by rw[h] at hr;cases hr),fun j hj=>?_⟩
  by_cases hji:j=i
  · subst hji;exact⟨oi,hi,.inl ⟨hS,v,hy0,H⟩⟩
  · obtain⟨oj,hoj,h1⟩:=H.2 j (ready_mono hj hji)
    obtain⟨pZ,oj',A8,dN⟩:=mem_ready.1 hj
    have:oj'=oj:=nP (A8.symm.trans hoj)
    subst this
    have hun:=(mem_ready.1 hr).1
    have uF:∀e∈oj'.after,Region.binds .any e=true→e.on≠i:=fun e he hb heq=>by
     have h1:=dN e he hb
     rw[heq,getD_both hun] at h1
     cases h1
    obtain⟨a1,a2,a3⟩:=Oper.apart_spec (rB j oj' hoj hji pZ uF)
    have vH:∀k ok,ops[k]?=some ok→k≠i→(listed.setIfInBounds j true).getD k true=false →
     (∀e∈ok.after,Region.binds .any e=true→e.on≠i)→oi.apart ops ok=true:=fun k ok hk hki hun hno=>by
     refine rB k ok hk hki ?_ hno
     by_cases hjk:j=k
     · subst hjk;exact pZ
     · rw[getD_set_ne true hjk] at hun;exact hun
    have SE:∀k,(listed.setIfInBounds j true).getD k true=false→listed.getD k true=false:=fun k hk=>by
     by_cases hjk:j=k
     · subst hjk;exact pZ
     · rw[getD_set_ne true hjk] at hk;exact hk
    refine⟨oj',hoj,?_⟩
    rcases h1 with ⟨hSj,r,yj,h2⟩ | ⟨hSj,h2⟩
    · refine .inl ⟨hSj,r,(qR φ v a1).1 yj,ih (listed.setIfInBounds j true) (φ.put oj'.dst r) st (hcl.set hj) vH (ready_mono hr (dA hji)) ?_ ?_⟩
      · rcases hy with h | h | h
        · exact .inl fun s=>(qR φ r a3).2 (h s)
        · exact .inr (.inl ⟨(qR φ r a3).2 h.1,fun k ok hk hl hs=>h.2 k ok hk (SE k hl) hs⟩)
        · exact .inr (.inr ⟨fun s hs=>(qR φ r a3).2 (h.1 s hs),fun k ok hk hl hs=>h.2 k ok hk (SE k hl) hs⟩)
      · rw[B7 _ _ hji,←put_comm φ v r a2]
        exact h2
    · rcases hy with hf | ⟨_,hd⟩ | ⟨hx,hd⟩
      · refine .inr ⟨hSj,tL (fun r st' h3=>?_) ((PE φ v a1).1 h2)⟩
        refine ih (listed.setIfInBounds j true) (φ.put oj'.dst r) st' (hcl.set hj) vH (ready_mono hr (dA hji)) (.inl fun s=>(qR φ r a3).2 (hf s)) ?_
        rw[B7 _ _ hji,←put_comm φ v r a2]
        exact h3
      · obtain⟨g,hg⟩:=hd j oj' hoj pZ hSj
        exact absurd dN (KN hcl (getD_both hun) g j oj' hoj hg)
      · rcases hd j oj' hoj pZ hSj with ⟨g,hg⟩ | hal
        · exact absurd dN (KN hcl (getD_both hun) g j oj' hoj hg)
        · refine .inr ⟨hSj,tL (fun r st' h3=>?_) (aRL hal ((PE φ v a1).1 h2))⟩
          refine ih (listed.setIfInBounds j true) (φ.put oj'.dst r) st' (hcl.set hj) vH (ready_mono hr (dA hji)) (.inr (.inr ⟨fun s hs=>(qR φ r a3).2 (hx s (h3.1.trans hs)),fun k ok hk hl hs=>hd k ok hk (SE k hl) hs⟩)) ?_
          rw[B7 _ _ hji,←put_comm φ v r a2]
          exact h3.2
def aOB(ops:Array Oper)(S:List Nat)(listed:Array Bool)(i:Nat):Bool:=(List.range ops.size).all fun j=>listed.getD j true||S.contains j||vD ops ops.size j i
def aOA(ops:Array Oper)(S:List Nat)(listed:Array Bool)(i:Nat):Bool:=(List.range ops.size).all fun j=>listed.getD j true||S.contains j||vD ops ops.size j i||((ops[j]?).map JY).getD false
def aNB(ops:Array Oper)(i:Nat):Bool:=((ops[i]?).map kN).getD false
def uL(ops:Array Oper)(S:List Nat):List (Nat×Nat)→Array Bool→Bool
 | [],listed=>(Region.ready .any ops listed).isEmpty
 | (i,0)::r,listed=>decide (Region.ready .any ops listed= [i])&& !S.contains i&&uL ops S r (listed.setIfInBounds i true)
 | (i,1)::r,listed=>(Region.ready .any ops listed).contains i&&Region.free .any ops listed i&&S.contains i&&uL ops S r (listed.setIfInBounds i true)
 | (i,_)::r,listed=>(Region.ready .any ops listed).contains i&&Region.free .any ops listed i&&S.contains i&&(aOB ops S listed i||(aNB ops i&&aOA ops S listed i))&&uL ops S r (listed.setIfInBounds i true)
def CQ(P:Program)(ops:Array Oper)(K:AF→aA→Prop):List (Nat×Nat)→AF→aA→Prop
 | [],φ,st=>K φ st
 | (i,0)::r,φ,st=>∃o,ops[i]?=some o∧i8 P ops o φ st (fun v st'=>CQ P ops K r (φ.put o.dst v) st')
 | (i,1)::r,φ,st=>∃o,ops[i]?=some o∧∃v,WP P ops o v φ∧CQ P ops K r (φ.put o.dst v) st
 | (i,_)::r,φ,st=>∃o,ops[i]?=some o∧∃v,jY P st ops o v φ∧CQ P ops K r (φ.put o.dst v) st
theorem a5K{t:TypeId}{ok:Bool}{x i r:AV}{st s:aA}(hs:eQ st s)(h:pN P st t ok x i=some r):pN P s t ok x i=some r:=by
 unfold pN at *
 split at h
 · rename_i b n
   cases hb:st b with
   | none=>rw[hb] at h;cases h
   | some o=>rw[hs b o hb,←hb];exact h
 · cases h
theorem a5F{t:TypeId}{x r:AV}{st s:aA}(hs:eQ st s)(h:gY P st t x=some r):gY P s t x=some r:=by
 unfold gY at *
 split at h
 · exact h
 · rename_i b o
   cases hb:st b with
   | none=>rw[hb] at h;split at h<;>simp_all
   | some o=>rw[hs b o hb,←hb];exact h
 · cases h
theorem WV{φ:AF}{o:Oper}{r:AV}{st s:aA}(hs:eQ st s)(h:lR P φ st o=some r):lR P φ s o=some r:=by
 obtain⟨dst,op,type,pos,after,guard⟩:=o
 cases op
 case makeFunc fn a b=>cases fn<;>exact h
 case call c=>
  obtain⟨callee,args,ats⟩:=c
  cases callee
  case builtin b=>cases b<;>exact h
  all_goals exact h
 case load=>exact a5F hs h
 case lookup=>exact a5K hs h
 all_goals exact h
theorem aRQ{ops:Array Oper}{o:Oper}{v:AV}{φ:AF}{st s:aA}(hp:kN o=true)(hs:eQ st s)(h:jY P st ops o v φ):jY P s ops o v φ:=by
 rcases h with ⟨h1,h2⟩ | h
 · refine .inl ⟨h1,?_⟩
   rw[tM hp] at h2 ⊢
   cases hv:lR P φ st o with
   | none=>rw[hv] at h2;cases h2
   | some r=>
    rw[hv] at h2
    rw[WV hs hv]
    exact⟨h2.1,rfl⟩
 · exact .inr h
theorem GF{ops:Array Oper}{S:List Nat}{K:AF→aA→Prop}:∀(p:List (Nat×Nat)) (listed:Array Bool) (φ:AF) (st:aA),tG ops listed→uL ops S p listed=true→CQ P ops K p φ st→CL P ops S K p.length listed φ st
 | [],listed,φ,st,_,hB,h=>⟨by simpa [uL] using hB,h⟩
 | (i,0)::r,listed,φ,st,hcl,hB,h=>by
  simp only[uL,cY,bM,gZ] at hB
  obtain⟨o,ho,h'⟩:=h
  have hr:i∈Region.ready .any ops listed:=by rw[hB.1.1];simp
  refine⟨fun h0=>(by rw[hB.1.1] at h0;cases h0),fun j hj=>?_⟩
  rw[hB.1.1] at hj
  obtain rfl:j=i:=by simpa using hj
  exact⟨o,ho,.inr ⟨hB.1.2,tL (fun v st' q=>GF r _ _ _ (hcl.set hr) hB.2 q) h'⟩⟩
 | (i,1)::r,listed,φ,st,hcl,hB,h=>by
  simp only[uL,cY] at hB
  obtain⟨⟨⟨hr,hf⟩,hS⟩,hB'⟩:=hB
  obtain⟨o,ho,v,hv,h'⟩:=h
  have hr':i∈Region.ready .any ops listed:=by simpa using hr
  exact O9 ho hS _ listed φ st hcl (Region.free_spec ho hf) hr' (.inl hv) (GF r _ _ _ (hcl.set hr') hB' h')
 | (i,k+2)::r,listed,φ,st,hcl,hB,h=>by
  simp only[uL,cY] at hB
  obtain⟨⟨⟨⟨hr,hf⟩,hS⟩,hd⟩,hB'⟩:=hB
  obtain⟨o,ho,v,hv,h'⟩:=h
  have hr':i∈Region.ready .any ops listed:=by simpa using hr
  rw[tF] at hd
  rcases hd with hd | hd
  · refine O9 ho hS _ listed φ st hcl (Region.free_spec ho hf) hr' (.inr (.inl ⟨hv,fun j oj hj hl hs=>⟨ops.size,?_⟩⟩)) (GF r _ _ _ (hcl.set hr') hB' h')
    simp only[aOB,fU,v6] at hd
    have:=hd j (FM.1 hj).1
    simpa only[hl,hs,rS] using this
  · rw[cY] at hd
    obtain⟨hp,hd⟩:=hd
    simp only[aNB,ho,qM,FU] at hp
    refine O9 ho hS _ listed φ st hcl (Region.free_spec ho hf) hr' (.inr (.inr ⟨fun s hs=>aRQ hp hs hv,fun j oj hj hl hs=>?_⟩)) (GF r _ _ _ (hcl.set hr') hB' h')
    simp only[aOA,fU,v6] at hd
    have:=hd j (FM.1 hj).1
    simp only[hl,hs,rS,hj,qM,FU,tF] at this
    exact this.imp (fun h=>⟨ops.size,h⟩) id
theorem aSD{N:Nat}{id:Nat}{ops:Array Oper}{Q:Exit→AF→aA→Prop}{φ:AF}{st:aA}(p:List (Nat×Nat))(S:List Nat)(hm:P.follows .mixedOrders=true)(hok:qF N ops=true)(hl:p.length=ops.size)(hB:uL ops S p (Array.replicate ops.size false)=true)
 (h:CQ P ops (Q .normal) p φ st):fR P N (.region id ops true) Q φ st:=by
 intro a w R
 refine wp_region_any hm ?_
 have R0:Rel N a { w with drawn:=w.drawn+1 } φ st:=⟨R.size,R.defers,R.frame,R.store⟩
 have:=O8 _ _ _ _ (GF p _ φ st (fun j o _ hl=>(by rw[Q9] at hl;cases hl)) hB h)
 rw[hl] at this
 exact JP (yW hok) (xG hok) (w0:=w) (st0:=st) (fun φ' st' a' w' k R' T s=>⟨φ',st',R',T,s,k⟩) _ _ _ _ _ _ this R0 (bT.refl _ _) ⟨rfl,rfl,rfl⟩
theorem a5J{t:TypeId}{ok:Bool}{x i r:AV}(h:pN P dJ t ok x i=some r)(st:aA):pN P st t ok x i=some r:=by
 unfold pN at *
 split at h
 · simp only[dJ] at h;cases h
 · cases h
theorem a5E{t:TypeId}{x r:AV}(h:gY P dJ t x=some r)(st:aA):gY P st t x=some r:=by
 unfold gY at *
 split at h
 · exact h
 · split at h
   · rename_i h1;simp only[dJ] at h1;cases h1
   · cases h
 · cases h
theorem aRN{φ:AF}{o:Oper}{r:AV}(h:lR P φ dJ o=some r)(st:aA):lR P φ st o=some r:=by
 obtain⟨dst,op,type,pos,after,guard⟩:=o
 cases op
 case makeFunc fn a b=>cases fn<;>exact h
 case call c=>
  obtain⟨callee,args,ats⟩:=c
  cases callee
  case builtin b=>cases b<;>exact h
  all_goals exact h
 case load=>exact a5E h st
 case lookup=>exact a5J h st
 all_goals exact h
def jX(P:Program)(ops:Array Oper)(K:AF→aA→Prop):List (Nat×Nat)→AF→aA→Prop
 | [],φ,st=>K φ st
 | (i,0)::r,φ,st=>match ops[i]? with
  | none=>False
  | some o=>bA P [] ops [o] (fun φ' st'=>jX P ops K r φ' st') φ st
 | (i,1)::r,φ,st=>match ops[i]? with
  | none=>False
  | some o=>if kN o=true then bA P [] ops [o] (fun φ' _=>jX P ops K r φ' st) φ dJ else
   match o.guard,o.op with
   | none,.call { callee:=.value f,args,.. }=>∃v,(∀s,tR P (φ.eval f) (args.toList.map φ.eval) s (fun r' s'=>r'=v∧s'=s))∧jX P ops K r (φ.put o.dst v) st
   | _,_=>False
 | (i,_)::r,φ,st=>match ops[i]? with
  | none=>False
  | some o=>if kN o=true then bA P [] ops [o] (fun φ' _=>jX P ops K r φ' st) φ st else
   match o.guard,o.op with
   | none,.call { callee:=.value f,args,.. }=>∃v,tR P (φ.eval f) (args.toList.map φ.eval) st (fun r' s'=>r'=v∧s'=st)∧jX P ops K r (φ.put o.dst v) st
   | _,_=>False
theorem wE{ops:Array Oper}{K:AF→aA→Prop}:∀(p:List (Nat×Nat)) (φ:AF) (st:aA),jX P ops K p φ st→CQ P ops K p φ st
 | [],_,_,h=>h
 | (i,0)::r,φ,st,h=>by
  simp only[jX] at h
  split at h
  · exact h.elim
  · rename_i o ho
    refine⟨o,ho,?_⟩
    simp only[bA] at h
    unfold i8
    split at h
    · rename_i hg
      rw[hg]
      exact AA (fun v s q=>wE r _ _ q) h
    · rename_i hg
      rw[hg]
      exact wE r _ _ h
    · exact h.elim
 | (i,1)::r,φ,st,h=>by
  simp only[jX] at h
  split at h
  · exact h.elim
  · rename_i o ho
    split at h
    · rename_i hp
      simp only[bA] at h
      split at h
      · rename_i hg
        rw[tM hp] at h
        split at h
        · rename_i v hv
          exact⟨o,ho,v,fun s=>.inl ⟨hg,by rw[tM hp,aRN hv s];exact⟨rfl,rfl⟩⟩,wE r _ _ h⟩
        · exact h.elim
      · rename_i hg
        exact⟨o,ho,.undef,fun s=>.inr ⟨hg,rfl⟩,wE r _ _ h⟩
      · exact h.elim
    · split at h
      · rename_i f args ats hg hop
        obtain⟨v,h1,h2⟩:=h
        refine⟨o,ho,v,fun s=>.inl ⟨by simp only[iZ,hg],?_⟩,wE r _ _ h2⟩
        simp only[fL,hop]
        exact h1 s
      · exact h.elim
 | (i,k+2)::r,φ,st,h=>by
  simp only[jX] at h
  split at h
  · exact h.elim
  · rename_i o ho
    split at h
    · rename_i hp
      simp only[bA] at h
      split at h
      · rename_i hg
        rw[tM hp] at h
        split at h
        · rename_i v hv
          exact⟨o,ho,v,.inl ⟨hg,by rw[tM hp,hv];exact⟨rfl,rfl⟩⟩,wE r _ _ h⟩
        · exact h.elim
      · rename_i hg
        exact⟨o,ho,.undef,.inr ⟨hg,rfl⟩,wE r _ _ h⟩
      · exact h.elim
    · split at h
      · rename_i f args ats hg hop
        obtain⟨v,h1,h2⟩:=h
        refine⟨o,ho,v,.inl ⟨by simp only[iZ,hg],?_⟩,wE r _ _ h2⟩
        simp only[fL,hop]
        exact h1
      · exact h.elim
end
def S8(P:Program)(ops:Array Oper)(K:AF→aA→Prop)(r:List (Nat×Nat))(φ:AF)(st:aA):Prop:=jX P ops K r φ st
def H3(P:Program)(ops:Array Oper)(K:AF→aA→Prop)(r:List (Nat×Nat))(st:aA)(φ:AF)(_:aA):Prop:=jX P ops K r φ st
def BL(P:Program)(ops:Array Oper)(K:AF→aA→Prop)(r:List (Nat×Nat))(φ:AF)(dst:Option Tmp)(st:aA)(v:AV):Prop:=jX P ops K r (φ.put dst v) st
def GT(P:Program)(f:AV)(args:List AV)(K:AV→Prop):Prop:=∃v,(∀s,tR P f args s (fun r' s'=>r'=v∧s'=s))∧K v
def EL(P:Program)(ops:Array Oper)(K:AF→aA→Prop)(r:List (Nat×Nat))(φ:AF)(st:aA):Nat→Option Oper→Prop
 | 0,some o=>bA P [] ops [o] (S8 P ops K r) φ st
 | 1,some o=>if kN o=true then bA P [] ops [o] (H3 P ops K r st) φ dJ else
  match o.guard,o.op with
  | none,.call { callee:=.value f,args,.. }=>GT P (φ.eval f) (args.toList.map φ.eval) (BL P ops K r φ o.dst st)
  | _,_=>False
 | _,some o=>if kN o=true then bA P [] ops [o] (H3 P ops K r st) φ st else
  match o.guard,o.op with
  | none,.call { callee:=.value f,args,.. }=>yH P (φ.eval f) (args.toList.map φ.eval) st (BL P ops K r φ o.dst st)
  | _,_=>False
 | _,none=>False
theorem aGG{P:Program}{ops:Array Oper}{K:AF→aA→Prop}{φ:AF}{st:aA}:jX P ops K [] φ st=K φ st:=rfl
theorem aGH{P:Program}{l:List Oper}{K:AF→aA→Prop}{φ:AF}{st:aA}{i b:Nat}{r:List (Nat×Nat)}:jX P l.toArray K ((i,b)::r) φ st=EL P l.toArray K r φ st b l[i]?:=by
 match b with
 | 0=>simp only[jX,x7];cases l[i]?<;>rfl
 | 1=>simp only[jX,x7];cases l[i]?<;>rfl
 | b+2=>simp only[jX,x7];cases l[i]?<;>rfl
theorem aGL{P:Program}{ops:Array Oper}{K:AF→aA→Prop}{φ:AF}{st:aA}{r:List (Nat×Nat)}{o:Oper}:EL P ops K r φ st 0 (some o)=bA P [] ops [o] (S8 P ops K r) φ st:=rfl
theorem aGM{P:Program}{ops:Array Oper}{K:AF→aA→Prop}{φ:AF}{st:aA}{r:List (Nat×Nat)}{o:Oper}:EL P ops K r φ st 1 (some o)=if kN o=true then bA P [] ops [o] (H3 P ops K r st) φ dJ else
      match o.guard,o.op with
      | none,.call { callee:=.value f,args,.. }=>GT P (φ.eval f) (args.toList.map φ.eval) (BL P ops K r φ o.dst st)
      | _,_=>False:=rfl
theorem aGN{P:Program}{ops:Array Oper}{K:AF→aA→Prop}{φ:AF}{st:aA}{r:List (Nat×Nat)}{o:Oper}:EL P ops K r φ st 2 (some o)=if kN o=true then bA P [] ops [o] (H3 P ops K r st) φ st else
      match o.guard,o.op with
      | none,.call { callee:=.value f,args,.. }=>yH P (φ.eval f) (args.toList.map φ.eval) st (BL P ops K r φ o.dst st)
      | _,_=>False:=rfl
theorem aGK{P:Program}{ops:Array Oper}{K:AF→aA→Prop}{φ:AF}{st:aA}{r:List (Nat×Nat)}:S8 P ops K r φ st=jX P ops K r φ st:=rfl
theorem aGJ{P:Program}{ops:Array Oper}{K:AF→aA→Prop}{φ:AF}{st s:aA}{r:List (Nat×Nat)}:H3 P ops K r st φ s=jX P ops K r φ st:=rfl
theorem aGI{P:Program}{ops:Array Oper}{K:AF→aA→Prop}{φ:AF}{st:aA}{r:List (Nat×Nat)}{dst:Option Tmp}{v:AV}:BL P ops K r φ dst st v=jX P ops K r (φ.put dst v) st:=rfl
theorem QB{P:Program}{g:FuncId}{args:List AV}{r:AV}{K:AV→Prop}(x:∀st,aD P g args st (fun r' st'=>r'=r∧st'=st))(h:K r):GT P (.func g []) args K:=⟨r,fun st=>by show aD P g (args++ []) st _;rw[eU];exact x st,h⟩
@[congr] theorem bB3 {P:Program} {ops:Array Oper} {K:AF→aA→Prop} {p:List (Nat×Nat)} {φ φ':AF} {st st':aA} (h1:φ=φ') (h2:st=st'):jX P ops K p φ st=jX P ops K p φ' st':=by rw[h1,h2]
@[congr] theorem bCH {P:Program} {ops:Array Oper} {K:AF→aA→Prop} {p:List (Nat×Nat)} {φ φ':AF} {st st':aA} {b:Nat} {o o':Option Oper} (h1:φ=φ') (h2:st=st') (h3:o=o'):EL P ops K p φ st b o=EL P ops K p φ' st' b o':=by rw[h1,h2,h3]
@[congr] theorem bCG {P:Program} {ops:Array Oper} {K:AF→aA→Prop} {p:List (Nat×Nat)} {φ φ':AF} {dst:Option Tmp} {st st':aA} {v v':AV} (h1:φ=φ') (h2:st=st') (h3:v=v'):BL P ops K p φ dst st v=BL P ops K p φ' dst st' v':=by rw[h1,h2,h3]
@[congr] theorem bB7 {P:Program} {f f':AV} {args args':List AV} {K:AV→Prop} (h0:f=f') (h1:args=args'):GT P f args K=GT P f' args' K:=by rw[h0,h1]
theorem zx5{P:Program}{N:Nat}{id:Nat}{l:List Oper}{Q:Exit→AF→aA→Prop}{φ:AF}{st:aA}(p:List (Nat×Nat))(S:List Nat)(hm:P.follows .mixedOrders=true)(hok:qF N l.toArray=true)(hl:p.length=l.length)(hB:uL l.toArray S p (Array.replicate l.length false)=true)
 (h:jX P l.toArray (Q .normal) p φ st):fR P N (.region id l.toArray true) Q φ st:=
 aSD p S hm hok (by simpa using hl) (by simpa using hB) (wE p φ st h)
theorem PH{P:Program}{t:TypeId}{ag:Bool}{w bytes:Nat}{zs:List AV}{s:aA}{b:Nat}{l xs:List AV}{x:AV}{K:AV→aA→Prop}
 (hI:eI P t=some (ag,w)) (hB:eB P t=some bytes) (hZ:eZ P t=some zs) (hz:zs.length=w) (hx:z7 x=some xs) (eW:tO w xs) (hw:∀e∈l,e.width=w) (hb:l≠[]→s b=some (.cells (l.flatMap AV.cells)))
 (h1:(l.length+xs.length)*bytes≤140737488355328) (h2:l.length+xs.length≤9223372036854775807)
 (hK:∀b' s',(l++xs≠[]→s' b'=some (.cells ((l++xs).flatMap AV.cells)))→(l++xs≠[]→b'=b∧l≠[]∨s b'=none)→(∀q,(l++xs≠[]→q≠b')→(l≠[]→q≠b)→s' q=s q)→(l≠[]→b'≠b→s' b=none)→K (bQ w b' (l++xs)) s'):kF P t s (bQ w b l) x K:=by
 unfold kF
 rw[hI,hB,hZ,hx]
 refine⟨hz,eW,?_⟩
 cases l with
 | nil=>
  show _∧_∧_∧_∧_
  refine⟨by simpa using h1,by simpa using h2,by simp,?_,?_⟩
  · rintro rfl
    have:=hK b s (by simp) (by simp) (fun _ _ _=>rfl) (by simp)
    simpa [bQ] using this
  · intro hne b' hb'
    have:=hK b' (s.aC b' (.cells (xs.flatMap AV.cells))) (fun _=>by rw[aA.aJ];simp) (fun _=>.inr hb') (fun q h _=>aA.aF _ _ (h (by simpa using hne))) (by simp)
    rw[eE,r7 hne] at this
    simpa using this
 | cons y l=>
  have hb:=hb (by simp)
  show w=w∧_∧_∧_
  refine⟨rfl,h1,h2,?_⟩
  have hfl:((y::l).flatMap AV.cells).length=(y::l).length*w:=mD hw
  rw[hb]
  refine⟨by rw[hfl];exact cZ _,?_,?_⟩
  · have:=hK b (s.aC b (.cells ((y::l++xs).flatMap AV.cells))) (fun _=>aA.aJ _ _ _) (fun _=>.inl ⟨rfl,by simp⟩) (fun q h _=>aA.aF _ _ (h (by simp))) (fun _ h=>absurd rfl h)
    rw[r7 (by simp),vZ,dS] at this
    rw[←hfl,eD]
    exact this
  · intro b' hb'
    have hne:b'≠b:=by rintro rfl;rw[hb] at hb';cases hb'
    have:=hK b' ((s.erase b).aC b' (.cells ((y::l++xs).flatMap AV.cells))) (fun _=>aA.aJ _ _ _) (fun _=>.inr hb') (fun q h h'=>by
     rw[aA.aF _ _ (h (by simp))]
     simp only[aA.erase,h' (by simp),cM]) (fun _ _=>by rw[aA.aF _ _ (dA hne)];exact aA.Z5 _ _)
    rw[r7 (by simp),vZ,dS] at this
    rw[←hfl,eD]
    exact this
def kP(es:List AV)(st:aA)(i:Nat)(os:List AV)(bs:List Nat)(b:Nat)(s:aA):Prop:=
 os.length=i∧aV s (es.take i) os bs∧bs.Nodup∧(∀q∈bs,st q=none)∧(os≠[]→st b=none∧b∉bs∧s b=some (.cells (os.flatMap AV.cells)))∧∀q,q∉bs→(os≠[]→q≠b)→s q=st q
theorem kP.start{es:List AV}{st:aA}{b:Nat}:kP es st 0 [] [] b st:=⟨rfl,by simp [aV],mJ,by simp,by simp,fun _ _ _=>rfl⟩
theorem HW{b x:Nat}{l:List AV}:x∈pQ b l↔x=b∧l≠[]:=by cases l<;>simp [pQ]
theorem kP.done{es:List AV}{st:aA}{n w:Nat}{os:List AV}{bs:List Nat}{b:Nat}{s:aA}(h:kP es st n os bs b s)(hl:es.length=n)(hw:∀e∈es,e.width=w):Made st (.slice es) (bQ w b os) s:=by
 obtain⟨h1,h2,h3,h4,h5,h6⟩:=h
 rw[m9 (by omega)] at h2
 refine⟨pQ b os++bs,?_,fun q hq=>?_,?_,fun q hq=>?_⟩
 · rw[mA]
   refine⟨by cases os<;>simp [pQ],h3,fun x hx y hy e=>?_⟩
   obtain⟨rfl,hne⟩:=HW.1 hx
   exact(h5 hne).2.1 (e▸hy)
 · rcases eL.1 hq with hq | hq
   · obtain⟨rfl,hne⟩:=HW.1 hq
     exact(h5 hne).1
   · exact h4 q hq
 · cases os with
   | nil=>
    have:es= []:=by simpa using h2.length.symm
    subst this
    simp only[aV] at h2
    simp only[aS,bQ,pQ,h2.2]
    exact .inl ⟨trivial,trivial,rfl⟩
   | cons o os=>
    simp only[aS,bQ,pQ]
    refine .inr ⟨b,bs,o::os,w,by rw[h2.length],rfl,(h5 (by simp)).2.2,h2,hw⟩
 · simp only[eL,HW,jI,not_and] at hq
   exact h6 q hq.2 (fun hne e=>hq.1 e hne)
theorem aV.OI{st:aA}{w:Nat}:∀ {as os:List AV} {bs:List Nat},aV st as os bs→(∀e∈as,e.width=w)→∀o∈os,o.width=w
 | [],os,bs,x,_=>by simp only[aV] at x;rw[x.1];simp
 | a::as,os,bs,x,h=>by
  simp only[aV] at x
  obtain⟨o,os',b1,b2,rfl,rfl,x1,x2⟩:=x
  intro q hq
  rcases cG.1 hq with rfl | hq
  · rw[(aS.shape x1).2.1,h a (by simp)]
  · exact aV.OI x2 (fun e he=>h e (by simp [he])) q hq
theorem aS.QD{st:aA}{e r:AV}{bs:List Nat}{w:Nat}(m3:aS st e r bs)(hwe:e.width=w)(hst:e.cells.all AV.storable=true):r.width=w∧r.cells.length=w∧r.cells.all AV.storable=true:=by
 refine⟨(aS.shape m3).2.1.trans hwe,by rw[wK,(aS.shape m3).2.1,hwe],?_⟩
 cases e<;>simp only[aS] at m3<;>try exact m3.elim
 case int=>rw[m3.1];try rfl
 case bool=>rw[m3.1];try rfl
 case str=>rw[m3.1];try rfl
 case slice=>rcases m3 with ⟨_,rfl,_⟩ | ⟨_,_,_,_,rfl,_⟩<;>rfl
 case agg cs=>
  obtain⟨q,rfl,m3⟩:=m3
  refine(aS.PJ m3 fun c hc=>?_).1
  have hst:cs.all AV.storable=true:=hst
  have:=fU.1 hst c hc
  cases c<;>first | rfl | (simp [AV.storable] at this)
theorem kP.step{es:List AV}{st:aA}{i:Nat}{os:List AV}{bs bx:List Nat}{b x b':Nat}{s s2 s':aA}{o:AO}{e r:AV}(h:kP es st i os bs b s)(hx:s x=none)(he:es[i]?=some e)
 (m1:bx.Nodup) (m2:∀q∈bx,(s.aC x o) q=none) (m3:aS s2 e r bx) (m4:∀q,q∉bx→s2 q=(s.aC x o) q)
 (k1:s' b'=some (.cells ((os++ [r]).flatMap AV.cells))) (k2:b'=b∧os≠[]∨s2 b'=none) (k3:∀q,q≠b'→(os≠[]→q≠b)→s' q=s2 q) (k4:os≠[]→b'≠b→s' b=none) :
 kP es st (i+1) (os++ [r]) (bs++bx) b' (s'.erase x):=by
 obtain⟨h1,h2,h3,h4,h5,h6⟩:=h
 have yR:=aV.gK _ _ _ h2
 have hi:i<es.length:=(fC.1 he).1
 have w8:∀q∈bs,s q≠none:=fun q hq=>by obtain⟨cs,e1,_⟩:=yR.2 q hq;rw[e1];simp
 have a4C:x∉bs:=fun hq=>w8 x hq hx
 have hxb:os≠[]→x≠b:=fun hne e=>by have:=(h5 hne).2.2;rw[←e,hx] at this;cases this
 have SG:x∉bx:=fun hq=>by have:=m2 x hq;rw[aA.aJ] at this;cases this
 have hbx:∀q∈bx,s q=none:=fun q hq=>by
  have:=m2 q hq
  have hne:q≠x:=fun e=>SG (e▸hq)
  rwa [aA.aF _ _ hne] at this
 have kS:∀q∈bs,q∉bx:=fun q hq hq'=>w8 q hq (hbx q hq')
 have aKZ:os≠[]→b∉bx:=fun hne hq=>by have:=hbx b hq;rw[(h5 hne).2.2] at this;cases this
 have a31:s2 x=some o:=by rw[m4 x SG,aA.aJ]
 have hs2:∀q,q∉bx→q≠x→s2 q=s q:=fun q h1 h2=>by rw[m4 q h1,aA.aF _ _ h2]
 have RL:b'≠x:=by
  rcases k2 with ⟨rfl,hne⟩ | hn
  · exact dA (hxb hne)
  · rintro rfl;rw[a31] at hn;cases hn
 have LG:b'∉bx:=by
  rcases k2 with ⟨rfl,hne⟩ | hn
  · exact aKZ hne
  · intro hq
    obtain⟨cs,e1,_⟩:=(aS.gK _ _ _ m3).2.2 b' hq
    rw[e1] at hn;cases hn
 have RK:b'∉bs:=by
  rcases k2 with ⟨rfl,hne⟩ | hn
  · exact(h5 hne).2.1
  · intro hq
    rw[hs2 b' LG RL] at hn
    exact w8 b' hq hn
 have a34:st b'=none:=by
  rcases k2 with ⟨rfl,hne⟩ | hn
  · exact(h5 hne).1
  · rw[hs2 b' LG RL] at hn
    by_cases hbb:os≠[]∧b'=b
    · rw[hbb.2];exact(h5 hbb.1).1
    · rw[←h6 b' RK (fun hne e=>hbb ⟨hne,e⟩)];exact hn
 have a2J:os≠[]→∀q∈bs,q≠b:=fun hne q hq e=>(h5 hne).2.1 (e▸hq)
 have a3A:∀q∈bs,(s'.erase x) q=s q:=fun q hq=>by
  have hqx:q≠x:=fun e=>a4C (e▸hq)
  simp only[aA.erase,hqx,cM]
  rw[k3 q (fun e=>RK (e▸hq)) (fun hne=>a2J hne q hq),hs2 q (kS q hq) hqx]
 have a3B:∀q∈bx,(s'.erase x) q=s2 q:=fun q hq=>by
  have hqx:q≠x:=fun e=>SG (e▸hq)
  simp only[aA.erase,hqx,cM]
  exact k3 q (fun e=>LG (e▸hq)) (fun hne e=>aKZ hne (e▸hq))
 refine⟨by simp [h1],?_,mA.2 ⟨h3,m1,fun a ha c hc e=>kS a ha (e▸hc)⟩,fun q hq=>?_,fun _=>⟨a34,?_,?_⟩,fun q hq hqb=>?_⟩
 · rw[fN,he]
   exact aV.snoc h2 a3A (aS.aU _ _ _ a3B m3)
 · rcases eL.1 hq with hq | hq
   · exact h4 q hq
   · by_cases hbb:os≠[]∧q=b
     · rw[hbb.2];exact(h5 hbb.1).1
     · by_cases hqs:q∈bs
       · exact h4 q hqs
       · rw[←h6 q hqs (fun hne e=>hbb ⟨hne,e⟩)];exact hbx q hq
 · intro hq
   rcases eL.1 hq with hq | hq
   · exact RK hq
   · exact LG hq
 · simp only[aA.erase,RL,cM]
   exact k1
 · simp only[eL,jI] at hq
   have aLI:=hqb (by simp)
   by_cases hqx:q=x
   · subst hqx
     simp only[aA.erase,dV]
     rw[←h6 q hq.1 hxb,hx]
   · simp only[aA.erase,hqx,cM]
     by_cases hbb:os≠[]∧q=b
     · rw[hbb.2,k4 hbb.1 (fun e=>aLI (hbb.2.trans e.symm)),(h5 hbb.1).1]
     · rw[k3 q aLI (fun hne e=>hbb ⟨hne,e⟩),hs2 q hq.2 hqx]
       exact h6 q hq.1 (fun hne e=>hbb ⟨hne,e⟩)
theorem aD.done{P:Program}{g:FuncId}{args:List AV}{st:aA}{r:AV}(x:aD P g args st (fun r' st'=>r'.soft=r∧aO st' st)):aD P g args st (fun r' st'=>r'=r∧st'=st):=
 aD.oS (aD.soft x)
theorem aD.oT{P:Program}{g:FuncId}{args:List AV}{st:aA}{Q:AV→aA→Prop}(x:aD P g args st (fun r st'=>∃s2,aO st' s2∧Q r s2)):aD P g args st Q:=
 x.lN fun r _ ⟨s2,D,q⟩=>⟨r,s2,D.uV,D.lN r,q⟩
theorem vP{cs:List AV}:(AV.agg cs).soft=.agg (cs.map AV.soft):=by simp only[AV.soft,BR]
theorem xM{cs:List AV}:(AV.tup cs).soft=.tup (cs.map AV.soft):=by simp only[AV.soft,BR]
theorem y8{k:IntKind}{n:Int}:(AV.int k n).soft=.int k n:=rfl
theorem xL{b:Bool}:(AV.bool b).soft=.bool b:=rfl
theorem BS{s:ByteArray}:(AV.str s).soft=.str s:=rfl
theorem MP{es:List AV}:(AV.slice es).soft=.slice es:=rfl
theorem ID{es:List AV}:(AV.fslice es).soft=.slice es:=rfl
def wT(b:Nat)(l:List AV):List (Nat×AV)→List (Nat×AV)
 | []=>[]
 | p::r=>(p.1,p.2.fin b l)::wT b l r
theorem aD6{b:Nat}{l:List AV}:wT b l []= []:=rfl
theorem aD7{b d:Nat}{l:List AV}{v:AV}{r:List (Nat×AV)}:wT b l ((d,v)::r)=(d,v.fin b l)::wT b l r:=rfl
theorem a1M{b:Nat}{l:List AV}:AV.junk.fin b l=.junk:=by unfold AV.fin;split<;>rfl
theorem lF{w b:Nat}{l:List AV}:(bQ w b l).fin b l=.slice l:=nT
theorem a49{st:aA}(b:Nat)(l:List AV)(hb:l≠[]→st b=none)(hj:∀e∈l,e.bV=false)(hE:jU l)(L:List (Nat×AV)):gN (kJ L) (bK st b l) (kJ (wT b l L)) st:=by
 have key:∀L d,kJ (wT b l L) d=(kJ L d).fin b l:=by
  intro L
  induction L with
  | nil=>intro d;exact a1M.symm
  | cons p r ih=>
   obtain⟨e,v⟩:=p
   intro d
   show((kJ (wT b l r)).aC e (v.fin b l)) d=(((kJ r).aC e v) d).fin b l
   simp only[AF.aC]
   split
   · rfl
   · exact ih d
 intro h tmps S F
 cases l with
 | nil=>exact⟨S,bT.refl _ _,fun d=>by rw[key];exact(F d).soft⟩
 | cons y l=>
  have hst:(bK st b (y::l)) b=some (.cells ((y::l).flatMap AV.cells)):=aA.aJ _ _ _
  have he:(bK st b (y::l)).erase b=st:=aA.AL st b _ (hb (by simp))
  have L1:gN (kJ L) (bK st b (y::l)) (fun d=>(kJ L d).fz b (y::l)) st:=by
   have:=gN.freeze (φ:=kJ L) hst hj hE
   rwa [he] at this
  obtain⟨a1,a2,a3⟩:=L1 h tmps S F
  exact⟨a1,a2,fun d=>by rw[key];exact(a3 d).soft⟩
theorem vY{P:Program}{N:Nat}{c:Code}{Q:Exit→AF→aA→Prop}{φ:AF}{st:aA}{α σ:Type}(mt:List Nat)(aU:List Nat)(l:List α)(w d:Nat)(acc:Nat→σ→List AV)(inv:Nat→σ→Prop)(ch:Nat→σ→List (Nat×AV))(so:Nat→σ→aA)
 (hw:∀i s,inv i s→∀e∈acc i s,e.bV=false∧e.width=w)
 (hok:codeOk N c=true)
 (h0:∃s b,inv 0 s∧(acc 0 s≠[]→so 0 s b=none)∧aP φ st (kU φ aU ((d,bQ w b (acc 0 s))::ch 0 s)) (bK (so 0 s) b (acc 0 s)))
 (h1:∀i x s b,l[i]?=some x→i<l.length→((i:Int)<(l.length:Int))→l.drop i=x::l.drop (i+1)→inv i s→(acc i s≠[]→so i s b=none) →
  gH P N mt c (qA (fun φ' st'=>∃s' b',inv (i+1) s'∧(acc (i+1) s'≠[]→so (i+1) s' b'=none)∧aP φ' st' (kU φ aU ((d,bQ w b' (acc (i+1) s'))::ch (i+1) s')) (bK (so (i+1) s') b' (acc (i+1) s'))) Q) (wW (kU φ aU ((d,bQ w b (acc i s))::ch i s))) (bK (so i s) b (acc i s)))
 (h2:∀s b,¬((l.length:Int)<(l.length:Int))→inv l.length s→gH P N mt c (qA (fun _ _=>False) Q) (wW (wT b (acc l.length s) (kU φ aU ((d,bQ w b (acc l.length s))::ch l.length s)))) (so l.length s)):fR P N (.loop c) Q φ st:=by
 have lN:∀(k:AF→aA→Prop) (φ0:AF) (st0:aA) (k':AF→aA→Prop),(∀φ' st',k' φ' st'→k φ' st') →
  fR P N c (qA k' Q) φ0 st0→fR P N c (qA k Q) φ0 st0:=by
  intro k φ0 st0 k' hk hr a w R
  refine wp_mono (hr a w R) ?_
  rintro e a' w' ⟨φ',st',R',T,sm,q⟩
  refine⟨φ',st',R',T,sm,?_⟩
  cases e with
  | normal=>exact hk _ _ q
  | _=>exact q
 refine PO (α:=Nat×σ×Nat) (fun p=>p.1≤l.length∧inv p.1 p.2.1∧(acc p.1 p.2.1≠[]→so p.1 p.2.1 p.2.2=none)) (fun p=>kJ (kU φ aU ((d,bQ w p.2.2 (acc p.1 p.2.1))::ch p.1 p.2.1))) (fun p=>bK (so p.1 p.2.1) p.2.2 (acc p.1 p.2.1)) (fun p=>l.length - p.1) ?_ ?_
 · obtain⟨s,b,hs,hb,hl⟩:=h0
   exact⟨(0,s,b),⟨nO _,hs,hb⟩,hl⟩
 · rintro⟨i,s,b⟩ ⟨hi,hs,hb⟩
   simp only at hi hs hb ⊢
   rcases mB i l.length with hlt | hge
   · refine lN _ _ _ _ ?_ (nD mt hok (h1 i l[i] s b (eK hlt) hlt (by omega) (oM hlt) hs hb))
     rintro φ' st' ⟨s',b',h1',h2',h3'⟩
     exact⟨(i+1,s',b'),by simp only;omega,⟨by simp only;omega,h1',h2'⟩,h3'⟩
   · obtain rfl:i=l.length:=by omega
     refine fR.less (a49 b (acc l.length s) hb (fun e he=>(hw _ s hs e he).1) ⟨w,fun e he=>(hw _ s hs e he).2⟩ _) ?_
     refine lN _ _ _ _ ?_ (nD mt hok (h2 s b (by omega) hs))
     exact fun _ _ h=>h.elim
section
variable {P:Program}
def Q3(ops:Array Oper)(S:List Nat)(j:Nat):Bool:=S.all fun i=>vD ops ops.size j i
def wB(P:Program)(ops:Array Oper)(S:List Nat)(s0:aA)(K:AF→aA→Prop):Nat→Array Bool→AF→aA→Prop
 | 0,listed,φ,st=>Region.ready .any ops listed= []∧K φ st
 | f+1,listed,φ,st=>(Region.ready .any ops listed= []→K φ st)∧∀i∈Region.ready .any ops listed,∃o,ops[i]?=some o ∧
  ((S.contains i=true∧∃r,jY P st ops o r φ∧wB P ops S s0 K f (listed.setIfInBounds i true) (φ.put o.dst r) st) ∨
   (S.contains i=false∧i8 P ops o φ st (fun r st'=>(Q3 ops S i=true∨eQ s0 st')∧wB P ops S s0 K f (listed.setIfInBounds i true) (φ.put o.dst r) st')))
theorem JQ{ops:Array Oper}{S:List Nat}{s0:aA}{K:AF→aA→Prop}:∀(f:Nat) (listed:Array Bool) (φ:AF) (st:aA),wB P ops S s0 K f listed φ st→JO P ops K f listed φ st
 | 0,_,_,_,h=>h
 | f+1,listed,φ,st,h=>by
  refine⟨h.1,fun i hi=>?_⟩
  obtain⟨o,ho,h2⟩:=h.2 i hi
  refine⟨o,ho,?_⟩
  rcases h2 with ⟨_,r,y,k⟩ | ⟨_,k⟩
  · exact WX y (JQ f _ _ _ k)
  · exact tL (fun r s q=>JQ f _ _ _ q.2) k
theorem WN{ops:Array Oper}{S:List Nat}{s0:aA}{i:Nat}{oi:Oper}{v:AV}{K:AF→aA→Prop}(hi:ops[i]?=some oi)(hS:S.contains i=true) :
 ∀(f:Nat) (listed:Array Bool) (φ:AF) (st:aA),tG ops listed →
  (∀j oj,ops[j]?=some oj→j≠i→listed.getD j true=false→(∀e∈oj.after,Region.binds .any e=true→e.on≠i)→oi.apart ops oj=true) →
  i∈Region.ready .any ops listed→(∀s,eQ s0 s→jY P s ops oi v φ)→eQ s0 st →
  wB P ops S s0 K f (listed.setIfInBounds i true) (φ.put oi.dst v) st→wB P ops S s0 K (f+1) listed φ st:=by
 intro f
 induction f with
 | zero=>
  intro listed φ st hcl _ hr hy hx H
  refine⟨fun h=>(by rw[h] at hr;cases hr),fun j hj=>?_⟩
  by_cases hji:j=i
  · subst hji;exact⟨oi,hi,.inl ⟨hS,v,hy st hx,H⟩⟩
  · have:=ready_mono hj hji
    rw[H.1] at this
    cases this
 | succ f ih=>
  intro listed φ st hcl rB hr hy hx H
  refine⟨fun h=>(by rw[h] at hr;cases hr),fun j hj=>?_⟩
  by_cases hji:j=i
  · subst hji;exact⟨oi,hi,.inl ⟨hS,v,hy st hx,H⟩⟩
  · obtain⟨oj,hoj,h1⟩:=H.2 j (ready_mono hj hji)
    obtain⟨pZ,oj',A8,dN⟩:=mem_ready.1 hj
    have:oj'=oj:=nP (A8.symm.trans hoj)
    subst this
    have hun:=(mem_ready.1 hr).1
    have uF:∀e∈oj'.after,Region.binds .any e=true→e.on≠i:=fun e he hb heq=>by
     have h1:=dN e he hb
     rw[heq,getD_both hun] at h1
     cases h1
    obtain⟨a1,a2,a3⟩:=Oper.apart_spec (rB j oj' hoj hji pZ uF)
    have vH:∀k ok,ops[k]?=some ok→k≠i→(listed.setIfInBounds j true).getD k true=false →
     (∀e∈ok.after,Region.binds .any e=true→e.on≠i)→oi.apart ops ok=true:=fun k ok hk hki hun hno=>by
     refine rB k ok hk hki ?_ hno
     by_cases hjk:j=k
     · subst hjk;exact pZ
     · rw[getD_set_ne true hjk] at hun;exact hun
    refine⟨oj',hoj,?_⟩
    rcases h1 with ⟨hSj,r,yj,h2⟩ | ⟨hSj,h2⟩
    · refine .inl ⟨hSj,r,(qR φ v a1).1 yj,ih (listed.setIfInBounds j true) (φ.put oj'.dst r) st (hcl.set hj) vH (ready_mono hr (dA hji)) (fun s hs=>(qR φ r a3).2 (hy s hs)) hx ?_⟩
      rw[B7 _ _ hji,←put_comm φ v r a2]
      exact h2
    · refine .inr ⟨hSj,tL (fun r st' h3=>?_) ((PE φ v a1).1 h2)⟩
      refine⟨h3.1,?_⟩
      have hx':eQ s0 st':=by
       rcases h3.1 with he | he
       · exfalso
         unfold Q3 at he
         have hd:=fU.1 he i (by simpa using hS)
         exact KN hcl (getD_both hun) _ j oj' hoj hd dN
       · exact he
      refine ih (listed.setIfInBounds j true) (φ.put oj'.dst r) st' (hcl.set hj) vH (ready_mono hr (dA hji)) (fun s hs=>(qR φ r a3).2 (hy s hs)) hx' ?_
      rw[B7 _ _ hji,←put_comm φ v r a2]
      exact h3.2
def sU(ops:Array Oper)(S:List Nat):List (Nat×Nat)→Array Bool→Bool
 | [],listed=>(Region.ready .any ops listed).isEmpty
 | (i,0)::r,listed=>decide (Region.ready .any ops listed= [i])&& !S.contains i&&sU ops S r (listed.setIfInBounds i true)
 | (i,1)::r,listed=>(Region.ready .any ops listed).contains i&&Region.free .any ops listed i&&S.contains i&&sU ops S r (listed.setIfInBounds i true)
 | (i,_)::r,listed=>decide (Region.ready .any ops listed= [i])&& !S.contains i&&Q3 ops S i&&sU ops S r (listed.setIfInBounds i true)
def z8(P:Program)(ops:Array Oper)(s0:aA)(K:AF→aA→Prop):List (Nat×Nat)→AF→aA→Prop
 | [],φ,st=>K φ st
 | (i,0)::r,φ,st=>∃o,ops[i]?=some o∧i8 P ops o φ st (fun v st'=>eQ s0 st'∧z8 P ops s0 K r (φ.put o.dst v) st')
 | (i,1)::r,φ,st=>∃o,ops[i]?=some o∧∃v,(∀s,eQ s0 s→jY P s ops o v φ)∧z8 P ops s0 K r (φ.put o.dst v) st
 | (i,_)::r,φ,st=>∃o,ops[i]?=some o∧i8 P ops o φ st (fun v st'=>z8 P ops s0 K r (φ.put o.dst v) st')
def BE:List (Nat×Nat)→Bool
 | []=>true
 | (_,0)::r=>BE r
 | (_,1)::r=>BE r
 | (_,_)::r=>r.all fun p=>p.2 != 1
theorem GE{ops:Array Oper}{S:List Nat}{s0:aA}{K:AF→aA→Prop}:∀(p:List (Nat×Nat)) (listed:Array Bool) (φ:AF) (st:aA),tG ops listed→sU ops S p listed=true→(BE p=true∧eQ s0 st∨(p.all fun q=>q.2 != 1)=true)→z8 P ops s0 K p φ st→wB P ops S s0 K p.length listed φ st
 | [],listed,φ,st,_,hB,hx,h=>⟨by simpa [sU] using hB,h⟩
 | (i,0)::r,listed,φ,st,hcl,hB,hx,h=>by
  simp only[sU,cY,bM,gZ] at hB
  obtain⟨o,ho,h'⟩:=h
  have hr:i∈Region.ready .any ops listed:=by rw[hB.1.1];simp
  refine⟨fun h0=>(by rw[hB.1.1] at h0;cases h0),fun j hj=>?_⟩
  rw[hB.1.1] at hj
  obtain rfl:j=i:=by simpa using hj
  refine⟨o,ho,.inr ⟨hB.1.2,tL (fun v st' q=>⟨.inr q.1,GE r _ _ _ (hcl.set hr) hB.2 ?_ q.2⟩) h'⟩⟩
  rcases hx with hx | hx
  · exact .inl ⟨hx.1,q.1⟩
  · refine .inr ?_
    simp only[jK,cY] at hx
    exact hx.2
 | (i,1)::r,listed,φ,st,hcl,hB,hx,h=>by
  simp only[sU,cY] at hB
  obtain⟨⟨⟨hr,hf⟩,hS⟩,hB'⟩:=hB
  obtain⟨o,ho,v,hv,h'⟩:=h
  have hr':i∈Region.ready .any ops listed:=by simpa using hr
  rcases hx with hx | hx
  · exact WN ho hS _ listed φ st hcl (Region.free_spec ho hf) hr' hv hx.2 (GE r _ _ _ (hcl.set hr') hB' (.inl hx) h')
  · simp at hx
 | (i,k+2)::r,listed,φ,st,hcl,hB,hx,h=>by
  simp only[sU,cY,bM,gZ] at hB
  obtain⟨o,ho,h'⟩:=h
  have hr:i∈Region.ready .any ops listed:=by rw[hB.1.1.1];simp
  refine⟨fun h0=>(by rw[hB.1.1.1] at h0;cases h0),fun j hj=>?_⟩
  rw[hB.1.1.1] at hj
  obtain rfl:j=i:=by simpa using hj
  refine⟨o,ho,.inr ⟨hB.1.1.2,tL (fun v st' q=>⟨.inl hB.1.2,GE r _ _ _ (hcl.set hr) hB.2 (.inr ?_) q⟩) h'⟩⟩
  rcases hx with hx | hx
  · exact hx.1
  · simp only[jK,cY] at hx
    exact hx.2
theorem aSE{N:Nat}{id:Nat}{ops:Array Oper}{Q:Exit→AF→aA→Prop}{φ:AF}{st:aA}(p:List (Nat×Nat))(S:List Nat)(s0:aA)(hm:P.follows .mixedOrders=true)(hok:qF N ops=true)(hl:p.length=ops.size)(hB:sU ops S p (Array.replicate ops.size false)=true)(hf:BE p=true)(hs:eQ s0 st)
 (h:z8 P ops s0 (Q .normal) p φ st):fR P N (.region id ops true) Q φ st:=by
 intro a w R
 refine wp_region_any hm ?_
 have R0:Rel N a { w with drawn:=w.drawn+1 } φ st:=⟨R.size,R.defers,R.frame,R.store⟩
 have:=JQ _ _ _ _ (GE p _ φ st (fun j o _ hl=>(by rw[Q9] at hl;cases hl)) hB (.inl ⟨hf,hs⟩) h)
 rw[hl] at this
 exact JP (yW hok) (xG hok) (w0:=w) (st0:=st) (fun φ' st' a' w' k R' T s=>⟨φ',st',R',T,s,k⟩) _ _ _ _ _ _ this R0 (bT.refl _ _) ⟨rfl,rfl,rfl⟩
def iF(P:Program)(ops:Array Oper)(s0:aA)(K:AF→aA→Prop):List (Nat×Nat)→AF→aA→Prop
 | [],φ,st=>K φ st
 | (i,0)::r,φ,st=>match ops[i]? with
  | none=>False
  | some o=>bA P [] ops [o] (fun φ' st'=>eQ s0 st'∧iF P ops s0 K r φ' st') φ st
 | (i,1)::r,φ,st=>match ops[i]? with
  | none=>False
  | some o=>if kN o=true then bA P [] ops [o] (fun φ' _=>iF P ops s0 K r φ' st) φ s0 else
   match o.guard,o.op with
   | none,.call { callee:=.value f,args,.. }=>∃v,(∀s,eQ s0 s→tR P (φ.eval f) (args.toList.map φ.eval) s (fun r' s'=>r'=v∧s'=s))∧iF P ops s0 K r (φ.put o.dst v) st
   | _,_=>False
 | (i,_)::r,φ,st=>match ops[i]? with
  | none=>False
  | some o=>bA P [] ops [o] (fun φ' st'=>iF P ops s0 K r φ' st') φ st
theorem u7{ops:Array Oper}{s0:aA}{K:AF→aA→Prop}:∀(p:List (Nat×Nat)) (φ:AF) (st:aA),iF P ops s0 K p φ st→z8 P ops s0 K p φ st
 | [],_,_,h=>h
 | (i,0)::r,φ,st,h=>by
  simp only[iF] at h
  split at h
  · exact h.elim
  · rename_i o ho
    refine⟨o,ho,?_⟩
    simp only[bA] at h
    unfold i8
    split at h
    · rename_i hg
      rw[hg]
      exact AA (fun v s q=>⟨q.1,u7 r _ _ q.2⟩) h
    · rename_i hg
      rw[hg]
      exact⟨h.1,u7 r _ _ h.2⟩
    · exact h.elim
 | (i,1)::r,φ,st,h=>by
  simp only[iF] at h
  split at h
  · exact h.elim
  · rename_i o ho
    split at h
    · rename_i hp
      simp only[bA] at h
      split at h
      · rename_i hg
        rw[tM hp] at h
        split at h
        · rename_i v hv
          refine⟨o,ho,v,fun s hs=>.inl ⟨hg,?_⟩,u7 r _ _ h⟩
          rw[tM hp,WV hs hv]
          exact⟨rfl,rfl⟩
        · exact h.elim
      · rename_i hg
        exact⟨o,ho,.undef,fun s _=>.inr ⟨hg,rfl⟩,u7 r _ _ h⟩
      · exact h.elim
    · split at h
      · rename_i f args ats hg hop
        obtain⟨v,h1,h2⟩:=h
        refine⟨o,ho,v,fun s hs=>.inl ⟨by simp only[iZ,hg],?_⟩,u7 r _ _ h2⟩
        simp only[fL,hop]
        exact h1 s hs
      · exact h.elim
 | (i,k+2)::r,φ,st,h=>by
  simp only[iF] at h
  split at h
  · exact h.elim
  · rename_i o ho
    refine⟨o,ho,?_⟩
    simp only[bA] at h
    unfold i8
    split at h
    · rename_i hg
      rw[hg]
      exact AA (fun v s q=>u7 r _ _ q) h
    · rename_i hg
      rw[hg]
      exact u7 r _ _ h
    · exact h.elim
end
def S9(P:Program)(ops:Array Oper)(s0:aA)(K:AF→aA→Prop)(r:List (Nat×Nat))(φ:AF)(st:aA):Prop:=eQ s0 st∧iF P ops s0 K r φ st
def S7(P:Program)(ops:Array Oper)(s0:aA)(K:AF→aA→Prop)(r:List (Nat×Nat))(φ:AF)(st:aA):Prop:=iF P ops s0 K r φ st
def S6(P:Program)(ops:Array Oper)(s0:aA)(K:AF→aA→Prop)(r:List (Nat×Nat))(st:aA)(φ:AF)(_:aA):Prop:=iF P ops s0 K r φ st
def S5(P:Program)(ops:Array Oper)(s0:aA)(K:AF→aA→Prop)(r:List (Nat×Nat))(φ:AF)(dst:Option Tmp)(st:aA)(v:AV):Prop:=iF P ops s0 K r (φ.put dst v) st
def GU(P:Program)(s0:aA)(f:AV)(args:List AV)(K:AV→Prop):Prop:=∃v,(∀s,eQ s0 s→tR P f args s (fun r' s'=>r'=v∧s'=s))∧K v
theorem ZD{P:Program}{s0:aA}{g:FuncId}{args:List AV}{r:AV}{K:AV→Prop}(x:∀st,eQ s0 st→aD P g args st (fun r' st'=>r'=r∧st'=st))(h:K r):GU P s0 (.func g []) args K:=⟨r,fun st hs=>by show aD P g (args++ []) st _;rw[eU];exact x st hs,h⟩
@[congr] theorem bB8 {P:Program} {s0:aA} {f f':AV} {args args':List AV} {K:AV→Prop} (h0:f=f') (h1:args=args'):GU P s0 f args K=GU P s0 f' args' K:=by rw[h0,h1]
def EM(P:Program)(ops:Array Oper)(s0:aA)(K:AF→aA→Prop)(r:List (Nat×Nat))(φ:AF)(st:aA):Nat→Option Oper→Prop
 | 0,some o=>bA P [] ops [o] (S9 P ops s0 K r) φ st
 | 1,some o=>if kN o=true then bA P [] ops [o] (S6 P ops s0 K r st) φ s0 else
  match o.guard,o.op with
  | none,.call { callee:=.value f,args,.. }=>GU P s0 (φ.eval f) (args.toList.map φ.eval) (S5 P ops s0 K r φ o.dst st)
  | _,_=>False
 | _,some o=>bA P [] ops [o] (S7 P ops s0 K r) φ st
 | _,none=>False
theorem aGO{P:Program}{ops:Array Oper}{s0:aA}{K:AF→aA→Prop}{φ:AF}{st:aA}:iF P ops s0 K [] φ st=K φ st:=rfl
theorem aGP{P:Program}{l:List Oper}{s0:aA}{K:AF→aA→Prop}{φ:AF}{st:aA}{i b:Nat}{r:List (Nat×Nat)}:iF P l.toArray s0 K ((i,b)::r) φ st=EM P l.toArray s0 K r φ st b l[i]?:=by
 match b with
 | 0=>simp only[iF,x7];cases l[i]?<;>rfl
 | 1=>simp only[iF,x7];cases l[i]?<;>rfl
 | b+2=>simp only[iF,x7];cases l[i]?<;>rfl
theorem aGU{P:Program}{ops:Array Oper}{s0:aA}{K:AF→aA→Prop}{φ:AF}{st:aA}{r:List (Nat×Nat)}{o:Oper}:EM P ops s0 K r φ st 0 (some o)=bA P [] ops [o] (S9 P ops s0 K r) φ st:=rfl
theorem aGV{P:Program}{ops:Array Oper}{s0:aA}{K:AF→aA→Prop}{φ:AF}{st:aA}{r:List (Nat×Nat)}{o:Oper}:EM P ops s0 K r φ st 1 (some o)=if kN o=true then bA P [] ops [o] (S6 P ops s0 K r st) φ s0 else
      match o.guard,o.op with
      | none,.call { callee:=.value f,args,.. }=>GU P s0 (φ.eval f) (args.toList.map φ.eval) (S5 P ops s0 K r φ o.dst st)
      | _,_=>False:=rfl
theorem aGW{P:Program}{ops:Array Oper}{s0:aA}{K:AF→aA→Prop}{φ:AF}{st:aA}{r:List (Nat×Nat)}{o:Oper}:EM P ops s0 K r φ st 2 (some o)=bA P [] ops [o] (S7 P ops s0 K r) φ st:=rfl
theorem aGT{P:Program}{ops:Array Oper}{s0:aA}{K:AF→aA→Prop}{φ:AF}{st:aA}{r:List (Nat×Nat)}:S9 P ops s0 K r φ st=(eQ s0 st∧iF P ops s0 K r φ st):=rfl
theorem aGS{P:Program}{ops:Array Oper}{s0:aA}{K:AF→aA→Prop}{φ:AF}{st:aA}{r:List (Nat×Nat)}:S7 P ops s0 K r φ st=iF P ops s0 K r φ st:=rfl
theorem aGR{P:Program}{ops:Array Oper}{s0:aA}{K:AF→aA→Prop}{φ:AF}{st s:aA}{r:List (Nat×Nat)}:S6 P ops s0 K r st φ s=iF P ops s0 K r φ st:=rfl
theorem aGQ{P:Program}{ops:Array Oper}{s0:aA}{K:AF→aA→Prop}{φ:AF}{st:aA}{r:List (Nat×Nat)}{dst:Option Tmp}{v:AV}:S5 P ops s0 K r φ dst st v=iF P ops s0 K r (φ.put dst v) st:=rfl
@[congr] theorem bB4 {P:Program} {ops:Array Oper} {s0:aA} {K:AF→aA→Prop} {p:List (Nat×Nat)} {φ φ':AF} {st st':aA} (h1:φ=φ') (h2:st=st'):iF P ops s0 K p φ st=iF P ops s0 K p φ' st':=by rw[h1,h2]
@[congr] theorem bCI {P:Program} {ops:Array Oper} {s0:aA} {K:AF→aA→Prop} {p:List (Nat×Nat)} {φ φ':AF} {st st':aA} {b:Nat} {o o':Option Oper} (h1:φ=φ') (h2:st=st') (h3:o=o'):EM P ops s0 K p φ st b o=EM P ops s0 K p φ' st' b o':=by rw[h1,h2,h3]
theorem zq5{P:Program}{N:Nat}{id:Nat}{l:List Oper}{Q:Exit→AF→aA→Prop}{φ:AF}{st:aA}(p:List (Nat×Nat))(S:List Nat)(s0:aA)(hm:P.follows .mixedOrders=true)(hok:qF N l.toArray=true)(hl:p.length=l.length)(hB:sU l.toArray S p (Array.replicate l.length false)=true)(hf:BE p=true)(hs:eQ s0 st)
 (h:iF P l.toArray s0 (Q .normal) p φ st):fR P N (.region id l.toArray true) Q φ st:=
 aSE p S s0 hm hok (by simpa using hl) (by simpa using hB) hf hs (u7 p φ st h)
def aNN(K:AV→aA→Prop)(st:aA):Option AV→Option AV→Prop
 | some r,some s=>lO [r,s]=true∧K (.tup [r,s]) st
 | _,_=>False
theorem aHC{P:Program}{φ:AF}{st:aA}{p q:Tmp}{t u:TypeId}{K:AV→aA→Prop}:oC P [.cell p t,.cell q u] K φ st=aNN K st (gY P st t (φ p)) (gY P st u (φ q)):=by
 simp only[oC,pO,CR]
 cases gY P st t (φ p)<;>cases gY P st u (φ q)<;>rfl
theorem aHD{st:aA}{K:AV→aA→Prop}{r s:AV}:aNN K st (some r) (some s)=(lO [r,s]=true∧K (.tup [r,s]) st):=rfl
def one(b:Nat)(o:AO):aA:=dJ.aC b o
theorem uK{b:Nat}{o:AO}:one b o b=some o:=aA.aJ _ _ _
theorem jM{b:Nat}{o:AO}{st:aA}(h:st b=some o):eQ (one b o) st:=fun x p hx=>by
 simp only[one,aA.aC] at hx
 split at hx
 · rename_i e;cases hx;rw[e];exact h
 · cases hx
theorem dF{st:aA}:eQ dJ st:=fun x p hx=>by cases hx
end Go.AW
