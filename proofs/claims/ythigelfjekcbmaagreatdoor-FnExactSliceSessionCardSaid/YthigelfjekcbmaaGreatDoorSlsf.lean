/- Loops whose frame is kept, lists that are walked, lists that grow. -/
import Derived.Test.YthigelfjekcbmaaGreatDoorSlse
set_option linter.unusedSimpArgs false
set_option linter.unusedVariables false
set_option maxRecDepth 100000
namespace Go.AW
def jD(φ:AF):List Nat→List (Nat×AV)→List (Nat×AV)
 | [],l=>l
 | d::ds,l=>(d,φ d)::jD φ ds l
theorem YO{φ:AF}{l:List (Nat×AV)}:jD φ [] l=l:=rfl
theorem YP{φ:AF}{d:Nat}{ds:List Nat}{l:List (Nat×AV)}:jD φ (d::ds) l=(d,φ d)::jD φ ds l:=rfl
theorem dQ{P:Program}{N:Nat}{c:Code}{Q:Exit→AF→aA→Prop}{φ:AF}{st:aA}{α σ:Type}(mt:List Nat)(aU:List Nat)(l:List α)(inv:Nat→σ→Prop)(ch:Nat→σ→List (Nat×AV))(so:Nat→σ→aA)
 (hok:codeOk N c=true)
 (h0:∃s,inv 0 s∧aR φ st (jD φ aU (ch 0 s)) (so 0 s))
 (h1:∀i x s,l[i]?=some x→i<l.length→((i:Int)<(l.length:Int))→l.drop i=x::l.drop (i+1)→inv i s→fA P N mt c (nH (fun φ' st'=>∃s',inv (i+1) s'∧aR φ' st' (jD φ aU (ch (i+1) s')) (so (i+1) s')) Q) (tL (jD φ aU (ch i s))) (so i s))
 (h2:∀s,¬((l.length:Int)<(l.length:Int))→inv l.length s→fA P N mt c (nH (fun _ _=>False) Q) (tL (jD φ aU (ch l.length s))) (so l.length s)):fH P N (.loop c) Q φ st:=by
 have lQ:∀(k:AF→aA→Prop) (i:Nat) (s:σ),(∀φ' st',(∃s',inv (i+1) s'∧aR φ' st' (jD φ aU (ch (i+1) s')) (so (i+1) s'))→k φ' st') →
  fH P N c (nH (fun φ' st'=>∃s',inv (i+1) s'∧aR φ' st' (jD φ aU (ch (i+1) s')) (so (i+1) s')) Q) (iY (jD φ aU (ch i s))) (so i s) →
  fH P N c (nH k Q) (iY (jD φ aU (ch i s))) (so i s):=by
  intro k i s hk hr a w R
  refine wp_mono (hr a w R) ?_
  rintro e a' w' ⟨φ',st',R',T,sm,q⟩
  refine⟨φ',st',R',T,sm,?_⟩
  cases e with
  | normal=>exact hk _ _ q
  | _=>exact q
 refine KM (α:=Nat×σ) (fun p=>p.1≤l.length∧inv p.1 p.2) (fun p=>iY (jD φ aU (ch p.1 p.2))) (fun p=>so p.1 p.2) (fun p=>l.length - p.1) ?_ ?_
 · obtain⟨s,hs,hl⟩:=h0
   exact⟨(0,s),⟨mV _,hs⟩,hl⟩
 · rintro⟨i,s⟩ ⟨hi,hs⟩
   simp only at hi hs ⊢
   rcases j6 i l.length with hlt | hge
   · refine lQ _ i s ?_ (B4 mt hok (h1 i l[i] s (e7 hlt) hlt (by omega) (oV hlt) hs))
     rintro φ' st' ⟨s',h1',h2'⟩
     exact⟨(i+1,s'),by simp only;omega,⟨by simp only;omega,h1'⟩,h2'⟩
   · obtain rfl:i=l.length:=by omega
     intro a w R
     refine wp_mono (B4 mt hok (h2 s (by omega) hs) a w R) ?_
     rintro e a' w' ⟨φ',st',R',T,sm,q⟩
     refine⟨φ',st',R',T,sm,?_⟩
     cases e with
     | normal=>exact q.elim
     | _=>exact q
theorem rB{P:Program}{N:Nat}{c:Code}{Q:Exit→AF→aA→Prop}{φ:AF}{st:aA}{σ:Type}(mt:List Nat)(aU:List Nat)(inv:σ→Prop)(ch:σ→List (Nat×AV))(so:σ→aA)(μ:σ→Nat)
 (hok:codeOk N c=true)
 (h0:∃s,inv s∧aR φ st (jD φ aU (ch s)) (so s))
 (h1:∀s,inv s→fA P N mt c (nH (fun φ' st'=>∃s',μ s'<μ s∧inv s'∧aR φ' st' (jD φ aU (ch s')) (so s')) Q) (tL (jD φ aU (ch s))) (so s)):fH P N (.loop c) Q φ st:=
 nQ mt inv (fun s=>jD φ aU (ch s)) so μ hok h0 h1
theorem aT{b:Bool}{p q:Prop}(h1:b=true→p)(h2:b=false→q):(b=true→p)∧(b=false→q):=⟨h1,h2⟩
theorem YU{P:Program}{t:TypeId}{s:ByteArray}:iL P t (.str s)=match P.underlying t with | some .string=>some (.int .i64 s.size) | _=>none:=rfl
theorem YT{P:Program}{t:TypeId}{es:List AV}:iL P t (.slice es)=match P.underlying t with | some (.slice _)=>some (.int .i64 es.length) | _=>none:=rfl
theorem YR{P:Program}{t:TypeId}{es:List AV}:iL P t (.fslice es)=match P.underlying t with | some (.slice _)=>some (.int .i64 es.length) | _=>none:=rfl
theorem YS{P:Program}{t:TypeId}{b o n w:Nat}:iL P t (.mslice b o n w)=match P.underlying t with | some (.slice _)=>some (.int .i64 n) | _=>none:=rfl
def bR(w b:Nat):List AV→AV
 | []=>.fslice []
 | x::l=>.mslice b 0 (x::l).length w
def bS(st:aA)(b:Nat):List AV→aA
 | []=>st
 | x::l=>st.aC b (.cells ((x::l).flatMap AV.cells))
theorem kZ{w b:Nat}:bR w b []=.fslice []:=rfl
theorem BY{st:aA}{b:Nat}:bS st b []=st:=rfl
theorem qE{w b:Nat}{l:List AV}(h:l≠[]):bR w b l=.mslice b 0 l.length w:=by cases l<;>first | exact absurd rfl h | rfl
theorem jR{st:aA}{b:Nat}{l:List AV}(h:l≠[]):bS st b l=st.aC b (.cells (l.flatMap AV.cells)):=by cases l<;>first | exact absurd rfl h | rfl
theorem nV{st:aA}{b x:Nat}{l:List AV}(h:x≠b):bS st b l x=st x:=by cases l<;>first | rfl | exact aA.aF _ _ h
theorem FJ{st:aA}{b x:Nat}{l:List AV}(h:bS st b l x=none):st x=none∧(l≠[]→x≠b):=by
 cases l with
 | nil=>exact⟨h,fun h=>absurd rfl h⟩
 | cons y l=>
  simp only[bS,aA.aC] at h
  split at h
  · cases h
  · rename_i hn;exact⟨h,fun _=>hn⟩
theorem rI{w b:Nat}{l:List AV}:(bR w b l).cA=false:=by cases l<;>rfl
theorem qD{w b:Nat}{l:List AV}:(bR w b l).isAgg=false:=by cases l<;>rfl
theorem oZ{w b:Nat}{l:List AV}:(bR w b l).cells= [bR w b l]:=by cases l<;>rfl
theorem iX{w b:Nat}{l:List AV}:(bR w b l).storable=true:=by cases l<;>rfl
theorem BZ{P:Program}{t e:TypeId}{w b:Nat}{l:List AV}(h:P.underlying t=some (.slice e)):iL P t (bR w b l)=some (.int .i64 (l.length:Int)):=by
 cases l<;>simp [bR,iL,h]
theorem aM.bS{st st':aA}(x:aM st st'){b:Nat}{l:List AV}(h:l≠[]→st' b=none):aM (bS st b l) st':=by
 cases l with
 | nil=>exact x
 | cons y l=>exact x.aC (h (by simp))
theorem gJ{P:Program}{t:TypeId}{ag:Bool}{w bytes:Nat}{zs:List AV}{st:aA}{b:Nat}{l xs:List AV}{x:AV}{K:AV→aA→Prop}
 (hI:eI P t=some (ag,w)) (hB:eB P t=some bytes) (hZ:eZ P t=some zs) (hz:zs.length=w) (hx:wN x=some xs) (fK:uW w xs) (hw:∀e∈l,e.width=w) (hb:l≠[]→st b=none)
 (h1:(l.length+xs.length)*bytes≤140737488355328) (h2:l.length+xs.length≤9223372036854775807)
 (hK:∀b',(l++xs≠[]→st b'=none)→K (bR w b' (l++xs)) (bS st b' (l++xs))):jP P t (bS st b l) (bR w b l) x K:=by
 unfold jP
 rw[hI,hB,hZ,hx]
 refine⟨hz,fK,?_⟩
 cases l with
 | nil=>
  show _∧_∧_∧_∧_
  refine⟨by simpa using h1,by simpa using h2,by simp,?_,?_⟩
  · rintro rfl
    have:=hK b (by simp)
    simpa [bR,bS] using this
  · intro hne b' hb'
    have:=hK b' (fun _=>hb')
    rw[eR,qE hne,jR hne] at this
    simpa [bS] using this
 | cons y l=>
  have hb:=hb (by simp)
  show w=w∧_∧_∧_
  refine⟨rfl,h1,h2,?_⟩
  have hfl:((y::l).flatMap AV.cells).length=(y::l).length*w:=m9 hw
  simp only[bS,aA.aL]
  refine⟨by rw[hfl];exact cT _,?_,?_⟩
  · have:=hK b (fun _=>hb)
    rw[qE (by simp),jR (by simp),wD,eC] at this
    rw[eH,←hfl,eD]
    exact this
  · intro b' hb'
    have hne:b'≠b:=by rintro rfl;rw[aA.aL] at hb';cases hb'
    rw[aA.aF _ _ hne] at hb'
    have:=hK b' (fun _=>hb')
    rw[qE (by simp),jR (by simp),wD,eC] at this
    rw[aA.zR _ _ _ hb,←hfl,eD]
    exact this
def AV.fin(b:Nat)(l:List AV)(r:AV):AV:=if l.isEmpty=true then r.soft else(r.fz b l).soft
theorem mH{w b:Nat}{l:List AV}:(bR w b l).fin b l=.slice l:=by cases l<;>simp [bR,AV.fin,AV.fz,AV.soft]
theorem xO:∀cs:List AV,mO cs=cs.map AV.soft
 | []=>rfl
 | c::cs=>by simp [mO,xO cs]
theorem wZ{b:Nat}{l:List AV}:∀cs:List AV,iZ b l cs=cs.map (AV.fz b l)
 | []=>rfl
 | c::cs=>by simp [iZ,wZ cs]
theorem gR{b:Nat}{l:List AV}{cs:List AV}:(AV.agg cs).fin b l=.agg (cs.map (AV.fin b l)):=by
 unfold AV.fin
 split
 · simp [AV.soft,xO]
 · simp [AV.fz,AV.soft,xO,wZ]
theorem lG{b:Nat}{l:List AV}{cs:List AV}:(AV.tup cs).fin b l=.tup (cs.map (AV.fin b l)):=by
 unfold AV.fin
 split
 · simp [AV.soft,xO]
 · simp [AV.fz,AV.soft,xO,wZ]
theorem fR{b:Nat}{l:List AV}{k:IntKind}{n:Int}:(AV.int k n).fin b l=.int k n:=by unfold AV.fin;split<;>rfl
theorem tH{b:Nat}{l:List AV}{n:Bool}:(AV.bool n).fin b l=.bool n:=by unfold AV.fin;split<;>rfl
theorem m8{b:Nat}{l:List AV}{s:ByteArray}:(AV.str s).fin b l=.str s:=by unfold AV.fin;split<;>rfl
theorem iR{b:Nat}{l:List AV}{s:List AV}:(AV.slice s).fin b l=.slice s:=by unfold AV.fin;split<;>rfl
theorem rW{b:Nat}{l:List AV}{s:List AV}:(AV.fslice s).fin b l=.slice s:=by unfold AV.fin;split<;>rfl
theorem zX{b:Nat}{l:List AV}{e:AV}:(AV.pptr e).fin b l=.pptr e:=by unfold AV.fin;split<;>rfl
theorem GS{b c o:Nat}{l:List AV}:(AV.ptr c o).fin b l=.ptr c o:=by unfold AV.fin;split<;>rfl
theorem aDR{b:Nat}{l:List AV}{g:FuncId}{cs:List AV}:(AV.func g cs).fin b l=.func g cs:=by unfold AV.fin;split<;>rfl
theorem aD.fin{P:Program}{g:FuncId}{args:List AV}{st:aA}{Q:AV→aA→Prop}
 (x:aD P g args st (fun r st'=>∃b l s0,st'=bS s0 b l∧(l≠[]→s0 b=none)∧(∀e∈l,e.cA=false)∧iV l∧Q (r.fin b l) s0)):aD P g args st Q:=
 x.lQ fun r st' ⟨b,l,s0,h1,h0,h2,h3,h4⟩=>by
  cases l with
  | nil=>
   exact⟨r.fin b [],st',(aM.refl _).uF,fun h v S y=>y.soft,by have e:st'=s0:=h1;rw[e];exact h4⟩
  | cons e l=>
   have hb:=h0 (by simp)
   subst h1
   have h1:bS s0 b (e::l) b=some (.cells ((e::l).flatMap AV.cells)):=by simp only[bS,aA.aL]
   have e1:(bS s0 b (e::l)).erase b=s0:=by simp only[bS];exact aA.zR _ _ _ hb
   refine⟨r.fin b (e::l),s0,?_,fun h v S y=>?_,h4⟩
   · have:=(iQ (bS s0 b (e::l)) b).uF
     rwa [e1] at this
   · have:=y.fz S h1 h2 h3
     rw[e1] at this
     exact this.soft
mutual
def AV.eY:AV→Bool
 | .slice _=>false
 | .fslice es=>es.isEmpty
 | .pptr _=>false
 | .agg cs=>jG cs
 | .tup vs=>jG vs
 | .func _ cs=>jG cs
 | _=>true
def jG:List AV→Bool
 | []=>true
 | a::as=>a.eY&&jG as
end
def AO.eY:AO→Prop
 | .cells cs=>jG cs=true
 | .map f=>∀n a,f n=some a→a.eY=true
section
variable {h:a9} {st st':aA}
mutual
theorem VC.anyS:∀(a:AV) (cs:List Value),a.eY=true→VC h st a cs→VC h st' a cs
 | .junk,_,_,x=>x
 | .undef,_,_,x=>x
 | .int _ _,_,_,x=>x
 | .bool _,_,_,x=>x
 | .str _,_,_,x=>x
 | .agg as,cs,s,x=>by simp only[VC] at x ⊢;exact aV.anyS as cs (by simpa [AV.eY] using s) x
 | .tup as,cs,s,x=>by
  simp only[VC] at x ⊢
  obtain⟨vs,e,r⟩:=x
  exact⟨vs,e,dB.anyS as vs (by simpa [AV.eY] using s) r⟩
 | .slice es,_,s,_=>by simp [AV.eY] at s
 | .fslice es,cs,s,x=>by
  have he:es= []:=by simpa [AV.eY] using s
  subst he
  unfold VC at x ⊢
  rcases x with x | ⟨b,off,e,_⟩
  · exact .inl x
  · exact .inl ⟨⟨_,e⟩,rfl⟩
 | .mslice b off len n,_,_,x=>x
 | .nilptr,_,_,x=>x
 | .ptr _ _,_,_,x=>x
 | .pptr e,_,s,_=>by simp [AV.eY] at s
 | .nilmap,_,_,x=>x
 | .map _,_,_,x=>x
 | .func _ as,cs,s,x=>by
  simp only[VC] at x ⊢
  obtain⟨vs,e,r⟩:=x
  exact⟨vs,e,dB.anyS as vs (by simpa [AV.eY] using s) r⟩
 | .raw _,_,_,x=>x
 | .eslice,_,_,x=>x
theorem aV.anyS:∀(as:List AV) (cs:List Value),jG as=true→aV h st as cs→aV h st' as cs
 | [],_,_,x=>x
 | a::as,cs,s,x=>by
  simp only[aV] at x ⊢
  simp only[jG,cL] at s
  obtain⟨c,r,e,x1,x2⟩:=x
  exact⟨c,r,e,VC.anyS a [c] s.1 x1,aV.anyS as r s.2 x2⟩
theorem dB.anyS:∀(as:List AV) (cs:List Value),jG as=true→dB h st as cs→dB h st' as cs
 | [],_,_,x=>x
 | a::as,cs,s,x=>by
  simp only[dB] at x ⊢
  simp only[jG,cL] at s
  obtain⟨v,r,e,x1,x2⟩:=x
  exact⟨v,r,e,⟨x1.1,VC.anyS a _ s.1 x1.2⟩,dB.anyS as r s.2 x2⟩
end
theorem aN.anyS{a:AV}{v:Value}(s:a.eY=true)(x:aN h st a v):aN h st' a v:=by
 cases a<;>first | trivial | exact⟨x.1,VC.anyS _ _ s x.2⟩
theorem kH.anyS{b:Nat}:∀ {o:AO},o.eY→kH h st b o→kH h st' b o
 | .cells as,s,x=>by
  obtain⟨c,t,e,l,vs,x1,x2⟩:=x
  exact⟨c,t,e,l,vs,x1,aV.anyS as vs s x2⟩
 | .map f,s,x=>by
  obtain⟨es,cl,e,x1,x2,x3⟩:=x
  refine⟨es,cl,e,x1,x2,fun n=>?_⟩
  have:=x3 n
  split
  · rename_i a ha
    rw[ha] at this
    obtain⟨e,he,hk,hv⟩:=this
    exact⟨e,he,hk,hv.anyS (s n a ha)⟩
  · rename_i ha
    rw[ha] at this
    exact this
end
def aA.frame(st s0 s1:aA):aA:=fun b=>match s0 b,st b with
 | none,some o=>some o
 | _,_=>s1 b
theorem aD.frame{P:Program}{g:FuncId}{args args':List AV}{st s0:aA}{Q:AV→aA→Prop}(D:aM st s0)
 (x:aD P g args s0 (fun r s1=>(∀b,s0 b=none→s1 b≠none→st b=none)→r.eY=true∧(∀b o,s1 b=some o→o.eY)∧Q r (st.frame s0 s1)))
 (hv:∀h vs,cH h st→cK h st args' vs→cK h s0 args vs):aD P g args' st Q:=by
 refine⟨x.1,fun w vs S V=>(x.2 w vs (D.ED S) (hv _ _ S V)).mono ?_⟩
 rintro _ w' ⟨v,r,s1,rfl,hr,S1,T,sm,q⟩
 have hfr:∀b,s0 b=none→s1 b≠none→st b=none:=fun b h0 h1=>by
  cases hb:st b with
  | none=>rfl
  | some o=>exact absurd (T.aU b (S b o hb).1 h0).2 h1
 obtain⟨hs,ho,hq⟩:=q hfr
 have T':bZ w.heap st w'.heap (st.frame s0 s1):=by
  refine⟨T.size,fun b hb e=>?_,T.shape⟩
  obtain⟨k1,k2⟩:=T.aU b hb ((D b).1 e)
  exact⟨k1,by simp only[aA.frame,e,k2];split<;>first | rfl | (rename_i h;cases h)⟩
 refine⟨v,r,st.frame s0 s1,rfl,hr.anyS hs,fun b o hb=>?_,T',sm,hq⟩
 simp only[aA.frame] at hb
 split at hb
 · rename_i o' h0 h1
   cases hb
   obtain⟨l,y⟩:=S b _ h1
   exact⟨yI l T.size,kH.mono T' (T.aU b l h0).1 y⟩
 · obtain⟨l,y⟩:=S1 b o hb
   exact⟨l,y.anyS (ho b o hb)⟩
def c8:aA:=fun _=>none
theorem aM.c8(st:aA):aM st c8:=fun _=>⟨fun _=>rfl,fun _ h=>by cases h⟩
theorem aPH(st:aA):st.frame c8 c8=st:=by
 funext b;simp only[aA.frame,c8];split
 · rename_i h;exact h.symm
 · rename_i h;cases hb:st b with
   | none=>rfl
   | some o=>exact absurd hb (h o rfl)
theorem aD.LN{P:Program}{g:FuncId}{args args':List AV}{st:aA}{r:AV}(hs:r.eY=true)
 (x:aD P g args c8 (fun r' s1=>r'=r∧s1=c8))
 (hv:∀h vs,cH h st→cK h st args' vs→cK h c8 args vs):aD P g args' st (fun r' st'=>r'=r∧st'=st):=
 aD.frame (aM.c8 st) (x.mono fun r' s1 ⟨e1,e2⟩ _=>⟨by rw[e1];exact hs,(by rw[e2];intro b o h;cases h),e1,by rw[e2,aPH]⟩) hv
mutual
def aQ(st:aA):AV→AV→List Nat→Prop
 | .int k n,o,bs=>o=.int k n∧bs= []
 | .bool b,o,bs=>o=.bool b∧bs= []
 | .str s,o,bs=>o=.str s∧bs= []
 | .agg cs,o,bs=>∃os,o=.agg os∧a7 st cs os bs
 | .slice es,o,bs=>(es= []∧o=.fslice []∧bs= [])∨∃b bs' os w,o=.mslice b 0 es.length w∧bs=b::bs'∧st b=some (.cells (os.flatMap AV.cells))∧a7 st es os bs'∧(∀e∈es,e.width=w)
 | _,_,_=>False
def a7(st:aA):List AV→List AV→List Nat→Prop
 | [],os,bs=>os= []∧bs= []
 | a::as,os,bs=>∃o os' b1 b2,os=o::os'∧bs=b1++b2∧aQ st a o b1∧a7 st as os' b2
end
theorem a7.length{st:aA}:∀ {as os:List AV} {bs:List Nat},a7 st as os bs→os.length=as.length
 | [],os,bs,x=>by simp only[a7] at x;simp [x.1]
 | a::as,os,bs,x=>by
  simp only[a7] at x
  obtain⟨o,os',b1,b2,rfl,rfl,_,x2⟩:=x
  simp [a7.length x2]
theorem aQ.shape{st:aA}:∀ {a o:AV} {bs:List Nat},aQ st a o bs→o.isAgg=a.isAgg∧o.width=a.width∧o.cA=false∧(∀cs,a=.agg cs→∃os,o=.agg os)
 | .int k n,o,bs,x=>by simp only[aQ] at x;rw[x.1];exact⟨rfl,rfl,rfl,by simp⟩
 | .bool b,o,bs,x=>by simp only[aQ] at x;rw[x.1];exact⟨rfl,rfl,rfl,by simp⟩
 | .str s,o,bs,x=>by simp only[aQ] at x;rw[x.1];exact⟨rfl,rfl,rfl,by simp⟩
 | .agg cs,o,bs,x=>by
  simp only[aQ] at x
  obtain⟨os,rfl,x⟩:=x
  exact⟨rfl,x.length,rfl,fun _ _=>⟨os,rfl⟩⟩
 | .slice es,o,bs,x=>by
  simp only[aQ] at x
  rcases x with ⟨_,rfl,_⟩ | ⟨b,bs',os,w,rfl,_⟩<;>exact⟨rfl,rfl,rfl,by simp⟩
 | .junk,_,_,x=>x.elim
 | .undef,_,_,x=>x.elim
 | .tup _,_,_,x=>x.elim
 | .fslice _,_,_,x=>x.elim
 | .mslice _ _ _ _,_,_,x=>x.elim
 | .nilptr,_,_,x=>x.elim
 | .ptr _ _,_,_,x=>x.elim
 | .pptr _,_,_,x=>x.elim
 | .nilmap,_,_,x=>x.elim
 | .map _,_,_,x=>x.elim
 | .func _ _,_,_,x=>x.elim
 | .raw _,_,_,x=>x.elim
 | .eslice,_,_,x=>x.elim
section
variable {st st':aA}
mutual
theorem aQ.aU:∀(a o:AV) (bs:List Nat),(∀b∈bs,st' b=st b)→aQ st a o bs→aQ st' a o bs
 | .int k n,o,bs,_,x=>x
 | .bool b,o,bs,_,x=>x
 | .str s,o,bs,_,x=>x
 | .agg cs,o,bs,h,x=>by
  simp only[aQ] at x ⊢
  obtain⟨os,e,x⟩:=x
  exact⟨os,e,a7.aU cs os bs h x⟩
 | .slice es,o,bs,h,x=>by
  simp only[aQ] at x ⊢
  rcases x with x | ⟨b,bs',os,w,e1,rfl,e2,x,e3⟩
  · exact .inl x
  · exact .inr ⟨b,bs',os,w,e1,rfl,(h b (by simp)).trans e2,a7.aU es os bs' (fun q hq=>h q (by simp [hq])) x,e3⟩
 | .junk,_,_,_,x=>x
 | .undef,_,_,_,x=>x
 | .tup _,_,_,_,x=>x
 | .fslice _,_,_,_,x=>x
 | .mslice _ _ _ _,_,_,_,x=>x
 | .nilptr,_,_,_,x=>x
 | .ptr _ _,_,_,_,x=>x
 | .pptr _,_,_,_,x=>x
 | .nilmap,_,_,_,x=>x
 | .map _,_,_,_,x=>x
 | .func _ _,_,_,_,x=>x
 | .raw _,_,_,_,x=>x
 | .eslice,_,_,_,x=>x
theorem a7.aU:∀(as os:List AV) (bs:List Nat),(∀b∈bs,st' b=st b)→a7 st as os bs→a7 st' as os bs
 | [],os,bs,_,x=>x
 | a::as,os,bs,h,x=>by
  simp only[a7] at x ⊢
  obtain⟨o,os',b1,b2,e1,rfl,x1,x2⟩:=x
  exact⟨o,os',b1,b2,e1,rfl,aQ.aU a o b1 (fun q hq=>h q (by simp [hq])) x1,a7.aU as os' b2 (fun q hq=>h q (by simp [hq])) x2⟩
end
mutual
theorem aQ.eY:∀(a o:AV) (bs:List Nat),aQ st a o bs→o.eY=true∧o.cells.all AV.storable=o.cells.all AV.storable∧∀b∈bs,∃cs,st b=some (.cells cs)∧jG cs=true
 | .int k n,o,bs,x=>by simp only[aQ] at x;rw[x.1,x.2];exact⟨rfl,rfl,by simp⟩
 | .bool b,o,bs,x=>by simp only[aQ] at x;rw[x.1,x.2];exact⟨rfl,rfl,by simp⟩
 | .str s,o,bs,x=>by simp only[aQ] at x;rw[x.1,x.2];exact⟨rfl,rfl,by simp⟩
 | .agg cs,o,bs,x=>by
  simp only[aQ] at x
  obtain⟨os,rfl,x⟩:=x
  obtain⟨h1,h2⟩:=a7.eY cs os bs x
  exact⟨by simpa [AV.eY] using h1.1,rfl,h2⟩
 | .slice es,o,bs,x=>by
  simp only[aQ] at x
  rcases x with ⟨_,rfl,rfl⟩ | ⟨b,bs',os,w,rfl,rfl,e2,x,e3⟩
  · exact⟨rfl,rfl,by simp⟩
  · obtain⟨h1,h2⟩:=a7.eY es os bs' x
    refine⟨rfl,rfl,fun q hq=>?_⟩
    rcases cO.1 hq with rfl | hq
    · exact⟨_,e2,h1.2⟩
    · exact h2 q hq
 | .junk,_,_,x=>x.elim
 | .undef,_,_,x=>x.elim
 | .tup _,_,_,x=>x.elim
 | .fslice _,_,_,x=>x.elim
 | .mslice _ _ _ _,_,_,x=>x.elim
 | .nilptr,_,_,x=>x.elim
 | .ptr _ _,_,_,x=>x.elim
 | .pptr _,_,_,x=>x.elim
 | .nilmap,_,_,x=>x.elim
 | .map _,_,_,x=>x.elim
 | .func _ _,_,_,x=>x.elim
 | .raw _,_,_,x=>x.elim
 | .eslice,_,_,x=>x.elim
theorem a7.eY:∀(as os:List AV) (bs:List Nat),a7 st as os bs→(jG os=true∧jG (os.flatMap AV.cells)=true)∧∀b∈bs,∃cs,st b=some (.cells cs)∧jG cs=true
 | [],os,bs,x=>by simp only[a7] at x;rw[x.1,x.2];exact⟨⟨rfl,rfl⟩,by simp⟩
 | a::as,os,bs,x=>by
  simp only[a7] at x
  obtain⟨o,os',b1,b2,rfl,rfl,x1,x2⟩:=x
  obtain⟨h1,_,h2⟩:=aQ.eY a o b1 x1
  obtain⟨⟨h3,h4⟩,h5⟩:=a7.eY as os' b2 x2
  have aPV:∀(p q:List AV),jG p=true→jG q=true→jG (p++q)=true:=by
   intro p q hp hq
   induction p with
   | nil=>exact hq
   | cons c p ih=>simp only[jG,cL,gB] at hp ⊢;exact⟨hp.1,ih hp.2⟩
  have hc:jG o.cells=true:=by cases o<;>first | (simpa [AV.cells,jG] using h1) | (simpa [AV.cells,AV.eY] using h1)
  refine⟨⟨by simp [jG,h1,h3],by rw[rF];exact aPV _ _ hc h4⟩,fun q hq=>?_⟩
  rcases dR.1 hq with hq | hq
  · exact h2 q hq
  · exact h5 q hq
end
end
section
variable {h:a9} {st s0:aA}
mutual
theorem aQ.view(S:cH h st)(D:aM st s0):∀(a o:AV) (bs:List Nat) (cs:List Value),aQ st a o bs→(∀b∈bs,s0 b=none)→VC h st o cs→VC h s0 a cs
 | .int k n,o,bs,cs,x,_,y=>by simp only[aQ] at x;rw[x.1] at y;exact y
 | .bool b,o,bs,cs,x,_,y=>by simp only[aQ] at x;rw[x.1] at y;exact y
 | .str s,o,bs,cs,x,_,y=>by simp only[aQ] at x;rw[x.1] at y;exact y
 | .agg as,o,bs,cs,x,hb,y=>by
  simp only[aQ] at x
  obtain⟨os,rfl,x⟩:=x
  simp only[VC] at y ⊢
  exact a7.aIX S D as os bs cs x hb y
 | .slice es,o,bs,cs,x,hb,y=>by
  simp only[aQ] at x
  rcases x with ⟨rfl,rfl,rfl⟩ | ⟨b,bs',os,w,rfl,rfl,e2,x,e3⟩
  · unfold VC at y ⊢
    rcases y with y | ⟨b,off,e,_⟩
    · exact .inl y
    · exact .inl ⟨⟨_,e⟩,rfl⟩
  · simp only[VC] at y
    obtain⟨cap,e,l1,l2,_⟩:=y
    obtain⟨hlt,c,t,q1,q2,vs,q3,q4⟩:=S b _ e2
    have hsh:=a7.NU x
    unfold VC
    refine .inr ⟨b,0,cap,e,l1,l2,hb b (by simp),hlt,⟨w,e3⟩,a7.O8 S D b es os bs' 0 x (fun q hq=>hb q (by simp [hq])) (BP (fun q hq=>hsh q hq) q3 q4)⟩
 | .junk,_,_,_,x,_,_=>x.elim
 | .undef,_,_,_,x,_,_=>x.elim
 | .tup _,_,_,_,x,_,_=>x.elim
 | .fslice _,_,_,_,x,_,_=>x.elim
 | .mslice _ _ _ _,_,_,_,x,_,_=>x.elim
 | .nilptr,_,_,_,x,_,_=>x.elim
 | .ptr _ _,_,_,_,x,_,_=>x.elim
 | .pptr _,_,_,_,x,_,_=>x.elim
 | .nilmap,_,_,_,x,_,_=>x.elim
 | .map _,_,_,_,x,_,_=>x.elim
 | .func _ _,_,_,_,x,_,_=>x.elim
 | .raw _,_,_,_,x,_,_=>x.elim
 | .eslice,_,_,_,x,_,_=>x.elim
theorem a7.aIX(S:cH h st)(D:aM st s0):∀(as os:List AV) (bs:List Nat) (cs:List Value),a7 st as os bs→(∀b∈bs,s0 b=none)→aV h st os cs→aV h s0 as cs
 | [],os,bs,cs,x,_,y=>by simp only[a7] at x;rw[x.1] at y;exact y
 | a::as,os,bs,cs,x,hb,y=>by
  simp only[a7] at x
  obtain⟨o,os',b1,b2,rfl,rfl,x1,x2⟩:=x
  simp only[aV] at y ⊢
  obtain⟨c,r,e,y1,y2⟩:=y
  exact⟨c,r,e,aQ.view S D a o b1 [c] x1 (fun q hq=>hb q (by simp [hq])) y1,a7.aIX S D as os' b2 r x2 (fun q hq=>hb q (by simp [hq])) y2⟩
theorem a7.O8(S:cH h st)(D:aM st s0)(b:Nat):∀(as os:List AV) (bs:List Nat) (off:Nat),a7 st as os bs→(∀b∈bs,s0 b=none)→cX h st b off os→cX h s0 b off as
 | [],os,bs,off,x,_,y=>by simp only[cX]
 | a::as,os,bs,off,x,hb,y=>by
  simp only[a7] at x
  obtain⟨o,os',b1,b2,rfl,rfl,x1,x2⟩:=x
  simp only[cX] at y ⊢
  obtain⟨⟨cs,y1,y2,y3⟩,y4⟩:=y
  have hw:=(aQ.shape x1).2.1
  rw[hw] at y2 y4
  exact⟨⟨cs,y1,y2,aQ.view S D a o b1 cs x1 (fun q hq=>hb q (by simp [hq])) y3⟩,a7.O8 S D b as os' b2 _ x2 (fun q hq=>hb q (by simp [hq])) y4⟩
theorem a7.NU:∀ {as os:List AV} {bs:List Nat},a7 st as os bs→∀o∈os,o.cA=false
 | [],os,bs,x=>by simp only[a7] at x;rw[x.1];simp
 | a::as,os,bs,x=>by
  simp only[a7] at x
  obtain⟨o,os',b1,b2,rfl,rfl,x1,x2⟩:=x
  intro q hq
  rcases cO.1 hq with rfl | hq
  · exact(aQ.shape x1).2.2.1
  · exact a7.NU x2 q hq
end
theorem aQ.JM(S:cH h st)(D:aM st s0){a o:AV}{bs:List Nat}{v:Value}(x:aQ st a o bs)(hb:∀b∈bs,s0 b=none)(y:aN h st o v):aN h s0 a v:=by
 have hs:=x.shape
 have key:o.isAgg=jH v∧VC h st o v.cells.toList:=by
  cases o<;>first | exact y | simp [AV.cA] at hs
 have z:a.isAgg=jH v∧VC h s0 a v.cells.toList:=⟨hs.1.symm.trans key.1,aQ.view S D _ _ _ _ x hb key.2⟩
 cases ha:a<;>rw[ha] at z<;>first | trivial | exact z
end
def Seen(st s0:aA):List AV→List AV→Prop
 | [],as=>as= []
 | o::os,as=>∃a as',as=a::as'∧(o=a∨∃bs,aQ st a o bs∧∀b∈bs,s0 b=none)∧Seen st s0 os as'
theorem Seen.rel{st s0:aA}(D:aM st s0):∀ {os as:List AV},Seen st s0 os as→∀h vs,cH h st→cK h st os vs→cK h s0 as vs
 | [],as,x,h,vs,_,y=>by simp only[Seen] at x;rw[x];exact y
 | o::os,as,x,h,vs,S,y=>by
  simp only[Seen] at x
  obtain⟨a,as',rfl,x1,x2⟩:=x
  simp only[cK] at y ⊢
  obtain⟨v,r,rfl,y1,y2⟩:=y
  refine⟨v,r,rfl,?_,Seen.rel D x2 h r S y2⟩
  rcases x1 with rfl | ⟨bs,x1,hb⟩
  · exact y1.mono (D.step h)
  · exact x1.JM S D hb y1
def Made(st:aA)(a r:AV)(st':aA):Prop:=∃bs:List Nat,bs.Nodup∧(∀b∈bs,st b=none)∧aQ st' a r bs∧∀b,b∉bs→st' b=st b
theorem aD.made{P:Program}{g:FuncId}{args:List AV}{st:aA}{a:AV}(x:aD P g args st (Made st a)):aD P g args st (fun r st'=>r=a∧st'=st):=
 x.lQ fun r st' ⟨bs,_,h2,h3,h4⟩=>by
  have D:aM st' st:=fun b=>⟨fun e=>by
   by_cases hb:b∈bs
   · exact h2 b hb
   · rw[←h4 b hb];exact e,fun o e=>by
   by_cases hb:b∈bs
   · rw[h2 b hb] at e;cases e
   · rw[h4 b hb];exact e⟩
  exact⟨a,st,D.uF,fun h v S y=>h3.JM S D h2 y,rfl,rfl⟩
theorem a7.focus{st:aA}:∀ {as os:List AV} {bs:List Nat},a7 st as os bs→bs.Nodup→∀(i:Nat) (a:AV),as[i]?=some a →
 ∃od o orr bo,os=od++o::orr∧od.length=i∧aQ st a o bo∧bo.Nodup∧(∀b∈bo,b∈bs) ∧
  ∀(st':aA) (a' o':AV),(∀b∈bs,b∉bo→st' b=st b)→aQ st' a' o' bo→a7 st' (as.set i a') (od++o'::orr) bs
 | [],os,bs,_,_,i,a,h=>by simp at h
 | c::as,os,bs,x,nd,0,a,h=>by
  simp only[a7] at x
  obtain⟨o,os',b1,b2,rfl,rfl,x1,x2⟩:=x
  simp at h;subst h
  rw[jO] at nd
  refine⟨[],o,os',b1,rfl,rfl,x1,nd.1,fun b hb=>by simp [hb],fun st' a' o' hk y=>?_⟩
  simp only[BL,eR,a7]
  exact⟨o',os',b1,b2,rfl,rfl,y,a7.aU _ _ _ (fun q hq=>hk q (by simp [hq]) (fun hq'=>nd.2.2 q hq' q hq rfl)) x2⟩
 | c::as,os,bs,x,nd,i+1,a,h=>by
  simp only[a7] at x
  obtain⟨o,os',b1,b2,rfl,rfl,x1,x2⟩:=x
  rw[jO] at nd
  obtain⟨od,o2,orr,bo,rfl,hl,y1,y2,y3,y4⟩:=a7.focus x2 nd.2.1 i a (by simpa using h)
  refine⟨o::od,o2,orr,bo,rfl,by simp [hl],y1,y2,fun b hb=>by simp [y3 b hb],fun st' a' o' hk y=>?_⟩
  simp only[E7,gB,a7]
  refine⟨o,_,b1,b2,rfl,rfl,aQ.aU _ _ _ (fun q hq=>hk q (by simp [hq]) (fun hq'=>nd.2.2 q hq q (y3 q hq') rfl)) x1,y4 st' a' o' (fun q hq hn=>hk q (by simp [hq]) hn) y⟩
theorem a7.GU{st:aA}{w:Nat}:∀ {as os:List AV} {bs:List Nat},a7 st as os bs→(∀e∈as,e.width=w)→(os.flatMap AV.cells).length=as.length*w
 | [],os,bs,x,_=>by simp only[a7] at x;rw[x.1];simp
 | a::as,os,bs,x,h=>by
  simp only[a7] at x
  obtain⟨o,os',b1,b2,rfl,rfl,x1,x2⟩:=x
  have:=a7.GU x2 (fun e he=>h e (by simp [he]))
  rw[rF,eC,this,rM,(aQ.shape x1).2.1,h a (by simp),bA,sS]
  omega
theorem a7.take{st:aA}:∀ {as od or':List AV} {bs:List Nat},a7 st as (od++or') bs→∃bs',a7 st (as.take od.length) od bs'
 | as,[],or',bs,_=>⟨[],by simp [a7]⟩
 | [],o::od,or',bs,x=>by simp [a7] at x
 | a::as,o::od,or',bs,x=>by
  simp only[a7,gB] at x
  obtain⟨o1,os',b1,b2,e,rfl,x1,x2⟩:=x
  obtain⟨rfl,rfl⟩:=sR e
  obtain⟨bs',h⟩:=a7.take x2
  exact⟨b1++bs',by simp only[bA,uN,a7];exact⟨o,od,b1,bs',rfl,rfl,x1,h⟩⟩
theorem aQ.focus{st:aA}{es:List AV}{o:AV}{bs:List Nat}(x:aQ st (.slice es) o bs)(nd:bs.Nodup){i:Nat}{e:AV}(h:es[i]?=some e) :
 ∃b bs' w A oe bo B,o=.mslice b 0 es.length w∧bs=b::bs'∧st b=some (.cells (A++oe.cells++B))∧A.length=i*w∧aQ st e oe bo∧bo.Nodup∧b∉bo∧(∀q∈bo,q∈bs)∧e.width=w∧i<es.length ∧
  ∀(st':aA) (e' oe':AV),e'.width=w→(∀q∈bs,q≠b→q∉bo→st' q=st q)→st' b=some (.cells (A++oe'.cells++B))→aQ st' e' oe' bo→aQ st' (.slice (es.set i e')) o bs:=by
 have hi:i<es.length:=(eS.1 h).1
 simp only[aQ] at x
 rcases x with ⟨rfl,_⟩ | ⟨b,bs',os,w,rfl,rfl,e2,x,e3⟩
 · simp at h
 · rw[BK] at nd
   obtain⟨od,oe,orr,bo,rfl,hl,y1,y2,y3,y4⟩:=a7.focus x nd.2 i e h
   have hA:(od.flatMap AV.cells).length=i*w:=by
    obtain⟨bs2,ht⟩:=a7.take x
    rw[ht.GU (fun q hq=>e3 q (mS hq)),dX,hl,jJ (by omega)]
   refine⟨b,bs',w,od.flatMap AV.cells,oe,bo,orr.flatMap AV.cells,rfl,rfl,by rw[e2];simp,hA,y1,y2,fun hb=>nd.1 (y3 b hb),fun q hq=>by simp [y3 q hq],e3 e (cI h),hi,?_⟩
   intro st' e' oe' hw hk hb hO
   simp only[aQ]
   refine .inr ⟨b,bs',od++oe'::orr,w,by simp,rfl,by rw[hb];simp,y4 st' e' oe' (fun q hq hn=>hk q (by simp [hq]) (fun hqb=>nd.1 (hqb▸hq)) hn) hO,fun q hq=>?_⟩
   rcases List.mem_or_eq_of_mem_set hq with hq | rfl
   · exact e3 q hq
   · exact hw
theorem aGR{A C B x:List AV}{n j:Nat}(hA:A.length=n)(hj:j+x.length≤C.length):aS (A++C++B) (n+j) x=A++aS C j x++B:=by
 subst hA
 unfold aS
 have h1:(A++C++B).take (A.length+j)=A++C.take j:=by
  rw[kW,List.take_length_add_append,yF (by omega)]
 have h2:(A++C++B).drop (A.length+j+x.length)=C.drop (j+x.length)++B:=by
  rw[kW,yH,List.drop_length_add_append,PI (by omega)]
 rw[h1,h2]
 simp
theorem AK{A B:List AV}{n:Nat}(hA:A.length=n):(∀(C:List AV) (v:AV) (j:Nat),j<C.length→aS (A++C++B) (n+j) [v]=A++C.set j v++B)∧(∀(C:List AV) (c:Nat),c<C.length→n+c+1≤(A++C++B).length) ∧
 (∀(C:List AV) (c:Nat),c<C.length→(A++C++B)[n+c]?=C[c]?)∧(∀(C:List AV) (v:AV),0<C.length→aS (A++C++B) n [v]=A++C.set 0 v++B)∧(∀(C:List AV),0<C.length→n+1≤(A++C++B).length) ∧
 ∀(C:List AV),0<C.length→(A++C++B)[n]?=C[0]?:=by
 have k1:(∀(C:List AV) (v:AV) (j:Nat),j<C.length→aS (A++C++B) (n+j) [v]=A++C.set j v++B)∧(∀(C:List AV) (c:Nat),c<C.length→n+c+1≤(A++C++B).length)∧∀(C:List AV) (c:Nat),c<C.length→(A++C++B)[n+c]?=C[c]?:=?_
 · exact⟨k1.1,k1.2.1,k1.2.2,fun C v h=>k1.1 C v 0 h,fun C h=>k1.2.1 C 0 h,fun C h=>k1.2.2 C 0 h⟩
 refine⟨fun C v j h=>?_,fun C c h=>?_,fun C c h=>?_⟩
 · rw[aGR hA (by simp;omega),List.set_eq_take_append_cons_drop,aK h]
   unfold aS
   simp
 · simp only[eC];omega
 · subst hA
   rw[kW,PK (by omega),Nat.add_sub_cancel_left,PJ h]
theorem NA{A B C x:List AV}{n w:Nat}(hA:A.length=n)(hC:C.length=w)(hx:x.length=w):aS (A++C++B) n x=A++x++B∧n+w≤(A++C++B).length:=by
 have h:=aGR (A:=A) (C:=C) (B:=B) (x:=x) (n:=n) (j:=0) hA (by omega)
 rw[p5] at h
 refine⟨?_,by simp only[eC];omega⟩
 rw[h]
 unfold aS
 simp [hC,hx]
theorem qN{P:Program}{t:TypeId}{ag:Bool}{b len w i:Nat}(hI:eI P t=some (ag,w))(hi:i<len):dF P t (.mslice b 0 len w) (.int .i64 (i:Int))=some (.ptr b (i*w)):=by
 simp only[dF,hI,j4,gI]
 rw[aK ⟨by omega,by omega,trivial⟩]
theorem aQ.KI{st:aA}:∀ {cs os:List AV} {bs:List Nat},a7 st cs os bs→(∀c∈cs,c.isAgg=false)→os.all AV.storable=true∧os.flatMap AV.cells=os
 | [],os,bs,x,_=>by simp only[a7] at x;rw[x.1];simp
 | a::as,os,bs,x,h=>by
  simp only[a7] at x
  obtain⟨o,os',b1,b2,rfl,rfl,x1,x2⟩:=x
  have ih:=aQ.KI x2 (fun c hc=>h c (by simp [hc]))
  have ha:=h a (by simp)
  have ho:o.storable=true∧o.cells= [o]:=by
   cases a<;>simp only[aQ] at x1<;>try exact x1.elim
   case int=>rw[x1.1];exact⟨rfl,rfl⟩
   case bool=>rw[x1.1];exact⟨rfl,rfl⟩
   case str=>rw[x1.1];exact⟨rfl,rfl⟩
   case agg=>simp [AV.isAgg] at ha
   case slice=>rcases x1 with ⟨_,rfl,_⟩ | ⟨b,bs',os,w,rfl,_⟩<;>exact⟨rfl,rfl⟩
  rw[iW,ho.1,ih.1,rF,ih.2,ho.2]
  exact⟨rfl,rfl⟩
theorem a7.snoc{st st':aA}{a o:AV}{b2:List Nat}:∀ {as os:List AV} {b1:List Nat},a7 st as os b1→(∀b∈b1,st' b=st b)→aQ st' a o b2→a7 st' (as++ [a]) (os++ [o]) (b1++b2)
 | [],os,b1,x,_,y=>by
  simp only[a7] at x
  rw[x.1,x.2]
  simp only[eR,a7]
  exact⟨o,[],b2,[],rfl,by simp,y,rfl,rfl⟩
 | c::as,os,b1,x,h,y=>by
  simp only[a7] at x
  obtain⟨o1,os',b3,b4,rfl,rfl,x1,x2⟩:=x
  simp only[gB,a7]
  exact⟨o1,os'++ [o],b3,b4++b2,rfl,by simp,aQ.aU _ _ _ (fun q hq=>h q (by simp [hq])) x1,a7.snoc x2 (fun q hq=>h q (by simp [hq])) y⟩
def p7(es:List AV)(zs:List AV)(b:Nat)(st:aA)(i:Nat)(p:List AV×List Nat×aA):Prop:=
 p.1.length=i∧a7 p.2.2 (es.take i) p.1 p.2.1∧p.2.1.Nodup∧b∉p.2.1∧(∀q∈p.2.1,st q=none)∧st b=none∧p.2.2 b=some (.cells (p.1.flatMap AV.cells++(List.replicate (es.length - i) zs).flatten))∧∀q,q≠b→q∉p.2.1→p.2.2 q=st q
theorem p7.start{es zs:List AV}{b n:Nat}{st:aA}(hn:st b=none)(hl:n=es.length):p7 es zs b st 0 ([],[],st.aC b (.cells (List.replicate n zs).flatten)):=
 ⟨rfl,by simp [a7],lT,by simp,by simp,hn,by simp [aA.aL,hl],fun q h _=>aA.aF _ _ h⟩
theorem p7.done{es zs:List AV}{b n w:Nat}{st:aA}{os:List AV}{bs:List Nat}{s:aA}(h:p7 es zs b st n (os,bs,s))(hl:es.length=n)(hw:∀e∈es,e.width=w):Made st (.slice es) (.mslice b 0 n w) s:=by
 obtain⟨h1,h2,h3,h4,h5,h6,h7,h8⟩:=h
 simp only at h1 h2 h3 h4 h5 h7 h8
 rw[mU (by omega)] at h2
 refine⟨b::bs,BK.2 ⟨h4,h3⟩,fun q hq=>?_,?_,fun q hq=>h8 q (fun e=>hq (by simp [e])) (fun e=>hq (by simp [e]))⟩
 · rcases cO.1 hq with rfl | hq
   · exact h6
   · exact h5 q hq
 · simp only[aQ]
   refine .inr ⟨b,bs,os,w,by rw[hl],rfl,?_,h2,hw⟩
   rw[h7,hl]
   simp
theorem p7.step{es zs:List AV}{b i w:Nat}{st:aA}{os:List AV}{bs:List Nat}{s s2:aA}{e r:AV}(h:p7 es zs b st i (os,bs,s))(hm:Made s e r s2)(he:es[i]?=some e)(hwe:e.width=w)(hw:∀e∈es,e.width=w)(hz:zs.length=w)
 (hst:e.cells.all AV.storable=true) (hag:e.isAgg=true∨e.cells= [e]) :
 ∃A B,s2 b=some (.cells (A++zs++B))∧A.length=i*w∧r.cells.length=w∧r.cells.all AV.storable=true∧p7 es zs b st (i+1) (os++ [r],bs++hm.choose,s2.aC b (.cells (A++r.cells++B))):=by
 obtain⟨h1,h2,h3,h4,h5,h6,h7,h8⟩:=h
 simp only at h1 h2 h3 h4 h5 h7 h8
 obtain⟨m1,m2,m3,m4⟩:=hm.choose_spec
 generalize hm.choose=bx at *
 have hi:i<es.length:=(eS.1 he).1
 have hbx:b∉bx:=fun hb=>by have:=m2 b hb;rw[h7] at this;cases this
 have hs2:s2 b=s b:=m4 b hbx
 have hlt:(os.flatMap AV.cells).length=i*w:=by rw[h2.GU (fun q hq=>hw q (mS hq)),dX,jJ (by omega)]
 have vM:=a7.eY _ _ _ h2
 have jV:∀q∈bs,q∉bx:=fun q hq hx=>by
  obtain⟨cs,e1,_⟩:=vM.2 q hq
  rw[m2 q hx] at e1;cases e1
 have aRE:(List.replicate (es.length - i) zs).flatten=zs++(List.replicate (es.length - (i+1)) zs).flatten:=by
  rw[show es.length - i=(es.length - (i+1))+1 by omega,List.replicate_succ,List.flatten_cons]
 have hb2:s2 b=some (.cells (os.flatMap AV.cells++zs++(List.replicate (es.length - (i+1)) zs).flatten)):=by rw[hs2,h7,aRE,kW]
 have hrl:r.cells.length=w:=by rw[rM,(aQ.shape m3).2.1,hwe]
 have hrs:r.cells.all AV.storable=true:=by
  cases e<;>simp only[aQ] at m3<;>try exact m3.elim
  case int=>rw[m3.1];try rfl
  case bool=>rw[m3.1];try rfl
  case str=>rw[m3.1];try rfl
  case slice=>rcases m3 with ⟨_,rfl,_⟩ | ⟨_,_,_,_,rfl,_⟩<;>rfl
  case agg cs=>
   obtain⟨q,rfl,m3⟩:=m3
   refine(aQ.KI m3 fun c hc=>?_).1
   have hst:cs.all AV.storable=true:=hst
   have:=eE.1 hst c hc
   cases c<;>first | rfl | (simp [AV.storable] at this)
 refine⟨os.flatMap AV.cells,_,hb2,hlt,hrl,hrs,by simp [h1],?_,?_,?_,?_,h6,?_,?_⟩
 · rw[fP,he]
   have hne:∀q,q≠b→(s2.aC b (.cells (os.flatMap AV.cells++r.cells++(List.replicate (es.length - (i+1)) zs).flatten))) q=s2 q:=fun q hq=>aA.aF _ _ hq
   exact a7.snoc h2 (fun q hq=>(hne q (fun e=>h4 (e▸hq))).trans (m4 q (jV q hq))) (aQ.aU _ _ _ (fun q hq=>hne q (fun e=>hbx (e▸hq))) m3)
 · exact jO.2 ⟨h3,m1,fun a ha c hc e=>jV a ha (e▸hc)⟩
 · intro hb
   rcases dR.1 hb with hb | hb
   · exact h4 hb
   · exact hbx hb
 · intro q hq
   rcases dR.1 hq with hq | hq
   · exact h5 q hq
   · by_cases hqb:q=b
     · rw[hqb];exact h6
     · by_cases hqs:q∈bs
       · exact h5 q hqs
       · rw[←h8 q hqb hqs];exact m2 q hq
 · simp only[aA.aL]
   simp
 · intro q hq hn
   simp only[dR,jL] at hn
   exact(aA.aF _ _ hq).trans ((m4 q hn.2).trans (h8 q hq hn.1))
def PL(st:aA)(ds:List Nat)(a r:AV)(st':aA):Prop:=∃bs:List Nat,bs.Nodup∧(∀b∈bs,st b=none)∧(∀d∈ds,st d=none∧d∉bs)∧aQ st' a r bs∧∀b,b∉bs→b∉ds→st' b=st b
theorem aD.AH{P:Program}{g:FuncId}{args:List AV}{st:aA}{a:AV}(x:aD P g args st (fun r st'=>∃ds,PL st ds a r st')):aD P g args st (Made st a):=
 x.lQ fun r st' ⟨ds,bs,h1,h2,hd,h3,h4⟩=>by
  refine⟨r,fun q=>if q∈ds then none else st' q,?_,?_,bs,h1,h2,?_,fun b hb=>?_⟩
  · have D:aM st' (fun q=>if q∈ds then none else st' q):=fun q=>by
     by_cases hq:q∈ds
     · simp only[hq,dP];exact⟨fun _=>trivial,fun o h=>by cases h⟩
     · simp only[hq,cJ];exact⟨id,fun o h=>h⟩
    exact D.uF
  · have D:aM st' (fun q=>if q∈ds then none else st' q):=fun q=>by
     by_cases hq:q∈ds
     · simp only[hq,dP];exact⟨fun _=>trivial,fun o h=>by cases h⟩
     · simp only[hq,cJ];exact⟨id,fun o h=>h⟩
    exact D.lQ r
  · exact aQ.aU _ _ _ (fun q hq=>aG fun h=>(hd q h).2 hq) h3
  · by_cases hq:b∈ds
    · simp only[hq,dP];exact(hd b hq).1.symm
    · simp only[hq,cJ];exact h4 b hb hq
def sX(b:Nat):List AV→List Nat
 | []=>[]
 | _::_=>[b]
theorem aTJ{s:aA}{b w:Nat}{es os:List AV}{bs:List Nat}(x:a7 (bS s b os) es os bs)(hw:∀e∈es,e.width=w):aQ (bS s b os) (.slice es) (bR w b os) (sX b os++bs):=by
 have hl:=x.length
 cases os with
 | nil=>
  have:es= []:=pY (by simpa using hl.symm)
  subst this
  simp only[a7] at x
  simp only[aQ,bR,sX,x.2]
  exact .inl ⟨trivial,trivial,rfl⟩
 | cons o os=>
  simp only[aQ,bR,sX]
  refine .inr ⟨b,bs,o::os,w,by rw[hl],rfl,?_,x,hw⟩
  simp only[bS,aA.aL]
def AV.flat:AV→Bool
 | .int _ _ | .bool _ | .str _=>true
 | _=>false
theorem a7.flat{s:aA}:∀ {es:List AV},es.all AV.flat=true→a7 s es es []
 | [],_=>⟨rfl,rfl⟩
 | e::es,h=>by
  simp only[iW,cL] at h
  simp only[a7]
  refine⟨e,es,[],[],rfl,rfl,?_,a7.flat h.2⟩
  cases e<;>simp [AV.flat] at h<;>simp [aQ]
theorem Seen.nil{st s0:aA}:Seen st s0 [] []:=rfl
theorem Seen.same{st s0:aA}{x:AV}{os as:List AV}(h:Seen st s0 os as):Seen st s0 (x::os) (x::as):=⟨x,as,rfl,.inl rfl,h⟩
theorem Seen.own{st:aA}{a o:AV}{bs:List Nat}{os as:List AV}(hO:aQ st a o bs)(h:Seen st c8 os as):Seen st c8 (o::os) (a::as):=⟨a,as,rfl,.inr ⟨bs,hO,fun _ _=>rfl⟩,h⟩
theorem aD.see{P:Program}{g:FuncId}{args args':List AV}{st:aA}{r:AV}(x:∀s,aD P g args s (fun r' s'=>r'=r∧s'=s))(hv:Seen st c8 args' args)(hs:r.eY=true):aD P g args' st (fun r' s'=>r'=r∧s'=st):=
 aD.LN hs (x c8) (Seen.rel (aM.c8 st) hv)
theorem aD.rQ{P:Program}{g:FuncId}{args:List AV}{st:aA}{r:AV}(x:aD P g args st (fun r' st'=>r'=r∧aM st' st)):aD P g args st (fun r' st'=>r'=r∧st'=st):=
 (x.mono fun _ _ h=>⟨h.2,h.1⟩).drop
theorem aJJ{P:Program}{t:TypeId}{st:aA}{s x:AV}{K K':AV→aA→Prop}(h:∀r s,K r s→K' r s)(e:jP P t st s x K):jP P t st s x K':=by
 unfold jP at *
 split at e
 case h_2=>exact e.elim
 refine⟨e.1,e.2.1,?_⟩
 have e:=e.2.2
 split at e
 · exact⟨e.1,e.2.1,e.2.2.1,fun q=>h _ _ (e.2.2.2.1 q),fun q b hb=>h _ _ (e.2.2.2.2 q b hb)⟩
 · refine⟨e.1,e.2.1,e.2.2.1,?_⟩
   have e:=e.2.2.2
   split at e
   · exact⟨e.1,h _ _ e.2.1,fun b hb=>h _ _ (e.2.2 b hb)⟩
   · exact e.elim
 · exact e.elim
theorem aJI{P:Program}{t t':TypeId}{st:aA}{s x:AV}{K K':AV→aA→Prop}(h:∀r s,K r s→K' r s)(e:p9 P t t' st s x K):p9 P t t' st s x K':=by
 unfold p9 at *
 split at e
 case h_2=>exact e.elim
 refine⟨e.1,e.2.1,e.2.2.1,e.2.2.2.1,?_⟩
 have e:=e.2.2.2.2
 split at e
 · exact⟨e.1,e.2.1,e.2.2.1,fun q=>h _ _ (e.2.2.2.1 q),fun q b hb=>h _ _ (e.2.2.2.2 q b hb)⟩
 · refine⟨e.1,e.2.1,e.2.2.1,?_⟩
   have e:=e.2.2.2
   split at e
   · exact⟨e.1,h _ _ e.2.1,fun b hb=>h _ _ (e.2.2 b hb)⟩
   · exact e.elim
 · exact e.elim
theorem yX{P:Program}{mt:List Nat}{φ:AF}{st:aA}{o:Oper}{K K':AV→aA→Prop}(h:∀r s,K r s→K' r s)(e:eF P mt φ st o K):eF P mt φ st o K':=by
 unfold eF at *
 split at e
 · split at e
   · exact e.mono h
   · exact e.elim
 · split at e
   · split at e
     · rename_i ht;rw[aK ht];exact aJJ h e
     · rename_i ht;rw[aG ht];exact aJI h e
   · exact e.elim
 · split at e
   · unfold wM at *
     split at e
     · split at e
       · exact h _ _ e
       · exact e.elim
     · exact e.elim
   · exact e.elim
 · split at e
   · rename_i hm
     rw[aK hm]
     exact⟨e.1,fun b hb=>h _ _ (e.2 b hb)⟩
   · rename_i hm
     rw[aG hm]
     split at e
     · exact h _ _ e
     · exact e.elim
 · split at e
   · exact fun b hb=>h _ _ (e b hb)
   · exact e.elim
 · split at e
   · split at e
     · exact⟨e.1,e.2.1,e.2.2.1,h _ _ e.2.2.2⟩
     · exact e.elim
   · exact e.elim
 · exact fun b hb=>h _ _ (e b hb)
 · unfold rH at *
   split at e
   · exact⟨e.1,e.2.1,e.2.2.1,e.2.2.2.1,e.2.2.2.2.1,e.2.2.2.2.2.1,fun b hb=>h _ _ (e.2.2.2.2.2.2 b hb)⟩
   · exact e.elim
 · unfold qA at *
   split at e
   · split at e
     · exact⟨e.1,h _ _ e.2⟩
     · exact e.elim
   · exact e.elim
 · split at e
   · exact h _ _ e
   · exact e.elim
def iN(P:Program)(ops:Array Oper)(o:Oper)(φ:AF)(st:aA)(K:AV→aA→Prop):Prop:=match gZ ops φ o with
 | some true=>eF P [] φ st o K
 | some false=>K .undef st
 | none=>False
theorem uV{P:Program}{ops:Array Oper}{o:Oper}{φ:AF}{st:aA}{K K':AV→aA→Prop}(h:∀r s,K r s→K' r s)(e:iN P ops o φ st K):iN P ops o φ st K':=by
 unfold iN at *
 split at e
 · exact yX h e
 · exact h _ _ e
 · exact e.elim
section
variable {P:Program}
theorem aJN{ops:Array Oper}{oi oj:Oper}(φ:AF)(v:AV)(h:∀d,oj.dst=some d→d∉oi.looksAt ops):gZ ops (φ.put oj.dst v) oi=gZ ops φ oi:=by
 unfold gZ
 cases hg:oi.guard with
 | none=>rfl
 | some gw=>
  obtain⟨g,want⟩:=gw
  cases ht:(ops[g]?).bind (·.dst) with
  | none=>simp only[ht]
  | some t=>
   simp only[ht]
   have:(φ.put oj.dst v) t=φ t:=by
    have:=H2 (φ:=φ) (dst:=oj.dst) (v:=v) (x:=.tmp t) (fun d hd hxd=>h d hd (by
     cases hxd
     simp [Oper.looksAt,hg,ht]))
    exact this
   rw[this]
theorem KE{ops:Array Oper}{oi oj:Oper}(φ:AF)(v:AV){st:aA}{K:AV→aA→Prop}(h:∀d,oj.dst=some d→d∉oi.looksAt ops):iN P ops oi (φ.put oj.dst v) st K↔iN P ops oi φ st K:=by
 have h1:eF P [] (φ.put oj.dst v) st oi K=eF P [] φ st oi K:=
  P4 fun x hx=>H2 fun d hd hxd=>h d hd (by
   subst hxd
   exact List.mem_append_left _ (List.mem_filterMap.2 ⟨.tmp d,by simpa using hx,rfl⟩))
 unfold iN
 rw[h1,aJN φ v h]
theorem aD0(n j:Nat):(Array.replicate n false).getD j false=false:=by
 rcases j6 j n with h | h<;>simp [h]
def FD(P:Program)(ops:Array Oper)(K:AF→aA→Prop):Nat→Array Bool→AF→aA→Prop
 | 0,listed,φ,st=>Region.ready .any ops listed= []∧K φ st
 | f+1,listed,φ,st=>(Region.ready .any ops listed= []→K φ st)∧∀i∈Region.ready .any ops listed,∃o,ops[i]?=some o∧iN P ops o φ st (fun r st'=>FD P ops K f (listed.setIfInBounds i true) (φ.put o.dst r) st')
theorem aJX{N:Nat}{ops:Array Oper}(hN:∀(j d:Nat),(ops[j]?).bind (·.dst)=some d→d<N){o:Oper}{i:Nat}{a:Act}{w:World}{φ:AF}{st:aA}{G:AV→aA→Prop}{K:Act→World→Prop}{Q:Exit→Act→World→Prop}(hi:ops[i]?=some o)
 (R:Rel N a w φ st) (hd:n9 N o=true) (y:iN P ops o φ st G) (h:∀a' w' r st',Rel N a' w' (φ.put o.dst r) st'→bZ w.heap st w'.heap st'→eT w w'→G r st'→K a' w'):wpOp P ops Q i K a w:=by
 unfold iN at y
 unfold wpOp
 simp only[hi]
 split at y
 · rename_i hg
   rw[aK (uR R hN hg)]
   refine .inl (FH R.frame R.store y fun v w' ⟨r',st',x1,x2,x3,x4,x5⟩=>?_)
   exact h _ _ r' st' (R.put hd x3 x2 x1) x3 x4 x5
 · rename_i hg
   rw[aG (by rw[uR R hN hg];simp)]
   exact h _ _ .undef st (R.put (r:=.undef) hd (bZ.refl _ _) R.store ⟨rfl,rfl⟩) (bZ.refl _ _) (eT.refl _) y
 · exact y.elim
theorem J8{N:Nat}{ops:Array Oper}(hN:∀(j d:Nat),(ops[j]?).bind (·.dst)=some d→d<N)(hD:∀o∈ops.toList,n9 N o=true){K:AF→aA→Prop}{Q:Exit→Act→World→Prop}{w0:World}{st0:aA}
 (hK:∀φ st a w,K φ st→Rel N a w φ st→bZ w0.heap st0 w.heap st→eT w0 w→Q .normal a w) :
 ∀(f:Nat) (listed:Array Bool) (φ:AF) (st:aA) (a:Act) (w:World),FD P ops K f listed φ st→Rel N a w φ st→bZ w0.heap st0 w.heap st→eT w0 w→wpAny P .any ops Q f listed a w
 | 0,listed,φ,st,a,w,h,R,T,s=>⟨h.1,hK φ st a w h.2 R T s⟩
 | f+1,listed,φ,st,a,w,h,R,T,s=>by
  refine⟨fun h0=>hK φ st a w (h.1 h0) R T s,fun i hi=>?_⟩
  obtain⟨o,ho,y⟩:=h.2 i hi
  exact aJX hN ho R (hD o (mC.2 (x7 ho))) y fun a' w' r st' R' T' s' g=>J8 hN hD hK f _ _ _ a' w' g R' (T.trans T') (s.trans s')
def PZ(P:Program)(ops:Array Oper)(o:Oper)(r:AV)(φ:AF):Prop:=∀st,iO P st ops o r φ
theorem aXD{ops:Array Oper}{o:Oper}{r:AV}{φ:AF}(h:PZ P ops o r φ){st:aA}{K:AV→aA→Prop}(k:K r st):iN P ops o φ st K:=by
 unfold iN
 rcases h st with ⟨hg,hs⟩ | ⟨hg,rfl⟩
 · rw[hg];exact yX (fun r' s' ⟨e1,e2⟩=>by rw[e1,e2];exact k) hs
 · rw[hg];exact k
theorem P7{ops:Array Oper}{o:Oper}{r:AV}{φ:AF}{st:aA}(h:iO P st ops o r φ){K:AV→aA→Prop}(k:K r st):iN P ops o φ st K:=by
 unfold iN
 rcases h with ⟨hg,hs⟩ | ⟨hg,rfl⟩
 · rw[hg];exact yX (fun r' s' ⟨e1,e2⟩=>by rw[e1,e2];exact k) hs
 · rw[hg];exact k
def yP(P:Program)(ops:Array Oper)(S:List Nat)(K:AF→aA→Prop):Nat→Array Bool→AF→aA→Prop
 | 0,listed,φ,st=>Region.ready .any ops listed= []∧K φ st
 | f+1,listed,φ,st=>(Region.ready .any ops listed= []→K φ st)∧∀i∈Region.ready .any ops listed,∃o,ops[i]?=some o ∧
  ((S.contains i=true∧∃r,iO P st ops o r φ∧yP P ops S K f (listed.setIfInBounds i true) (φ.put o.dst r) st) ∨
   (S.contains i=false∧iN P ops o φ st (fun r st'=>yP P ops S K f (listed.setIfInBounds i true) (φ.put o.dst r) st')))
theorem J9{ops:Array Oper}{S:List Nat}{K:AF→aA→Prop}:∀(f:Nat) (listed:Array Bool) (φ:AF) (st:aA),yP P ops S K f listed φ st→FD P ops K f listed φ st
 | 0,_,_,_,h=>h
 | f+1,listed,φ,st,h=>by
  refine⟨h.1,fun i hi=>?_⟩
  obtain⟨o,ho,h2⟩:=h.2 i hi
  refine⟨o,ho,?_⟩
  rcases h2 with ⟨_,r,y,k⟩ | ⟨_,k⟩
  · exact P7 y (J9 f _ _ _ k)
  · exact uV (fun r s q=>J9 f _ _ _ q) k
def uI(ops:Array Oper)(listed:Array Bool):Prop:=∀j o,ops[j]?=some o→listed.getD j false=true→∀e∈o.after,Region.binds .any e=true→listed.getD e.on false=true
theorem uI.set{ops:Array Oper}{listed:Array Bool}{i:Nat}(h:uI ops listed)(hr:i∈Region.ready .any ops listed):uI ops (listed.setIfInBounds i true):=by
 intro j o ho hl e he hb
 by_cases hji:i=j
 · subst hji
   obtain⟨_,o',ho',c7⟩:=mem_ready.1 hr
   rw[ho'] at ho;cases ho
   exact getD_set_true (c7 e he hb)
 · rw[getD_set_ne false hji] at hl
   exact getD_set_true (h j o ho hl e he hb)
def rP(ops:Array Oper):Nat→Nat→Nat→Bool
 | 0,_,_=>false
 | f+1,j,i=>match ops[j]? with
  | some o=>o.after.any fun e=>Region.binds .any e&&(e.on == i||rP ops f e.on i)
  | none=>false
theorem F5{ops:Array Oper}{listed:Array Bool}{i:Nat}(h:uI ops listed)(hi:listed.getD i false=false):∀(f j:Nat) (o:Oper),ops[j]?=some o→rP ops f j i=true→¬ ∀e∈o.after,Region.binds .any e=true→listed.getD e.on false=true
 | 0,j,o,_,hd=>by simp [rP] at hd
 | f+1,j,o,ho,hd=>by
  intro c7
  simp only[rP,ho] at hd
  obtain⟨e,he,h2⟩:=Array.any_eq_true'.1 hd
  simp only[cL,oU,beq_iff_eq] at h2
  obtain⟨hb,h3⟩:=h2
  have hl:=c7 e he hb
  rcases h3 with h3 | h3
  · rw[h3,hi] at hl;cases hl
  · cases hk:ops[e.on]? with
    | none=>cases f<;>simp [rP,hk] at h3
    | some o2=>exact F5 h hi f e.on o2 hk h3 (h e.on o2 hk hl)
def eQ(st s:aA):Prop:=∀b o,st b=some o→s b=some o
theorem eQ.refl(st:aA):eQ st st:=fun _ _ h=>h
theorem eQ.trans{a b c:aA}(x:eQ a b)(y:eQ b c):eQ a c:=fun q o h=>y q o (x q o h)
def FM(o:Oper):Bool:=match o.op with
 | .alloc _=>true
 | _=>false
theorem aJW{ops:Array Oper}{o:Oper}{φ:AF}{st:aA}{K:AV→aA→Prop}(ho:FM o=true)(e:iN P ops o φ st K):iN P ops o φ st (fun r st'=>eQ st st'∧K r st'):=by
 obtain⟨dst,op,type,pos,after,guard⟩:=o
 cases op<;>simp only[FM,jI] at ho
 unfold iN at e ⊢
 split at e
 · simp only[eF] at e ⊢
   split at e
   · intro b hb
     refine⟨fun q o hq=>?_,e b hb⟩
     rw[aA.aF _ _ (by rintro rfl;rw[hb] at hq;cases hq)]
     exact hq
   · cases e
 · exact⟨eQ.refl _,e⟩
 · cases e
theorem KA{ops:Array Oper}{S:List Nat}{i:Nat}{oi:Oper}{v:AV}{K:AF→aA→Prop}(hi:ops[i]?=some oi)(hS:S.contains i=true) :
 ∀(f:Nat) (listed:Array Bool) (φ:AF) (st:aA),uI ops listed →
  (∀j oj,ops[j]?=some oj→j≠i→listed.getD j true=false→(∀e∈oj.after,Region.binds .any e=true→e.on≠i)→oi.apart ops oj=true) →
  i∈Region.ready .any ops listed→((∀s,iO P s ops oi v φ)∨(iO P st ops oi v φ∧∀j oj,ops[j]?=some oj→listed.getD j true=false→S.contains j=false→∃g,rP ops g j i=true)∨((∀s,eQ st s→iO P s ops oi v φ)∧∀j oj,ops[j]?=some oj→listed.getD j true=false→S.contains j=false→(∃g,rP ops g j i=true)∨FM oj=true)) →
  yP P ops S K f (listed.setIfInBounds i true) (φ.put oi.dst v) st→yP P ops S K (f+1) listed φ st:=by
 intro f
 induction f with
 | zero=>
  intro listed φ st hcl _ hr hy H
  have hy0:iO P st ops oi v φ:=by
   rcases hy with h | h | h
   · exact h st
   · exact h.1
   · exact h.1 st (eQ.refl st)
  refine⟨fun h=>(by rw[h] at hr;cases hr),fun j hj=>?_⟩
  by_cases hji:j=i
  · subst hji;exact⟨oi,hi,.inl ⟨hS,v,hy0,H⟩⟩
  · have:=ready_mono hj hji
    rw[H.1] at this
    cases this
 | succ f ih=>
  intro listed φ st hcl oH hr hy H
  have hy0:iO P st ops oi v φ:=by
   rcases hy with h | h | h
   · exact h st
   · exact h.1
   · exact h.1 st (eQ.refl st)
  refine⟨fun h=>(by rw[h] at hr;cases hr),fun j hj=>?_⟩
  by_cases hji:j=i
  · subst hji;exact⟨oi,hi,.inl ⟨hS,v,hy0,H⟩⟩
  · obtain⟨oj,hoj,h1⟩:=H.2 j (ready_mono hj hji)
    obtain⟨nD,oj',xC,c7⟩:=mem_ready.1 hj
    have:oj'=oj:=lV (xC.symm.trans hoj)
    subst this
    have hun:=(mem_ready.1 hr).1
    have qP:∀e∈oj'.after,Region.binds .any e=true→e.on≠i:=fun e he hb heq=>by
     have h1:=c7 e he hb
     rw[heq,getD_both hun] at h1
     cases h1
    obtain⟨a1,a2,a3⟩:=Oper.apart_spec (oH j oj' hoj hji nD qP)
    have rZ:∀k ok,ops[k]?=some ok→k≠i→(listed.setIfInBounds j true).getD k true=false →
     (∀e∈ok.after,Region.binds .any e=true→e.on≠i)→oi.apart ops ok=true:=fun k ok hk hki hun hno=>by
     refine oH k ok hk hki ?_ hno
     by_cases hjk:j=k
     · subst hjk;exact nD
     · rw[getD_set_ne true hjk] at hun;exact hun
    have MO:∀k,(listed.setIfInBounds j true).getD k true=false→listed.getD k true=false:=fun k hk=>by
     by_cases hjk:j=k
     · subst hjk;exact nD
     · rw[getD_set_ne true hjk] at hk;exact hk
    refine⟨oj',hoj,?_⟩
    rcases h1 with ⟨hSj,r,yj,h2⟩ | ⟨hSj,h2⟩
    · refine .inl ⟨hSj,r,(nU φ v a1).1 yj,ih (listed.setIfInBounds j true) (φ.put oj'.dst r) st (hcl.set hj) rZ (ready_mono hr (c9 hji)) ?_ ?_⟩
      · rcases hy with h | h | h
        · exact .inl fun s=>(nU φ r a3).2 (h s)
        · exact .inr (.inl ⟨(nU φ r a3).2 h.1,fun k ok hk hl hs=>h.2 k ok hk (MO k hl) hs⟩)
        · exact .inr (.inr ⟨fun s hs=>(nU φ r a3).2 (h.1 s hs),fun k ok hk hl hs=>h.2 k ok hk (MO k hl) hs⟩)
      · rw[x8 _ _ hji,←put_comm φ v r a2]
        exact h2
    · rcases hy with hf | ⟨_,hd⟩ | ⟨hx,hd⟩
      · refine .inr ⟨hSj,uV (fun r st' h3=>?_) ((KE φ v a1).1 h2)⟩
        refine ih (listed.setIfInBounds j true) (φ.put oj'.dst r) st' (hcl.set hj) rZ (ready_mono hr (c9 hji)) (.inl fun s=>(nU φ r a3).2 (hf s)) ?_
        rw[x8 _ _ hji,←put_comm φ v r a2]
        exact h3
      · obtain⟨g,hg⟩:=hd j oj' hoj nD hSj
        exact absurd c7 (F5 hcl (getD_both hun) g j oj' hoj hg)
      · rcases hd j oj' hoj nD hSj with ⟨g,hg⟩ | hal
        · exact absurd c7 (F5 hcl (getD_both hun) g j oj' hoj hg)
        · refine .inr ⟨hSj,uV (fun r st' h3=>?_) (aJW hal ((KE φ v a1).1 h2))⟩
          refine ih (listed.setIfInBounds j true) (φ.put oj'.dst r) st' (hcl.set hj) rZ (ready_mono hr (c9 hji)) (.inr (.inr ⟨fun s hs=>(nU φ r a3).2 (hx s (h3.1.trans hs)),fun k ok hk hl hs=>hd k ok hk (MO k hl) hs⟩)) ?_
          rw[x8 _ _ hji,←put_comm φ v r a2]
          exact h3.2
def aG8(ops:Array Oper)(S:List Nat)(listed:Array Bool)(i:Nat):Bool:=(List.range ops.size).all fun j=>listed.getD j true||S.contains j||rP ops ops.size j i
def aG7(ops:Array Oper)(S:List Nat)(listed:Array Bool)(i:Nat):Bool:=(List.range ops.size).all fun j=>listed.getD j true||S.contains j||rP ops ops.size j i||((ops[j]?).map FM).getD false
def aGA(ops:Array Oper)(i:Nat):Bool:=((ops[i]?).map jA).getD false
def qT(ops:Array Oper)(S:List Nat):List (Nat×Nat)→Array Bool→Bool
 | [],listed=>(Region.ready .any ops listed).isEmpty
 | (i,0)::r,listed=>decide (Region.ready .any ops listed= [i])&& !S.contains i&&qT ops S r (listed.setIfInBounds i true)
 | (i,1)::r,listed=>(Region.ready .any ops listed).contains i&&Region.free .any ops listed i&&S.contains i&&qT ops S r (listed.setIfInBounds i true)
 | (i,_)::r,listed=>(Region.ready .any ops listed).contains i&&Region.free .any ops listed i&&S.contains i&&(aG8 ops S listed i||(aGA ops i&&aG7 ops S listed i))&&qT ops S r (listed.setIfInBounds i true)
def yU(P:Program)(ops:Array Oper)(K:AF→aA→Prop):List (Nat×Nat)→AF→aA→Prop
 | [],φ,st=>K φ st
 | (i,0)::r,φ,st=>∃o,ops[i]?=some o∧iN P ops o φ st (fun v st'=>yU P ops K r (φ.put o.dst v) st')
 | (i,1)::r,φ,st=>∃o,ops[i]?=some o∧∃v,PZ P ops o v φ∧yU P ops K r (φ.put o.dst v) st
 | (i,_)::r,φ,st=>∃o,ops[i]?=some o∧∃v,iO P st ops o v φ∧yU P ops K r (φ.put o.dst v) st
theorem aSN{t:TypeId}{ok:Bool}{x i r:AV}{st s:aA}(hs:eQ st s)(h:mW P st t ok x i=some r):mW P s t ok x i=some r:=by
 unfold mW at *
 split at h
 · rename_i b n
   cases hb:st b with
   | none=>rw[hb] at h;cases h
   | some o=>rw[hs b o hb,←hb];exact h
 · cases h
theorem aSI{t:TypeId}{x r:AV}{st s:aA}(hs:eQ st s)(h:gA P st t x=some r):gA P s t x=some r:=by
 unfold gA at *
 split at h
 · exact h
 · rename_i b o
   cases hb:st b with
   | none=>rw[hb] at h;split at h<;>simp_all
   | some o=>rw[hs b o hb,←hb];exact h
 · cases h
theorem P5{φ:AF}{o:Oper}{r:AV}{st s:aA}(hs:eQ st s)(h:jQ P φ st o=some r):jQ P φ s o=some r:=by
 obtain⟨dst,op,type,pos,after,guard⟩:=o
 cases op
 case makeFunc fn a b=>cases fn<;>exact h
 case call c=>
  obtain⟨callee,args,ats⟩:=c
  cases callee
  case builtin b=>cases b<;>exact h
  all_goals exact h
 case load=>exact aSI hs h
 case lookup=>exact aSN hs h
 all_goals exact h
theorem aJ1{ops:Array Oper}{o:Oper}{v:AV}{φ:AF}{st s:aA}(hp:jA o=true)(hs:eQ st s)(h:iO P st ops o v φ):iO P s ops o v φ:=by
 rcases h with ⟨h1,h2⟩ | h
 · refine .inl ⟨h1,?_⟩
   rw[qC hp] at h2 ⊢
   cases hv:jQ P φ st o with
   | none=>rw[hv] at h2;cases h2
   | some r=>
    rw[hv] at h2
    rw[P5 hs hv]
    exact⟨h2.1,rfl⟩
 · exact .inr h
theorem BW{ops:Array Oper}{S:List Nat}{K:AF→aA→Prop}:∀(p:List (Nat×Nat)) (listed:Array Bool) (φ:AF) (st:aA),uI ops listed→qT ops S p listed=true→yU P ops K p φ st→yP P ops S K p.length listed φ st
 | [],listed,φ,st,_,hB,h=>⟨by simpa [qT] using hB,h⟩
 | (i,0)::r,listed,φ,st,hcl,hB,h=>by
  simp only[qT,cL,bM,gN] at hB
  obtain⟨o,ho,h'⟩:=h
  have hr:i∈Region.ready .any ops listed:=by rw[hB.1.1];simp
  refine⟨fun h0=>(by rw[hB.1.1] at h0;cases h0),fun j hj=>?_⟩
  rw[hB.1.1] at hj
  obtain rfl:j=i:=by simpa using hj
  exact⟨o,ho,.inr ⟨hB.1.2,uV (fun v st' q=>BW r _ _ _ (hcl.set hr) hB.2 q) h'⟩⟩
 | (i,1)::r,listed,φ,st,hcl,hB,h=>by
  simp only[qT,cL] at hB
  obtain⟨⟨⟨hr,hf⟩,hS⟩,hB'⟩:=hB
  obtain⟨o,ho,v,hv,h'⟩:=h
  have hr':i∈Region.ready .any ops listed:=by simpa using hr
  exact KA ho hS _ listed φ st hcl (Region.free_spec ho hf) hr' (.inl hv) (BW r _ _ _ (hcl.set hr') hB' h')
 | (i,k+2)::r,listed,φ,st,hcl,hB,h=>by
  simp only[qT,cL] at hB
  obtain⟨⟨⟨⟨hr,hf⟩,hS⟩,hd⟩,hB'⟩:=hB
  obtain⟨o,ho,v,hv,h'⟩:=h
  have hr':i∈Region.ready .any ops listed:=by simpa using hr
  rw[oU] at hd
  rcases hd with hd | hd
  · refine KA ho hS _ listed φ st hcl (Region.free_spec ho hf) hr' (.inr (.inl ⟨hv,fun j oj hj hl hs=>⟨ops.size,?_⟩⟩)) (BW r _ _ _ (hcl.set hr') hB' h')
    simp only[aG8,eE,uM] at hd
    have:=hd j (E3.1 hj).1
    simpa only[hl,hs,rC] using this
  · rw[cL] at hd
    obtain⟨hp,hd⟩:=hd
    simp only[aGA,ho,p6,Option.getD_some] at hp
    refine KA ho hS _ listed φ st hcl (Region.free_spec ho hf) hr' (.inr (.inr ⟨fun s hs=>aJ1 hp hs hv,fun j oj hj hl hs=>?_⟩)) (BW r _ _ _ (hcl.set hr') hB' h')
    simp only[aG7,eE,uM] at hd
    have:=hd j (E3.1 hj).1
    simp only[hl,hs,rC,hj,p6,Option.getD_some,oU] at this
    exact this.imp (fun h=>⟨ops.size,h⟩) id
theorem aKL{N:Nat}{id:Nat}{ops:Array Oper}{Q:Exit→AF→aA→Prop}{φ:AF}{st:aA}(p:List (Nat×Nat))(S:List Nat)(hm:P.follows .mixedOrders=true)(hok:oM N ops=true)(hl:p.length=ops.size)(hB:qT ops S p (Array.replicate ops.size false)=true)
 (h:yU P ops (Q .normal) p φ st):fH P N (.region id ops true) Q φ st:=by
 intro a w R
 refine wp_region_any hm ?_
 have R0:Rel N a { w with drawn:=w.drawn+1 } φ st:=⟨R.size,R.defers,R.frame,R.store⟩
 have:=J9 _ _ _ _ (BW p _ φ st (fun j o _ hl=>(by rw[aD0] at hl;cases hl)) hB h)
 rw[hl] at this
 exact J8 (xI hok) (vQ hok) (w0:=w) (st0:=st) (fun φ' st' a' w' k R' T s=>⟨φ',st',R',T,s,k⟩) _ _ _ _ _ _ this R0 (bZ.refl _ _) ⟨rfl,rfl,rfl⟩
theorem aSM{t:TypeId}{ok:Bool}{x i r:AV}(h:mW P c8 t ok x i=some r)(st:aA):mW P st t ok x i=some r:=by
 unfold mW at *
 split at h
 · simp only[c8] at h;cases h
 · cases h
theorem aSH{t:TypeId}{x r:AV}(h:gA P c8 t x=some r)(st:aA):gA P st t x=some r:=by
 unfold gA at *
 split at h
 · exact h
 · split at h
   · rename_i h1;simp only[c8] at h1;cases h1
   · cases h
 · cases h
theorem aJY{φ:AF}{o:Oper}{r:AV}(h:jQ P φ c8 o=some r)(st:aA):jQ P φ st o=some r:=by
 obtain⟨dst,op,type,pos,after,guard⟩:=o
 cases op
 case makeFunc fn a b=>cases fn<;>exact h
 case call c=>
  obtain⟨callee,args,ats⟩:=c
  cases callee
  case builtin b=>cases b<;>exact h
  all_goals exact h
 case load=>exact aSH h st
 case lookup=>exact aSM h st
 all_goals exact h
def iM(P:Program)(ops:Array Oper)(K:AF→aA→Prop):List (Nat×Nat)→AF→aA→Prop
 | [],φ,st=>K φ st
 | (i,0)::r,φ,st=>match ops[i]? with
  | none=>False
  | some o=>aZ P [] ops [o] (fun φ' st'=>iM P ops K r φ' st') φ st
 | (i,1)::r,φ,st=>match ops[i]? with
  | none=>False
  | some o=>if jA o=true then aZ P [] ops [o] (fun φ' _=>iM P ops K r φ' st) φ c8 else
   match o.guard,o.op with
   | none,.call { callee:=.value f,args,.. }=>∃v,(∀s,qG P (φ.eval f) (args.toList.map φ.eval) s (fun r' s'=>r'=v∧s'=s))∧iM P ops K r (φ.put o.dst v) st
   | _,_=>False
 | (i,_)::r,φ,st=>match ops[i]? with
  | none=>False
  | some o=>if jA o=true then aZ P [] ops [o] (fun φ' _=>iM P ops K r φ' st) φ st else
   match o.guard,o.op with
   | none,.call { callee:=.value f,args,.. }=>∃v,qG P (φ.eval f) (args.toList.map φ.eval) st (fun r' s'=>r'=v∧s'=st)∧iM P ops K r (φ.put o.dst v) st
   | _,_=>False
theorem sW{ops:Array Oper}{K:AF→aA→Prop}:∀(p:List (Nat×Nat)) (φ:AF) (st:aA),iM P ops K p φ st→yU P ops K p φ st
 | [],_,_,h=>h
 | (i,0)::r,φ,st,h=>by
  simp only[iM] at h
  split at h
  · exact h.elim
  · rename_i o ho
    refine⟨o,ho,?_⟩
    simp only[aZ] at h
    unfold iN
    split at h
    · rename_i hg
      rw[hg]
      exact yX (fun v s q=>sW r _ _ q) h
    · rename_i hg
      rw[hg]
      exact sW r _ _ h
    · exact h.elim
 | (i,1)::r,φ,st,h=>by
  simp only[iM] at h
  split at h
  · exact h.elim
  · rename_i o ho
    split at h
    · rename_i hp
      simp only[aZ] at h
      split at h
      · rename_i hg
        rw[qC hp] at h
        split at h
        · rename_i v hv
          exact⟨o,ho,v,fun s=>.inl ⟨hg,by rw[qC hp,aJY hv s];exact⟨rfl,rfl⟩⟩,sW r _ _ h⟩
        · exact h.elim
      · rename_i hg
        exact⟨o,ho,.undef,fun s=>.inr ⟨hg,rfl⟩,sW r _ _ h⟩
      · exact h.elim
    · split at h
      · rename_i f args ats hg hop
        obtain⟨v,h1,h2⟩:=h
        refine⟨o,ho,v,fun s=>.inl ⟨by simp only[gZ,hg],?_⟩,sW r _ _ h2⟩
        simp only[eF,hop]
        exact h1 s
      · exact h.elim
 | (i,k+2)::r,φ,st,h=>by
  simp only[iM] at h
  split at h
  · exact h.elim
  · rename_i o ho
    split at h
    · rename_i hp
      simp only[aZ] at h
      split at h
      · rename_i hg
        rw[qC hp] at h
        split at h
        · rename_i v hv
          exact⟨o,ho,v,.inl ⟨hg,by rw[qC hp,hv];exact⟨rfl,rfl⟩⟩,sW r _ _ h⟩
        · exact h.elim
      · rename_i hg
        exact⟨o,ho,.undef,.inr ⟨hg,rfl⟩,sW r _ _ h⟩
      · exact h.elim
    · split at h
      · rename_i f args ats hg hop
        obtain⟨v,h1,h2⟩:=h
        refine⟨o,ho,v,.inl ⟨by simp only[gZ,hg],?_⟩,sW r _ _ h2⟩
        simp only[eF,hop]
        exact h1
      · exact h.elim
end
def NF(P:Program)(ops:Array Oper)(K:AF→aA→Prop)(r:List (Nat×Nat))(φ:AF)(st:aA):Prop:=iM P ops K r φ st
def D1(P:Program)(ops:Array Oper)(K:AF→aA→Prop)(r:List (Nat×Nat))(st:aA)(φ:AF)(_:aA):Prop:=iM P ops K r φ st
def xK(P:Program)(ops:Array Oper)(K:AF→aA→Prop)(r:List (Nat×Nat))(φ:AF)(dst:Option Tmp)(st:aA)(v:AV):Prop:=iM P ops K r (φ.put dst v) st
def CF(P:Program)(f:AV)(args:List AV)(K:AV→Prop):Prop:=∃v,(∀s,qG P f args s (fun r' s'=>r'=v∧s'=s))∧K v
def A0(P:Program)(ops:Array Oper)(K:AF→aA→Prop)(r:List (Nat×Nat))(φ:AF)(st:aA):Nat→Option Oper→Prop
 | 0,some o=>aZ P [] ops [o] (NF P ops K r) φ st
 | 1,some o=>if jA o=true then aZ P [] ops [o] (D1 P ops K r st) φ c8 else
  match o.guard,o.op with
  | none,.call { callee:=.value f,args,.. }=>CF P (φ.eval f) (args.toList.map φ.eval) (xK P ops K r φ o.dst st)
  | _,_=>False
 | _,some o=>if jA o=true then aZ P [] ops [o] (D1 P ops K r st) φ st else
  match o.guard,o.op with
  | none,.call { callee:=.value f,args,.. }=>u7 P (φ.eval f) (args.toList.map φ.eval) st (xK P ops K r φ o.dst st)
  | _,_=>False
 | _,none=>False
theorem ZL{P:Program}{ops:Array Oper}{K:AF→aA→Prop}{φ:AF}{st:aA}:iM P ops K [] φ st=K φ st:=rfl
theorem ZM{P:Program}{l:List Oper}{K:AF→aA→Prop}{φ:AF}{st:aA}{i b:Nat}{r:List (Nat×Nat)}:iM P l.toArray K ((i,b)::r) φ st=A0 P l.toArray K r φ st b l[i]?:=by
 match b with
 | 0=>simp only[iM,wE];cases l[i]?<;>rfl
 | 1=>simp only[iM,wE];cases l[i]?<;>rfl
 | b+2=>simp only[iM,wE];cases l[i]?<;>rfl
theorem ZQ{P:Program}{ops:Array Oper}{K:AF→aA→Prop}{φ:AF}{st:aA}{r:List (Nat×Nat)}{o:Oper}:A0 P ops K r φ st 0 (some o)=aZ P [] ops [o] (NF P ops K r) φ st:=rfl
theorem ZR{P:Program}{ops:Array Oper}{K:AF→aA→Prop}{φ:AF}{st:aA}{r:List (Nat×Nat)}{o:Oper}:A0 P ops K r φ st 1 (some o)=if jA o=true then aZ P [] ops [o] (D1 P ops K r st) φ c8 else
      match o.guard,o.op with
      | none,.call { callee:=.value f,args,.. }=>CF P (φ.eval f) (args.toList.map φ.eval) (xK P ops K r φ o.dst st)
      | _,_=>False:=rfl
theorem ZS{P:Program}{ops:Array Oper}{K:AF→aA→Prop}{φ:AF}{st:aA}{r:List (Nat×Nat)}{o:Oper}:A0 P ops K r φ st 2 (some o)=if jA o=true then aZ P [] ops [o] (D1 P ops K r st) φ st else
      match o.guard,o.op with
      | none,.call { callee:=.value f,args,.. }=>u7 P (φ.eval f) (args.toList.map φ.eval) st (xK P ops K r φ o.dst st)
      | _,_=>False:=rfl
theorem ZP{P:Program}{ops:Array Oper}{K:AF→aA→Prop}{φ:AF}{st:aA}{r:List (Nat×Nat)}:NF P ops K r φ st=iM P ops K r φ st:=rfl
theorem ZO{P:Program}{ops:Array Oper}{K:AF→aA→Prop}{φ:AF}{st s:aA}{r:List (Nat×Nat)}:D1 P ops K r st φ s=iM P ops K r φ st:=rfl
theorem ZN{P:Program}{ops:Array Oper}{K:AF→aA→Prop}{φ:AF}{st:aA}{r:List (Nat×Nat)}{dst:Option Tmp}{v:AV}:xK P ops K r φ dst st v=iM P ops K r (φ.put dst v) st:=rfl
theorem K6{P:Program}{g:FuncId}{args:List AV}{r:AV}{K:AV→Prop}(x:∀st,aD P g args st (fun r' st'=>r'=r∧st'=st))(h:K r):CF P (.func g []) args K:=⟨r,fun st=>by show aD P g (args++ []) st _;rw[fN];exact x st,h⟩
@[congr] theorem aXQ {P:Program} {ops:Array Oper} {K:AF→aA→Prop} {p:List (Nat×Nat)} {φ φ':AF} {st st':aA} (h1:φ=φ') (h2:st=st'):iM P ops K p φ st=iM P ops K p φ' st':=by rw[h1,h2]
@[congr] theorem aX3 {P:Program} {ops:Array Oper} {K:AF→aA→Prop} {p:List (Nat×Nat)} {φ φ':AF} {st st':aA} {b:Nat} {o o':Option Oper} (h1:φ=φ') (h2:st=st') (h3:o=o'):A0 P ops K p φ st b o=A0 P ops K p φ' st' b o':=by rw[h1,h2,h3]
@[congr] theorem aX2 {P:Program} {ops:Array Oper} {K:AF→aA→Prop} {p:List (Nat×Nat)} {φ φ':AF} {dst:Option Tmp} {st st':aA} {v v':AV} (h1:φ=φ') (h2:st=st') (h3:v=v'):xK P ops K p φ dst st v=xK P ops K p φ' dst st' v':=by rw[h1,h2,h3]
@[congr] theorem aXU {P:Program} {f f':AV} {args args':List AV} {K:AV→Prop} (h0:f=f') (h1:args=args'):CF P f args K=CF P f' args' K:=by rw[h0,h1]
theorem zx5{P:Program}{N:Nat}{id:Nat}{l:List Oper}{Q:Exit→AF→aA→Prop}{φ:AF}{st:aA}(p:List (Nat×Nat))(S:List Nat)(hm:P.follows .mixedOrders=true)(hok:oM N l.toArray=true)(hl:p.length=l.length)(hB:qT l.toArray S p (Array.replicate l.length false)=true)
 (h:iM P l.toArray (Q .normal) p φ st):fH P N (.region id l.toArray true) Q φ st:=
 aKL p S hm hok (by simpa using hl) (by simpa using hB) (sW p φ st h)
theorem P8{P:Program}{t:TypeId}{ag:Bool}{w bytes:Nat}{zs:List AV}{s:aA}{b:Nat}{l xs:List AV}{x:AV}{K:AV→aA→Prop}
 (hI:eI P t=some (ag,w)) (hB:eB P t=some bytes) (hZ:eZ P t=some zs) (hz:zs.length=w) (hx:wN x=some xs) (fK:uW w xs) (hw:∀e∈l,e.width=w) (hb:l≠[]→s b=some (.cells (l.flatMap AV.cells)))
 (h1:(l.length+xs.length)*bytes≤140737488355328) (h2:l.length+xs.length≤9223372036854775807)
 (hK:∀b' s',(l++xs≠[]→s' b'=some (.cells ((l++xs).flatMap AV.cells)))→(l++xs≠[]→b'=b∧l≠[]∨s b'=none)→(∀q,(l++xs≠[]→q≠b')→(l≠[]→q≠b)→s' q=s q)→(l≠[]→b'≠b→s' b=none)→K (bR w b' (l++xs)) s'):jP P t s (bR w b l) x K:=by
 unfold jP
 rw[hI,hB,hZ,hx]
 refine⟨hz,fK,?_⟩
 cases l with
 | nil=>
  show _∧_∧_∧_∧_
  refine⟨by simpa using h1,by simpa using h2,by simp,?_,?_⟩
  · rintro rfl
    have:=hK b s (by simp) (by simp) (fun _ _ _=>rfl) (by simp)
    simpa [bR] using this
  · intro hne b' hb'
    have:=hK b' (s.aC b' (.cells (xs.flatMap AV.cells))) (fun _=>by rw[aA.aL];simp) (fun _=>.inr hb') (fun q h _=>aA.aF _ _ (h (by simpa using hne))) (by simp)
    rw[eR,qE hne] at this
    simpa using this
 | cons y l=>
  have hb:=hb (by simp)
  show w=w∧_∧_∧_
  refine⟨rfl,h1,h2,?_⟩
  have hfl:((y::l).flatMap AV.cells).length=(y::l).length*w:=m9 hw
  rw[hb]
  refine⟨by rw[hfl];exact cT _,?_,?_⟩
  · have:=hK b (s.aC b (.cells ((y::l++xs).flatMap AV.cells))) (fun _=>aA.aL _ _ _) (fun _=>.inl ⟨rfl,by simp⟩) (fun q h _=>aA.aF _ _ (h (by simp))) (fun _ h=>absurd rfl h)
    rw[qE (by simp),wD,eC] at this
    rw[←hfl,eD]
    exact this
  · intro b' hb'
    have hne:b'≠b:=by rintro rfl;rw[hb] at hb';cases hb'
    have:=hK b' ((s.erase b).aC b' (.cells ((y::l++xs).flatMap AV.cells))) (fun _=>aA.aL _ _ _) (fun _=>.inr hb') (fun q h h'=>by
     rw[aA.aF _ _ (h (by simp))]
     simp only[aA.erase,h' (by simp),cJ]) (fun _ _=>by rw[aA.aF _ _ (c9 hne)];exact aA.SU _ _)
    rw[qE (by simp),wD,eC] at this
    rw[←hfl,eD]
    exact this
def pX(es:List AV)(st:aA)(i:Nat)(os:List AV)(bs:List Nat)(b:Nat)(s:aA):Prop:=
 os.length=i∧a7 s (es.take i) os bs∧bs.Nodup∧(∀q∈bs,st q=none)∧(os≠[]→st b=none∧b∉bs∧s b=some (.cells (os.flatMap AV.cells)))∧∀q,q∉bs→(os≠[]→q≠b)→s q=st q
theorem pX.start{es:List AV}{st:aA}{b:Nat}:pX es st 0 [] [] b st:=⟨rfl,by simp [a7],lT,by simp,by simp,fun _ _ _=>rfl⟩
theorem MX{b x:Nat}{l:List AV}:x∈sX b l↔x=b∧l≠[]:=by cases l<;>simp [sX]
theorem pX.done{es:List AV}{st:aA}{n w:Nat}{os:List AV}{bs:List Nat}{b:Nat}{s:aA}(h:pX es st n os bs b s)(hl:es.length=n)(hw:∀e∈es,e.width=w):Made st (.slice es) (bR w b os) s:=by
 obtain⟨h1,h2,h3,h4,h5,h6⟩:=h
 rw[mU (by omega)] at h2
 refine⟨sX b os++bs,?_,fun q hq=>?_,?_,fun q hq=>?_⟩
 · rw[jO]
   refine⟨by cases os<;>simp [sX],h3,fun x hx y hy e=>?_⟩
   obtain⟨rfl,hne⟩:=MX.1 hx
   exact(h5 hne).2.1 (e▸hy)
 · rcases dR.1 hq with hq | hq
   · obtain⟨rfl,hne⟩:=MX.1 hq
     exact(h5 hne).1
   · exact h4 q hq
 · cases os with
   | nil=>
    have:es= []:=by simpa using h2.length.symm
    subst this
    simp only[a7] at h2
    simp only[aQ,bR,sX,h2.2]
    exact .inl ⟨trivial,trivial,rfl⟩
   | cons o os=>
    simp only[aQ,bR,sX]
    refine .inr ⟨b,bs,o::os,w,by rw[h2.length],rfl,(h5 (by simp)).2.2,h2,hw⟩
 · simp only[dR,MX,jL,not_and] at hq
   exact h6 q hq.2 (fun hne e=>hq.1 e hne)
theorem a7.PB{st:aA}{w:Nat}:∀ {as os:List AV} {bs:List Nat},a7 st as os bs→(∀e∈as,e.width=w)→∀o∈os,o.width=w
 | [],os,bs,x,_=>by simp only[a7] at x;rw[x.1];simp
 | a::as,os,bs,x,h=>by
  simp only[a7] at x
  obtain⟨o,os',b1,b2,rfl,rfl,x1,x2⟩:=x
  intro q hq
  rcases cO.1 hq with rfl | hq
  · rw[(aQ.shape x1).2.1,h a (by simp)]
  · exact a7.PB x2 (fun e he=>h e (by simp [he])) q hq
theorem aQ.K7{st:aA}{e r:AV}{bs:List Nat}{w:Nat}(m3:aQ st e r bs)(hwe:e.width=w)(hst:e.cells.all AV.storable=true):r.width=w∧r.cells.length=w∧r.cells.all AV.storable=true:=by
 refine⟨(aQ.shape m3).2.1.trans hwe,by rw[rM,(aQ.shape m3).2.1,hwe],?_⟩
 cases e<;>simp only[aQ] at m3<;>try exact m3.elim
 case int=>rw[m3.1];try rfl
 case bool=>rw[m3.1];try rfl
 case str=>rw[m3.1];try rfl
 case slice=>rcases m3 with ⟨_,rfl,_⟩ | ⟨_,_,_,_,rfl,_⟩<;>rfl
 case agg cs=>
  obtain⟨q,rfl,m3⟩:=m3
  refine(aQ.KI m3 fun c hc=>?_).1
  have hst:cs.all AV.storable=true:=hst
  have:=eE.1 hst c hc
  cases c<;>first | rfl | (simp [AV.storable] at this)
theorem pX.step{es:List AV}{st:aA}{i:Nat}{os:List AV}{bs bx:List Nat}{b x b':Nat}{s s2 s':aA}{o:AO}{e r:AV}(h:pX es st i os bs b s)(hx:s x=none)(he:es[i]?=some e)
 (m1:bx.Nodup) (m2:∀q∈bx,(s.aC x o) q=none) (m3:aQ s2 e r bx) (m4:∀q,q∉bx→s2 q=(s.aC x o) q)
 (k1:s' b'=some (.cells ((os++ [r]).flatMap AV.cells))) (k2:b'=b∧os≠[]∨s2 b'=none) (k3:∀q,q≠b'→(os≠[]→q≠b)→s' q=s2 q) (k4:os≠[]→b'≠b→s' b=none) :
 pX es st (i+1) (os++ [r]) (bs++bx) b' (s'.erase x):=by
 obtain⟨h1,h2,h3,h4,h5,h6⟩:=h
 have vM:=a7.eY _ _ _ h2
 have hi:i<es.length:=(eS.1 he).1
 have tP:∀q∈bs,s q≠none:=fun q hq=>by obtain⟨cs,e1,_⟩:=vM.2 q hq;rw[e1];simp
 have aRP:x∉bs:=fun hq=>tP x hq hx
 have hxb:os≠[]→x≠b:=fun hne e=>by have:=(h5 hne).2.2;rw[←e,hx] at this;cases this
 have MQ:x∉bx:=fun hq=>by have:=m2 x hq;rw[aA.aL] at this;cases this
 have hbx:∀q∈bx,s q=none:=fun q hq=>by
  have:=m2 q hq
  have hne:q≠x:=fun e=>MQ (e▸hq)
  rwa [aA.aF _ _ hne] at this
 have jV:∀q∈bs,q∉bx:=fun q hq hq'=>tP q hq (hbx q hq')
 have aEF:os≠[]→b∉bx:=fun hne hq=>by have:=hbx b hq;rw[(h5 hne).2.2] at this;cases this
 have aRG:s2 x=some o:=by rw[m4 x MQ,aA.aL]
 have hs2:∀q,q∉bx→q≠x→s2 q=s q:=fun q h1 h2=>by rw[m4 q h1,aA.aF _ _ h2]
 have LW:b'≠x:=by
  rcases k2 with ⟨rfl,hne⟩ | hn
  · exact c9 (hxb hne)
  · rintro rfl;rw[aRG] at hn;cases hn
 have G2:b'∉bx:=by
  rcases k2 with ⟨rfl,hne⟩ | hn
  · exact aEF hne
  · intro hq
    obtain⟨cs,e1,_⟩:=(aQ.eY _ _ _ m3).2.2 b' hq
    rw[e1] at hn;cases hn
 have LV:b'∉bs:=by
  rcases k2 with ⟨rfl,hne⟩ | hn
  · exact(h5 hne).2.1
  · intro hq
    rw[hs2 b' G2 LW] at hn
    exact tP b' hq hn
 have aRH:st b'=none:=by
  rcases k2 with ⟨rfl,hne⟩ | hn
  · exact(h5 hne).1
  · rw[hs2 b' G2 LW] at hn
    by_cases hbb:os≠[]∧b'=b
    · rw[hbb.2];exact(h5 hbb.1).1
    · rw[←h6 b' LV (fun hne e=>hbb ⟨hne,e⟩)];exact hn
 have aP2:os≠[]→∀q∈bs,q≠b:=fun hne q hq e=>(h5 hne).2.1 (e▸hq)
 have aQQ:∀q∈bs,(s'.erase x) q=s q:=fun q hq=>by
  have hqx:q≠x:=fun e=>aRP (e▸hq)
  simp only[aA.erase,hqx,cJ]
  rw[k3 q (fun e=>LV (e▸hq)) (fun hne=>aP2 hne q hq),hs2 q (jV q hq) hqx]
 have aQR:∀q∈bx,(s'.erase x) q=s2 q:=fun q hq=>by
  have hqx:q≠x:=fun e=>MQ (e▸hq)
  simp only[aA.erase,hqx,cJ]
  exact k3 q (fun e=>G2 (e▸hq)) (fun hne e=>aEF hne (e▸hq))
 refine⟨by simp [h1],?_,jO.2 ⟨h3,m1,fun a ha c hc e=>jV a ha (e▸hc)⟩,fun q hq=>?_,fun _=>⟨aRH,?_,?_⟩,fun q hq hqb=>?_⟩
 · rw[fP,he]
   exact a7.snoc h2 aQQ (aQ.aU _ _ _ aQR m3)
 · rcases dR.1 hq with hq | hq
   · exact h4 q hq
   · by_cases hbb:os≠[]∧q=b
     · rw[hbb.2];exact(h5 hbb.1).1
     · by_cases hqs:q∈bs
       · exact h4 q hqs
       · rw[←h6 q hqs (fun hne e=>hbb ⟨hne,e⟩)];exact hbx q hq
 · intro hq
   rcases dR.1 hq with hq | hq
   · exact LV hq
   · exact G2 hq
 · simp only[aA.erase,LW,cJ]
   exact k1
 · simp only[dR,jL] at hq
   have aEY:=hqb (by simp)
   by_cases hqx:q=x
   · subst hqx
     simp only[aA.erase,dP]
     rw[←h6 q hq.1 hxb,hx]
   · simp only[aA.erase,hqx,cJ]
     by_cases hbb:os≠[]∧q=b
     · rw[hbb.2,k4 hbb.1 (fun e=>aEY (hbb.2.trans e.symm)),(h5 hbb.1).1]
     · rw[k3 q aEY (fun hne e=>hbb ⟨hne,e⟩),hs2 q hq.2 hqx]
       exact h6 q hq.1 (fun hne e=>hbb ⟨hne,e⟩)
theorem aD.done{P:Program}{g:FuncId}{args:List AV}{st:aA}{r:AV}(x:aD P g args st (fun r' st'=>r'.soft=r∧aM st' st)):aD P g args st (fun r' st'=>r'=r∧st'=st):=
 aD.rQ (aD.soft x)
theorem aD.m7{P:Program}{g:FuncId}{args:List AV}{st:aA}{Q:AV→aA→Prop}(x:aD P g args st (fun r st'=>∃s2,aM st' s2∧Q r s2)):aD P g args st Q:=
 x.lQ fun r _ ⟨s2,D,q⟩=>⟨r,s2,D.uF,D.lQ r,q⟩
theorem mA{cs:List AV}:(AV.agg cs).soft=.agg (cs.map AV.soft):=by simp only[AV.soft,xO]
theorem mP{cs:List AV}:(AV.tup cs).soft=.tup (cs.map AV.soft):=by simp only[AV.soft,xO]
theorem nM{k:IntKind}{n:Int}:(AV.int k n).soft=.int k n:=rfl
theorem t7{b:Bool}:(AV.bool b).soft=.bool b:=rfl
theorem xP{s:ByteArray}:(AV.str s).soft=.str s:=rfl
theorem sE{es:List AV}:(AV.slice es).soft=.slice es:=rfl
theorem vU{es:List AV}:(AV.fslice es).soft=.slice es:=rfl
def tG(b:Nat)(l:List AV):List (Nat×AV)→List (Nat×AV)
 | []=>[]
 | p::r=>(p.1,p.2.fin b l)::tG b l r
theorem XB{b:Nat}{l:List AV}:tG b l []= []:=rfl
theorem XC{b d:Nat}{l:List AV}{v:AV}{r:List (Nat×AV)}:tG b l ((d,v)::r)=(d,v.fin b l)::tG b l r:=rfl
theorem aPA{b:Nat}{l:List AV}:AV.junk.fin b l=.junk:=by unfold AV.fin;split<;>rfl
theorem pE{w b:Nat}{l:List AV}:(bR w b l).fin b l=.slice l:=mH
theorem aSE{st:aA}(b:Nat)(l:List AV)(hb:l≠[]→st b=none)(hj:∀e∈l,e.cA=false)(hE:iV l)(L:List (Nat×AV)):fD (iY L) (bS st b l) (iY (tG b l L)) st:=by
 have key:∀L d,iY (tG b l L) d=(iY L d).fin b l:=by
  intro L
  induction L with
  | nil=>intro d;exact aPA.symm
  | cons p r ih=>
   obtain⟨e,v⟩:=p
   intro d
   show((iY (tG b l r)).aC e (v.fin b l)) d=(((iY r).aC e v) d).fin b l
   simp only[AF.aC]
   split
   · rfl
   · exact ih d
 intro h tmps S F
 cases l with
 | nil=>exact⟨S,bZ.refl _ _,fun d=>by rw[key];exact(F d).soft⟩
 | cons y l=>
  have hst:(bS st b (y::l)) b=some (.cells ((y::l).flatMap AV.cells)):=aA.aL _ _ _
  have he:(bS st b (y::l)).erase b=st:=aA.zR st b _ (hb (by simp))
  have L1:fD (iY L) (bS st b (y::l)) (fun d=>(iY L d).fz b (y::l)) st:=by
   have:=fD.freeze (φ:=iY L) hst hj hE
   rwa [he] at this
  obtain⟨a1,a2,a3⟩:=L1 h tmps S F
  exact⟨a1,a2,fun d=>by rw[key];exact(a3 d).soft⟩
theorem sO{P:Program}{N:Nat}{c:Code}{Q:Exit→AF→aA→Prop}{φ:AF}{st:aA}{α σ:Type}(mt:List Nat)(aU:List Nat)(l:List α)(w d:Nat)(acc:Nat→σ→List AV)(inv:Nat→σ→Prop)(ch:Nat→σ→List (Nat×AV))(so:Nat→σ→aA)
 (hw:∀i s,inv i s→∀e∈acc i s,e.cA=false∧e.width=w)
 (hok:codeOk N c=true)
 (h0:∃s b,inv 0 s∧(acc 0 s≠[]→so 0 s b=none)∧aR φ st (jD φ aU ((d,bR w b (acc 0 s))::ch 0 s)) (bS (so 0 s) b (acc 0 s)))
 (h1:∀i x s b,l[i]?=some x→i<l.length→((i:Int)<(l.length:Int))→l.drop i=x::l.drop (i+1)→inv i s→(acc i s≠[]→so i s b=none) →
  fA P N mt c (nH (fun φ' st'=>∃s' b',inv (i+1) s'∧(acc (i+1) s'≠[]→so (i+1) s' b'=none)∧aR φ' st' (jD φ aU ((d,bR w b' (acc (i+1) s'))::ch (i+1) s')) (bS (so (i+1) s') b' (acc (i+1) s'))) Q) (tL (jD φ aU ((d,bR w b (acc i s))::ch i s))) (bS (so i s) b (acc i s)))
 (h2:∀s b,¬((l.length:Int)<(l.length:Int))→inv l.length s→fA P N mt c (nH (fun _ _=>False) Q) (tL (tG b (acc l.length s) (jD φ aU ((d,bR w b (acc l.length s))::ch l.length s)))) (so l.length s)):fH P N (.loop c) Q φ st:=by
 have lQ:∀(k:AF→aA→Prop) (φ0:AF) (st0:aA) (k':AF→aA→Prop),(∀φ' st',k' φ' st'→k φ' st') →
  fH P N c (nH k' Q) φ0 st0→fH P N c (nH k Q) φ0 st0:=by
  intro k φ0 st0 k' hk hr a w R
  refine wp_mono (hr a w R) ?_
  rintro e a' w' ⟨φ',st',R',T,sm,q⟩
  refine⟨φ',st',R',T,sm,?_⟩
  cases e with
  | normal=>exact hk _ _ q
  | _=>exact q
 refine KM (α:=Nat×σ×Nat) (fun p=>p.1≤l.length∧inv p.1 p.2.1∧(acc p.1 p.2.1≠[]→so p.1 p.2.1 p.2.2=none)) (fun p=>iY (jD φ aU ((d,bR w p.2.2 (acc p.1 p.2.1))::ch p.1 p.2.1))) (fun p=>bS (so p.1 p.2.1) p.2.2 (acc p.1 p.2.1)) (fun p=>l.length - p.1) ?_ ?_
 · obtain⟨s,b,hs,hb,hl⟩:=h0
   exact⟨(0,s,b),⟨mV _,hs,hb⟩,hl⟩
 · rintro⟨i,s,b⟩ ⟨hi,hs,hb⟩
   simp only at hi hs hb ⊢
   rcases j6 i l.length with hlt | hge
   · refine lQ _ _ _ _ ?_ (B4 mt hok (h1 i l[i] s b (e7 hlt) hlt (by omega) (oV hlt) hs hb))
     rintro φ' st' ⟨s',b',h1',h2',h3'⟩
     exact⟨(i+1,s',b'),by simp only;omega,⟨by simp only;omega,h1',h2'⟩,h3'⟩
   · obtain rfl:i=l.length:=by omega
     refine fH.less (aSE b (acc l.length s) hb (fun e he=>(hw _ s hs e he).1) ⟨w,fun e he=>(hw _ s hs e he).2⟩ _) ?_
     refine lQ _ _ _ _ ?_ (B4 mt hok (h2 s b (by omega) hs))
     exact fun _ _ h=>h.elim
section
variable {P:Program}
def LD(ops:Array Oper)(S:List Nat)(j:Nat):Bool:=S.all fun i=>rP ops ops.size j i
def yQ(P:Program)(ops:Array Oper)(S:List Nat)(s0:aA)(K:AF→aA→Prop):Nat→Array Bool→AF→aA→Prop
 | 0,listed,φ,st=>Region.ready .any ops listed= []∧K φ st
 | f+1,listed,φ,st=>(Region.ready .any ops listed= []→K φ st)∧∀i∈Region.ready .any ops listed,∃o,ops[i]?=some o ∧
  ((S.contains i=true∧∃r,iO P st ops o r φ∧yQ P ops S s0 K f (listed.setIfInBounds i true) (φ.put o.dst r) st) ∨
   (S.contains i=false∧iN P ops o φ st (fun r st'=>(LD ops S i=true∨eQ s0 st')∧yQ P ops S s0 K f (listed.setIfInBounds i true) (φ.put o.dst r) st')))
theorem KB{ops:Array Oper}{S:List Nat}{s0:aA}{K:AF→aA→Prop}:∀(f:Nat) (listed:Array Bool) (φ:AF) (st:aA),yQ P ops S s0 K f listed φ st→FD P ops K f listed φ st
 | 0,_,_,_,h=>h
 | f+1,listed,φ,st,h=>by
  refine⟨h.1,fun i hi=>?_⟩
  obtain⟨o,ho,h2⟩:=h.2 i hi
  refine⟨o,ho,?_⟩
  rcases h2 with ⟨_,r,y,k⟩ | ⟨_,k⟩
  · exact P7 y (KB f _ _ _ k)
  · exact uV (fun r s q=>KB f _ _ _ q.2) k
theorem aJH{ops:Array Oper}{S:List Nat}{s0:aA}{i:Nat}{oi:Oper}{v:AV}{K:AF→aA→Prop}(hi:ops[i]?=some oi)(hS:S.contains i=true) :
 ∀(f:Nat) (listed:Array Bool) (φ:AF) (st:aA),uI ops listed →
  (∀j oj,ops[j]?=some oj→j≠i→listed.getD j true=false→(∀e∈oj.after,Region.binds .any e=true→e.on≠i)→oi.apart ops oj=true) →
  i∈Region.ready .any ops listed→(∀s,eQ s0 s→iO P s ops oi v φ)→eQ s0 st →
  yQ P ops S s0 K f (listed.setIfInBounds i true) (φ.put oi.dst v) st→yQ P ops S s0 K (f+1) listed φ st:=by
 intro f
 induction f with
 | zero=>
  intro listed φ st hcl _ hr hy hx H
  refine⟨fun h=>(by rw[h] at hr;cases hr),fun j hj=>?_⟩
  by_cases hji:j=i
  · subst hji;exact⟨oi,hi,.inl ⟨hS,v,hy st hx,H⟩⟩
  · have:=ready_mono hj hji
    rw[H.1] at this
    cases this
 | succ f ih=>
  intro listed φ st hcl oH hr hy hx H
  refine⟨fun h=>(by rw[h] at hr;cases hr),fun j hj=>?_⟩
  by_cases hji:j=i
  · subst hji;exact⟨oi,hi,.inl ⟨hS,v,hy st hx,H⟩⟩
  · obtain⟨oj,hoj,h1⟩:=H.2 j (ready_mono hj hji)
    obtain⟨nD,oj',xC,c7⟩:=mem_ready.1 hj
    have:oj'=oj:=lV (xC.symm.trans hoj)
    subst this
    have hun:=(mem_ready.1 hr).1
    have qP:∀e∈oj'.after,Region.binds .any e=true→e.on≠i:=fun e he hb heq=>by
     have h1:=c7 e he hb
     rw[heq,getD_both hun] at h1
     cases h1
    obtain⟨a1,a2,a3⟩:=Oper.apart_spec (oH j oj' hoj hji nD qP)
    have rZ:∀k ok,ops[k]?=some ok→k≠i→(listed.setIfInBounds j true).getD k true=false →
     (∀e∈ok.after,Region.binds .any e=true→e.on≠i)→oi.apart ops ok=true:=fun k ok hk hki hun hno=>by
     refine oH k ok hk hki ?_ hno
     by_cases hjk:j=k
     · subst hjk;exact nD
     · rw[getD_set_ne true hjk] at hun;exact hun
    refine⟨oj',hoj,?_⟩
    rcases h1 with ⟨hSj,r,yj,h2⟩ | ⟨hSj,h2⟩
    · refine .inl ⟨hSj,r,(nU φ v a1).1 yj,ih (listed.setIfInBounds j true) (φ.put oj'.dst r) st (hcl.set hj) rZ (ready_mono hr (c9 hji)) (fun s hs=>(nU φ r a3).2 (hy s hs)) hx ?_⟩
      rw[x8 _ _ hji,←put_comm φ v r a2]
      exact h2
    · refine .inr ⟨hSj,uV (fun r st' h3=>?_) ((KE φ v a1).1 h2)⟩
      refine⟨h3.1,?_⟩
      have hx':eQ s0 st':=by
       rcases h3.1 with he | he
       · exfalso
         unfold LD at he
         have hd:=eE.1 he i (by simpa using hS)
         exact F5 hcl (getD_both hun) _ j oj' hoj hd c7
       · exact he
      refine ih (listed.setIfInBounds j true) (φ.put oj'.dst r) st' (hcl.set hj) rZ (ready_mono hr (c9 hji)) (fun s hs=>(nU φ r a3).2 (hy s hs)) hx' ?_
      rw[x8 _ _ hji,←put_comm φ v r a2]
      exact h3.2
def qU(ops:Array Oper)(S:List Nat):List (Nat×Nat)→Array Bool→Bool
 | [],listed=>(Region.ready .any ops listed).isEmpty
 | (i,0)::r,listed=>decide (Region.ready .any ops listed= [i])&& !S.contains i&&qU ops S r (listed.setIfInBounds i true)
 | (i,1)::r,listed=>(Region.ready .any ops listed).contains i&&Region.free .any ops listed i&&S.contains i&&qU ops S r (listed.setIfInBounds i true)
 | (i,_)::r,listed=>decide (Region.ready .any ops listed= [i])&& !S.contains i&&LD ops S i&&qU ops S r (listed.setIfInBounds i true)
def yV(P:Program)(ops:Array Oper)(s0:aA)(K:AF→aA→Prop):List (Nat×Nat)→AF→aA→Prop
 | [],φ,st=>K φ st
 | (i,0)::r,φ,st=>∃o,ops[i]?=some o∧iN P ops o φ st (fun v st'=>eQ s0 st'∧yV P ops s0 K r (φ.put o.dst v) st')
 | (i,1)::r,φ,st=>∃o,ops[i]?=some o∧∃v,(∀s,eQ s0 s→iO P s ops o v φ)∧yV P ops s0 K r (φ.put o.dst v) st
 | (i,_)::r,φ,st=>∃o,ops[i]?=some o∧iN P ops o φ st (fun v st'=>yV P ops s0 K r (φ.put o.dst v) st')
def AG:List (Nat×Nat)→Bool
 | []=>true
 | (_,0)::r=>AG r
 | (_,1)::r=>AG r
 | (_,_)::r=>r.all fun p=>p.2 != 1
theorem FG{ops:Array Oper}{S:List Nat}{s0:aA}{K:AF→aA→Prop}:∀(p:List (Nat×Nat)) (listed:Array Bool) (φ:AF) (st:aA),uI ops listed→qU ops S p listed=true→(AG p=true∧eQ s0 st∨(p.all fun q=>q.2 != 1)=true)→yV P ops s0 K p φ st→yQ P ops S s0 K p.length listed φ st
 | [],listed,φ,st,_,hB,hx,h=>⟨by simpa [qU] using hB,h⟩
 | (i,0)::r,listed,φ,st,hcl,hB,hx,h=>by
  simp only[qU,cL,bM,gN] at hB
  obtain⟨o,ho,h'⟩:=h
  have hr:i∈Region.ready .any ops listed:=by rw[hB.1.1];simp
  refine⟨fun h0=>(by rw[hB.1.1] at h0;cases h0),fun j hj=>?_⟩
  rw[hB.1.1] at hj
  obtain rfl:j=i:=by simpa using hj
  refine⟨o,ho,.inr ⟨hB.1.2,uV (fun v st' q=>⟨.inr q.1,FG r _ _ _ (hcl.set hr) hB.2 ?_ q.2⟩) h'⟩⟩
  rcases hx with hx | hx
  · exact .inl ⟨hx.1,q.1⟩
  · refine .inr ?_
    simp only[iW,cL] at hx
    exact hx.2
 | (i,1)::r,listed,φ,st,hcl,hB,hx,h=>by
  simp only[qU,cL] at hB
  obtain⟨⟨⟨hr,hf⟩,hS⟩,hB'⟩:=hB
  obtain⟨o,ho,v,hv,h'⟩:=h
  have hr':i∈Region.ready .any ops listed:=by simpa using hr
  rcases hx with hx | hx
  · exact aJH ho hS _ listed φ st hcl (Region.free_spec ho hf) hr' hv hx.2 (FG r _ _ _ (hcl.set hr') hB' (.inl hx) h')
  · simp at hx
 | (i,k+2)::r,listed,φ,st,hcl,hB,hx,h=>by
  simp only[qU,cL,bM,gN] at hB
  obtain⟨o,ho,h'⟩:=h
  have hr:i∈Region.ready .any ops listed:=by rw[hB.1.1.1];simp
  refine⟨fun h0=>(by rw[hB.1.1.1] at h0;cases h0),fun j hj=>?_⟩
  rw[hB.1.1.1] at hj
  obtain rfl:j=i:=by simpa using hj
  refine⟨o,ho,.inr ⟨hB.1.1.2,uV (fun v st' q=>⟨.inl hB.1.2,FG r _ _ _ (hcl.set hr) hB.2 (.inr ?_) q⟩) h'⟩⟩
  rcases hx with hx | hx
  · exact hx.1
  · simp only[iW,cL] at hx
    exact hx.2
theorem aKM{N:Nat}{id:Nat}{ops:Array Oper}{Q:Exit→AF→aA→Prop}{φ:AF}{st:aA}(p:List (Nat×Nat))(S:List Nat)(s0:aA)(hm:P.follows .mixedOrders=true)(hok:oM N ops=true)(hl:p.length=ops.size)(hB:qU ops S p (Array.replicate ops.size false)=true)(hf:AG p=true)(hs:eQ s0 st)
 (h:yV P ops s0 (Q .normal) p φ st):fH P N (.region id ops true) Q φ st:=by
 intro a w R
 refine wp_region_any hm ?_
 have R0:Rel N a { w with drawn:=w.drawn+1 } φ st:=⟨R.size,R.defers,R.frame,R.store⟩
 have:=KB _ _ _ _ (FG p _ φ st (fun j o _ hl=>(by rw[aD0] at hl;cases hl)) hB (.inl ⟨hf,hs⟩) h)
 rw[hl] at this
 exact J8 (xI hok) (vQ hok) (w0:=w) (st0:=st) (fun φ' st' a' w' k R' T s=>⟨φ',st',R',T,s,k⟩) _ _ _ _ _ _ this R0 (bZ.refl _ _) ⟨rfl,rfl,rfl⟩
def iE(P:Program)(ops:Array Oper)(s0:aA)(K:AF→aA→Prop):List (Nat×Nat)→AF→aA→Prop
 | [],φ,st=>K φ st
 | (i,0)::r,φ,st=>match ops[i]? with
  | none=>False
  | some o=>aZ P [] ops [o] (fun φ' st'=>eQ s0 st'∧iE P ops s0 K r φ' st') φ st
 | (i,1)::r,φ,st=>match ops[i]? with
  | none=>False
  | some o=>if jA o=true then aZ P [] ops [o] (fun φ' _=>iE P ops s0 K r φ' st) φ s0 else
   match o.guard,o.op with
   | none,.call { callee:=.value f,args,.. }=>∃v,(∀s,eQ s0 s→qG P (φ.eval f) (args.toList.map φ.eval) s (fun r' s'=>r'=v∧s'=s))∧iE P ops s0 K r (φ.put o.dst v) st
   | _,_=>False
 | (i,_)::r,φ,st=>match ops[i]? with
  | none=>False
  | some o=>aZ P [] ops [o] (fun φ' st'=>iE P ops s0 K r φ' st') φ st
theorem uU{ops:Array Oper}{s0:aA}{K:AF→aA→Prop}:∀(p:List (Nat×Nat)) (φ:AF) (st:aA),iE P ops s0 K p φ st→yV P ops s0 K p φ st
 | [],_,_,h=>h
 | (i,0)::r,φ,st,h=>by
  simp only[iE] at h
  split at h
  · exact h.elim
  · rename_i o ho
    refine⟨o,ho,?_⟩
    simp only[aZ] at h
    unfold iN
    split at h
    · rename_i hg
      rw[hg]
      exact yX (fun v s q=>⟨q.1,uU r _ _ q.2⟩) h
    · rename_i hg
      rw[hg]
      exact⟨h.1,uU r _ _ h.2⟩
    · exact h.elim
 | (i,1)::r,φ,st,h=>by
  simp only[iE] at h
  split at h
  · exact h.elim
  · rename_i o ho
    split at h
    · rename_i hp
      simp only[aZ] at h
      split at h
      · rename_i hg
        rw[qC hp] at h
        split at h
        · rename_i v hv
          refine⟨o,ho,v,fun s hs=>.inl ⟨hg,?_⟩,uU r _ _ h⟩
          rw[qC hp,P5 hs hv]
          exact⟨rfl,rfl⟩
        · exact h.elim
      · rename_i hg
        exact⟨o,ho,.undef,fun s _=>.inr ⟨hg,rfl⟩,uU r _ _ h⟩
      · exact h.elim
    · split at h
      · rename_i f args ats hg hop
        obtain⟨v,h1,h2⟩:=h
        refine⟨o,ho,v,fun s hs=>.inl ⟨by simp only[gZ,hg],?_⟩,uU r _ _ h2⟩
        simp only[eF,hop]
        exact h1 s hs
      · exact h.elim
 | (i,k+2)::r,φ,st,h=>by
  simp only[iE] at h
  split at h
  · exact h.elim
  · rename_i o ho
    refine⟨o,ho,?_⟩
    simp only[aZ] at h
    unfold iN
    split at h
    · rename_i hg
      rw[hg]
      exact yX (fun v s q=>uU r _ _ q) h
    · rename_i hg
      rw[hg]
      exact uU r _ _ h
    · exact h.elim
end
def NH(P:Program)(ops:Array Oper)(s0:aA)(K:AF→aA→Prop)(r:List (Nat×Nat))(φ:AF)(st:aA):Prop:=eQ s0 st∧iE P ops s0 K r φ st
def NE(P:Program)(ops:Array Oper)(s0:aA)(K:AF→aA→Prop)(r:List (Nat×Nat))(φ:AF)(st:aA):Prop:=iE P ops s0 K r φ st
def ND(P:Program)(ops:Array Oper)(s0:aA)(K:AF→aA→Prop)(r:List (Nat×Nat))(st:aA)(φ:AF)(_:aA):Prop:=iE P ops s0 K r φ st
def NC(P:Program)(ops:Array Oper)(s0:aA)(K:AF→aA→Prop)(r:List (Nat×Nat))(φ:AF)(dst:Option Tmp)(st:aA)(v:AV):Prop:=iE P ops s0 K r (φ.put dst v) st
def CG(P:Program)(s0:aA)(f:AV)(args:List AV)(K:AV→Prop):Prop:=∃v,(∀s,eQ s0 s→qG P f args s (fun r' s'=>r'=v∧s'=s))∧K v
theorem SF{P:Program}{s0:aA}{g:FuncId}{args:List AV}{r:AV}{K:AV→Prop}(x:∀st,eQ s0 st→aD P g args st (fun r' st'=>r'=r∧st'=st))(h:K r):CG P s0 (.func g []) args K:=⟨r,fun st hs=>by show aD P g (args++ []) st _;rw[fN];exact x st hs,h⟩
@[congr] theorem aXV {P:Program} {s0:aA} {f f':AV} {args args':List AV} {K:AV→Prop} (h0:f=f') (h1:args=args'):CG P s0 f args K=CG P s0 f' args' K:=by rw[h0,h1]
def A1(P:Program)(ops:Array Oper)(s0:aA)(K:AF→aA→Prop)(r:List (Nat×Nat))(φ:AF)(st:aA):Nat→Option Oper→Prop
 | 0,some o=>aZ P [] ops [o] (NH P ops s0 K r) φ st
 | 1,some o=>if jA o=true then aZ P [] ops [o] (ND P ops s0 K r st) φ s0 else
  match o.guard,o.op with
  | none,.call { callee:=.value f,args,.. }=>CG P s0 (φ.eval f) (args.toList.map φ.eval) (NC P ops s0 K r φ o.dst st)
  | _,_=>False
 | _,some o=>aZ P [] ops [o] (NE P ops s0 K r) φ st
 | _,none=>False
theorem ZT{P:Program}{ops:Array Oper}{s0:aA}{K:AF→aA→Prop}{φ:AF}{st:aA}:iE P ops s0 K [] φ st=K φ st:=rfl
theorem ZU{P:Program}{l:List Oper}{s0:aA}{K:AF→aA→Prop}{φ:AF}{st:aA}{i b:Nat}{r:List (Nat×Nat)}:iE P l.toArray s0 K ((i,b)::r) φ st=A1 P l.toArray s0 K r φ st b l[i]?:=by
 match b with
 | 0=>simp only[iE,wE];cases l[i]?<;>rfl
 | 1=>simp only[iE,wE];cases l[i]?<;>rfl
 | b+2=>simp only[iE,wE];cases l[i]?<;>rfl
theorem ZZ{P:Program}{ops:Array Oper}{s0:aA}{K:AF→aA→Prop}{φ:AF}{st:aA}{r:List (Nat×Nat)}{o:Oper}:A1 P ops s0 K r φ st 0 (some o)=aZ P [] ops [o] (NH P ops s0 K r) φ st:=rfl
theorem Z0{P:Program}{ops:Array Oper}{s0:aA}{K:AF→aA→Prop}{φ:AF}{st:aA}{r:List (Nat×Nat)}{o:Oper}:A1 P ops s0 K r φ st 1 (some o)=if jA o=true then aZ P [] ops [o] (ND P ops s0 K r st) φ s0 else
      match o.guard,o.op with
      | none,.call { callee:=.value f,args,.. }=>CG P s0 (φ.eval f) (args.toList.map φ.eval) (NC P ops s0 K r φ o.dst st)
      | _,_=>False:=rfl
theorem Z1{P:Program}{ops:Array Oper}{s0:aA}{K:AF→aA→Prop}{φ:AF}{st:aA}{r:List (Nat×Nat)}{o:Oper}:A1 P ops s0 K r φ st 2 (some o)=aZ P [] ops [o] (NE P ops s0 K r) φ st:=rfl
theorem ZY{P:Program}{ops:Array Oper}{s0:aA}{K:AF→aA→Prop}{φ:AF}{st:aA}{r:List (Nat×Nat)}:NH P ops s0 K r φ st=(eQ s0 st∧iE P ops s0 K r φ st):=rfl
theorem ZX{P:Program}{ops:Array Oper}{s0:aA}{K:AF→aA→Prop}{φ:AF}{st:aA}{r:List (Nat×Nat)}:NE P ops s0 K r φ st=iE P ops s0 K r φ st:=rfl
theorem ZW{P:Program}{ops:Array Oper}{s0:aA}{K:AF→aA→Prop}{φ:AF}{st s:aA}{r:List (Nat×Nat)}:ND P ops s0 K r st φ s=iE P ops s0 K r φ st:=rfl
theorem ZV{P:Program}{ops:Array Oper}{s0:aA}{K:AF→aA→Prop}{φ:AF}{st:aA}{r:List (Nat×Nat)}{dst:Option Tmp}{v:AV}:NC P ops s0 K r φ dst st v=iE P ops s0 K r (φ.put dst v) st:=rfl
@[congr] theorem aXR {P:Program} {ops:Array Oper} {s0:aA} {K:AF→aA→Prop} {p:List (Nat×Nat)} {φ φ':AF} {st st':aA} (h1:φ=φ') (h2:st=st'):iE P ops s0 K p φ st=iE P ops s0 K p φ' st':=by rw[h1,h2]
@[congr] theorem aX4 {P:Program} {ops:Array Oper} {s0:aA} {K:AF→aA→Prop} {p:List (Nat×Nat)} {φ φ':AF} {st st':aA} {b:Nat} {o o':Option Oper} (h1:φ=φ') (h2:st=st') (h3:o=o'):A1 P ops s0 K p φ st b o=A1 P ops s0 K p φ' st' b o':=by rw[h1,h2,h3]
theorem EZ{P:Program}{N:Nat}{id:Nat}{l:List Oper}{Q:Exit→AF→aA→Prop}{φ:AF}{st:aA}(p:List (Nat×Nat))(S:List Nat)(s0:aA)(hm:P.follows .mixedOrders=true)(hok:oM N l.toArray=true)(hl:p.length=l.length)(hB:qU l.toArray S p (Array.replicate l.length false)=true)(hf:AG p=true)(hs:eQ s0 st)
 (h:iE P l.toArray s0 (Q .normal) p φ st):fH P N (.region id l.toArray true) Q φ st:=
 aKM p S s0 hm hok (by simpa using hl) (by simpa using hB) hf hs (uU p φ st h)
def aGJ(K:AV→aA→Prop)(st:aA):Option AV→Option AV→Prop
 | some r,some s=>jM [r,s]=true∧K (.tup [r,s]) st
 | _,_=>False
theorem aAH{P:Program}{φ:AF}{st:aA}{p q:Tmp}{t u:TypeId}{K:AV→aA→Prop}:l9 P [.cell p t,.cell q u] K φ st=aGJ K st (gA P st t (φ p)) (gA P st u (φ q)):=by
 simp only[l9,nT,yW]
 cases gA P st t (φ p)<;>cases gA P st u (φ q)<;>rfl
theorem aAI{st:aA}{K:AV→aA→Prop}{r s:AV}:aGJ K st (some r) (some s)=(jM [r,s]=true∧K (.tup [r,s]) st):=rfl
def one(b:Nat)(o:AO):aA:=c8.aC b o
theorem tV{b:Nat}{o:AO}:one b o b=some o:=aA.aL _ _ _
theorem g9{b:Nat}{o:AO}{st:aA}(h:st b=some o):eQ (one b o) st:=fun x p hx=>by
 simp only[one,aA.aC] at hx
 split at hx
 · rename_i e;cases hx;rw[e];exact h
 · cases hx
theorem fC{st:aA}:eQ c8 st:=fun x p hx=>by cases hx
end Go.AW
