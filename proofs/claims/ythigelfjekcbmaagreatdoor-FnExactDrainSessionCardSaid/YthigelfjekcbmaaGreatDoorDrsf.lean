/- Loops whose frame is kept, lists that are walked, lists that grow. -/
import Derived.Test.YthigelfjekcbmaaGreatDoorDrse
set_option linter.unusedSimpArgs false
set_option linter.unusedVariables false
set_option maxRecDepth 100000
namespace Go.AW
def jR(φ:AF):List Nat→List (Nat×AV)→List (Nat×AV)
 | [],l=>l
 | d::ds,l=>(d,φ d)::jR φ ds l
theorem ZV{φ:AF}{l:List (Nat×AV)}:jR φ [] l=l:=rfl
theorem ZW{φ:AF}{d:Nat}{ds:List Nat}{l:List (Nat×AV)}:jR φ (d::ds) l=(d,φ d)::jR φ ds l:=rfl
theorem dW{P:Program}{N:Nat}{c:Code}{Q:Exit→AF→aA→Prop}{φ:AF}{st:aA}{α σ:Type}(mt:List Nat)(aV:List Nat)(l:List α)(inv:Nat→σ→Prop)(ch:Nat→σ→List (Nat×AV))(so:Nat→σ→aA)
 (hok:codeOk N c=true)
 (h0:∃s,inv 0 s∧aP φ st (jR φ aV (ch 0 s)) (so 0 s))
 (h1:∀i x s,l[i]?=some x→i<l.length→((i:Int)<(l.length:Int))→l.drop i=x::l.drop (i+1)→inv i s→fO P N mt c (oA (fun φ' st'=>∃s',inv (i+1) s'∧aP φ' st' (jR φ aV (ch (i+1) s')) (so (i+1) s')) Q) (t9 (jR φ aV (ch i s))) (so i s))
 (h2:∀s,¬((l.length:Int)<(l.length:Int))→inv l.length s→fO P N mt c (oA (fun _ _=>False) Q) (t9 (jR φ aV (ch l.length s))) (so l.length s)):fW P N (.loop c) Q φ st:=by
 have mI:∀(k:AF→aA→Prop) (i:Nat) (s:σ),(∀φ' st',(∃s',inv (i+1) s'∧aP φ' st' (jR φ aV (ch (i+1) s')) (so (i+1) s'))→k φ' st') →
  fW P N c (oA (fun φ' st'=>∃s',inv (i+1) s'∧aP φ' st' (jR φ aV (ch (i+1) s')) (so (i+1) s')) Q) (jG (jR φ aV (ch i s))) (so i s) →
  fW P N c (oA k Q) (jG (jR φ aV (ch i s))) (so i s):=by
  intro k i s hk hr a w R
  refine wp_mono (hr a w R) ?_
  rintro e a' w' ⟨φ',st',R',T,sm,q⟩
  refine⟨φ',st',R',T,sm,?_⟩
  cases e with
  | normal=>exact hk _ _ q
  | _=>exact q
 refine LR (α:=Nat×σ) (fun p=>p.1≤l.length∧inv p.1 p.2) (fun p=>jG (jR φ aV (ch p.1 p.2))) (fun p=>so p.1 p.2) (fun p=>l.length - p.1) ?_ ?_
 · obtain⟨s,hs,hl⟩:=h0
   exact⟨(0,s),⟨lY _,hs⟩,hl⟩
 · rintro⟨i,s⟩ ⟨hi,hs⟩
   simp only at hi hs ⊢
   rcases kN i l.length with hlt | hge
   · refine mI _ i s ?_ (C6 mt hok (h1 i l[i] s (eQ hlt) hlt (by omega) (nO hlt) hs))
     rintro φ' st' ⟨s',h1',h2'⟩
     exact⟨(i+1,s'),by simp only;omega,⟨by simp only;omega,h1'⟩,h2'⟩
   · obtain rfl:i=l.length:=by omega
     intro a w R
     refine wp_mono (C6 mt hok (h2 s (by omega) hs) a w R) ?_
     rintro e a' w' ⟨φ',st',R',T,sm,q⟩
     refine⟨φ',st',R',T,sm,?_⟩
     cases e with
     | normal=>exact q.elim
     | _=>exact q
theorem mW{P:Program}{N:Nat}{c:Code}{Q:Exit→AF→aA→Prop}{φ:AF}{st:aA}{σ:Type}(mt:List Nat)(aV:List Nat)(inv:σ→Prop)(ch:σ→List (Nat×AV))(so:σ→aA)(μ:σ→Nat)
 (hok:codeOk N c=true)
 (h0:∃s,inv s∧aP φ st (jR φ aV (ch s)) (so s))
 (h1:∀s,inv s→fO P N mt c (oA (fun φ' st'=>∃s',μ s'<μ s∧inv s'∧aP φ' st' (jR φ aV (ch s')) (so s')) Q) (t9 (jR φ aV (ch s))) (so s)):fW P N (.loop c) Q φ st:=
 oI mt inv (fun s=>jR φ aV (ch s)) so μ hok h0 h1
theorem aT{b:Bool}{p q:Prop}(h1:b=true→p)(h2:b=false→q):(b=true→p)∧(b=false→q):=⟨h1,h2⟩
theorem Z1{P:Program}{t:TypeId}{s:ByteArray}:jQ P t (.str s)=match P.underlying t with | some .string=>some (.int .i64 s.size) | _=>none:=rfl
theorem Z0{P:Program}{t:TypeId}{es:List AV}:jQ P t (.slice es)=match P.underlying t with | some (.slice _)=>some (.int .i64 es.length) | _=>none:=rfl
theorem ZY{P:Program}{t:TypeId}{es:List AV}:jQ P t (.fslice es)=match P.underlying t with | some (.slice _)=>some (.int .i64 es.length) | _=>none:=rfl
theorem ZZ{P:Program}{t:TypeId}{b o n w:Nat}:jQ P t (.mslice b o n w)=match P.underlying t with | some (.slice _)=>some (.int .i64 n) | _=>none:=rfl
def bQ(w b:Nat):List AV→AV
 | []=>.fslice []
 | x::l=>.mslice b 0 (x::l).length w
def bE(st:aA)(b:Nat):List AV→aA
 | []=>st
 | x::l=>st.aC b (.cells ((x::l).flatMap AV.cells))
theorem kP{w b:Nat}:bQ w b []=.fslice []:=rfl
theorem lJ{st:aA}{b:Nat}:bE st b []=st:=rfl
theorem rB{w b:Nat}{l:List AV}(h:l≠[]):bQ w b l=.mslice b 0 l.length w:=by cases l<;>first | exact absurd rfl h | rfl
theorem jE{st:aA}{b:Nat}{l:List AV}(h:l≠[]):bE st b l=st.aC b (.cells (l.flatMap AV.cells)):=by cases l<;>first | exact absurd rfl h | rfl
theorem iW{st:aA}{b x:Nat}{l:List AV}(h:x≠b):bE st b l x=st x:=by cases l<;>first | rfl | exact aA.aF _ _ h
theorem CX{st:aA}{b x:Nat}{l:List AV}(h:bE st b l x=none):st x=none∧(l≠[]→x≠b):=by
 cases l with
 | nil=>exact⟨h,fun h=>absurd rfl h⟩
 | cons y l=>
  simp only[bE,aA.aC] at h
  split at h
  · cases h
  · rename_i hn;exact⟨h,fun _=>hn⟩
theorem nS{w b:Nat}{l:List AV}:(bQ w b l).b9=false:=by cases l<;>rfl
theorem rA{w b:Nat}{l:List AV}:(bQ w b l).isAgg=false:=by cases l<;>rfl
theorem pS{w b:Nat}{l:List AV}:(bQ w b l).cells= [bQ w b l]:=by cases l<;>rfl
theorem jF{w b:Nat}{l:List AV}:(bQ w b l).storable=true:=by cases l<;>rfl
theorem CY{P:Program}{t e:TypeId}{w b:Nat}{l:List AV}(h:P.underlying t=some (.slice e)):jQ P t (bQ w b l)=some (.int .i64 (l.length:Int)):=by
 cases l<;>simp [bQ,jQ,h]
theorem aL.bE{st st':aA}(x:aL st st'){b:Nat}{l:List AV}(h:l≠[]→st' b=none):aL (bE st b l) st':=by
 cases l with
 | nil=>exact x
 | cons y l=>exact x.aC (h (by simp))
theorem fT{P:Program}{t:TypeId}{ag:Bool}{w bytes:Nat}{zs:List AV}{st:aA}{b:Nat}{l xs:List AV}{x:AV}{K:AV→aA→Prop}
 (hI:eI P t=some (ag,w)) (hB:eB P t=some bytes) (hZ:eZ P t=some zs) (hz:zs.length=w) (hx:xF x=some xs) (fY:tU w xs) (hw:∀e∈l,e.width=w) (hb:l≠[]→st b=none)
 (h1:(l.length+xs.length)*bytes≤140737488355328) (h2:l.length+xs.length≤9223372036854775807)
 (hK:∀b',(l++xs≠[]→st b'=none)→K (bQ w b' (l++xs)) (bE st b' (l++xs))):kD P t (bE st b l) (bQ w b l) x K:=by
 unfold kD
 rw[hI,hB,hZ,hx]
 refine⟨hz,fY,?_⟩
 cases l with
 | nil=>
  show _∧_∧_∧_∧_
  refine⟨by simpa using h1,by simpa using h2,by simp,?_,?_⟩
  · rintro rfl
    have:=hK b (by simp)
    simpa [bQ,bE] using this
  · intro hne b' hb'
    have:=hK b' (fun _=>hb')
    rw[e9,rB hne,jE hne] at this
    simpa [bE] using this
 | cons y l=>
  have hb:=hb (by simp)
  show w=w∧_∧_∧_
  refine⟨rfl,h1,h2,?_⟩
  have hfl:((y::l).flatMap AV.cells).length=(y::l).length*w:=nX hw
  simp only[bE,aA.aH]
  refine⟨by rw[hfl];exact cQ _,?_,?_⟩
  · have:=hK b (fun _=>hb)
    rw[rB (by simp),jE (by simp),w4,dX] at this
    rw[d4,←hfl,eM]
    exact this
  · intro b' hb'
    have hne:b'≠b:=by rintro rfl;rw[aA.aH] at hb';cases hb'
    rw[aA.aF _ _ hne] at hb'
    have:=hK b' (fun _=>hb')
    rw[rB (by simp),jE (by simp),w4,dX] at this
    rw[aA.AT _ _ _ hb,←hfl,eM]
    exact this
def AV.fin(b:Nat)(l:List AV)(r:AV):AV:=if l.isEmpty=true then r.soft else(r.fz b l).soft
theorem m9{w b:Nat}{l:List AV}:(bQ w b l).fin b l=.slice l:=by cases l<;>simp [bQ,AV.fin,AV.fz,AV.soft]
theorem yK:∀cs:List AV,nJ cs=cs.map AV.soft
 | []=>rfl
 | c::cs=>by simp [nJ,yK cs]
theorem xQ{b:Nat}{l:List AV}:∀cs:List AV,jH b l cs=cs.map (AV.fz b l)
 | []=>rfl
 | c::cs=>by simp [jH,xQ cs]
theorem g7{b:Nat}{l:List AV}{cs:List AV}:(AV.agg cs).fin b l=.agg (cs.map (AV.fin b l)):=by
 unfold AV.fin
 split
 · simp [AV.soft,yK]
 · simp [AV.fz,AV.soft,yK,xQ]
theorem jZ{b:Nat}{l:List AV}{cs:List AV}:(AV.tup cs).fin b l=.tup (cs.map (AV.fin b l)):=by
 unfold AV.fin
 split
 · simp [AV.soft,yK]
 · simp [AV.fz,AV.soft,yK,xQ]
theorem fQ{b:Nat}{l:List AV}{k:IntKind}{n:Int}:(AV.int k n).fin b l=.int k n:=by unfold AV.fin;split<;>rfl
theorem t7{b:Nat}{l:List AV}{n:Bool}:(AV.bool n).fin b l=.bool n:=by unfold AV.fin;split<;>rfl
theorem nW{b:Nat}{l:List AV}{s:ByteArray}:(AV.str s).fin b l=.str s:=by unfold AV.fin;split<;>rfl
theorem jA{b:Nat}{l:List AV}{s:List AV}:(AV.slice s).fin b l=.slice s:=by unfold AV.fin;split<;>rfl
theorem rJ{b:Nat}{l:List AV}{s:List AV}:(AV.fslice s).fin b l=.slice s:=by unfold AV.fin;split<;>rfl
theorem A0{b:Nat}{l:List AV}{e:AV}:(AV.pptr e).fin b l=.pptr e:=by unfold AV.fin;split<;>rfl
theorem HU{b c o:Nat}{l:List AV}:(AV.ptr c o).fin b l=.ptr c o:=by unfold AV.fin;split<;>rfl
theorem aE9{b:Nat}{l:List AV}{g:FuncId}{cs:List AV}:(AV.func g cs).fin b l=.func g cs:=by unfold AV.fin;split<;>rfl
theorem aD.fin{P:Program}{g:FuncId}{args:List AV}{st:aA}{Q:AV→aA→Prop}
 (x:aD P g args st (fun r st'=>∃b l s0,st'=bE s0 b l∧(l≠[]→s0 b=none)∧(∀e∈l,e.b9=false)∧jD l∧Q (r.fin b l) s0)):aD P g args st Q:=
 x.mI fun r st' ⟨b,l,s0,h1,h0,h2,h3,h4⟩=>by
  cases l with
  | nil=>
   exact⟨r.fin b [],st',(aL.refl _).uZ,fun h v S y=>y.soft,by have e:st'=s0:=h1;rw[e];exact h4⟩
  | cons e l=>
   have hb:=h0 (by simp)
   subst h1
   have h1:bE s0 b (e::l) b=some (.cells ((e::l).flatMap AV.cells)):=by simp only[bE,aA.aH]
   have e1:(bE s0 b (e::l)).erase b=s0:=by simp only[bE];exact aA.AT _ _ _ hb
   refine⟨r.fin b (e::l),s0,?_,fun h v S y=>?_,h4⟩
   · have:=(iZ (bE s0 b (e::l)) b).uZ
     rwa [e1] at this
   · have:=y.fz S h1 h2 h3
     rw[e1] at this
     exact this.soft
mutual
def AV.eX:AV→Bool
 | .slice _=>false
 | .fslice es=>es.isEmpty
 | .pptr _=>false
 | .agg cs=>kJ cs
 | .tup vs=>kJ vs
 | .func _ cs=>kJ cs
 | _=>true
def kJ:List AV→Bool
 | []=>true
 | a::as=>a.eX&&kJ as
end
def AO.eX:AO→Prop
 | .cells cs=>kJ cs=true
 | .map f=>∀n a,f n=some a→a.eX=true
section
variable {h:bB} {st st':aA}
mutual
theorem VC.anyS:∀(a:AV) (cs:List Value),a.eX=true→VC h st a cs→VC h st' a cs
 | .junk,_,_,x=>x
 | .undef,_,_,x=>x
 | .int _ _,_,_,x=>x
 | .bool _,_,_,x=>x
 | .str _,_,_,x=>x
 | .agg as,cs,s,x=>by simp only[VC] at x ⊢;exact aW.anyS as cs (by simpa [AV.eX] using s) x
 | .tup as,cs,s,x=>by
  simp only[VC] at x ⊢
  obtain⟨vs,e,r⟩:=x
  exact⟨vs,e,dF.anyS as vs (by simpa [AV.eX] using s) r⟩
 | .slice es,_,s,_=>by simp [AV.eX] at s
 | .fslice es,cs,s,x=>by
  have he:es= []:=by simpa [AV.eX] using s
  subst he
  unfold VC at x ⊢
  rcases x with x | ⟨b,off,e,_⟩
  · exact .inl x
  · exact .inl ⟨⟨_,e⟩,rfl⟩
 | .mslice b off len n,_,_,x=>x
 | .nilptr,_,_,x=>x
 | .ptr _ _,_,_,x=>x
 | .pptr e,_,s,_=>by simp [AV.eX] at s
 | .nilmap,_,_,x=>x
 | .map _,_,_,x=>x
 | .func _ as,cs,s,x=>by
  simp only[VC] at x ⊢
  obtain⟨vs,e,r⟩:=x
  exact⟨vs,e,dF.anyS as vs (by simpa [AV.eX] using s) r⟩
 | .raw _,_,_,x=>x
 | .eslice,_,_,x=>x
theorem aW.anyS:∀(as:List AV) (cs:List Value),kJ as=true→aW h st as cs→aW h st' as cs
 | [],_,_,x=>x
 | a::as,cs,s,x=>by
  simp only[aW] at x ⊢
  simp only[kJ,cK] at s
  obtain⟨c,r,e,x1,x2⟩:=x
  exact⟨c,r,e,VC.anyS a [c] s.1 x1,aW.anyS as r s.2 x2⟩
theorem dF.anyS:∀(as:List AV) (cs:List Value),kJ as=true→dF h st as cs→dF h st' as cs
 | [],_,_,x=>x
 | a::as,cs,s,x=>by
  simp only[dF] at x ⊢
  simp only[kJ,cK] at s
  obtain⟨v,r,e,x1,x2⟩:=x
  exact⟨v,r,e,⟨x1.1,VC.anyS a _ s.1 x1.2⟩,dF.anyS as r s.2 x2⟩
end
theorem aO.anyS{a:AV}{v:Value}(s:a.eX=true)(x:aO h st a v):aO h st' a v:=by
 cases a<;>first | trivial | exact⟨x.1,VC.anyS _ _ s x.2⟩
theorem lD.anyS{b:Nat}:∀ {o:AO},o.eX→lD h st b o→lD h st' b o
 | .cells as,s,x=>by
  obtain⟨c,t,e,l,vs,x1,x2⟩:=x
  exact⟨c,t,e,l,vs,x1,aW.anyS as vs s x2⟩
 | .map f,s,x=>by
  obtain⟨es,cl,e,x1,x2,x3⟩:=x
  refine⟨es,cl,e,x1,x2,fun n=>?_⟩
  have:=x3 n
  split
  · rename_i a ha
    rw[ha] at this
    obtain⟨e,he,hk,hv⟩:=this
    exact⟨e,he,hk,hv.anyS (s n a ha)⟩
  · rename_i ha
    rw[ha] at this
    exact this
end
def aA.frame(st s0 s1:aA):aA:=fun b=>match s0 b,st b with
 | none,some o=>some o
 | _,_=>s1 b
theorem aD.frame{P:Program}{g:FuncId}{args args':List AV}{st s0:aA}{Q:AV→aA→Prop}(D:aL st s0)
 (x:aD P g args s0 (fun r s1=>(∀b,s0 b=none→s1 b≠none→st b=none)→r.eX=true∧(∀b o,s1 b=some o→o.eX)∧Q r (st.frame s0 s1)))
 (hv:∀h vs,cJ h st→cO h st args' vs→cO h s0 args vs):aD P g args' st Q:=by
 refine⟨x.1,fun w vs S V=>(x.2 w vs (D.FG S) (hv _ _ S V)).mono ?_⟩
 rintro _ w' ⟨v,r,s1,rfl,hr,S1,T,sm,q⟩
 have hfr:∀b,s0 b=none→s1 b≠none→st b=none:=fun b h0 h1=>by
  cases hb:st b with
  | none=>rfl
  | some o=>exact absurd (T.aV b (S b o hb).1 h0).2 h1
 obtain⟨hs,ho,hq⟩:=q hfr
 have T':bT w.heap st w'.heap (st.frame s0 s1):=by
  refine⟨T.size,fun b hb e=>?_,T.shape⟩
  obtain⟨k1,k2⟩:=T.aV b hb ((D b).1 e)
  exact⟨k1,by simp only[aA.frame,e,k2];split<;>first | rfl | (rename_i h;cases h)⟩
 refine⟨v,r,st.frame s0 s1,rfl,hr.anyS hs,fun b o hb=>?_,T',sm,hq⟩
 simp only[aA.frame] at hb
 split at hb
 · rename_i o' h0 h1
   cases hb
   obtain⟨l,y⟩:=S b _ h1
   exact⟨zJ l T.size,lD.mono T' (T.aV b l h0).1 y⟩
 · obtain⟨l,y⟩:=S1 b o hb
   exact⟨l,y.anyS (ho b o hb)⟩
def cY:aA:=fun _=>none
theorem aL.cY(st:aA):aL st cY:=fun _=>⟨fun _=>rfl,fun _ h=>by cases h⟩
theorem aQU(st:aA):st.frame cY cY=st:=by
 funext b;simp only[aA.frame,cY];split
 · rename_i h;exact h.symm
 · rename_i h;cases hb:st b with
   | none=>rfl
   | some o=>exact absurd hb (h o rfl)
theorem aD.MW{P:Program}{g:FuncId}{args args':List AV}{st:aA}{r:AV}(hs:r.eX=true)
 (x:aD P g args cY (fun r' s1=>r'=r∧s1=cY))
 (hv:∀h vs,cJ h st→cO h st args' vs→cO h cY args vs):aD P g args' st (fun r' st'=>r'=r∧st'=st):=
 aD.frame (aL.cY st) (x.mono fun r' s1 ⟨e1,e2⟩ _=>⟨by rw[e1];exact hs,(by rw[e2];intro b o h;cases h),e1,by rw[e2,aQU]⟩) hv
mutual
def aR(st:aA):AV→AV→List Nat→Prop
 | .int k n,o,bs=>o=.int k n∧bs= []
 | .bool b,o,bs=>o=.bool b∧bs= []
 | .str s,o,bs=>o=.str s∧bs= []
 | .agg cs,o,bs=>∃os,o=.agg os∧aU st cs os bs
 | .slice es,o,bs=>(es= []∧o=.fslice []∧bs= [])∨∃b bs' os w,o=.mslice b 0 es.length w∧bs=b::bs'∧st b=some (.cells (os.flatMap AV.cells))∧aU st es os bs'∧(∀e∈es,e.width=w)
 | _,_,_=>False
def aU(st:aA):List AV→List AV→List Nat→Prop
 | [],os,bs=>os= []∧bs= []
 | a::as,os,bs=>∃o os' b1 b2,os=o::os'∧bs=b1++b2∧aR st a o b1∧aU st as os' b2
end
theorem aU.length{st:aA}:∀ {as os:List AV} {bs:List Nat},aU st as os bs→os.length=as.length
 | [],os,bs,x=>by simp only[aU] at x;simp [x.1]
 | a::as,os,bs,x=>by
  simp only[aU] at x
  obtain⟨o,os',b1,b2,rfl,rfl,_,x2⟩:=x
  simp [aU.length x2]
theorem aR.shape{st:aA}:∀ {a o:AV} {bs:List Nat},aR st a o bs→o.isAgg=a.isAgg∧o.width=a.width∧o.b9=false∧(∀cs,a=.agg cs→∃os,o=.agg os)
 | .int k n,o,bs,x=>by simp only[aR] at x;rw[x.1];exact⟨rfl,rfl,rfl,by simp⟩
 | .bool b,o,bs,x=>by simp only[aR] at x;rw[x.1];exact⟨rfl,rfl,rfl,by simp⟩
 | .str s,o,bs,x=>by simp only[aR] at x;rw[x.1];exact⟨rfl,rfl,rfl,by simp⟩
 | .agg cs,o,bs,x=>by
  simp only[aR] at x
  obtain⟨os,rfl,x⟩:=x
  exact⟨rfl,x.length,rfl,fun _ _=>⟨os,rfl⟩⟩
 | .slice es,o,bs,x=>by
  simp only[aR] at x
  rcases x with ⟨_,rfl,_⟩ | ⟨b,bs',os,w,rfl,_⟩<;>exact⟨rfl,rfl,rfl,by simp⟩
 | .junk,_,_,x=>x.elim
 | .undef,_,_,x=>x.elim
 | .tup _,_,_,x=>x.elim
 | .fslice _,_,_,x=>x.elim
 | .mslice _ _ _ _,_,_,x=>x.elim
 | .nilptr,_,_,x=>x.elim
 | .ptr _ _,_,_,x=>x.elim
 | .pptr _,_,_,x=>x.elim
 | .nilmap,_,_,x=>x.elim
 | .map _,_,_,x=>x.elim
 | .func _ _,_,_,x=>x.elim
 | .raw _,_,_,x=>x.elim
 | .eslice,_,_,x=>x.elim
section
variable {st st':aA}
mutual
theorem aR.aV:∀(a o:AV) (bs:List Nat),(∀b∈bs,st' b=st b)→aR st a o bs→aR st' a o bs
 | .int k n,o,bs,_,x=>x
 | .bool b,o,bs,_,x=>x
 | .str s,o,bs,_,x=>x
 | .agg cs,o,bs,h,x=>by
  simp only[aR] at x ⊢
  obtain⟨os,e,x⟩:=x
  exact⟨os,e,aU.aV cs os bs h x⟩
 | .slice es,o,bs,h,x=>by
  simp only[aR] at x ⊢
  rcases x with x | ⟨b,bs',os,w,e1,rfl,e2,x,e3⟩
  · exact .inl x
  · exact .inr ⟨b,bs',os,w,e1,rfl,(h b (by simp)).trans e2,aU.aV es os bs' (fun q hq=>h q (by simp [hq])) x,e3⟩
 | .junk,_,_,_,x=>x
 | .undef,_,_,_,x=>x
 | .tup _,_,_,_,x=>x
 | .fslice _,_,_,_,x=>x
 | .mslice _ _ _ _,_,_,_,x=>x
 | .nilptr,_,_,_,x=>x
 | .ptr _ _,_,_,_,x=>x
 | .pptr _,_,_,_,x=>x
 | .nilmap,_,_,_,x=>x
 | .map _,_,_,_,x=>x
 | .func _ _,_,_,_,x=>x
 | .raw _,_,_,_,x=>x
 | .eslice,_,_,_,x=>x
theorem aU.aV:∀(as os:List AV) (bs:List Nat),(∀b∈bs,st' b=st b)→aU st as os bs→aU st' as os bs
 | [],os,bs,_,x=>x
 | a::as,os,bs,h,x=>by
  simp only[aU] at x ⊢
  obtain⟨o,os',b1,b2,e1,rfl,x1,x2⟩:=x
  exact⟨o,os',b1,b2,e1,rfl,aR.aV a o b1 (fun q hq=>h q (by simp [hq])) x1,aU.aV as os' b2 (fun q hq=>h q (by simp [hq])) x2⟩
end
mutual
theorem aR.eX:∀(a o:AV) (bs:List Nat),aR st a o bs→o.eX=true∧o.cells.all AV.storable=o.cells.all AV.storable∧∀b∈bs,∃cs,st b=some (.cells cs)∧kJ cs=true
 | .int k n,o,bs,x=>by simp only[aR] at x;rw[x.1,x.2];exact⟨rfl,rfl,by simp⟩
 | .bool b,o,bs,x=>by simp only[aR] at x;rw[x.1,x.2];exact⟨rfl,rfl,by simp⟩
 | .str s,o,bs,x=>by simp only[aR] at x;rw[x.1,x.2];exact⟨rfl,rfl,by simp⟩
 | .agg cs,o,bs,x=>by
  simp only[aR] at x
  obtain⟨os,rfl,x⟩:=x
  obtain⟨h1,h2⟩:=aU.eX cs os bs x
  exact⟨by simpa [AV.eX] using h1.1,rfl,h2⟩
 | .slice es,o,bs,x=>by
  simp only[aR] at x
  rcases x with ⟨_,rfl,rfl⟩ | ⟨b,bs',os,w,rfl,rfl,e2,x,e3⟩
  · exact⟨rfl,rfl,by simp⟩
  · obtain⟨h1,h2⟩:=aU.eX es os bs' x
    refine⟨rfl,rfl,fun q hq=>?_⟩
    rcases cP.1 hq with rfl | hq
    · exact⟨_,e2,h1.2⟩
    · exact h2 q hq
 | .junk,_,_,x=>x.elim
 | .undef,_,_,x=>x.elim
 | .tup _,_,_,x=>x.elim
 | .fslice _,_,_,x=>x.elim
 | .mslice _ _ _ _,_,_,x=>x.elim
 | .nilptr,_,_,x=>x.elim
 | .ptr _ _,_,_,x=>x.elim
 | .pptr _,_,_,x=>x.elim
 | .nilmap,_,_,x=>x.elim
 | .map _,_,_,x=>x.elim
 | .func _ _,_,_,x=>x.elim
 | .raw _,_,_,x=>x.elim
 | .eslice,_,_,x=>x.elim
theorem aU.eX:∀(as os:List AV) (bs:List Nat),aU st as os bs→(kJ os=true∧kJ (os.flatMap AV.cells)=true)∧∀b∈bs,∃cs,st b=some (.cells cs)∧kJ cs=true
 | [],os,bs,x=>by simp only[aU] at x;rw[x.1,x.2];exact⟨⟨rfl,rfl⟩,by simp⟩
 | a::as,os,bs,x=>by
  simp only[aU] at x
  obtain⟨o,os',b1,b2,rfl,rfl,x1,x2⟩:=x
  obtain⟨h1,_,h2⟩:=aR.eX a o b1 x1
  obtain⟨⟨h3,h4⟩,h5⟩:=aU.eX as os' b2 x2
  have aQ7:∀(p q:List AV),kJ p=true→kJ q=true→kJ (p++q)=true:=by
   intro p q hp hq
   induction p with
   | nil=>exact hq
   | cons c p ih=>simp only[kJ,cK,gF] at hp ⊢;exact⟨hp.1,ih hp.2⟩
  have hc:kJ o.cells=true:=by cases o<;>first | (simpa [AV.cells,kJ] using h1) | (simpa [AV.cells,AV.eX] using h1)
  refine⟨⟨by simp [kJ,h1,h3],by rw[qR];exact aQ7 _ _ hc h4⟩,fun q hq=>?_⟩
  rcases dQ.1 hq with hq | hq
  · exact h2 q hq
  · exact h5 q hq
end
end
section
variable {h:bB} {st s0:aA}
mutual
theorem aR.view(S:cJ h st)(D:aL st s0):∀(a o:AV) (bs:List Nat) (cs:List Value),aR st a o bs→(∀b∈bs,s0 b=none)→VC h st o cs→VC h s0 a cs
 | .int k n,o,bs,cs,x,_,y=>by simp only[aR] at x;rw[x.1] at y;exact y
 | .bool b,o,bs,cs,x,_,y=>by simp only[aR] at x;rw[x.1] at y;exact y
 | .str s,o,bs,cs,x,_,y=>by simp only[aR] at x;rw[x.1] at y;exact y
 | .agg as,o,bs,cs,x,hb,y=>by
  simp only[aR] at x
  obtain⟨os,rfl,x⟩:=x
  simp only[VC] at y ⊢
  exact aU.aKL S D as os bs cs x hb y
 | .slice es,o,bs,cs,x,hb,y=>by
  simp only[aR] at x
  rcases x with ⟨rfl,rfl,rfl⟩ | ⟨b,bs',os,w,rfl,rfl,e2,x,e3⟩
  · unfold VC at y ⊢
    rcases y with y | ⟨b,off,e,_⟩
    · exact .inl y
    · exact .inl ⟨⟨_,e⟩,rfl⟩
  · simp only[VC] at y
    obtain⟨cap,e,l1,l2,_⟩:=y
    obtain⟨hlt,c,t,q1,q2,vs,q3,q4⟩:=S b _ e2
    have hsh:=aU.OZ x
    unfold VC
    refine .inr ⟨b,0,cap,e,l1,l2,hb b (by simp),hlt,⟨w,e3⟩,aU.aKM S D b es os bs' 0 x (fun q hq=>hb q (by simp [hq])) (GE (fun q hq=>hsh q hq) q3 q4)⟩
 | .junk,_,_,_,x,_,_=>x.elim
 | .undef,_,_,_,x,_,_=>x.elim
 | .tup _,_,_,_,x,_,_=>x.elim
 | .fslice _,_,_,_,x,_,_=>x.elim
 | .mslice _ _ _ _,_,_,_,x,_,_=>x.elim
 | .nilptr,_,_,_,x,_,_=>x.elim
 | .ptr _ _,_,_,_,x,_,_=>x.elim
 | .pptr _,_,_,_,x,_,_=>x.elim
 | .nilmap,_,_,_,x,_,_=>x.elim
 | .map _,_,_,_,x,_,_=>x.elim
 | .func _ _,_,_,_,x,_,_=>x.elim
 | .raw _,_,_,_,x,_,_=>x.elim
 | .eslice,_,_,_,x,_,_=>x.elim
theorem aU.aKL(S:cJ h st)(D:aL st s0):∀(as os:List AV) (bs:List Nat) (cs:List Value),aU st as os bs→(∀b∈bs,s0 b=none)→aW h st os cs→aW h s0 as cs
 | [],os,bs,cs,x,_,y=>by simp only[aU] at x;rw[x.1] at y;exact y
 | a::as,os,bs,cs,x,hb,y=>by
  simp only[aU] at x
  obtain⟨o,os',b1,b2,rfl,rfl,x1,x2⟩:=x
  simp only[aW] at y ⊢
  obtain⟨c,r,e,y1,y2⟩:=y
  exact⟨c,r,e,aR.view S D a o b1 [c] x1 (fun q hq=>hb q (by simp [hq])) y1,aU.aKL S D as os' b2 r x2 (fun q hq=>hb q (by simp [hq])) y2⟩
theorem aU.aKM(S:cJ h st)(D:aL st s0)(b:Nat):∀(as os:List AV) (bs:List Nat) (off:Nat),aU st as os bs→(∀b∈bs,s0 b=none)→cX h st b off os→cX h s0 b off as
 | [],os,bs,off,x,_,y=>by simp only[cX]
 | a::as,os,bs,off,x,hb,y=>by
  simp only[aU] at x
  obtain⟨o,os',b1,b2,rfl,rfl,x1,x2⟩:=x
  simp only[cX] at y ⊢
  obtain⟨⟨cs,y1,y2,y3⟩,y4⟩:=y
  have hw:=(aR.shape x1).2.1
  rw[hw] at y2 y4
  exact⟨⟨cs,y1,y2,aR.view S D a o b1 cs x1 (fun q hq=>hb q (by simp [hq])) y3⟩,aU.aKM S D b as os' b2 _ x2 (fun q hq=>hb q (by simp [hq])) y4⟩
theorem aU.OZ:∀ {as os:List AV} {bs:List Nat},aU st as os bs→∀o∈os,o.b9=false
 | [],os,bs,x=>by simp only[aU] at x;rw[x.1];simp
 | a::as,os,bs,x=>by
  simp only[aU] at x
  obtain⟨o,os',b1,b2,rfl,rfl,x1,x2⟩:=x
  intro q hq
  rcases cP.1 hq with rfl | hq
  · exact(aR.shape x1).2.2.1
  · exact aU.OZ x2 q hq
end
theorem aR.KO(S:cJ h st)(D:aL st s0){a o:AV}{bs:List Nat}{v:Value}(x:aR st a o bs)(hb:∀b∈bs,s0 b=none)(y:aO h st o v):aO h s0 a v:=by
 have hs:=x.shape
 have key:o.isAgg=j9 v∧VC h st o v.cells.toList:=by
  cases o<;>first | exact y | simp [AV.b9] at hs
 have z:a.isAgg=j9 v∧VC h s0 a v.cells.toList:=⟨hs.1.symm.trans key.1,aR.view S D _ _ _ _ x hb key.2⟩
 cases ha:a<;>rw[ha] at z<;>first | trivial | exact z
end
def Seen(st s0:aA):List AV→List AV→Prop
 | [],as=>as= []
 | o::os,as=>∃a as',as=a::as'∧(o=a∨∃bs,aR st a o bs∧∀b∈bs,s0 b=none)∧Seen st s0 os as'
theorem Seen.rel{st s0:aA}(D:aL st s0):∀ {os as:List AV},Seen st s0 os as→∀h vs,cJ h st→cO h st os vs→cO h s0 as vs
 | [],as,x,h,vs,_,y=>by simp only[Seen] at x;rw[x];exact y
 | o::os,as,x,h,vs,S,y=>by
  simp only[Seen] at x
  obtain⟨a,as',rfl,x1,x2⟩:=x
  simp only[cO] at y ⊢
  obtain⟨v,r,rfl,y1,y2⟩:=y
  refine⟨v,r,rfl,?_,Seen.rel D x2 h r S y2⟩
  rcases x1 with rfl | ⟨bs,x1,hb⟩
  · exact y1.mono (D.step h)
  · exact x1.KO S D hb y1
def Made(st:aA)(a r:AV)(st':aA):Prop:=∃bs:List Nat,bs.Nodup∧(∀b∈bs,st b=none)∧aR st' a r bs∧∀b,b∉bs→st' b=st b
theorem aD.made{P:Program}{g:FuncId}{args:List AV}{st:aA}{a:AV}(x:aD P g args st (Made st a)):aD P g args st (fun r st'=>r=a∧st'=st):=
 x.mI fun r st' ⟨bs,_,h2,h3,h4⟩=>by
  have D:aL st' st:=fun b=>⟨fun e=>by
   by_cases hb:b∈bs
   · exact h2 b hb
   · rw[←h4 b hb];exact e,fun o e=>by
   by_cases hb:b∈bs
   · rw[h2 b hb] at e;cases e
   · rw[h4 b hb];exact e⟩
  exact⟨a,st,D.uZ,fun h v S y=>h3.KO S D h2 y,rfl,rfl⟩
theorem aU.focus{st:aA}:∀ {as os:List AV} {bs:List Nat},aU st as os bs→bs.Nodup→∀(i:Nat) (a:AV),as[i]?=some a →
 ∃od o orr bo,os=od++o::orr∧od.length=i∧aR st a o bo∧bo.Nodup∧(∀b∈bo,b∈bs) ∧
  ∀(st':aA) (a' o':AV),(∀b∈bs,b∉bo→st' b=st b)→aR st' a' o' bo→aU st' (as.set i a') (od++o'::orr) bs
 | [],os,bs,_,_,i,a,h=>by simp at h
 | c::as,os,bs,x,nd,0,a,h=>by
  simp only[aU] at x
  obtain⟨o,os',b1,b2,rfl,rfl,x1,x2⟩:=x
  simp at h;subst h
  rw[jN] at nd
  refine⟨[],o,os',b1,rfl,rfl,x1,nd.1,fun b hb=>by simp [hb],fun st' a' o' hk y=>?_⟩
  simp only[w7,e9,aU]
  exact⟨o',os',b1,b2,rfl,rfl,y,aU.aV _ _ _ (fun q hq=>hk q (by simp [hq]) (fun hq'=>nd.2.2 q hq' q hq rfl)) x2⟩
 | c::as,os,bs,x,nd,i+1,a,h=>by
  simp only[aU] at x
  obtain⟨o,os',b1,b2,rfl,rfl,x1,x2⟩:=x
  rw[jN] at nd
  obtain⟨od,o2,orr,bo,rfl,hl,y1,y2,y3,y4⟩:=aU.focus x2 nd.2.1 i a (by simpa using h)
  refine⟨o::od,o2,orr,bo,rfl,by simp [hl],y1,y2,fun b hb=>by simp [y3 b hb],fun st' a' o' hk y=>?_⟩
  simp only[GA,gF,aU]
  refine⟨o,_,b1,b2,rfl,rfl,aR.aV _ _ _ (fun q hq=>hk q (by simp [hq]) (fun hq'=>nd.2.2 q hq q (y3 q hq') rfl)) x1,y4 st' a' o' (fun q hq hn=>hk q (by simp [hq]) hn) y⟩
theorem aU.HW{st:aA}{w:Nat}:∀ {as os:List AV} {bs:List Nat},aU st as os bs→(∀e∈as,e.width=w)→(os.flatMap AV.cells).length=as.length*w
 | [],os,bs,x,_=>by simp only[aU] at x;rw[x.1];simp
 | a::as,os,bs,x,h=>by
  simp only[aU] at x
  obtain⟨o,os',b1,b2,rfl,rfl,x1,x2⟩:=x
  have:=aU.HW x2 (fun e he=>h e (by simp [he]))
  rw[qR,dX,this,sI,(aR.shape x1).2.1,h a (by simp),bA,tP]
  omega
theorem aU.take{st:aA}:∀ {as od or':List AV} {bs:List Nat},aU st as (od++or') bs→∃bs',aU st (as.take od.length) od bs'
 | as,[],or',bs,_=>⟨[],by simp [aU]⟩
 | [],o::od,or',bs,x=>by simp [aU] at x
 | a::as,o::od,or',bs,x=>by
  simp only[aU,gF] at x
  obtain⟨o1,os',b1,b2,e,rfl,x1,x2⟩:=x
  obtain⟨rfl,rfl⟩:=vE e
  obtain⟨bs',h⟩:=aU.take x2
  exact⟨b1++bs',by simp only[bA,vH,aU];exact⟨o,od,b1,bs',rfl,rfl,x1,h⟩⟩
theorem aR.focus{st:aA}{es:List AV}{o:AV}{bs:List Nat}(x:aR st (.slice es) o bs)(nd:bs.Nodup){i:Nat}{e:AV}(h:es[i]?=some e) :
 ∃b bs' w A oe bo B,o=.mslice b 0 es.length w∧bs=b::bs'∧st b=some (.cells (A++oe.cells++B))∧A.length=i*w∧aR st e oe bo∧bo.Nodup∧b∉bo∧(∀q∈bo,q∈bs)∧e.width=w∧i<es.length ∧
  ∀(st':aA) (e' oe':AV),e'.width=w→(∀q∈bs,q≠b→q∉bo→st' q=st q)→st' b=some (.cells (A++oe'.cells++B))→aR st' e' oe' bo→aR st' (.slice (es.set i e')) o bs:=by
 have hi:i<es.length:=(fD.1 h).1
 simp only[aR] at x
 rcases x with ⟨rfl,_⟩ | ⟨b,bs',os,w,rfl,rfl,e2,x,e3⟩
 · simp at h
 · rw[w6] at nd
   obtain⟨od,oe,orr,bo,rfl,hl,y1,y2,y3,y4⟩:=aU.focus x nd.2 i e h
   have hA:(od.flatMap AV.cells).length=i*w:=by
    obtain⟨bs2,ht⟩:=aU.take x
    rw[ht.HW (fun q hq=>e3 q (nP hq)),dY,hl,kC (by omega)]
   refine⟨b,bs',w,od.flatMap AV.cells,oe,bo,orr.flatMap AV.cells,rfl,rfl,by rw[e2];simp,hA,y1,y2,fun hb=>nd.1 (y3 b hb),fun q hq=>by simp [y3 q hq],e3 e (cL h),hi,?_⟩
   intro st' e' oe' hw hk hb hO
   simp only[aR]
   refine .inr ⟨b,bs',od++oe'::orr,w,by simp,rfl,by rw[hb];simp,y4 st' e' oe' (fun q hq hn=>hk q (by simp [hq]) (fun hqb=>nd.1 (hqb▸hq)) hn) hO,fun q hq=>?_⟩
   rcases List.mem_or_eq_of_mem_set hq with hq | rfl
   · exact e3 q hq
   · exact hw
theorem aIJ{A C B x:List AV}{n j:Nat}(hA:A.length=n)(hj:j+x.length≤C.length):aS (A++C++B) (n+j) x=A++aS C j x++B:=by
 subst hA
 unfold aS
 have h1:(A++C++B).take (A.length+j)=A++C.take j:=by
  rw[lA,List.take_length_add_append,zE (by omega)]
 have h2:(A++C++B).drop (A.length+j+x.length)=C.drop (j+x.length)++B:=by
  rw[lA,zH,List.drop_length_add_append,QO (by omega)]
 rw[h1,h2]
 simp
theorem wC{A B:List AV}{n:Nat}(hA:A.length=n):(∀(C:List AV) (v:AV) (j:Nat),j<C.length→aS (A++C++B) (n+j) [v]=A++C.set j v++B)∧(∀(C:List AV) (c:Nat),c<C.length→n+c+1≤(A++C++B).length) ∧
 (∀(C:List AV) (c:Nat),c<C.length→(A++C++B)[n+c]?=C[c]?)∧(∀(C:List AV) (v:AV),0<C.length→aS (A++C++B) n [v]=A++C.set 0 v++B)∧(∀(C:List AV),0<C.length→n+1≤(A++C++B).length) ∧
 ∀(C:List AV),0<C.length→(A++C++B)[n]?=C[0]?:=by
 have k1:(∀(C:List AV) (v:AV) (j:Nat),j<C.length→aS (A++C++B) (n+j) [v]=A++C.set j v++B)∧(∀(C:List AV) (c:Nat),c<C.length→n+c+1≤(A++C++B).length)∧∀(C:List AV) (c:Nat),c<C.length→(A++C++B)[n+c]?=C[c]?:=?_
 · exact⟨k1.1,k1.2.1,k1.2.2,fun C v h=>k1.1 C v 0 h,fun C h=>k1.2.1 C 0 h,fun C h=>k1.2.2 C 0 h⟩
 refine⟨fun C v j h=>?_,fun C c h=>?_,fun C c h=>?_⟩
 · rw[aIJ hA (by simp;omega),List.set_eq_take_append_cons_drop,aK h]
   unfold aS
   simp
 · simp only[dX];omega
 · subst hA
   rw[lA,QQ (by omega),Nat.add_sub_cancel_left,QP h]
theorem OH{A B C x:List AV}{n w:Nat}(hA:A.length=n)(hC:C.length=w)(hx:x.length=w):aS (A++C++B) n x=A++x++B∧n+w≤(A++C++B).length:=by
 have h:=aIJ (A:=A) (C:=C) (B:=B) (x:=x) (n:=n) (j:=0) hA (by omega)
 rw[qT] at h
 refine⟨?_,by simp only[dX];omega⟩
 rw[h]
 unfold aS
 simp [hC,hx]
theorem n6{P:Program}{t:TypeId}{ag:Bool}{b len w i:Nat}(hI:eI P t=some (ag,w))(hi:i<len):dG P t (.mslice b 0 len w) (.int .i64 (i:Int))=some (.ptr b (i*w)):=by
 simp only[dG,hI,jM,gN]
 rw[aK ⟨by omega,by omega,trivial⟩]
theorem aR.LK{st:aA}:∀ {cs os:List AV} {bs:List Nat},aU st cs os bs→(∀c∈cs,c.isAgg=false)→os.all AV.storable=true∧os.flatMap AV.cells=os
 | [],os,bs,x,_=>by simp only[aU] at x;rw[x.1];simp
 | a::as,os,bs,x,h=>by
  simp only[aU] at x
  obtain⟨o,os',b1,b2,rfl,rfl,x1,x2⟩:=x
  have ih:=aR.LK x2 (fun c hc=>h c (by simp [hc]))
  have ha:=h a (by simp)
  have ho:o.storable=true∧o.cells= [o]:=by
   cases a<;>simp only[aR] at x1<;>try exact x1.elim
   case int=>rw[x1.1];exact⟨rfl,rfl⟩
   case bool=>rw[x1.1];exact⟨rfl,rfl⟩
   case str=>rw[x1.1];exact⟨rfl,rfl⟩
   case agg=>simp [AV.isAgg] at ha
   case slice=>rcases x1 with ⟨_,rfl,_⟩ | ⟨b,bs',os,w,rfl,_⟩<;>exact⟨rfl,rfl⟩
  rw[iS,ho.1,ih.1,qR,ih.2,ho.2]
  exact⟨rfl,rfl⟩
theorem aU.snoc{st st':aA}{a o:AV}{b2:List Nat}:∀ {as os:List AV} {b1:List Nat},aU st as os b1→(∀b∈b1,st' b=st b)→aR st' a o b2→aU st' (as++ [a]) (os++ [o]) (b1++b2)
 | [],os,b1,x,_,y=>by
  simp only[aU] at x
  rw[x.1,x.2]
  simp only[e9,aU]
  exact⟨o,[],b2,[],rfl,by simp,y,rfl,rfl⟩
 | c::as,os,b1,x,h,y=>by
  simp only[aU] at x
  obtain⟨o1,os',b3,b4,rfl,rfl,x1,x2⟩:=x
  simp only[gF,aU]
  exact⟨o1,os'++ [o],b3,b4++b2,rfl,by simp,aR.aV _ _ _ (fun q hq=>h q (by simp [hq])) x1,aU.snoc x2 (fun q hq=>h q (by simp [hq])) y⟩
def qU(es:List AV)(zs:List AV)(b:Nat)(st:aA)(i:Nat)(p:List AV×List Nat×aA):Prop:=
 p.1.length=i∧aU p.2.2 (es.take i) p.1 p.2.1∧p.2.1.Nodup∧b∉p.2.1∧(∀q∈p.2.1,st q=none)∧st b=none∧p.2.2 b=some (.cells (p.1.flatMap AV.cells++(List.replicate (es.length - i) zs).flatten))∧∀q,q≠b→q∉p.2.1→p.2.2 q=st q
theorem qU.start{es zs:List AV}{b n:Nat}{st:aA}(hn:st b=none)(hl:n=es.length):qU es zs b st 0 ([],[],st.aC b (.cells (List.replicate n zs).flatten)):=
 ⟨rfl,by simp [aU],kM,by simp,by simp,hn,by simp [aA.aH,hl],fun q h _=>aA.aF _ _ h⟩
theorem qU.done{es zs:List AV}{b n w:Nat}{st:aA}{os:List AV}{bs:List Nat}{s:aA}(h:qU es zs b st n (os,bs,s))(hl:es.length=n)(hw:∀e∈es,e.width=w):Made st (.slice es) (.mslice b 0 n w) s:=by
 obtain⟨h1,h2,h3,h4,h5,h6,h7,h8⟩:=h
 simp only at h1 h2 h3 h4 h5 h7 h8
 rw[nQ (by omega)] at h2
 refine⟨b::bs,w6.2 ⟨h4,h3⟩,fun q hq=>?_,?_,fun q hq=>h8 q (fun e=>hq (by simp [e])) (fun e=>hq (by simp [e]))⟩
 · rcases cP.1 hq with rfl | hq
   · exact h6
   · exact h5 q hq
 · simp only[aR]
   refine .inr ⟨b,bs,os,w,by rw[hl],rfl,?_,h2,hw⟩
   rw[h7,hl]
   simp
theorem qU.step{es zs:List AV}{b i w:Nat}{st:aA}{os:List AV}{bs:List Nat}{s s2:aA}{e r:AV}(h:qU es zs b st i (os,bs,s))(hm:Made s e r s2)(he:es[i]?=some e)(hwe:e.width=w)(hw:∀e∈es,e.width=w)(hz:zs.length=w)
 (hst:e.cells.all AV.storable=true) (hag:e.isAgg=true∨e.cells= [e]) :
 ∃A B,s2 b=some (.cells (A++zs++B))∧A.length=i*w∧r.cells.length=w∧r.cells.all AV.storable=true∧qU es zs b st (i+1) (os++ [r],bs++hm.choose,s2.aC b (.cells (A++r.cells++B))):=by
 obtain⟨h1,h2,h3,h4,h5,h6,h7,h8⟩:=h
 simp only at h1 h2 h3 h4 h5 h7 h8
 obtain⟨m1,m2,m3,m4⟩:=hm.choose_spec
 generalize hm.choose=bx at *
 have hi:i<es.length:=(fD.1 he).1
 have hbx:b∉bx:=fun hb=>by have:=m2 b hb;rw[h7] at this;cases this
 have hs2:s2 b=s b:=m4 b hbx
 have hlt:(os.flatMap AV.cells).length=i*w:=by rw[h2.HW (fun q hq=>hw q (nP hq)),dY,kC (by omega)]
 have sY:=aU.eX _ _ _ h2
 have kH:∀q∈bs,q∉bx:=fun q hq hx=>by
  obtain⟨cs,e1,_⟩:=sY.2 q hq
  rw[m2 q hx] at e1;cases e1
 have aST:(List.replicate (es.length - i) zs).flatten=zs++(List.replicate (es.length - (i+1)) zs).flatten:=by
  rw[show es.length - i=(es.length - (i+1))+1 by omega,CJ,List.flatten_cons]
 have hb2:s2 b=some (.cells (os.flatMap AV.cells++zs++(List.replicate (es.length - (i+1)) zs).flatten)):=by rw[hs2,h7,aST,lA]
 have hrl:r.cells.length=w:=by rw[sI,(aR.shape m3).2.1,hwe]
 have hrs:r.cells.all AV.storable=true:=by
  cases e<;>simp only[aR] at m3<;>try exact m3.elim
  case int=>rw[m3.1];try rfl
  case bool=>rw[m3.1];try rfl
  case str=>rw[m3.1];try rfl
  case slice=>rcases m3 with ⟨_,rfl,_⟩ | ⟨_,_,_,_,rfl,_⟩<;>rfl
  case agg cs=>
   obtain⟨q,rfl,m3⟩:=m3
   refine(aR.LK m3 fun c hc=>?_).1
   have hst:cs.all AV.storable=true:=hst
   have:=eL.1 hst c hc
   cases c<;>first | rfl | (simp [AV.storable] at this)
 refine⟨os.flatMap AV.cells,_,hb2,hlt,hrl,hrs,by simp [h1],?_,?_,?_,?_,h6,?_,?_⟩
 · rw[f8,he]
   have hne:∀q,q≠b→(s2.aC b (.cells (os.flatMap AV.cells++r.cells++(List.replicate (es.length - (i+1)) zs).flatten))) q=s2 q:=fun q hq=>aA.aF _ _ hq
   exact aU.snoc h2 (fun q hq=>(hne q (fun e=>h4 (e▸hq))).trans (m4 q (kH q hq))) (aR.aV _ _ _ (fun q hq=>hne q (fun e=>hbx (e▸hq))) m3)
 · exact jN.2 ⟨h3,m1,fun a ha c hc e=>kH a ha (e▸hc)⟩
 · intro hb
   rcases dQ.1 hb with hb | hb
   · exact h4 hb
   · exact hbx hb
 · intro q hq
   rcases dQ.1 hq with hq | hq
   · exact h5 q hq
   · by_cases hqb:q=b
     · rw[hqb];exact h6
     · by_cases hqs:q∈bs
       · exact h5 q hqs
       · rw[←h8 q hqb hqs];exact m2 q hq
 · simp only[aA.aH]
   simp
 · intro q hq hn
   simp only[dQ,jJ] at hn
   exact(aA.aF _ _ hq).trans ((m4 q hn.2).trans (h8 q hq hn.1))
def QR(st:aA)(ds:List Nat)(a r:AV)(st':aA):Prop:=∃bs:List Nat,bs.Nodup∧(∀b∈bs,st b=none)∧(∀d∈ds,st d=none∧d∉bs)∧aR st' a r bs∧∀b,b∉bs→b∉ds→st' b=st b
theorem aD.BG{P:Program}{g:FuncId}{args:List AV}{st:aA}{a:AV}(x:aD P g args st (fun r st'=>∃ds,QR st ds a r st')):aD P g args st (Made st a):=
 x.mI fun r st' ⟨ds,bs,h1,h2,hd,h3,h4⟩=>by
  refine⟨r,fun q=>if q∈ds then none else st' q,?_,?_,bs,h1,h2,?_,fun b hb=>?_⟩
  · have D:aL st' (fun q=>if q∈ds then none else st' q):=fun q=>by
     by_cases hq:q∈ds
     · simp only[hq,d3];exact⟨fun _=>trivial,fun o h=>by cases h⟩
     · simp only[hq,cM];exact⟨id,fun o h=>h⟩
    exact D.uZ
  · have D:aL st' (fun q=>if q∈ds then none else st' q):=fun q=>by
     by_cases hq:q∈ds
     · simp only[hq,d3];exact⟨fun _=>trivial,fun o h=>by cases h⟩
     · simp only[hq,cM];exact⟨id,fun o h=>h⟩
    exact D.mI r
  · exact aR.aV _ _ _ (fun q hq=>aG fun h=>(hd q h).2 hq) h3
  · by_cases hq:b∈ds
    · simp only[hq,d3];exact(hd b hq).1.symm
    · simp only[hq,cM];exact h4 b hb hq
def q9(b:Nat):List AV→List Nat
 | []=>[]
 | _::_=>[b]
theorem aHW{s:aA}{b w:Nat}{es os:List AV}{bs:List Nat}(x:aU (bE s b os) es os bs)(hw:∀e∈es,e.width=w):aR (bE s b os) (.slice es) (bQ w b os) (q9 b os++bs):=by
 have hl:=x.length
 cases os with
 | nil=>
  have:es= []:=qQ (by simpa using hl.symm)
  subst this
  simp only[aU] at x
  simp only[aR,bQ,q9,x.2]
  exact .inl ⟨trivial,trivial,rfl⟩
 | cons o os=>
  simp only[aR,bQ,q9]
  refine .inr ⟨b,bs,o::os,w,by rw[hl],rfl,?_,x,hw⟩
  simp only[bE,aA.aH]
def AV.flat:AV→Bool
 | .int _ _ | .bool _ | .str _=>true
 | _=>false
theorem aU.flat{s:aA}:∀ {es:List AV},es.all AV.flat=true→aU s es es []
 | [],_=>⟨rfl,rfl⟩
 | e::es,h=>by
  simp only[iS,cK] at h
  simp only[aU]
  refine⟨e,es,[],[],rfl,rfl,?_,aU.flat h.2⟩
  cases e<;>simp [AV.flat] at h<;>simp [aR]
theorem Seen.nil{st s0:aA}:Seen st s0 [] []:=rfl
theorem Seen.same{st s0:aA}{x:AV}{os as:List AV}(h:Seen st s0 os as):Seen st s0 (x::os) (x::as):=⟨x,as,rfl,.inl rfl,h⟩
theorem Seen.own{st:aA}{a o:AV}{bs:List Nat}{os as:List AV}(hO:aR st a o bs)(h:Seen st cY os as):Seen st cY (o::os) (a::as):=⟨a,as,rfl,.inr ⟨bs,hO,fun _ _=>rfl⟩,h⟩
theorem aD.see{P:Program}{g:FuncId}{args args':List AV}{st:aA}{r:AV}(x:∀s,aD P g args s (fun r' s'=>r'=r∧s'=s))(hv:Seen st cY args' args)(hs:r.eX=true):aD P g args' st (fun r' s'=>r'=r∧s'=st):=
 aD.MW hs (x cY) (Seen.rel (aL.cY st) hv)
theorem aD.rH{P:Program}{g:FuncId}{args:List AV}{st:aA}{r:AV}(x:aD P g args st (fun r' st'=>r'=r∧aL st' st)):aD P g args st (fun r' st'=>r'=r∧st'=st):=
 (x.mono fun _ _ h=>⟨h.2,h.1⟩).drop
theorem aK6{P:Program}{t:TypeId}{st:aA}{s x:AV}{K K':AV→aA→Prop}(h:∀r s,K r s→K' r s)(e:kD P t st s x K):kD P t st s x K':=by
 unfold kD at *
 split at e
 case h_2=>exact e.elim
 refine⟨e.1,e.2.1,?_⟩
 have e:=e.2.2
 split at e
 · exact⟨e.1,e.2.1,e.2.2.1,fun q=>h _ _ (e.2.2.2.1 q),fun q b hb=>h _ _ (e.2.2.2.2 q b hb)⟩
 · refine⟨e.1,e.2.1,e.2.2.1,?_⟩
   have e:=e.2.2.2
   split at e
   · exact⟨e.1,h _ _ e.2.1,fun b hb=>h _ _ (e.2.2 b hb)⟩
   · exact e.elim
 · exact e.elim
theorem aK5{P:Program}{t t':TypeId}{st:aA}{s x:AV}{K K':AV→aA→Prop}(h:∀r s,K r s→K' r s)(e:qW P t t' st s x K):qW P t t' st s x K':=by
 unfold qW at *
 split at e
 case h_2=>exact e.elim
 refine⟨e.1,e.2.1,e.2.2.1,e.2.2.2.1,?_⟩
 have e:=e.2.2.2.2
 split at e
 · exact⟨e.1,e.2.1,e.2.2.1,fun q=>h _ _ (e.2.2.2.1 q),fun q b hb=>h _ _ (e.2.2.2.2 q b hb)⟩
 · refine⟨e.1,e.2.1,e.2.2.1,?_⟩
   have e:=e.2.2.2
   split at e
   · exact⟨e.1,h _ _ e.2.1,fun b hb=>h _ _ (e.2.2 b hb)⟩
   · exact e.elim
 · exact e.elim
theorem z0{P:Program}{mt:List Nat}{φ:AF}{st:aA}{o:Oper}{K K':AV→aA→Prop}(h:∀r s,K r s→K' r s)(e:eN P mt φ st o K):eN P mt φ st o K':=by
 unfold eN at *
 split at e
 · split at e
   · exact e.mono h
   · exact e.elim
 · split at e
   · split at e
     · rename_i ht;rw[aK ht];exact aK6 h e
     · rename_i ht;rw[aG ht];exact aK5 h e
   · exact e.elim
 · split at e
   · unfold xE at *
     split at e
     · split at e
       · exact h _ _ e
       · exact e.elim
     · exact e.elim
   · exact e.elim
 · split at e
   · rename_i hm
     rw[aK hm]
     exact⟨e.1,fun b hb=>h _ _ (e.2 b hb)⟩
   · rename_i hm
     rw[aG hm]
     split at e
     · exact h _ _ e
     · exact e.elim
 · split at e
   · exact fun b hb=>h _ _ (e b hb)
   · exact e.elim
 · split at e
   · split at e
     · exact⟨e.1,e.2.1,e.2.2.1,h _ _ e.2.2.2⟩
     · exact e.elim
   · exact e.elim
 · exact fun b hb=>h _ _ (e b hb)
 · unfold qX at *
   split at e
   · exact⟨e.1,e.2.1,e.2.2.1,e.2.2.2.1,e.2.2.2.2.1,e.2.2.2.2.2.1,fun b hb=>h _ _ (e.2.2.2.2.2.2 b hb)⟩
   · exact e.elim
 · unfold qY at *
   split at e
   · split at e
     · exact⟨e.1,h _ _ e.2⟩
     · exact e.elim
   · exact e.elim
 · split at e
   · exact h _ _ e
   · exact e.elim
def iU(P:Program)(ops:Array Oper)(o:Oper)(φ:AF)(st:aA)(K:AV→aA→Prop):Prop:=match iI ops φ o with
 | some true=>eN P [] φ st o K
 | some false=>K .undef st
 | none=>False
theorem vP{P:Program}{ops:Array Oper}{o:Oper}{φ:AF}{st:aA}{K K':AV→aA→Prop}(h:∀r s,K r s→K' r s)(e:iU P ops o φ st K):iU P ops o φ st K':=by
 unfold iU at *
 split at e
 · exact z0 h e
 · exact h _ _ e
 · exact e.elim
section
variable {P:Program}
theorem aLA{ops:Array Oper}{oi oj:Oper}(φ:AF)(v:AV)(h:∀d,oj.dst=some d→d∉oi.looksAt ops):iI ops (φ.put oj.dst v) oi=iI ops φ oi:=by
 unfold iI
 cases hg:oi.guard with
 | none=>rfl
 | some gw=>
  obtain⟨g,want⟩:=gw
  cases ht:(ops[g]?).bind (·.dst) with
  | none=>simp only[ht]
  | some t=>
   simp only[ht]
   have:(φ.put oj.dst v) t=φ t:=by
    have:=JA (φ:=φ) (dst:=oj.dst) (v:=v) (x:=.tmp t) (fun d hd hxd=>h d hd (by
     cases hxd
     simp [Oper.looksAt,hg,ht]))
    exact this
   rw[this]
theorem LG{ops:Array Oper}{oi oj:Oper}(φ:AF)(v:AV){st:aA}{K:AV→aA→Prop}(h:∀d,oj.dst=some d→d∉oi.looksAt ops):iU P ops oi (φ.put oj.dst v) st K↔iU P ops oi φ st K:=by
 have h1:eN P [] (φ.put oj.dst v) st oi K=eN P [] φ st oi K:=
  Q9 fun x hx=>JA fun d hd hxd=>h d hd (by
   subst hxd
   exact List.mem_append_left _ (List.mem_filterMap.2 ⟨.tmp d,by simpa using hx,rfl⟩))
 unfold iU
 rw[h1,aLA φ v h]
theorem aFI(n j:Nat):(Array.replicate n false).getD j false=false:=by
 rcases kN j n with h | h<;>simp [h]
def GI(P:Program)(ops:Array Oper)(K:AF→aA→Prop):Nat→Array Bool→AF→aA→Prop
 | 0,listed,φ,st=>Region.ready .any ops listed= []∧K φ st
 | f+1,listed,φ,st=>(Region.ready .any ops listed= []→K φ st)∧∀i∈Region.ready .any ops listed,∃o,ops[i]?=some o∧iU P ops o φ st (fun r st'=>GI P ops K f (listed.setIfInBounds i true) (φ.put o.dst r) st')
theorem aLK{N:Nat}{ops:Array Oper}(hN:∀(j d:Nat),(ops[j]?).bind (·.dst)=some d→d<N){o:Oper}{i:Nat}{a:Act}{w:World}{φ:AF}{st:aA}{G:AV→aA→Prop}{K:Act→World→Prop}{Q:Exit→Act→World→Prop}(hi:ops[i]?=some o)
 (R:Rel N a w φ st) (hd:oV N o=true) (y:iU P ops o φ st G) (h:∀a' w' r st',Rel N a' w' (φ.put o.dst r) st'→bT w.heap st w'.heap st'→fE w w'→G r st'→K a' w'):wpOp P ops Q i K a w:=by
 unfold iU at y
 unfold wpOp
 simp only[hi]
 split at y
 · rename_i hg
   rw[aK (vL R hN hg)]
   refine .inl (GN R.frame R.store y fun v w' ⟨r',st',x1,x2,x3,x4,x5⟩=>?_)
   exact h _ _ r' st' (R.put hd x3 x2 x1) x3 x4 x5
 · rename_i hg
   rw[aG (by rw[vL R hN hg];simp)]
   exact h _ _ .undef st (R.put (r:=.undef) hd (bT.refl _ _) R.store ⟨rfl,rfl⟩) (bT.refl _ _) (fE.refl _) y
 · exact y.elim
theorem LA{N:Nat}{ops:Array Oper}(hN:∀(j d:Nat),(ops[j]?).bind (·.dst)=some d→d<N)(hD:∀o∈ops.toList,oV N o=true){K:AF→aA→Prop}{Q:Exit→Act→World→Prop}{w0:World}{st0:aA}
 (hK:∀φ st a w,K φ st→Rel N a w φ st→bT w0.heap st0 w.heap st→fE w0 w→Q .normal a w) :
 ∀(f:Nat) (listed:Array Bool) (φ:AF) (st:aA) (a:Act) (w:World),GI P ops K f listed φ st→Rel N a w φ st→bT w0.heap st0 w.heap st→fE w0 w→wpAny P .any ops Q f listed a w
 | 0,listed,φ,st,a,w,h,R,T,s=>⟨h.1,hK φ st a w h.2 R T s⟩
 | f+1,listed,φ,st,a,w,h,R,T,s=>by
  refine⟨fun h0=>hK φ st a w (h.1 h0) R T s,fun i hi=>?_⟩
  obtain⟨o,ho,y⟩:=h.2 i hi
  exact aLK hN ho R (hD o (mX.2 (yZ ho))) y fun a' w' r st' R' T' s' g=>LA hN hD hK f _ _ _ a' w' g R' (T.trans T') (s.trans s')
def Q4(P:Program)(ops:Array Oper)(o:Oper)(r:AV)(φ:AF):Prop:=∀st,iV P st ops o r φ
theorem aYX{ops:Array Oper}{o:Oper}{r:AV}{φ:AF}(h:Q4 P ops o r φ){st:aA}{K:AV→aA→Prop}(k:K r st):iU P ops o φ st K:=by
 unfold iU
 rcases h st with ⟨hg,hs⟩ | ⟨hg,rfl⟩
 · rw[hg];exact z0 (fun r' s' ⟨e1,e2⟩=>by rw[e1,e2];exact k) hs
 · rw[hg];exact k
theorem RD{ops:Array Oper}{o:Oper}{r:AV}{φ:AF}{st:aA}(h:iV P st ops o r φ){K:AV→aA→Prop}(k:K r st):iU P ops o φ st K:=by
 unfold iU
 rcases h with ⟨hg,hs⟩ | ⟨hg,rfl⟩
 · rw[hg];exact z0 (fun r' s' ⟨e1,e2⟩=>by rw[e1,e2];exact k) hs
 · rw[hg];exact k
def zR(P:Program)(ops:Array Oper)(S:List Nat)(K:AF→aA→Prop):Nat→Array Bool→AF→aA→Prop
 | 0,listed,φ,st=>Region.ready .any ops listed= []∧K φ st
 | f+1,listed,φ,st=>(Region.ready .any ops listed= []→K φ st)∧∀i∈Region.ready .any ops listed,∃o,ops[i]?=some o ∧
  ((S.contains i=true∧∃r,iV P st ops o r φ∧zR P ops S K f (listed.setIfInBounds i true) (φ.put o.dst r) st) ∨
   (S.contains i=false∧iU P ops o φ st (fun r st'=>zR P ops S K f (listed.setIfInBounds i true) (φ.put o.dst r) st')))
theorem LB{ops:Array Oper}{S:List Nat}{K:AF→aA→Prop}:∀(f:Nat) (listed:Array Bool) (φ:AF) (st:aA),zR P ops S K f listed φ st→GI P ops K f listed φ st
 | 0,_,_,_,h=>h
 | f+1,listed,φ,st,h=>by
  refine⟨h.1,fun i hi=>?_⟩
  obtain⟨o,ho,h2⟩:=h.2 i hi
  refine⟨o,ho,?_⟩
  rcases h2 with ⟨_,r,y,k⟩ | ⟨_,k⟩
  · exact RD y (LB f _ _ _ k)
  · exact vP (fun r s q=>LB f _ _ _ q) k
def vB(ops:Array Oper)(listed:Array Bool):Prop:=∀j o,ops[j]?=some o→listed.getD j false=true→∀e∈o.after,Region.binds .any e=true→listed.getD e.on false=true
theorem vB.set{ops:Array Oper}{listed:Array Bool}{i:Nat}(h:vB ops listed)(hr:i∈Region.ready .any ops listed):vB ops (listed.setIfInBounds i true):=by
 intro j o ho hl e he hb
 by_cases hji:i=j
 · subst hji
   obtain⟨_,o',ho',c9⟩:=mem_ready.1 hr
   rw[ho'] at ho;cases ho
   exact getD_set_true (c9 e he hb)
 · rw[getD_set_ne false hji] at hl
   exact getD_set_true (h j o ho hl e he hb)
def sM(ops:Array Oper):Nat→Nat→Nat→Bool
 | 0,_,_=>false
 | f+1,j,i=>match ops[j]? with
  | some o=>o.after.any fun e=>Region.binds .any e&&(e.on == i||sM ops f e.on i)
  | none=>false
theorem G7{ops:Array Oper}{listed:Array Bool}{i:Nat}(h:vB ops listed)(hi:listed.getD i false=false):∀(f j:Nat) (o:Oper),ops[j]?=some o→sM ops f j i=true→¬ ∀e∈o.after,Region.binds .any e=true→listed.getD e.on false=true
 | 0,j,o,_,hd=>by simp [sM] at hd
 | f+1,j,o,ho,hd=>by
  intro c9
  simp only[sM,ho] at hd
  obtain⟨e,he,h2⟩:=Array.any_eq_true'.1 hd
  simp only[cK,oJ,beq_iff_eq] at h2
  obtain⟨hb,h3⟩:=h2
  have hl:=c9 e he hb
  rcases h3 with h3 | h3
  · rw[h3,hi] at hl;cases hl
  · cases hk:ops[e.on]? with
    | none=>cases f<;>simp [sM,hk] at h3
    | some o2=>exact G7 h hi f e.on o2 hk h3 (h e.on o2 hk hl)
def e7(st s:aA):Prop:=∀b o,st b=some o→s b=some o
theorem e7.refl(st:aA):e7 st st:=fun _ _ h=>h
theorem e7.trans{a b c:aA}(x:e7 a b)(y:e7 b c):e7 a c:=fun q o h=>y q o (x q o h)
def GR(o:Oper):Bool:=match o.op with
 | .alloc _=>true
 | _=>false
theorem aLJ{ops:Array Oper}{o:Oper}{φ:AF}{st:aA}{K:AV→aA→Prop}(ho:GR o=true)(e:iU P ops o φ st K):iU P ops o φ st (fun r st'=>e7 st st'∧K r st'):=by
 obtain⟨dst,op,type,pos,after,guard⟩:=o
 cases op<;>simp only[GR,jX] at ho
 unfold iU at e ⊢
 split at e
 · simp only[eN] at e ⊢
   split at e
   · intro b hb
     refine⟨fun q o hq=>?_,e b hb⟩
     rw[aA.aF _ _ (by rintro rfl;rw[hb] at hq;cases hq)]
     exact hq
   · cases e
 · exact⟨e7.refl _,e⟩
 · cases e
theorem LC{ops:Array Oper}{S:List Nat}{i:Nat}{oi:Oper}{v:AV}{K:AF→aA→Prop}(hi:ops[i]?=some oi)(hS:S.contains i=true) :
 ∀(f:Nat) (listed:Array Bool) (φ:AF) (st:aA),vB ops listed →
  (∀j oj,ops[j]?=some oj→j≠i→listed.getD j true=false→(∀e∈oj.after,Region.binds .any e=true→e.on≠i)→oi.apart ops oj=true) →
  i∈Region.ready .any ops listed→((∀s,iV P s ops oi v φ)∨(iV P st ops oi v φ∧∀j oj,ops[j]?=some oj→listed.getD j true=false→S.contains j=false→∃g,sM ops g j i=true)∨((∀s,e7 st s→iV P s ops oi v φ)∧∀j oj,ops[j]?=some oj→listed.getD j true=false→S.contains j=false→(∃g,sM ops g j i=true)∨GR oj=true)) →
  zR P ops S K f (listed.setIfInBounds i true) (φ.put oi.dst v) st→zR P ops S K (f+1) listed φ st:=by
 intro f
 induction f with
 | zero=>
  intro listed φ st hcl _ hr hy H
  have hy0:iV P st ops oi v φ:=by
   rcases hy with h | h | h
   · exact h st
   · exact h.1
   · exact h.1 st (e7.refl st)
  refine⟨fun h=>(by rw[h] at hr;cases hr),fun j hj=>?_⟩
  by_cases hji:j=i
  · subst hji;exact⟨oi,hi,.inl ⟨hS,v,hy0,H⟩⟩
  · have:=ready_mono hj hji
    rw[H.1] at this
    cases this
 | succ f ih=>
  intro listed φ st hcl pA hr hy H
  have hy0:iV P st ops oi v φ:=by
   rcases hy with h | h | h
   · exact h st
   · exact h.1
   · exact h.1 st (e7.refl st)
  refine⟨fun h=>(by rw[h] at hr;cases hr),fun j hj=>?_⟩
  by_cases hji:j=i
  · subst hji;exact⟨oi,hi,.inl ⟨hS,v,hy0,H⟩⟩
  · obtain⟨oj,hoj,h1⟩:=H.2 j (ready_mono hj hji)
    obtain⟨n7,oj',x6,c9⟩:=mem_ready.1 hj
    have:oj'=oj:=lE (x6.symm.trans hoj)
    subst this
    have hun:=(mem_ready.1 hr).1
    have rR:∀e∈oj'.after,Region.binds .any e=true→e.on≠i:=fun e he hb heq=>by
     have h1:=c9 e he hb
     rw[heq,getD_both hun] at h1
     cases h1
    obtain⟨a1,a2,a3⟩:=Oper.apart_spec (pA j oj' hoj hji n7 rR)
    have sV:∀k ok,ops[k]?=some ok→k≠i→(listed.setIfInBounds j true).getD k true=false →
     (∀e∈ok.after,Region.binds .any e=true→e.on≠i)→oi.apart ops ok=true:=fun k ok hk hki hun hno=>by
     refine pA k ok hk hki ?_ hno
     by_cases hjk:j=k
     · subst hjk;exact n7
     · rw[getD_set_ne true hjk] at hun;exact hun
    have NY:∀k,(listed.setIfInBounds j true).getD k true=false→listed.getD k true=false:=fun k hk=>by
     by_cases hjk:j=k
     · subst hjk;exact n7
     · rw[getD_set_ne true hjk] at hk;exact hk
    refine⟨oj',hoj,?_⟩
    rcases h1 with ⟨hSj,r,yj,h2⟩ | ⟨hSj,h2⟩
    · refine .inl ⟨hSj,r,(oN φ v a1).1 yj,ih (listed.setIfInBounds j true) (φ.put oj'.dst r) st (hcl.set hj) sV (ready_mono hr (dA hji)) ?_ ?_⟩
      · rcases hy with h | h | h
        · exact .inl fun s=>(oN φ r a3).2 (h s)
        · exact .inr (.inl ⟨(oN φ r a3).2 h.1,fun k ok hk hl hs=>h.2 k ok hk (NY k hl) hs⟩)
        · exact .inr (.inr ⟨fun s hs=>(oN φ r a3).2 (h.1 s hs),fun k ok hk hl hs=>h.2 k ok hk (NY k hl) hs⟩)
      · rw[y6 _ _ hji,←put_comm φ v r a2]
        exact h2
    · rcases hy with hf | ⟨_,hd⟩ | ⟨hx,hd⟩
      · refine .inr ⟨hSj,vP (fun r st' h3=>?_) ((LG φ v a1).1 h2)⟩
        refine ih (listed.setIfInBounds j true) (φ.put oj'.dst r) st' (hcl.set hj) sV (ready_mono hr (dA hji)) (.inl fun s=>(oN φ r a3).2 (hf s)) ?_
        rw[y6 _ _ hji,←put_comm φ v r a2]
        exact h3
      · obtain⟨g,hg⟩:=hd j oj' hoj n7 hSj
        exact absurd c9 (G7 hcl (getD_both hun) g j oj' hoj hg)
      · rcases hd j oj' hoj n7 hSj with ⟨g,hg⟩ | hal
        · exact absurd c9 (G7 hcl (getD_both hun) g j oj' hoj hg)
        · refine .inr ⟨hSj,vP (fun r st' h3=>?_) (aLJ hal ((LG φ v a1).1 h2))⟩
          refine ih (listed.setIfInBounds j true) (φ.put oj'.dst r) st' (hcl.set hj) sV (ready_mono hr (dA hji)) (.inr (.inr ⟨fun s hs=>(oN φ r a3).2 (hx s (h3.1.trans hs)),fun k ok hk hl hs=>hd k ok hk (NY k hl) hs⟩)) ?_
          rw[y6 _ _ hji,←put_comm φ v r a2]
          exact h3.2
def aIY(ops:Array Oper)(S:List Nat)(listed:Array Bool)(i:Nat):Bool:=(List.range ops.size).all fun j=>listed.getD j true||S.contains j||sM ops ops.size j i
def aIX(ops:Array Oper)(S:List Nat)(listed:Array Bool)(i:Nat):Bool:=(List.range ops.size).all fun j=>listed.getD j true||S.contains j||sM ops ops.size j i||((ops[j]?).map GR).getD false
def aH0(ops:Array Oper)(i:Nat):Bool:=((ops[i]?).map jL).getD false
def rV(ops:Array Oper)(S:List Nat):List (Nat×Nat)→Array Bool→Bool
 | [],listed=>(Region.ready .any ops listed).isEmpty
 | (i,0)::r,listed=>decide (Region.ready .any ops listed= [i])&& !S.contains i&&rV ops S r (listed.setIfInBounds i true)
 | (i,1)::r,listed=>(Region.ready .any ops listed).contains i&&Region.free .any ops listed i&&S.contains i&&rV ops S r (listed.setIfInBounds i true)
 | (i,_)::r,listed=>(Region.ready .any ops listed).contains i&&Region.free .any ops listed i&&S.contains i&&(aIY ops S listed i||(aH0 ops i&&aIX ops S listed i))&&rV ops S r (listed.setIfInBounds i true)
def zX(P:Program)(ops:Array Oper)(K:AF→aA→Prop):List (Nat×Nat)→AF→aA→Prop
 | [],φ,st=>K φ st
 | (i,0)::r,φ,st=>∃o,ops[i]?=some o∧iU P ops o φ st (fun v st'=>zX P ops K r (φ.put o.dst v) st')
 | (i,1)::r,φ,st=>∃o,ops[i]?=some o∧∃v,Q4 P ops o v φ∧zX P ops K r (φ.put o.dst v) st
 | (i,_)::r,φ,st=>∃o,ops[i]?=some o∧∃v,iV P st ops o v φ∧zX P ops K r (φ.put o.dst v) st
theorem aT3{t:TypeId}{ok:Bool}{x i r:AV}{st s:aA}(hs:e7 st s)(h:nR P st t ok x i=some r):nR P s t ok x i=some r:=by
 unfold nR at *
 split at h
 · rename_i b n
   cases hb:st b with
   | none=>rw[hb] at h;cases h
   | some o=>rw[hs b o hb,←hb];exact h
 · cases h
theorem aTY{t:TypeId}{x r:AV}{st s:aA}(hs:e7 st s)(h:gG P st t x=some r):gG P s t x=some r:=by
 unfold gG at *
 split at h
 · exact h
 · rename_i b o
   cases hb:st b with
   | none=>rw[hb] at h;split at h<;>simp_all
   | some o=>rw[hs b o hb,←hb];exact h
 · cases h
theorem RA{φ:AF}{o:Oper}{r:AV}{st s:aA}(hs:e7 st s)(h:kE P φ st o=some r):kE P φ s o=some r:=by
 obtain⟨dst,op,type,pos,after,guard⟩:=o
 cases op
 case makeFunc fn a b=>cases fn<;>exact h
 case call c=>
  obtain⟨callee,args,ats⟩:=c
  cases callee
  case builtin b=>cases b<;>exact h
  all_goals exact h
 case load=>exact aTY hs h
 case lookup=>exact aT3 hs h
 all_goals exact h
theorem aLO{ops:Array Oper}{o:Oper}{v:AV}{φ:AF}{st s:aA}(hp:jL o=true)(hs:e7 st s)(h:iV P st ops o v φ):iV P s ops o v φ:=by
 rcases h with ⟨h1,h2⟩ | h
 · refine .inl ⟨h1,?_⟩
   rw[q7 hp] at h2 ⊢
   cases hv:kE P φ st o with
   | none=>rw[hv] at h2;cases h2
   | some r=>
    rw[hv] at h2
    rw[RA hs hv]
    exact⟨h2.1,rfl⟩
 · exact .inr h
theorem CV{ops:Array Oper}{S:List Nat}{K:AF→aA→Prop}:∀(p:List (Nat×Nat)) (listed:Array Bool) (φ:AF) (st:aA),vB ops listed→rV ops S p listed=true→zX P ops K p φ st→zR P ops S K p.length listed φ st
 | [],listed,φ,st,_,hB,h=>⟨by simpa [rV] using hB,h⟩
 | (i,0)::r,listed,φ,st,hcl,hB,h=>by
  simp only[rV,cK,bL,gH] at hB
  obtain⟨o,ho,h'⟩:=h
  have hr:i∈Region.ready .any ops listed:=by rw[hB.1.1];simp
  refine⟨fun h0=>(by rw[hB.1.1] at h0;cases h0),fun j hj=>?_⟩
  rw[hB.1.1] at hj
  obtain rfl:j=i:=by simpa using hj
  exact⟨o,ho,.inr ⟨hB.1.2,vP (fun v st' q=>CV r _ _ _ (hcl.set hr) hB.2 q) h'⟩⟩
 | (i,1)::r,listed,φ,st,hcl,hB,h=>by
  simp only[rV,cK] at hB
  obtain⟨⟨⟨hr,hf⟩,hS⟩,hB'⟩:=hB
  obtain⟨o,ho,v,hv,h'⟩:=h
  have hr':i∈Region.ready .any ops listed:=by simpa using hr
  exact LC ho hS _ listed φ st hcl (Region.free_spec ho hf) hr' (.inl hv) (CV r _ _ _ (hcl.set hr') hB' h')
 | (i,k+2)::r,listed,φ,st,hcl,hB,h=>by
  simp only[rV,cK] at hB
  obtain⟨⟨⟨⟨hr,hf⟩,hS⟩,hd⟩,hB'⟩:=hB
  obtain⟨o,ho,v,hv,h'⟩:=h
  have hr':i∈Region.ready .any ops listed:=by simpa using hr
  rw[oJ] at hd
  rcases hd with hd | hd
  · refine LC ho hS _ listed φ st hcl (Region.free_spec ho hf) hr' (.inr (.inl ⟨hv,fun j oj hj hl hs=>⟨ops.size,?_⟩⟩)) (CV r _ _ _ (hcl.set hr') hB' h')
    simp only[aIY,eL,vG] at hd
    have:=hd j (F5.1 hj).1
    simpa only[hl,hs,sC] using this
  · rw[cK] at hd
    obtain⟨hp,hd⟩:=hd
    simp only[aH0,ho,pP,Option.getD_some] at hp
    refine LC ho hS _ listed φ st hcl (Region.free_spec ho hf) hr' (.inr (.inr ⟨fun s hs=>aLO hp hs hv,fun j oj hj hl hs=>?_⟩)) (CV r _ _ _ (hcl.set hr') hB' h')
    simp only[aIX,eL,vG] at hd
    have:=hd j (F5.1 hj).1
    simp only[hl,hs,sC,hj,pP,Option.getD_some,oJ] at this
    exact this.imp (fun h=>⟨ops.size,h⟩) id
theorem aL6{N:Nat}{id:Nat}{ops:Array Oper}{Q:Exit→AF→aA→Prop}{φ:AF}{st:aA}(p:List (Nat×Nat))(S:List Nat)(hm:P.follows .mixedOrders=true)(hok:pF N ops=true)(hl:p.length=ops.size)(hB:rV ops S p (Array.replicate ops.size false)=true)
 (h:zX P ops (Q .normal) p φ st):fW P N (.region id ops true) Q φ st:=by
 intro a w R
 refine wp_region_any hm ?_
 have R0:Rel N a { w with drawn:=w.drawn+1 } φ st:=⟨R.size,R.defers,R.frame,R.store⟩
 have:=LB _ _ _ _ (CV p _ φ st (fun j o _ hl=>(by rw[aFI] at hl;cases hl)) hB h)
 rw[hl] at this
 exact LA (yC hok) (wD hok) (w0:=w) (st0:=st) (fun φ' st' a' w' k R' T s=>⟨φ',st',R',T,s,k⟩) _ _ _ _ _ _ this R0 (bT.refl _ _) ⟨rfl,rfl,rfl⟩
theorem aT2{t:TypeId}{ok:Bool}{x i r:AV}(h:nR P cY t ok x i=some r)(st:aA):nR P st t ok x i=some r:=by
 unfold nR at *
 split at h
 · simp only[cY] at h;cases h
 · cases h
theorem aTX{t:TypeId}{x r:AV}(h:gG P cY t x=some r)(st:aA):gG P st t x=some r:=by
 unfold gG at *
 split at h
 · exact h
 · split at h
   · rename_i h1;simp only[cY] at h1;cases h1
   · cases h
 · cases h
theorem aLL{φ:AF}{o:Oper}{r:AV}(h:kE P φ cY o=some r)(st:aA):kE P φ st o=some r:=by
 obtain⟨dst,op,type,pos,after,guard⟩:=o
 cases op
 case makeFunc fn a b=>cases fn<;>exact h
 case call c=>
  obtain⟨callee,args,ats⟩:=c
  cases callee
  case builtin b=>cases b<;>exact h
  all_goals exact h
 case load=>exact aTX h st
 case lookup=>exact aT2 h st
 all_goals exact h
def iT(P:Program)(ops:Array Oper)(K:AF→aA→Prop):List (Nat×Nat)→AF→aA→Prop
 | [],φ,st=>K φ st
 | (i,0)::r,φ,st=>match ops[i]? with
  | none=>False
  | some o=>a8 P [] ops [o] (fun φ' st'=>iT P ops K r φ' st') φ st
 | (i,1)::r,φ,st=>match ops[i]? with
  | none=>False
  | some o=>if jL o=true then a8 P [] ops [o] (fun φ' _=>iT P ops K r φ' st) φ cY else
   match o.guard,o.op with
   | none,.call { callee:=.value f,args,.. }=>∃v,(∀s,rE P (φ.eval f) (args.toList.map φ.eval) s (fun r' s'=>r'=v∧s'=s))∧iT P ops K r (φ.put o.dst v) st
   | _,_=>False
 | (i,_)::r,φ,st=>match ops[i]? with
  | none=>False
  | some o=>if jL o=true then a8 P [] ops [o] (fun φ' _=>iT P ops K r φ' st) φ st else
   match o.guard,o.op with
   | none,.call { callee:=.value f,args,.. }=>∃v,rE P (φ.eval f) (args.toList.map φ.eval) st (fun r' s'=>r'=v∧s'=st)∧iT P ops K r (φ.put o.dst v) st
   | _,_=>False
theorem tS{ops:Array Oper}{K:AF→aA→Prop}:∀(p:List (Nat×Nat)) (φ:AF) (st:aA),iT P ops K p φ st→zX P ops K p φ st
 | [],_,_,h=>h
 | (i,0)::r,φ,st,h=>by
  simp only[iT] at h
  split at h
  · exact h.elim
  · rename_i o ho
    refine⟨o,ho,?_⟩
    simp only[a8] at h
    unfold iU
    split at h
    · rename_i hg
      rw[hg]
      exact z0 (fun v s q=>tS r _ _ q) h
    · rename_i hg
      rw[hg]
      exact tS r _ _ h
    · exact h.elim
 | (i,1)::r,φ,st,h=>by
  simp only[iT] at h
  split at h
  · exact h.elim
  · rename_i o ho
    split at h
    · rename_i hp
      simp only[a8] at h
      split at h
      · rename_i hg
        rw[q7 hp] at h
        split at h
        · rename_i v hv
          exact⟨o,ho,v,fun s=>.inl ⟨hg,by rw[q7 hp,aLL hv s];exact⟨rfl,rfl⟩⟩,tS r _ _ h⟩
        · exact h.elim
      · rename_i hg
        exact⟨o,ho,.undef,fun s=>.inr ⟨hg,rfl⟩,tS r _ _ h⟩
      · exact h.elim
    · split at h
      · rename_i f args ats hg hop
        obtain⟨v,h1,h2⟩:=h
        refine⟨o,ho,v,fun s=>.inl ⟨by simp only[iI,hg],?_⟩,tS r _ _ h2⟩
        simp only[eN,hop]
        exact h1 s
      · exact h.elim
 | (i,k+2)::r,φ,st,h=>by
  simp only[iT] at h
  split at h
  · exact h.elim
  · rename_i o ho
    split at h
    · rename_i hp
      simp only[a8] at h
      split at h
      · rename_i hg
        rw[q7 hp] at h
        split at h
        · rename_i v hv
          exact⟨o,ho,v,.inl ⟨hg,by rw[q7 hp,hv];exact⟨rfl,rfl⟩⟩,tS r _ _ h⟩
        · exact h.elim
      · rename_i hg
        exact⟨o,ho,.undef,.inr ⟨hg,rfl⟩,tS r _ _ h⟩
      · exact h.elim
    · split at h
      · rename_i f args ats hg hop
        obtain⟨v,h1,h2⟩:=h
        refine⟨o,ho,v,.inl ⟨by simp only[iI,hg],?_⟩,tS r _ _ h2⟩
        simp only[eN,hop]
        exact h1
      · exact h.elim
end
def OM(P:Program)(ops:Array Oper)(K:AF→aA→Prop)(r:List (Nat×Nat))(φ:AF)(st:aA):Prop:=iT P ops K r φ st
def E3(P:Program)(ops:Array Oper)(K:AF→aA→Prop)(r:List (Nat×Nat))(st:aA)(φ:AF)(_:aA):Prop:=iT P ops K r φ st
def yE(P:Program)(ops:Array Oper)(K:AF→aA→Prop)(r:List (Nat×Nat))(φ:AF)(dst:Option Tmp)(st:aA)(v:AV):Prop:=iT P ops K r (φ.put dst v) st
def DF(P:Program)(f:AV)(args:List AV)(K:AV→Prop):Prop:=∃v,(∀s,rE P f args s (fun r' s'=>r'=v∧s'=s))∧K v
def BU(P:Program)(ops:Array Oper)(K:AF→aA→Prop)(r:List (Nat×Nat))(φ:AF)(st:aA):Nat→Option Oper→Prop
 | 0,some o=>a8 P [] ops [o] (OM P ops K r) φ st
 | 1,some o=>if jL o=true then a8 P [] ops [o] (E3 P ops K r st) φ cY else
  match o.guard,o.op with
  | none,.call { callee:=.value f,args,.. }=>DF P (φ.eval f) (args.toList.map φ.eval) (yE P ops K r φ o.dst st)
  | _,_=>False
 | _,some o=>if jL o=true then a8 P [] ops [o] (E3 P ops K r st) φ st else
  match o.guard,o.op with
  | none,.call { callee:=.value f,args,.. }=>vT P (φ.eval f) (args.toList.map φ.eval) st (yE P ops K r φ o.dst st)
  | _,_=>False
 | _,none=>False
theorem aAS{P:Program}{ops:Array Oper}{K:AF→aA→Prop}{φ:AF}{st:aA}:iT P ops K [] φ st=K φ st:=rfl
theorem aAT{P:Program}{l:List Oper}{K:AF→aA→Prop}{φ:AF}{st:aA}{i b:Nat}{r:List (Nat×Nat)}:iT P l.toArray K ((i,b)::r) φ st=BU P l.toArray K r φ st b l[i]?:=by
 match b with
 | 0=>simp only[iT,w5];cases l[i]?<;>rfl
 | 1=>simp only[iT,w5];cases l[i]?<;>rfl
 | b+2=>simp only[iT,w5];cases l[i]?<;>rfl
theorem aAX{P:Program}{ops:Array Oper}{K:AF→aA→Prop}{φ:AF}{st:aA}{r:List (Nat×Nat)}{o:Oper}:BU P ops K r φ st 0 (some o)=a8 P [] ops [o] (OM P ops K r) φ st:=rfl
theorem aAY{P:Program}{ops:Array Oper}{K:AF→aA→Prop}{φ:AF}{st:aA}{r:List (Nat×Nat)}{o:Oper}:BU P ops K r φ st 1 (some o)=if jL o=true then a8 P [] ops [o] (E3 P ops K r st) φ cY else
      match o.guard,o.op with
      | none,.call { callee:=.value f,args,.. }=>DF P (φ.eval f) (args.toList.map φ.eval) (yE P ops K r φ o.dst st)
      | _,_=>False:=rfl
theorem aAZ{P:Program}{ops:Array Oper}{K:AF→aA→Prop}{φ:AF}{st:aA}{r:List (Nat×Nat)}{o:Oper}:BU P ops K r φ st 2 (some o)=if jL o=true then a8 P [] ops [o] (E3 P ops K r st) φ st else
      match o.guard,o.op with
      | none,.call { callee:=.value f,args,.. }=>vT P (φ.eval f) (args.toList.map φ.eval) st (yE P ops K r φ o.dst st)
      | _,_=>False:=rfl
theorem aAW{P:Program}{ops:Array Oper}{K:AF→aA→Prop}{φ:AF}{st:aA}{r:List (Nat×Nat)}:OM P ops K r φ st=iT P ops K r φ st:=rfl
theorem aAV{P:Program}{ops:Array Oper}{K:AF→aA→Prop}{φ:AF}{st s:aA}{r:List (Nat×Nat)}:E3 P ops K r st φ s=iT P ops K r φ st:=rfl
theorem aAU{P:Program}{ops:Array Oper}{K:AF→aA→Prop}{φ:AF}{st:aA}{r:List (Nat×Nat)}{dst:Option Tmp}{v:AV}:yE P ops K r φ dst st v=iT P ops K r (φ.put dst v) st:=rfl
theorem MF{P:Program}{g:FuncId}{args:List AV}{r:AV}{K:AV→Prop}(x:∀st,aD P g args st (fun r' st'=>r'=r∧st'=st))(h:K r):DF P (.func g []) args K:=⟨r,fun st=>by show aD P g (args++ []) st _;rw[fM];exact x st,h⟩
@[congr] theorem aZA {P:Program} {ops:Array Oper} {K:AF→aA→Prop} {p:List (Nat×Nat)} {φ φ':AF} {st st':aA} (h1:φ=φ') (h2:st=st'):iT P ops K p φ st=iT P ops K p φ' st':=by rw[h1,h2]
@[congr] theorem aZN {P:Program} {ops:Array Oper} {K:AF→aA→Prop} {p:List (Nat×Nat)} {φ φ':AF} {st st':aA} {b:Nat} {o o':Option Oper} (h1:φ=φ') (h2:st=st') (h3:o=o'):BU P ops K p φ st b o=BU P ops K p φ' st' b o':=by rw[h1,h2,h3]
@[congr] theorem aZM {P:Program} {ops:Array Oper} {K:AF→aA→Prop} {p:List (Nat×Nat)} {φ φ':AF} {dst:Option Tmp} {st st':aA} {v v':AV} (h1:φ=φ') (h2:st=st') (h3:v=v'):yE P ops K p φ dst st v=yE P ops K p φ' dst st' v':=by rw[h1,h2,h3]
@[congr] theorem aZE {P:Program} {f f':AV} {args args':List AV} {K:AV→Prop} (h0:f=f') (h1:args=args'):DF P f args K=DF P f' args' K:=by rw[h0,h1]
theorem zx5{P:Program}{N:Nat}{id:Nat}{l:List Oper}{Q:Exit→AF→aA→Prop}{φ:AF}{st:aA}(p:List (Nat×Nat))(S:List Nat)(hm:P.follows .mixedOrders=true)(hok:pF N l.toArray=true)(hl:p.length=l.length)(hB:rV l.toArray S p (Array.replicate l.length false)=true)
 (h:iT P l.toArray (Q .normal) p φ st):fW P N (.region id l.toArray true) Q φ st:=
 aL6 p S hm hok (by simpa using hl) (by simpa using hB) (tS p φ st h)
theorem RE{P:Program}{t:TypeId}{ag:Bool}{w bytes:Nat}{zs:List AV}{s:aA}{b:Nat}{l xs:List AV}{x:AV}{K:AV→aA→Prop}
 (hI:eI P t=some (ag,w)) (hB:eB P t=some bytes) (hZ:eZ P t=some zs) (hz:zs.length=w) (hx:xF x=some xs) (fY:tU w xs) (hw:∀e∈l,e.width=w) (hb:l≠[]→s b=some (.cells (l.flatMap AV.cells)))
 (h1:(l.length+xs.length)*bytes≤140737488355328) (h2:l.length+xs.length≤9223372036854775807)
 (hK:∀b' s',(l++xs≠[]→s' b'=some (.cells ((l++xs).flatMap AV.cells)))→(l++xs≠[]→b'=b∧l≠[]∨s b'=none)→(∀q,(l++xs≠[]→q≠b')→(l≠[]→q≠b)→s' q=s q)→(l≠[]→b'≠b→s' b=none)→K (bQ w b' (l++xs)) s'):kD P t s (bQ w b l) x K:=by
 unfold kD
 rw[hI,hB,hZ,hx]
 refine⟨hz,fY,?_⟩
 cases l with
 | nil=>
  show _∧_∧_∧_∧_
  refine⟨by simpa using h1,by simpa using h2,by simp,?_,?_⟩
  · rintro rfl
    have:=hK b s (by simp) (by simp) (fun _ _ _=>rfl) (by simp)
    simpa [bQ] using this
  · intro hne b' hb'
    have:=hK b' (s.aC b' (.cells (xs.flatMap AV.cells))) (fun _=>by rw[aA.aH];simp) (fun _=>.inr hb') (fun q h _=>aA.aF _ _ (h (by simpa using hne))) (by simp)
    rw[e9,rB hne] at this
    simpa using this
 | cons y l=>
  have hb:=hb (by simp)
  show w=w∧_∧_∧_
  refine⟨rfl,h1,h2,?_⟩
  have hfl:((y::l).flatMap AV.cells).length=(y::l).length*w:=nX hw
  rw[hb]
  refine⟨by rw[hfl];exact cQ _,?_,?_⟩
  · have:=hK b (s.aC b (.cells ((y::l++xs).flatMap AV.cells))) (fun _=>aA.aH _ _ _) (fun _=>.inl ⟨rfl,by simp⟩) (fun q h _=>aA.aF _ _ (h (by simp))) (fun _ h=>absurd rfl h)
    rw[rB (by simp),w4,dX] at this
    rw[←hfl,eM]
    exact this
  · intro b' hb'
    have hne:b'≠b:=by rintro rfl;rw[hb] at hb';cases hb'
    have:=hK b' ((s.erase b).aC b' (.cells ((y::l++xs).flatMap AV.cells))) (fun _=>aA.aH _ _ _) (fun _=>.inr hb') (fun q h h'=>by
     rw[aA.aF _ _ (h (by simp))]
     simp only[aA.erase,h' (by simp),cM]) (fun _ _=>by rw[aA.aF _ _ (dA hne)];exact aA.T8 _ _)
    rw[rB (by simp),w4,dX] at this
    rw[←hfl,eM]
    exact this
def qP(es:List AV)(st:aA)(i:Nat)(os:List AV)(bs:List Nat)(b:Nat)(s:aA):Prop:=
 os.length=i∧aU s (es.take i) os bs∧bs.Nodup∧(∀q∈bs,st q=none)∧(os≠[]→st b=none∧b∉bs∧s b=some (.cells (os.flatMap AV.cells)))∧∀q,q∉bs→(os≠[]→q≠b)→s q=st q
theorem qP.start{es:List AV}{st:aA}{b:Nat}:qP es st 0 [] [] b st:=⟨rfl,by simp [aU],kM,by simp,by simp,fun _ _ _=>rfl⟩
theorem BJ{b x:Nat}{l:List AV}:x∈q9 b l↔x=b∧l≠[]:=by cases l<;>simp [q9]
theorem qP.done{es:List AV}{st:aA}{n w:Nat}{os:List AV}{bs:List Nat}{b:Nat}{s:aA}(h:qP es st n os bs b s)(hl:es.length=n)(hw:∀e∈es,e.width=w):Made st (.slice es) (bQ w b os) s:=by
 obtain⟨h1,h2,h3,h4,h5,h6⟩:=h
 rw[nQ (by omega)] at h2
 refine⟨q9 b os++bs,?_,fun q hq=>?_,?_,fun q hq=>?_⟩
 · rw[jN]
   refine⟨by cases os<;>simp [q9],h3,fun x hx y hy e=>?_⟩
   obtain⟨rfl,hne⟩:=BJ.1 hx
   exact(h5 hne).2.1 (e▸hy)
 · rcases dQ.1 hq with hq | hq
   · obtain⟨rfl,hne⟩:=BJ.1 hq
     exact(h5 hne).1
   · exact h4 q hq
 · cases os with
   | nil=>
    have:es= []:=by simpa using h2.length.symm
    subst this
    simp only[aU] at h2
    simp only[aR,bQ,q9,h2.2]
    exact .inl ⟨trivial,trivial,rfl⟩
   | cons o os=>
    simp only[aR,bQ,q9]
    refine .inr ⟨b,bs,o::os,w,by rw[h2.length],rfl,(h5 (by simp)).2.2,h2,hw⟩
 · simp only[dQ,BJ,jJ,not_and] at hq
   exact h6 q hq.2 (fun hne e=>hq.1 e hne)
theorem aU.yV{st:aA}{w:Nat}:∀ {as os:List AV} {bs:List Nat},aU st as os bs→(∀e∈as,e.width=w)→∀o∈os,o.width=w
 | [],os,bs,x,_=>by simp only[aU] at x;rw[x.1];simp
 | a::as,os,bs,x,h=>by
  simp only[aU] at x
  obtain⟨o,os',b1,b2,rfl,rfl,x1,x2⟩:=x
  intro q hq
  rcases cP.1 hq with rfl | hq
  · rw[(aR.shape x1).2.1,h a (by simp)]
  · exact aU.yV x2 (fun e he=>h e (by simp [he])) q hq
theorem aR.MG{st:aA}{e r:AV}{bs:List Nat}{w:Nat}(m3:aR st e r bs)(hwe:e.width=w)(hst:e.cells.all AV.storable=true):r.width=w∧r.cells.length=w∧r.cells.all AV.storable=true:=by
 refine⟨(aR.shape m3).2.1.trans hwe,by rw[sI,(aR.shape m3).2.1,hwe],?_⟩
 cases e<;>simp only[aR] at m3<;>try exact m3.elim
 case int=>rw[m3.1];try rfl
 case bool=>rw[m3.1];try rfl
 case str=>rw[m3.1];try rfl
 case slice=>rcases m3 with ⟨_,rfl,_⟩ | ⟨_,_,_,_,rfl,_⟩<;>rfl
 case agg cs=>
  obtain⟨q,rfl,m3⟩:=m3
  refine(aR.LK m3 fun c hc=>?_).1
  have hst:cs.all AV.storable=true:=hst
  have:=eL.1 hst c hc
  cases c<;>first | rfl | (simp [AV.storable] at this)
theorem qP.step{es:List AV}{st:aA}{i:Nat}{os:List AV}{bs bx:List Nat}{b x b':Nat}{s s2 s':aA}{o:AO}{e r:AV}(h:qP es st i os bs b s)(hx:s x=none)(he:es[i]?=some e)
 (m1:bx.Nodup) (m2:∀q∈bx,(s.aC x o) q=none) (m3:aR s2 e r bx) (m4:∀q,q∉bx→s2 q=(s.aC x o) q)
 (k1:s' b'=some (.cells ((os++ [r]).flatMap AV.cells))) (k2:b'=b∧os≠[]∨s2 b'=none) (k3:∀q,q≠b'→(os≠[]→q≠b)→s' q=s2 q) (k4:os≠[]→b'≠b→s' b=none) :
 qP es st (i+1) (os++ [r]) (bs++bx) b' (s'.erase x):=by
 obtain⟨h1,h2,h3,h4,h5,h6⟩:=h
 have sY:=aU.eX _ _ _ h2
 have hi:i<es.length:=(fD.1 he).1
 have uE:∀q∈bs,s q≠none:=fun q hq=>by obtain⟨cs,e1,_⟩:=sY.2 q hq;rw[e1];simp
 have aS4:x∉bs:=fun hq=>uE x hq hx
 have hxb:os≠[]→x≠b:=fun hne e=>by have:=(h5 hne).2.2;rw[←e,hx] at this;cases this
 have N0:x∉bx:=fun hq=>by have:=m2 x hq;rw[aA.aH] at this;cases this
 have hbx:∀q∈bx,s q=none:=fun q hq=>by
  have:=m2 q hq
  have hne:q≠x:=fun e=>N0 (e▸hq)
  rwa [aA.aF _ _ hne] at this
 have kH:∀q∈bs,q∉bx:=fun q hq hq'=>uE q hq (hbx q hq')
 have aFX:os≠[]→b∉bx:=fun hne hq=>by have:=hbx b hq;rw[(h5 hne).2.2] at this;cases this
 have aSV:s2 x=some o:=by rw[m4 x N0,aA.aH]
 have hs2:∀q,q∉bx→q≠x→s2 q=s q:=fun q h1 h2=>by rw[m4 q h1,aA.aF _ _ h2]
 have M7:b'≠x:=by
  rcases k2 with ⟨rfl,hne⟩ | hn
  · exact dA (hxb hne)
  · rintro rfl;rw[aSV] at hn;cases hn
 have H4:b'∉bx:=by
  rcases k2 with ⟨rfl,hne⟩ | hn
  · exact aFX hne
  · intro hq
    obtain⟨cs,e1,_⟩:=(aR.eX _ _ _ m3).2.2 b' hq
    rw[e1] at hn;cases hn
 have M6:b'∉bs:=by
  rcases k2 with ⟨rfl,hne⟩ | hn
  · exact(h5 hne).2.1
  · intro hq
    rw[hs2 b' H4 M7] at hn
    exact uE b' hq hn
 have aSW:st b'=none:=by
  rcases k2 with ⟨rfl,hne⟩ | hn
  · exact(h5 hne).1
  · rw[hs2 b' H4 M7] at hn
    by_cases hbb:os≠[]∧b'=b
    · rw[hbb.2];exact(h5 hbb.1).1
    · rw[←h6 b' M6 (fun hne e=>hbb ⟨hne,e⟩)];exact hn
 have aRE:os≠[]→∀q∈bs,q≠b:=fun hne q hq e=>(h5 hne).2.1 (e▸hq)
 have aR3:∀q∈bs,(s'.erase x) q=s q:=fun q hq=>by
  have hqx:q≠x:=fun e=>aS4 (e▸hq)
  simp only[aA.erase,hqx,cM]
  rw[k3 q (fun e=>M6 (e▸hq)) (fun hne=>aRE hne q hq),hs2 q (kH q hq) hqx]
 have aR4:∀q∈bx,(s'.erase x) q=s2 q:=fun q hq=>by
  have hqx:q≠x:=fun e=>N0 (e▸hq)
  simp only[aA.erase,hqx,cM]
  exact k3 q (fun e=>H4 (e▸hq)) (fun hne e=>aFX hne (e▸hq))
 refine⟨by simp [h1],?_,jN.2 ⟨h3,m1,fun a ha c hc e=>kH a ha (e▸hc)⟩,fun q hq=>?_,fun _=>⟨aSW,?_,?_⟩,fun q hq hqb=>?_⟩
 · rw[f8,he]
   exact aU.snoc h2 aR3 (aR.aV _ _ _ aR4 m3)
 · rcases dQ.1 hq with hq | hq
   · exact h4 q hq
   · by_cases hbb:os≠[]∧q=b
     · rw[hbb.2];exact(h5 hbb.1).1
     · by_cases hqs:q∈bs
       · exact h4 q hqs
       · rw[←h6 q hqs (fun hne e=>hbb ⟨hne,e⟩)];exact hbx q hq
 · intro hq
   rcases dQ.1 hq with hq | hq
   · exact M6 hq
   · exact H4 hq
 · simp only[aA.erase,M7,cM]
   exact k1
 · simp only[dQ,jJ] at hq
   have aGH:=hqb (by simp)
   by_cases hqx:q=x
   · subst hqx
     simp only[aA.erase,d3]
     rw[←h6 q hq.1 hxb,hx]
   · simp only[aA.erase,hqx,cM]
     by_cases hbb:os≠[]∧q=b
     · rw[hbb.2,k4 hbb.1 (fun e=>aGH (hbb.2.trans e.symm)),(h5 hbb.1).1]
     · rw[k3 q aGH (fun hne e=>hbb ⟨hne,e⟩),hs2 q hq.2 hqx]
       exact h6 q hq.1 (fun hne e=>hbb ⟨hne,e⟩)
theorem aD.done{P:Program}{g:FuncId}{args:List AV}{st:aA}{r:AV}(x:aD P g args st (fun r' st'=>r'.soft=r∧aL st' st)):aD P g args st (fun r' st'=>r'=r∧st'=st):=
 aD.rH (aD.soft x)
theorem aD.nB{P:Program}{g:FuncId}{args:List AV}{st:aA}{Q:AV→aA→Prop}(x:aD P g args st (fun r st'=>∃s2,aL st' s2∧Q r s2)):aD P g args st Q:=
 x.mI fun r _ ⟨s2,D,q⟩=>⟨r,s2,D.uZ,D.mI r,q⟩
theorem mU{cs:List AV}:(AV.agg cs).soft=.agg (cs.map AV.soft):=by simp only[AV.soft,yK]
theorem nK{cs:List AV}:(AV.tup cs).soft=.tup (cs.map AV.soft):=by simp only[AV.soft,yK]
theorem oF{k:IntKind}{n:Int}:(AV.int k n).soft=.int k n:=rfl
theorem uQ{b:Bool}:(AV.bool b).soft=.bool b:=rfl
theorem yL{s:ByteArray}:(AV.str s).soft=.str s:=rfl
theorem tB{es:List AV}:(AV.slice es).soft=.slice es:=rfl
theorem wJ{es:List AV}:(AV.fslice es).soft=.slice es:=rfl
def t6(b:Nat)(l:List AV):List (Nat×AV)→List (Nat×AV)
 | []=>[]
 | p::r=>(p.1,p.2.fin b l)::t6 b l r
theorem YI{b:Nat}{l:List AV}:t6 b l []= []:=rfl
theorem YJ{b d:Nat}{l:List AV}{v:AV}{r:List (Nat×AV)}:t6 b l ((d,v)::r)=(d,v.fin b l)::t6 b l r:=rfl
theorem aQL{b:Nat}{l:List AV}:AV.junk.fin b l=.junk:=by unfold AV.fin;split<;>rfl
theorem nC{w b:Nat}{l:List AV}:(bQ w b l).fin b l=.slice l:=m9
theorem aTU{st:aA}(b:Nat)(l:List AV)(hb:l≠[]→st b=none)(hj:∀e∈l,e.b9=false)(hE:jD l)(L:List (Nat×AV)):fR (jG L) (bE st b l) (jG (t6 b l L)) st:=by
 have key:∀L d,jG (t6 b l L) d=(jG L d).fin b l:=by
  intro L
  induction L with
  | nil=>intro d;exact aQL.symm
  | cons p r ih=>
   obtain⟨e,v⟩:=p
   intro d
   show((jG (t6 b l r)).aC e (v.fin b l)) d=(((jG r).aC e v) d).fin b l
   simp only[AF.aC]
   split
   · rfl
   · exact ih d
 intro h tmps S F
 cases l with
 | nil=>exact⟨S,bT.refl _ _,fun d=>by rw[key];exact(F d).soft⟩
 | cons y l=>
  have hst:(bE st b (y::l)) b=some (.cells ((y::l).flatMap AV.cells)):=aA.aH _ _ _
  have he:(bE st b (y::l)).erase b=st:=aA.AT st b _ (hb (by simp))
  have L1:fR (jG L) (bE st b (y::l)) (fun d=>(jG L d).fz b (y::l)) st:=by
   have:=fR.freeze (φ:=jG L) hst hj hE
   rwa [he] at this
  obtain⟨a1,a2,a3⟩:=L1 h tmps S F
  exact⟨a1,a2,fun d=>by rw[key];exact(a3 d).soft⟩
theorem tL{P:Program}{N:Nat}{c:Code}{Q:Exit→AF→aA→Prop}{φ:AF}{st:aA}{α σ:Type}(mt:List Nat)(aV:List Nat)(l:List α)(w d:Nat)(acc:Nat→σ→List AV)(inv:Nat→σ→Prop)(ch:Nat→σ→List (Nat×AV))(so:Nat→σ→aA)
 (hw:∀i s,inv i s→∀e∈acc i s,e.b9=false∧e.width=w)
 (hok:codeOk N c=true)
 (h0:∃s b,inv 0 s∧(acc 0 s≠[]→so 0 s b=none)∧aP φ st (jR φ aV ((d,bQ w b (acc 0 s))::ch 0 s)) (bE (so 0 s) b (acc 0 s)))
 (h1:∀i x s b,l[i]?=some x→i<l.length→((i:Int)<(l.length:Int))→l.drop i=x::l.drop (i+1)→inv i s→(acc i s≠[]→so i s b=none) →
  fO P N mt c (oA (fun φ' st'=>∃s' b',inv (i+1) s'∧(acc (i+1) s'≠[]→so (i+1) s' b'=none)∧aP φ' st' (jR φ aV ((d,bQ w b' (acc (i+1) s'))::ch (i+1) s')) (bE (so (i+1) s') b' (acc (i+1) s'))) Q) (t9 (jR φ aV ((d,bQ w b (acc i s))::ch i s))) (bE (so i s) b (acc i s)))
 (h2:∀s b,¬((l.length:Int)<(l.length:Int))→inv l.length s→fO P N mt c (oA (fun _ _=>False) Q) (t9 (t6 b (acc l.length s) (jR φ aV ((d,bQ w b (acc l.length s))::ch l.length s)))) (so l.length s)):fW P N (.loop c) Q φ st:=by
 have mI:∀(k:AF→aA→Prop) (φ0:AF) (st0:aA) (k':AF→aA→Prop),(∀φ' st',k' φ' st'→k φ' st') →
  fW P N c (oA k' Q) φ0 st0→fW P N c (oA k Q) φ0 st0:=by
  intro k φ0 st0 k' hk hr a w R
  refine wp_mono (hr a w R) ?_
  rintro e a' w' ⟨φ',st',R',T,sm,q⟩
  refine⟨φ',st',R',T,sm,?_⟩
  cases e with
  | normal=>exact hk _ _ q
  | _=>exact q
 refine LR (α:=Nat×σ×Nat) (fun p=>p.1≤l.length∧inv p.1 p.2.1∧(acc p.1 p.2.1≠[]→so p.1 p.2.1 p.2.2=none)) (fun p=>jG (jR φ aV ((d,bQ w p.2.2 (acc p.1 p.2.1))::ch p.1 p.2.1))) (fun p=>bE (so p.1 p.2.1) p.2.2 (acc p.1 p.2.1)) (fun p=>l.length - p.1) ?_ ?_
 · obtain⟨s,b,hs,hb,hl⟩:=h0
   exact⟨(0,s,b),⟨lY _,hs,hb⟩,hl⟩
 · rintro⟨i,s,b⟩ ⟨hi,hs,hb⟩
   simp only at hi hs hb ⊢
   rcases kN i l.length with hlt | hge
   · refine mI _ _ _ _ ?_ (C6 mt hok (h1 i l[i] s b (eQ hlt) hlt (by omega) (nO hlt) hs hb))
     rintro φ' st' ⟨s',b',h1',h2',h3'⟩
     exact⟨(i+1,s',b'),by simp only;omega,⟨by simp only;omega,h1',h2'⟩,h3'⟩
   · obtain rfl:i=l.length:=by omega
     refine fW.less (aTU b (acc l.length s) hb (fun e he=>(hw _ s hs e he).1) ⟨w,fun e he=>(hw _ s hs e he).2⟩ _) ?_
     refine mI _ _ _ _ ?_ (C6 mt hok (h2 s b (by omega) hs))
     exact fun _ _ h=>h.elim
section
variable {P:Program}
def MN(ops:Array Oper)(S:List Nat)(j:Nat):Bool:=S.all fun i=>sM ops ops.size j i
def zS(P:Program)(ops:Array Oper)(S:List Nat)(s0:aA)(K:AF→aA→Prop):Nat→Array Bool→AF→aA→Prop
 | 0,listed,φ,st=>Region.ready .any ops listed= []∧K φ st
 | f+1,listed,φ,st=>(Region.ready .any ops listed= []→K φ st)∧∀i∈Region.ready .any ops listed,∃o,ops[i]?=some o ∧
  ((S.contains i=true∧∃r,iV P st ops o r φ∧zS P ops S s0 K f (listed.setIfInBounds i true) (φ.put o.dst r) st) ∨
   (S.contains i=false∧iU P ops o φ st (fun r st'=>(MN ops S i=true∨e7 s0 st')∧zS P ops S s0 K f (listed.setIfInBounds i true) (φ.put o.dst r) st')))
theorem LD{ops:Array Oper}{S:List Nat}{s0:aA}{K:AF→aA→Prop}:∀(f:Nat) (listed:Array Bool) (φ:AF) (st:aA),zS P ops S s0 K f listed φ st→GI P ops K f listed φ st
 | 0,_,_,_,h=>h
 | f+1,listed,φ,st,h=>by
  refine⟨h.1,fun i hi=>?_⟩
  obtain⟨o,ho,h2⟩:=h.2 i hi
  refine⟨o,ho,?_⟩
  rcases h2 with ⟨_,r,y,k⟩ | ⟨_,k⟩
  · exact RD y (LD f _ _ _ k)
  · exact vP (fun r s q=>LD f _ _ _ q.2) k
theorem aK4{ops:Array Oper}{S:List Nat}{s0:aA}{i:Nat}{oi:Oper}{v:AV}{K:AF→aA→Prop}(hi:ops[i]?=some oi)(hS:S.contains i=true) :
 ∀(f:Nat) (listed:Array Bool) (φ:AF) (st:aA),vB ops listed →
  (∀j oj,ops[j]?=some oj→j≠i→listed.getD j true=false→(∀e∈oj.after,Region.binds .any e=true→e.on≠i)→oi.apart ops oj=true) →
  i∈Region.ready .any ops listed→(∀s,e7 s0 s→iV P s ops oi v φ)→e7 s0 st →
  zS P ops S s0 K f (listed.setIfInBounds i true) (φ.put oi.dst v) st→zS P ops S s0 K (f+1) listed φ st:=by
 intro f
 induction f with
 | zero=>
  intro listed φ st hcl _ hr hy hx H
  refine⟨fun h=>(by rw[h] at hr;cases hr),fun j hj=>?_⟩
  by_cases hji:j=i
  · subst hji;exact⟨oi,hi,.inl ⟨hS,v,hy st hx,H⟩⟩
  · have:=ready_mono hj hji
    rw[H.1] at this
    cases this
 | succ f ih=>
  intro listed φ st hcl pA hr hy hx H
  refine⟨fun h=>(by rw[h] at hr;cases hr),fun j hj=>?_⟩
  by_cases hji:j=i
  · subst hji;exact⟨oi,hi,.inl ⟨hS,v,hy st hx,H⟩⟩
  · obtain⟨oj,hoj,h1⟩:=H.2 j (ready_mono hj hji)
    obtain⟨n7,oj',x6,c9⟩:=mem_ready.1 hj
    have:oj'=oj:=lE (x6.symm.trans hoj)
    subst this
    have hun:=(mem_ready.1 hr).1
    have rR:∀e∈oj'.after,Region.binds .any e=true→e.on≠i:=fun e he hb heq=>by
     have h1:=c9 e he hb
     rw[heq,getD_both hun] at h1
     cases h1
    obtain⟨a1,a2,a3⟩:=Oper.apart_spec (pA j oj' hoj hji n7 rR)
    have sV:∀k ok,ops[k]?=some ok→k≠i→(listed.setIfInBounds j true).getD k true=false →
     (∀e∈ok.after,Region.binds .any e=true→e.on≠i)→oi.apart ops ok=true:=fun k ok hk hki hun hno=>by
     refine pA k ok hk hki ?_ hno
     by_cases hjk:j=k
     · subst hjk;exact n7
     · rw[getD_set_ne true hjk] at hun;exact hun
    refine⟨oj',hoj,?_⟩
    rcases h1 with ⟨hSj,r,yj,h2⟩ | ⟨hSj,h2⟩
    · refine .inl ⟨hSj,r,(oN φ v a1).1 yj,ih (listed.setIfInBounds j true) (φ.put oj'.dst r) st (hcl.set hj) sV (ready_mono hr (dA hji)) (fun s hs=>(oN φ r a3).2 (hy s hs)) hx ?_⟩
      rw[y6 _ _ hji,←put_comm φ v r a2]
      exact h2
    · refine .inr ⟨hSj,vP (fun r st' h3=>?_) ((LG φ v a1).1 h2)⟩
      refine⟨h3.1,?_⟩
      have hx':e7 s0 st':=by
       rcases h3.1 with he | he
       · exfalso
         unfold MN at he
         have hd:=eL.1 he i (by simpa using hS)
         exact G7 hcl (getD_both hun) _ j oj' hoj hd c9
       · exact he
      refine ih (listed.setIfInBounds j true) (φ.put oj'.dst r) st' (hcl.set hj) sV (ready_mono hr (dA hji)) (fun s hs=>(oN φ r a3).2 (hy s hs)) hx' ?_
      rw[y6 _ _ hji,←put_comm φ v r a2]
      exact h3.2
def rW(ops:Array Oper)(S:List Nat):List (Nat×Nat)→Array Bool→Bool
 | [],listed=>(Region.ready .any ops listed).isEmpty
 | (i,0)::r,listed=>decide (Region.ready .any ops listed= [i])&& !S.contains i&&rW ops S r (listed.setIfInBounds i true)
 | (i,1)::r,listed=>(Region.ready .any ops listed).contains i&&Region.free .any ops listed i&&S.contains i&&rW ops S r (listed.setIfInBounds i true)
 | (i,_)::r,listed=>decide (Region.ready .any ops listed= [i])&& !S.contains i&&MN ops S i&&rW ops S r (listed.setIfInBounds i true)
def zY(P:Program)(ops:Array Oper)(s0:aA)(K:AF→aA→Prop):List (Nat×Nat)→AF→aA→Prop
 | [],φ,st=>K φ st
 | (i,0)::r,φ,st=>∃o,ops[i]?=some o∧iU P ops o φ st (fun v st'=>e7 s0 st'∧zY P ops s0 K r (φ.put o.dst v) st')
 | (i,1)::r,φ,st=>∃o,ops[i]?=some o∧∃v,(∀s,e7 s0 s→iV P s ops o v φ)∧zY P ops s0 K r (φ.put o.dst v) st
 | (i,_)::r,φ,st=>∃o,ops[i]?=some o∧iU P ops o φ st (fun v st'=>zY P ops s0 K r (φ.put o.dst v) st')
def BF:List (Nat×Nat)→Bool
 | []=>true
 | (_,0)::r=>BF r
 | (_,1)::r=>BF r
 | (_,_)::r=>r.all fun p=>p.2 != 1
theorem GM{ops:Array Oper}{S:List Nat}{s0:aA}{K:AF→aA→Prop}:∀(p:List (Nat×Nat)) (listed:Array Bool) (φ:AF) (st:aA),vB ops listed→rW ops S p listed=true→(BF p=true∧e7 s0 st∨(p.all fun q=>q.2 != 1)=true)→zY P ops s0 K p φ st→zS P ops S s0 K p.length listed φ st
 | [],listed,φ,st,_,hB,hx,h=>⟨by simpa [rW] using hB,h⟩
 | (i,0)::r,listed,φ,st,hcl,hB,hx,h=>by
  simp only[rW,cK,bL,gH] at hB
  obtain⟨o,ho,h'⟩:=h
  have hr:i∈Region.ready .any ops listed:=by rw[hB.1.1];simp
  refine⟨fun h0=>(by rw[hB.1.1] at h0;cases h0),fun j hj=>?_⟩
  rw[hB.1.1] at hj
  obtain rfl:j=i:=by simpa using hj
  refine⟨o,ho,.inr ⟨hB.1.2,vP (fun v st' q=>⟨.inr q.1,GM r _ _ _ (hcl.set hr) hB.2 ?_ q.2⟩) h'⟩⟩
  rcases hx with hx | hx
  · exact .inl ⟨hx.1,q.1⟩
  · refine .inr ?_
    simp only[iS,cK] at hx
    exact hx.2
 | (i,1)::r,listed,φ,st,hcl,hB,hx,h=>by
  simp only[rW,cK] at hB
  obtain⟨⟨⟨hr,hf⟩,hS⟩,hB'⟩:=hB
  obtain⟨o,ho,v,hv,h'⟩:=h
  have hr':i∈Region.ready .any ops listed:=by simpa using hr
  rcases hx with hx | hx
  · exact aK4 ho hS _ listed φ st hcl (Region.free_spec ho hf) hr' hv hx.2 (GM r _ _ _ (hcl.set hr') hB' (.inl hx) h')
  · simp at hx
 | (i,k+2)::r,listed,φ,st,hcl,hB,hx,h=>by
  simp only[rW,cK,bL,gH] at hB
  obtain⟨o,ho,h'⟩:=h
  have hr:i∈Region.ready .any ops listed:=by rw[hB.1.1.1];simp
  refine⟨fun h0=>(by rw[hB.1.1.1] at h0;cases h0),fun j hj=>?_⟩
  rw[hB.1.1.1] at hj
  obtain rfl:j=i:=by simpa using hj
  refine⟨o,ho,.inr ⟨hB.1.1.2,vP (fun v st' q=>⟨.inl hB.1.2,GM r _ _ _ (hcl.set hr) hB.2 (.inr ?_) q⟩) h'⟩⟩
  rcases hx with hx | hx
  · exact hx.1
  · simp only[iS,cK] at hx
    exact hx.2
theorem aL7{N:Nat}{id:Nat}{ops:Array Oper}{Q:Exit→AF→aA→Prop}{φ:AF}{st:aA}(p:List (Nat×Nat))(S:List Nat)(s0:aA)(hm:P.follows .mixedOrders=true)(hok:pF N ops=true)(hl:p.length=ops.size)(hB:rW ops S p (Array.replicate ops.size false)=true)(hf:BF p=true)(hs:e7 s0 st)
 (h:zY P ops s0 (Q .normal) p φ st):fW P N (.region id ops true) Q φ st:=by
 intro a w R
 refine wp_region_any hm ?_
 have R0:Rel N a { w with drawn:=w.drawn+1 } φ st:=⟨R.size,R.defers,R.frame,R.store⟩
 have:=LD _ _ _ _ (GM p _ φ st (fun j o _ hl=>(by rw[aFI] at hl;cases hl)) hB (.inl ⟨hf,hs⟩) h)
 rw[hl] at this
 exact LA (yC hok) (wD hok) (w0:=w) (st0:=st) (fun φ' st' a' w' k R' T s=>⟨φ',st',R',T,s,k⟩) _ _ _ _ _ _ this R0 (bT.refl _ _) ⟨rfl,rfl,rfl⟩
def iM(P:Program)(ops:Array Oper)(s0:aA)(K:AF→aA→Prop):List (Nat×Nat)→AF→aA→Prop
 | [],φ,st=>K φ st
 | (i,0)::r,φ,st=>match ops[i]? with
  | none=>False
  | some o=>a8 P [] ops [o] (fun φ' st'=>e7 s0 st'∧iM P ops s0 K r φ' st') φ st
 | (i,1)::r,φ,st=>match ops[i]? with
  | none=>False
  | some o=>if jL o=true then a8 P [] ops [o] (fun φ' _=>iM P ops s0 K r φ' st) φ s0 else
   match o.guard,o.op with
   | none,.call { callee:=.value f,args,.. }=>∃v,(∀s,e7 s0 s→rE P (φ.eval f) (args.toList.map φ.eval) s (fun r' s'=>r'=v∧s'=s))∧iM P ops s0 K r (φ.put o.dst v) st
   | _,_=>False
 | (i,_)::r,φ,st=>match ops[i]? with
  | none=>False
  | some o=>a8 P [] ops [o] (fun φ' st'=>iM P ops s0 K r φ' st') φ st
theorem vO{ops:Array Oper}{s0:aA}{K:AF→aA→Prop}:∀(p:List (Nat×Nat)) (φ:AF) (st:aA),iM P ops s0 K p φ st→zY P ops s0 K p φ st
 | [],_,_,h=>h
 | (i,0)::r,φ,st,h=>by
  simp only[iM] at h
  split at h
  · exact h.elim
  · rename_i o ho
    refine⟨o,ho,?_⟩
    simp only[a8] at h
    unfold iU
    split at h
    · rename_i hg
      rw[hg]
      exact z0 (fun v s q=>⟨q.1,vO r _ _ q.2⟩) h
    · rename_i hg
      rw[hg]
      exact⟨h.1,vO r _ _ h.2⟩
    · exact h.elim
 | (i,1)::r,φ,st,h=>by
  simp only[iM] at h
  split at h
  · exact h.elim
  · rename_i o ho
    split at h
    · rename_i hp
      simp only[a8] at h
      split at h
      · rename_i hg
        rw[q7 hp] at h
        split at h
        · rename_i v hv
          refine⟨o,ho,v,fun s hs=>.inl ⟨hg,?_⟩,vO r _ _ h⟩
          rw[q7 hp,RA hs hv]
          exact⟨rfl,rfl⟩
        · exact h.elim
      · rename_i hg
        exact⟨o,ho,.undef,fun s _=>.inr ⟨hg,rfl⟩,vO r _ _ h⟩
      · exact h.elim
    · split at h
      · rename_i f args ats hg hop
        obtain⟨v,h1,h2⟩:=h
        refine⟨o,ho,v,fun s hs=>.inl ⟨by simp only[iI,hg],?_⟩,vO r _ _ h2⟩
        simp only[eN,hop]
        exact h1 s hs
      · exact h.elim
 | (i,k+2)::r,φ,st,h=>by
  simp only[iM] at h
  split at h
  · exact h.elim
  · rename_i o ho
    refine⟨o,ho,?_⟩
    simp only[a8] at h
    unfold iU
    split at h
    · rename_i hg
      rw[hg]
      exact z0 (fun v s q=>vO r _ _ q) h
    · rename_i hg
      rw[hg]
      exact vO r _ _ h
    · exact h.elim
end
def ON(P:Program)(ops:Array Oper)(s0:aA)(K:AF→aA→Prop)(r:List (Nat×Nat))(φ:AF)(st:aA):Prop:=e7 s0 st∧iM P ops s0 K r φ st
def OL(P:Program)(ops:Array Oper)(s0:aA)(K:AF→aA→Prop)(r:List (Nat×Nat))(φ:AF)(st:aA):Prop:=iM P ops s0 K r φ st
def OK(P:Program)(ops:Array Oper)(s0:aA)(K:AF→aA→Prop)(r:List (Nat×Nat))(st:aA)(φ:AF)(_:aA):Prop:=iM P ops s0 K r φ st
def OJ(P:Program)(ops:Array Oper)(s0:aA)(K:AF→aA→Prop)(r:List (Nat×Nat))(φ:AF)(dst:Option Tmp)(st:aA)(v:AV):Prop:=iM P ops s0 K r (φ.put dst v) st
def DG(P:Program)(s0:aA)(f:AV)(args:List AV)(K:AV→Prop):Prop:=∃v,(∀s,e7 s0 s→rE P f args s (fun r' s'=>r'=v∧s'=s))∧K v
theorem ME{P:Program}{s0:aA}{g:FuncId}{args:List AV}{r:AV}{K:AV→Prop}(x:∀st,e7 s0 st→aD P g args st (fun r' st'=>r'=r∧st'=st))(h:K r):DG P s0 (.func g []) args K:=⟨r,fun st hs=>by show aD P g (args++ []) st _;rw[fM];exact x st hs,h⟩
@[congr] theorem aZF {P:Program} {s0:aA} {f f':AV} {args args':List AV} {K:AV→Prop} (h0:f=f') (h1:args=args'):DG P s0 f args K=DG P s0 f' args' K:=by rw[h0,h1]
def BV(P:Program)(ops:Array Oper)(s0:aA)(K:AF→aA→Prop)(r:List (Nat×Nat))(φ:AF)(st:aA):Nat→Option Oper→Prop
 | 0,some o=>a8 P [] ops [o] (ON P ops s0 K r) φ st
 | 1,some o=>if jL o=true then a8 P [] ops [o] (OK P ops s0 K r st) φ s0 else
  match o.guard,o.op with
  | none,.call { callee:=.value f,args,.. }=>DG P s0 (φ.eval f) (args.toList.map φ.eval) (OJ P ops s0 K r φ o.dst st)
  | _,_=>False
 | _,some o=>a8 P [] ops [o] (OL P ops s0 K r) φ st
 | _,none=>False
theorem aA0{P:Program}{ops:Array Oper}{s0:aA}{K:AF→aA→Prop}{φ:AF}{st:aA}:iM P ops s0 K [] φ st=K φ st:=rfl
theorem aA1{P:Program}{l:List Oper}{s0:aA}{K:AF→aA→Prop}{φ:AF}{st:aA}{i b:Nat}{r:List (Nat×Nat)}:iM P l.toArray s0 K ((i,b)::r) φ st=BV P l.toArray s0 K r φ st b l[i]?:=by
 match b with
 | 0=>simp only[iM,w5];cases l[i]?<;>rfl
 | 1=>simp only[iM,w5];cases l[i]?<;>rfl
 | b+2=>simp only[iM,w5];cases l[i]?<;>rfl
theorem aA6{P:Program}{ops:Array Oper}{s0:aA}{K:AF→aA→Prop}{φ:AF}{st:aA}{r:List (Nat×Nat)}{o:Oper}:BV P ops s0 K r φ st 0 (some o)=a8 P [] ops [o] (ON P ops s0 K r) φ st:=rfl
theorem aA7{P:Program}{ops:Array Oper}{s0:aA}{K:AF→aA→Prop}{φ:AF}{st:aA}{r:List (Nat×Nat)}{o:Oper}:BV P ops s0 K r φ st 1 (some o)=if jL o=true then a8 P [] ops [o] (OK P ops s0 K r st) φ s0 else
      match o.guard,o.op with
      | none,.call { callee:=.value f,args,.. }=>DG P s0 (φ.eval f) (args.toList.map φ.eval) (OJ P ops s0 K r φ o.dst st)
      | _,_=>False:=rfl
theorem aA8{P:Program}{ops:Array Oper}{s0:aA}{K:AF→aA→Prop}{φ:AF}{st:aA}{r:List (Nat×Nat)}{o:Oper}:BV P ops s0 K r φ st 2 (some o)=a8 P [] ops [o] (OL P ops s0 K r) φ st:=rfl
theorem aA5{P:Program}{ops:Array Oper}{s0:aA}{K:AF→aA→Prop}{φ:AF}{st:aA}{r:List (Nat×Nat)}:ON P ops s0 K r φ st=(e7 s0 st∧iM P ops s0 K r φ st):=rfl
theorem aA4{P:Program}{ops:Array Oper}{s0:aA}{K:AF→aA→Prop}{φ:AF}{st:aA}{r:List (Nat×Nat)}:OL P ops s0 K r φ st=iM P ops s0 K r φ st:=rfl
theorem aA3{P:Program}{ops:Array Oper}{s0:aA}{K:AF→aA→Prop}{φ:AF}{st s:aA}{r:List (Nat×Nat)}:OK P ops s0 K r st φ s=iM P ops s0 K r φ st:=rfl
theorem aA2{P:Program}{ops:Array Oper}{s0:aA}{K:AF→aA→Prop}{φ:AF}{st:aA}{r:List (Nat×Nat)}{dst:Option Tmp}{v:AV}:OJ P ops s0 K r φ dst st v=iM P ops s0 K r (φ.put dst v) st:=rfl
@[congr] theorem aZB {P:Program} {ops:Array Oper} {s0:aA} {K:AF→aA→Prop} {p:List (Nat×Nat)} {φ φ':AF} {st st':aA} (h1:φ=φ') (h2:st=st'):iM P ops s0 K p φ st=iM P ops s0 K p φ' st':=by rw[h1,h2]
@[congr] theorem aZO {P:Program} {ops:Array Oper} {s0:aA} {K:AF→aA→Prop} {p:List (Nat×Nat)} {φ φ':AF} {st st':aA} {b:Nat} {o o':Option Oper} (h1:φ=φ') (h2:st=st') (h3:o=o'):BV P ops s0 K p φ st b o=BV P ops s0 K p φ' st' b o':=by rw[h1,h2,h3]
theorem tK{P:Program}{N:Nat}{id:Nat}{l:List Oper}{Q:Exit→AF→aA→Prop}{φ:AF}{st:aA}(p:List (Nat×Nat))(S:List Nat)(s0:aA)(hm:P.follows .mixedOrders=true)(hok:pF N l.toArray=true)(hl:p.length=l.length)(hB:rW l.toArray S p (Array.replicate l.length false)=true)(hf:BF p=true)(hs:e7 s0 st)
 (h:iM P l.toArray s0 (Q .normal) p φ st):fW P N (.region id l.toArray true) Q φ st:=
 aL7 p S s0 hm hok (by simpa using hl) (by simpa using hB) hf hs (vO p φ st h)
def aIB(K:AV→aA→Prop)(st:aA):Option AV→Option AV→Prop
 | some r,some s=>kA [r,s]=true∧K (.tup [r,s]) st
 | _,_=>False
theorem aBO{P:Program}{φ:AF}{st:aA}{p q:Tmp}{t u:TypeId}{K:AV→aA→Prop}:mT P [.cell p t,.cell q u] K φ st=aIB K st (gG P st t (φ p)) (gG P st u (φ q)):=by
 simp only[mT,oM,zZ]
 cases gG P st t (φ p)<;>cases gG P st u (φ q)<;>rfl
theorem aBP{st:aA}{K:AV→aA→Prop}{r s:AV}:aIB K st (some r) (some s)=(kA [r,s]=true∧K (.tup [r,s]) st):=rfl
def one(b:Nat)(o:AO):aA:=cY.aC b o
theorem uL{b:Nat}{o:AO}:one b o b=some o:=aA.aH _ _ _
theorem f9{b:Nat}{o:AO}{st:aA}(h:st b=some o):e7 (one b o) st:=fun x p hx=>by
 simp only[one,aA.aC] at hx
 split at hx
 · rename_i e;cases hx;rw[e];exact h
 · cases hx
theorem d9{st:aA}:e7 cY st:=fun x p hx=>by cases hx
end Go.AW
