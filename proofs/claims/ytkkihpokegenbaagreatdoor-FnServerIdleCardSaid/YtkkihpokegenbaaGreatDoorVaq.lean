import Derived.Test.YtkkihpokegenbaaGreatDoorVap
import Derived.Test.YtkkihpokegenbaaGreatDoorVao
import Derived.Test.YtkkihpokegenbaaGreatDoorVaf
import Derived.ProofKit
set_option linter.unusedSimpArgs false
set_option linter.unusedVariables false
set_option maxRecDepth 100000
namespace Go.AW
open Go.Proofs.Tryz
def GB(t:ByteArray):List Bt:=(sb t).map fun x=>⟨x.toNat,x.toNat_lt⟩
theorem a1W(t:ByteArray):(GB t).length=t.size:=by rw[GB,aE,b9]
theorem a1V(t:ByteArray):(GB t).map bJ=nL t:=by
 unfold GB nL
 rw[List.map_map]
 try rfl
def tD(f:Fr):List Bt:=⟨(f.2.size+1) / 256 % 256,uG _ (by decide)⟩::⟨(f.2.size+1) % 256,uG _ (by decide)⟩::⟨f.1.toNat % 256,uG _ (by decide)⟩::GB f.2
theorem NS(f:Fr):(tD f).length=3+f.2.size:=by simp only[tD,aX,a1W];omega
theorem aWE{f:Fr}(h:iA f=true):1≤f.1∧f.1≤7∧f.2.size≤2000:=by
 simp only[iA,zY,bD,bA] at h
 omega
theorem aM5{P:Program}{t t':TypeId}{ag:Bool}{bytes:Nat}{zs es:List AV}{st:aA}{tx:ByteArray}{K:AV→aA→Prop}(hI:eI P t=some (ag,1))(hB:eB P t=some bytes)(hZ:eZ P t=some zs)(hz:zs.length=1)(hu:P.underlying t'=some .string)
 (hne:es≠[]) (h1:(es.length+tx.size)*bytes≤140737488355328) (h2:es.length+tx.size≤9223372036854775807) (hw:∀e∈es,e.width=1) (h0:tx.size=0→K (.fslice es) st)
 (hK:tx.size≠0→∀b,st b=none→K (.mslice b 0 (es.length+tx.size) 1) (st.aC b (.cells (es.flatMap AV.cells++nL tx)))):sR P t t' st (.fslice es) (.str tx) K:=by
 refine .inl ⟨tx,rfl,?_⟩
 unfold EB
 simp only[hI,hB,hZ,hu]
 exact⟨hz,trivial,hne,h1,h2,hw,h0,hK⟩
def yH(f:Fr):List AV:=[.int .u8 (((f.2.size+1) / 256 % 256:Nat):Int),.int .u8 (((f.2.size+1) % 256:Nat):Int),.int .u8 ((f.1.toNat % 256:Nat):Int)]
theorem NR(f:Fr):(tD f).map bJ=yH f++nL f.2:=by
 simp only[tD,bL,a1V]
 rfl
theorem aS6{f:Fr}{st:aA}{K:AV→aA→Prop}(hf:f.2.size≤1000000){P:Program}{t t':TypeId}{ag:Bool}(hI:eI P t=some (ag,1))(hB:eB P t=some 1){zs:List AV}(hZ:eZ P t=some zs)(hz:zs.length=1)(hu:P.underlying t'=some .string)
 (hK:∀r s,(r=.fslice ((tD f).map bJ)∧s=st∨∃b,st b=none∧r=bK 1 b ((tD f).map bJ)∧s=a9 st b ((tD f).map bJ))→K r s):sR P t t' st (.fslice (yH f)) (.str f.2) K:=by
 have hl:(yH f).length=3:=rfl
 refine aM5 hI hB hZ hz hu (by simp [yH]) (by rw[hl];omega) (by rw[hl];omega) (by simp [yH,AV.width]) (fun h=>?_) (fun h b hb=>?_)
 · refine hK _ _ (.inl ⟨?_,rfl⟩)
   rw[NR,oQ (show(nL f.2).length=0 by rw[PZ];exact h),jO]
 · refine hK _ _ (.inr ⟨b,hb,?_,?_⟩)
   · rw[NR,rR (by simp [yH]),dO,hl,PZ]
   · rw[NR,l5 (by simp [yH])]
     congr 2
     have:(nL f.2).flatMap AV.cells=nL f.2:=by
      unfold nL
      induction f.2.data.toList with
      | nil=>rfl
      | cons x l ih=>simp only[bL,AE,ih];rfl
     rw[uB,this]
abbrev a2J:=zi aS (zi gD (zi cH (zi kH oL)))
theorem aPW(f:Fr)(hf:f.2.size≤1000000)(h0:0≤f.1)(st:aA):aD prog 161 [bO f] st (fun r st'=>r=bZ (tD f)∧st'=st):=by
 have fX:=fun K hK=>aS6 (f:=f) (st:=st) (K:=K) hf (P:=prog) (t:=22) (t':=9) iK qN qP rfl (by kernel_rfl) hK
 obtain⟨k,t⟩:=f
 simp only at hf h0 fX
 simp only[bO]
 have hw:=bC (n:=(t.size:Int)+1)
 have hq:((t.size:Int)+1).tdiv 256=(((t.size+1) / 256:Nat):Int):=by
  rw[show((t.size:Int)+1)=((t.size+1:Nat):Int) by omega];try rfl
 have hr:((t.size:Int)+1).tmod 256=(((t.size+1) % 256:Nat):Int):=by
  rw[show((t.size:Int)+1)=((t.size+1:Nat):Int) by omega];try rfl
 have hw2:=bC (n:=(((t.size+1) / 256:Nat):Int))
 have hw3:=bC (n:=(((t.size+1) % 256:Nat):Int))
 have b1:=MO (k:=((t.size+1) / 256:Nat)) (by omega)
 rw[gI] at b1
 have b2:=MO (k:=((t.size+1) % 256:Nat)) (by omega)
 rw[gI,Nat.mod_mod] at b2
 have b3:=MO (k:=k) h0
 refine aD.fin ?_
 refine wF [1000000] 1 func161 ntmps161 rfl rfl ?_
 intro _
 simp only[hw,hw2,hq,hr,lM,b1,b2,b3,aB,seval,a2J]
 refine fX _ ?_
 rintro r s (⟨rfl,rfl⟩ | ⟨b,hb,rfl,rfl⟩)
 · simp only[aB,seval]
   exact⟨0,[],s,rfl,by simp,by simp,⟨1,by simp⟩,by simp only[pF],rfl⟩
 · simp only[aB,seval]
   exact⟨b,_,st,rfl,fun _=>hb,uR _,⟨1,o5 _⟩,mV,rfl⟩
abbrev GH:=zi aS (zi bV (zi kH (zi iE oL)))
theorem aRR(l:List Fr)(hl:l.length≤1000)(st:aA):aD prog 107 [aT l] st (fun r st'=>∃(x:List Bt) (b:Nat),x.length≤2003*l.length∧(x.map bJ≠[]→st b=none)∧r=bK 1 b (x.map bJ)∧st'=a9 st b (x.map bJ)):=by
 refine aD.o9 ?_
 refine wF [1000000] 1 func107 ntmps107 rfl rfl ?_
 intro _
 simp only[aB,seval,GH]
 refine dX (σ:=List Bt×Nat) [1000000] [0] l (fun i p=>p.1.length≤2003*i∧(p.1.map bJ≠[]→st p.2=none)) (fun i p=>[(2,.fslice []),(3,bK 1 p.2 (p.1.map bJ)),(4,.int .i64 i)]) (fun i p=>a9 st p.2 (p.1.map bJ)) (by decide +kernel) ⟨([],0),⟨by simp,fun h=>absurd rfl h⟩,aO.mk (by simp only[j8,bE,aB,↓aU,seval])⟩ (fun i x p hx hlt bP hdr hinv=>?_) (fun p hge hinv=>?_)
 case refine_2=>
  obtain⟨acc,b⟩:=p
  obtain⟨h1,hb⟩:=hinv
  simp only at h1 hb
  simp only[hge,aE,aB,seval,GH]
  exact⟨_,aL.refl _,acc,b,h1,hb,rfl,rfl⟩
 obtain⟨acc,b⟩:=p
 obtain⟨h1,hb⟩:=hinv
 simp only at h1 hb
 have hw:=bC (n:=(i:Int)+1)
 have hat:=bS (av:=bO) (P:=prog) lC hx (qS x)
 have hfv:=fun s=>M4 x s
 simp only[bP,aE,hat,qS,wM,aB,seval,GH]
 refine(hfv _).to ?_
 cases hok:iA x with
 | false=>
  simp only[eK,aB,seval,GH]
  exact⟨st,(aL.refl st).a9 hb,[],0,by simp,fun h=>absurd rfl h,rfl,rfl⟩
 | true=>
  obtain⟨k1,k2,k3⟩:=aWE hok
  simp only[eA,hat,qS,wM,aB,seval,GH]
  refine(aPW x (by omega) (by omega) _).to ?_
  simp only[aB,seval]
  refine eY (xs:=(tD x).map bJ) iK qN qP rfl rfl (sZ _) (o5 _) hb (by simp only[aE,NS];omega) (by simp only[aE,NS];omega) (fun b' hb'=>?_)
  rw[←rM] at hb' ⊢
  simp only[hw,aB,seval]
  exact⟨(acc++tD x,b'),⟨by simp only[dO,NS];omega,hb'⟩,aO.mk (by simp only[aB,seval])⟩
theorem dH.aLM{h:a7}{st s0:aA}(S:cA h st):∀ {xs os:List AV} {vs:List Value},dH st s0 xs os→c7 h st os vs→c7 h s0 xs vs
 | [],os,cs,x,y=>by simp only[dH] at x;subst x;exact y
 | a::xs,os,cs,x,y=>by
  obtain⟨o,os',rfl,x1,x2⟩:=x
  simp only[c7] at y ⊢
  obtain⟨c,r,e,y1,y2⟩:=y
  exact⟨c,r,e,⟨x1.1.symm.trans y1.1,x1.2.2.2 h _ S y1.2⟩,dH.aLM S x2 y2⟩
theorem Told.tup{st s0:aA}{xs os:List AV}(x:dH st s0 xs os):Told st s0 (.tup xs) (.tup os):=
 ⟨rfl,rfl,rfl,fun h cs S y=>by
  simp only[VC] at y ⊢
  obtain⟨vs,e,y⟩:=y
  exact⟨vs,e,x.aLM S y⟩⟩
theorem dH.replicate{st s0:aA}{a o:AV}:∀n:Nat,Told st s0 a o→dH st s0 (List.replicate n a) (List.replicate n o)
 | 0,_=>rfl
 | n+1,h=>by rw[LX,LX];exact .cons h (dH.replicate n h)
def IB:cP:=⟨[],false,[],[],false,CZ,false,[]⟩
abbrev aJ5:=zi aS (zi bV (zi nN mF))
theorem aRX(n:Nat)(q:Int)(hn:n≤4)(h0:0≤q)(h1:q≤300)(st:aA):aD prog 64 [.int .i64 (n:Int),.int .i64 q] st (fun r st'=>r=.tup [dZ ⟨List.replicate n IB,q⟩,.bool true]∧st'=st):=by
 refine aD.told ?_
 have n1:=bG (show ¬(n:Int)<0 by omega)
 have n2:=bG (show ¬(4:Int)<(n:Int) by omega)
 have n3:=bG (show ¬q<0 by omega)
 have n4:=bG (show ¬(300:Int)<q by omega)
 refine wF [1000000] 2 func64 ntmps64 rfl rfl ?_
 intro _
 simp only[n1,n2,n3,n4,bB,aB,seval,aJ5]
 intro b4 h4
 simp only[uM,aG,aB,↓aU,seval,aJ5]
 refine⟨by omega,by omega,by omega,fun b hb=>?_⟩
 rw[gI,O0 _ (by simp)]
 have hne:b4≠b:=by rintro rfl;rw[aA.aH] at hb;cases hb
 have hst:st b=none:=by rw[aA.aJ _ _ hne.symm] at hb;exact hb
 have e4:((st.aC b4 (.cells [.fslice [],.int .i64 0])).aC b (.cells (List.replicate n [AV.fslice [],AV.bool false,AV.fslice [],AV.fslice [],AV.bool false,AV.fslice [],AV.fslice [],AV.int .i64 0,AV.int .i64 0,AV.int .i64 0,AV.int .i64 0,AV.bool false,AV.fslice []]).flatten)) b4=some (.cells [.fslice [],.int .i64 0]):=by rw[aA.aJ _ _ hne,aA.aH]
 have D:∀o o' o'',aL (((st.aC b4 o).aC b o').aC b4 o'') st:=fun o o' o''=>(((aL.refl _).aC h4).aC hst).aC h4
 simp only[e4,aB,seval]
 refine⟨_,st,D _ _ _,?_,rfl,rfl⟩
 have T:=fun h=>(D (.cells [.fslice [],.int .i64 0]) (.cells (List.replicate n [AV.fslice [],AV.bool false,AV.fslice [],AV.fslice [],AV.bool false,AV.fslice [],AV.fslice [],AV.int .i64 0,AV.int .i64 0,AV.int .i64 0,AV.int .i64 0,AV.bool false,AV.fslice []]).flatten) (.cells [.mslice b 0 n 13,.int .i64 q])).step h
 refine Told.tup (.cons (Told.agg (.cons (Told.block (os:=List.replicate n (.agg [AV.fslice [],AV.bool false,AV.fslice [],AV.fslice [],AV.bool false,AV.fslice [],AV.fslice [],AV.int .i64 0,AV.int .i64 0,AV.int .i64 0,AV.int .i64 0,AV.bool false,AV.fslice []])) ?_ hst ?_ (uW _) (by simp)) (.cons (Told.same T rfl) .nil))) (.cons (Told.same T rfl) .nil))
 · rw[aA.aJ _ _ hne.symm,aA.aH]
   congr 2
   simp [List.flatMap_def,List.map_replicate,AV.cells]
 · have S:∀ {a:AV},a.bR=false→Told _ st a a:=fun h=>Told.same T h
   have Z:Told _ st (.slice []) (.fslice []):=⟨rfl,rfl,rfl,fun h cs S y=>VC.mono (T h) _ _ (VC.soft (.fslice []) cs y)⟩
   rw[List.map_replicate]
   refine dH.replicate n (Told.agg ?_)
   exact .cons Z (.cons (S rfl) (.cons Z (.cons Z (.cons (S rfl) (.cons Z (.cons Z (.cons (S rfl) (.cons (S rfl) (.cons (S rfl) (.cons (S rfl) (.cons (S rfl) (.cons Z .nil))))))))))))
theorem HT{st:aA}{l1 l2:List Fr}{x:AV}{K:AV→aA→Prop}(hx:x=.slice (l2.map bO)∨x=.fslice (l2.map bO))(hl:l1.length+l2.length≤100)(hK:∀q s,Lit st 2 ((l1++l2).map bO) q s→K q s):iT prog 30 st (.fslice (l1.map bO)) x K:=by
 refine SQ lC pA pD rfl hx (nZ _) (u9 _) (by simp only[aE];omega) (by simp only[aE];omega) (fun q s h=>hK q s ?_)
 rw[rM]
 exact h
theorem Lit.aWC{st s:aA}{l:List Fr}{q:AV}(h:Lit st 2 (l.map bO) q s):xY s st∧uJ s q st (aT l):=by
 rcases h with ⟨rfl,rfl⟩ | ⟨b,hb,rfl,rfl⟩
 · exact⟨(aL.refl _).pY,fun h v S y=>y.soft⟩
 · have D:aL (st.aC b (.cells ((l.map bO).flatMap AV.cells))) st:=(aL.refl _).aC hb
   exact⟨D.pY,fun h v S y=>(Told.block (aA.aH _ _ _) hb (dH.same (fun h=>D.step h) (qT l)) (nZ l) rfl).DS S y⟩
abbrev GI:=zi DL (zi aS (zi KP (zi vY (zi cH (zi iE (zi tZ (zi jK (zi cB (zi a2U KO)))))))))
set_option maxHeartbeats 1000000 in
theorem aP8(bs:List Bt)(c p:Nat)(st:aA)(hp:p+200≤1099511627776)(hR:fH st c bs p) :
 aD prog 108 [.ptr c 0] st (Dr bs c p 200 st (fun r=>∃l:List Fr,l.length≤4∧(∀f∈l,f.2.size≤1000000)∧r=aT l)):=by
 refine aD.aFK ?_
 have fX:∀(k:Nat) (L:List Fr) (q:AV) (s:aA),L.length≤4→(∀f∈L,f.2.size≤1000000)→p≤k→k≤p+200→Lit (st.aC c (fO bs k)) 2 (L.map bO) q s→∃r2 s2,(xY s s2∧uJ s q s2 r2)∧Dr bs c p 200 st (fun r=>∃l:List Fr,l.length≤4∧(∀f∈l,f.2.size≤1000000)∧r=aT l) r2 s2:=fun k L q s h1 h2 h3 h4 h=>⟨_,_,h.aWC,k,h3,h4,rfl,L,h1,h2,rfl⟩
 refine wF [1000000] 1 func108 ntmps108 rfl rfl ?_
 intro _
 simp only[aB,seval]
 refine(aRD bs c p _ (by omega) hR).mono ?_
 rintro _ _ ⟨p1,r1,r2,rfl,l,q,⟨_,hl⟩,⟨_,hq⟩,rfl⟩
 simp only[aB,seval]
 refine(aRV l hl _).mono ?_
 rintro _ _ ⟨⟨t1,ht1,rfl⟩,rfl⟩
 simp only[aB,seval]
 refine(uT _ _ _).to ?_
 simp only[aB,seval]
 refine(TI q hq _).mono ?_
 rintro _ _ ⟨⟨t2,ht2,rfl⟩,rfl⟩
 simp only[aB,seval]
 refine(uT _ _ _).to ?_
 simp only[qS,wM,E7,aB,seval,GI]
 refine(s9 bs c p1 (by omega) 8 (by omega) (by omega) _ fH.new).mono ?_
 rintro _ _ ⟨k,hk,rfl,rfl⟩
 rw[dW]
 simp only[aB,seval]
 refine aQ (fun h0=>?_) (fun h0=>?_)
 · simp only[aB,seval]
   refine(uT _ _ _).to ?_
   simp only[aB,seval]
   refine(TI q hq _).mono ?_
   rintro _ _ ⟨⟨t3,ht3,rfl⟩,rfl⟩
   simp only[aB,seval]
   refine(uT _ _ _).to ?_
   simp only[qS,wM,E7,aB,seval,GI]
   refine HT (l1:=[(1,t1),(2,t2)]) (l2:=[(3,⟨#[]⟩),(2,t3)]) (.inr rfl) (by simp) (fun q s hq=>?_)
   have he:=fX _ _ q s (by simp) (by intro f hf;simp only[fU,dL,cL,c8,dP] at hf;rcases hf with rfl | rfl | rfl | rfl<;>first | assumption | (simp only;omega) | decide) (by omega) (by omega) hq
   rcases hq with ⟨rfl,rfl⟩ | ⟨b,hb,rfl,rfl⟩
   · simp only[aB,seval]
     exact he
   · simp only[aB,seval]
     exact he
 simp only[aB,seval]
 refine aQ (fun h0=>?_) (fun h0=>?_)
 · simp only[aB,seval]
   refine(uT _ _ _).to ?_
   simp only[aB,seval]
   refine(uT _ _ _).to ?_
   simp only[qS,wM,E7,aB,seval,GI]
   refine HT (l1:=[(1,t1),(2,t2)]) (l2:=[(1,⟨#[120]⟩),(2,⟨#[65]⟩)]) (.inr rfl) (by simp) (fun q s hq=>?_)
   have he:=fX _ _ q s (by simp) (by intro f hf;simp only[fU,dL,cL,c8,dP] at hf;rcases hf with rfl | rfl | rfl | rfl<;>first | assumption | (simp only;omega) | decide) (by omega) (by omega) hq
   rcases hq with ⟨rfl,rfl⟩ | ⟨b,hb,rfl,rfl⟩
   · simp only[aB,seval]
     exact he
   · simp only[aB,seval]
     exact he
 simp only[aB,seval]
 refine aQ (fun h0=>?_) (fun h0=>?_)
 · simp only[aB,seval]
   refine(uT _ _ _).to ?_
   simp only[qS,wM,E7,aB,seval,GI]
   refine HT (l1:=[(1,t1),(2,t2)]) (l2:=[(7,⟨#[]⟩)]) (.inr rfl) (by simp) (fun q s hq=>?_)
   have he:=fX _ _ q s (by simp) (by intro f hf;simp only[fU,dL,cL,c8,dP] at hf;rcases hf with rfl | rfl | rfl<;>first | assumption | (simp only;omega) | decide) (by omega) (by omega) hq
   rcases hq with ⟨rfl,rfl⟩ | ⟨b,hb,rfl,rfl⟩
   · simp only[aB,seval]
     exact he
   · simp only[aB,seval]
     exact he
 simp only[aB,seval]
 refine aQ (fun h0=>?_) (fun h0=>?_)
 · simp only[aB,seval]
   refine(uT _ _ _).to ?_
   simp only[qS,wM,E7,aB,seval,GI]
   refine HT (l1:=[(1,t1),(2,t2)]) (l2:=[(2,⟨#[116,114,117,101]⟩)]) (.inr rfl) (by simp) (fun q s hq=>?_)
   have he:=fX _ _ q s (by simp) (by intro f hf;simp only[fU,dL,cL,c8,dP] at hf;rcases hf with rfl | rfl | rfl<;>first | assumption | (simp only;omega) | decide) (by omega) (by omega) hq
   rcases hq with ⟨rfl,rfl⟩ | ⟨b,hb,rfl,rfl⟩
   · simp only[aB,seval]
     exact he
   · simp only[aB,seval]
     exact he
 simp only[aB,seval]
 exact fX _ [(1,t1),(2,t2)] _ _ (by simp) (by intro f hf;simp only[cL,c8,dP] at hf;rcases hf with rfl | rfl<;>first | assumption | (simp only;omega)) (by omega) (by omega) (.inl ⟨rfl,rfl⟩)
abbrev a2K:=zi aS (zi aKH (zi kH (zi iE tZ)))
theorem aP1(bs:List Bt)(c p:Nat)(st:aA)(hp:p+300≤1099511627776)(hR:fH st c bs p) :
 aD prog 67 [.ptr c 0] st (Dr bs c p 300 st (fun r=>∃b:List Bt,b.length≤10000∧r=bZ b)):=by
 refine aD.aFK ?_
 have fX:∀(q b:Nat) (x:List Bt),x.length≤10000→p≤q→q≤p+300→(x.map bJ≠[]→(st.aC c (fO bs q)) b=none)→∃r2 s2,(xY (a9 (st.aC c (fO bs q)) b (x.map bJ)) s2∧uJ (a9 (st.aC c (fO bs q)) b (x.map bJ)) (bK 1 b (x.map bJ)) s2 r2)∧Dr bs c p 300 st (fun r=>∃b:List Bt,b.length≤10000∧r=bZ b) r2 s2:=fun q b x g0 g1 g2 hb=>by
  have:=uJ.fin (r:=bK 1 b (x.map bJ)) hb (uR _) ⟨1,o5 _⟩
  rw[mV] at this
  exact⟨_,_,this,q,g1,g2,rfl,x,g0,rfl⟩
 have hRq:∀(q b:Nat) (L:List AV),(L≠[]→(st.aC c (fO bs q)) b=none)→fH (a9 (st.aC c (fO bs q)) b L) c bs q∧∀o,(a9 (st.aC c (fO bs q)) b L).aC c o=a9 (st.aC c o) b L∧(L≠[]→(st.aC c o) b=none):=fun q b L hb=>by
  have hne:L≠[]→c≠b:=fun h e=>by have:=hb h;rw[←e,aA.aH] at this;cases this
  refine⟨?_,fun o=>⟨?_,fun h=>?_⟩⟩
  · unfold fH
    by_cases h:L= []
    · rw[h,rQ,aA.aH];try rfl
    · rw[sU (hne h),aA.aH];try rfl
  · rw[qF hne,dW]
  · have:=hb h
    rw[aA.aJ _ _ (dM (hne h))] at this ⊢
    exact this
 refine wF [1000000] 1 func67 ntmps67 rfl rfl ?_
 intro _
 simp only[aB,seval]
 refine(aP8 bs c p _ (by omega) hR).mono ?_
 rintro _ _ ⟨p1,r1,r2,rfl,l,hl,hl2,rfl⟩
 simp only[aB,seval]
 refine(aRR l (by omega) _).mono ?_
 rintro _ _ ⟨x,b,hx,hb,rfl,rfl⟩
 obtain⟨k1,k2⟩:=hRq _ _ _ hb
 simp only[aB,seval]
 refine(s9 bs c p1 (by omega) 10 (by omega) (by omega) _ k1).mono ?_
 rintro _ _ ⟨k,hk,rfl,rfl⟩
 obtain⟨k3,k4⟩:=k2 (fO bs (p1+1))
 rw[k3]
 obtain⟨k1,k2⟩:=hRq _ _ _ k4
 simp only[aB,seval]
 refine aQ (fun h0=>?_) (fun h0=>?_)
 · simp only[aB,seval,a2K]
   refine eY (xs:=([⟨0,by omega⟩,⟨0,by omega⟩]:List Bt).map bJ) iK qN qP rfl rfl (sZ _) (o5 _) k4 (by simp only[aE,aX,a8];omega) (by simp only[aE,aX,a8];omega) (fun b' hb'=>?_)
   rw[←rM] at hb' ⊢
   simp only[aB,seval]
   exact fX _ _ _ (by simp only[dO,aX,a8];omega) (by omega) (by omega) hb'
 have hun:prog.underlying 22=some (.slice 5):=by kernel_rfl
 have haL:=EN (w:=1) (b:=b) (l:=x.map bJ) hun
 rw[aE] at haL
 simp only[aB,seval]
 refine aQ (fun h0=>?_) (fun h0=>?_)
 · simp only[haL,aB,seval]
   refine(UC bs c (p1+1) (by omega) x.length (by omega) _ k1).mono ?_
   rintro _ _ ⟨m,hm,rfl,rfl⟩
   obtain⟨k3,k4⟩:=k2 (fO bs (p1+1+1))
   rw[k3]
   cases x with
   | nil=>
    obtain rfl:m=0:=by simpa using hm
    have hsl:=fun(φ:AF) (d:Nat) (h:φ d=.int .i64 0)=>a1F (P:=prog) iK h
    simp only[bE,j8,rQ]
    simp only[hsl,aB,↓aU,seval]
    have:=fX (p1+1+1) 0 [] (by simp) (by omega) (by omega) (fun h=>absurd rfl h)
    simpa only[bE,j8,rQ] using this
   | cons y x=>
    have hn:(y::x).map bJ≠[]:=by simp
    have hb2:=k4 hn
    have hsl:=fun(φ:AF) (d:Nat) (h:φ d=.int .i64 (m:Int))=>a1G (P:=prog) (b:=b) (n:=x.length+1) iK h (by simpa using hm)
    rw[rR hn,l5 hn,aE,aX]
    simp only[hsl,aB,seval]
    have D:∀o,aL ((st.aC c (fO bs (p1+1+1))).aC b o) (st.aC c (fO bs (p1+1+1))):=fun o=>(aL.refl _).aC hb2
    have T:=Told.SZ (w:=1) (n:=m) (es:=((y::x).take m).map bJ) (os:=((y::x).take m).map bJ) (X:=(((y::x).drop m).map bJ).flatMap AV.cells) (st:=(st.aC c (fO bs (p1+1+1))).aC b (.cells (((y::x).map bJ).flatMap AV.cells))) (by rw[aA.aH,←uB,←rM,DZ]) hb2 (dH.same (fun h=>(D _).step h) (uR _)) (o5 _) (by rw[aE,dK];omega)
    exact⟨_,_,⟨(D _).pY,fun h v S y=>T.DS S y⟩,p1+1+1,by omega,by omega,rfl,(y::x).take m,by rw[dK];omega,rfl⟩
 simp only[aB,seval]
 exact fX _ _ _ (by omega) (by omega) (by omega) k4
theorem aH8{l:List UInt8}{p:List Cl}(h:oE l=some p):fD p=true:=by
 unfold oE at h
 simp only at h
 split at h
 · cases h
 · rename_i h1
   obtain⟨h2,h3⟩:=NA _ [] p (by simp) h
   have h4:(lO 10 l []).dropLast.length=(lO 10 l []).length - 1:=List.length_dropLast ..
   simp only[fD,bD,bA,c6]
   simp only[a8] at h3
   exact⟨by omega,fun c hc=>(h2 c hc).2⟩
theorem w9:fD []=true:=by decide
theorem FY:eP []=true:=by decide
theorem aJE(b:List Bt):3*(kX b).1.length+(kX b).2.1.length≤b.length:=by
 unfold kX
 split
 · rename_i h
   have h1:=wY h
   have h2:1≤eO b:=by
    unfold jH at h
    split at h
    · omega
    · split at h
      · omega
      · omega
   have:=aJE (b.drop (2+eO b))
   rw[j6] at this
   simp only[aX]
   omega
 · split<;>simp
termination_by b.length
decreasing_by
 have:=wY (by assumption)
 rw[j6]
 omega
theorem aV4(r:List Bt)(k:Bool)(x:List Bt):3*(lD r k x).2.length+(lD r k x).1.1.length≤r.length+x.length:=by
 unfold lD
 split
 · simp
 · have h1:=aJE (r++x)
   rw[dO] at h1
   exact h1
structure CI (k:Nat) (c:cP):Prop where
 ok:JS c.out
 out:c.out.length≤30*k
 wait:3*c.wait.length+c.rest.length≤10000*k
 prog:fD c.prog=true
 sp:fD c.ses.p=true
 sq:eP c.ses.q=true
theorem CI.sm{k:Nat}{c:cP}(h:CI k c)(hk:k≤9):c.rest.length≤2000000∧o7 c∧c.wait.length≤1048576∧c.out.length≤1000000:=by
 obtain⟨h1,h2,h3,h5,h6,h7⟩:=h
 have p1:=CR h5
 have p2:=CR h6
 have p3:=JX h7
 exact⟨by omega,⟨by omega,by omega,by omega,⟨by omega,p1.2⟩,⟨by omega,p2.2⟩,by omega,p3.2⟩,by omega,by omega⟩
theorem CI.more{k m:Nat}{c:cP}(h:CI k c)(hk:k≤m):CI m c:=⟨h.ok,by have:=h.out;omega,by have:=h.wait;omega,h.prog,h.sp,h.sq⟩
theorem CI.feed{k:Nat}{c:cP}{x:List Bt}(h:CI k c)(hk:k≤8)(hx:x.length≤10000):CI (k+1) (BV c x):=by
 obtain⟨h1,h2,h3,h5,h6,h7⟩:=h
 have f1:=aV4 c.rest c.brk x
 exact⟨h1,by simp only[BV];omega,by simp only[BV,dO];omega,h5,h6,h7⟩
theorem CI.send{k:Nat}{c:cP}{n:Int}{t:ByteArray}(h1:JS c.out)(h2:c.out.length≤30*k)(h3:3*c.wait.length+c.rest.length≤10000*k)(h5:fD c.prog=true)(h6:fD c.ses.p=true)(h7:eP c.ses.q=true)(hf:iA (n,t)=true)(hn:4≤n):CI (k+1) (sent c n t):=by
 refine⟨fun f hf'=>?_,by simp only[sent,dO,aX,a8];omega,by simp only[sent];omega,h5,h6,h7⟩
 simp only[sent,fG,cL,c8,dP] at hf'
 rcases hf' with h | rfl
 · exact h1 f h
 · exact⟨hf,hn⟩
theorem a1T{s:Ss}{n:Int}(h:nK s=true)(hn:0≤n):(lG s n).length≤20:=by
 have:=(J5 h hn).l
 unfold lG
 rw[j6];omega
theorem CI.K9{k:Nat}{c:cP}{qu n:Int}(h:CI k c)(hok:lB c=true)(hn:0≤n):CI (k+1) (lW c qu n):=by
 have hm:=h.more (Nat.le_succ k)
 obtain⟨h1,h2,h3,h5,h6,h7⟩:=h
 simp only[lB,bD,c6,kZ,i9,bA] at hok
 obtain⟨k1,k2,k3,k4⟩:=hok
 unfold lW
 split
 · rename_i ha
   have hs:nK c.ses=true:=by
    rcases k2 with k2 | k2
    · rw[ha] at k2;cases k2
    · exact k2.1
   have hl:=a1T hs hn
   have hap:JS (c.out++gZ c.ses.q (lG c.ses n)):=fun f hf=>by
    rcases fG.1 hf with hf | hf
    · exact h1 f hf
    · exact aM0 _ _ f hf
   have hal:(gZ c.ses.q (lG c.ses n)).length≤20:=by unfold gZ;rw[aE];exact hl
   unfold zN
   split
   · exact⟨hap,by simp only[dO];omega,by simp only;omega,h5,h6,h7⟩
   · rename_i hf
     have hrg: -1≤(j9 c.ses n).fin∧(j9 c.ses n).fin≤9:=aFQ c.ses _
     refine⟨fun f hf'=>?_,by simp only[dO,aX,a8];omega,by simp only;omega,h5,w9,FY⟩
     simp only[fG,cL,c8,dP] at hf'
     rcases hf' with h | rfl
     · exact hap f (fG.2 h)
     · exact⟨aSU _ (by omega),by simp⟩
 · split
   · rename_i f w hw
     have hwl:3*w.length+c.rest.length≤10000*k:=by rw[hw] at h3;simp only[aX] at h3;omega
     unfold tF
     split
     · split
       · rename_i p hp
         exact CI.send h1 h2 hwl (aH8 hp) h6 h7 (by decide) (by decide)
       · exact CI.send h1 h2 hwl h5 h6 h7 (by decide) (by decide)
     · split
       · split
         · rename_i q hq
           have hss:fD (mA c.prog q qu).p=true∧eP (mA c.prog q qu).q=true:=by
            unfold mA
            split
            · exact⟨h5,(PD hq).1⟩
            · exact⟨w9,FY⟩
           exact⟨h1,by simp only;omega,by simp only;omega,h5,hss.1,hss.2⟩
         · exact CI.send h1 h2 hwl h5 h6 h7 (by decide) (by decide)
       · split
         · exact CI.send h1 h2 hwl w9 h6 h7 (by decide) (by decide)
         · exact CI.send h1 h2 hwl h5 h6 h7 (by decide) (by decide)
   · split
     · exact CI.send h1 h2 h3 h5 h6 h7 (by decide) (by decide)
     · exact hm
structure SI (k:Nat) (s:Sv):Prop where
 len:s.cs.length≤4
 all:∀c∈s.cs,CI k c
theorem SI.more{k m:Nat}{s:Sv}(h:SI k s)(hk:k≤m):SI m s:=⟨h.len,fun c hc=>(h.all c hc).more hk⟩
theorem SI.fed{k:Nat}{s:Sv}{j:Int}{x:List Bt}(h:SI k s)(hk:k≤8)(hx:x.length≤10000):SI (k+1) (uZ s j x)∧(uZ s j x).cs.length=s.cs.length:=by
 unfold uZ
 split
 · split
   · rename_i c hc
     refine⟨⟨by simp only[List.length_set];exact h.len,fun y hy=>?_⟩,by simp only[List.length_set]⟩
     rcases RJ hy with hy | rfl
     · exact(h.all y hy).more (Nat.le_succ k)
     · exact(h.all c (cQ hc)).feed hk hx
   · exact⟨h.more (Nat.le_succ k),rfl⟩
 · exact⟨h.more (Nat.le_succ k),rfl⟩
theorem SI.Q0{k:Nat}{s:Sv}{n:Int}(h:SI k s):SI (k+1) (rG s n)∧(rG s n).cs.length=s.cs.length:=by
 unfold rG
 split
 · rename_i hg
   refine⟨⟨by simp only[aE];exact h.len,fun y hy=>?_⟩,by simp only[aE]⟩
   obtain⟨c,hc,rfl⟩:=cM.1 hy
   have hs:=hg.2
   simp only[lT,bD,c6] at hs
   exact(h.all c hc).K9 (hs.1 c hc) (by omega)
 · exact⟨h.more (Nat.le_succ k),rfl⟩
theorem CI.start:CI 0 IB:=⟨fun f hf=>absurd hf (c8),by decide,by decide,w9,w9,FY⟩
theorem SI.start(n:Nat)(hn:n≤4)(q:Int):SI 0 ⟨List.replicate n IB,q⟩:=⟨by simp only[List.length_replicate];exact hn,fun c hc=>by
 rw[List.eq_of_mem_replicate hc]
 exact CI.start⟩
def gP(c:cP):Nat:=if(c.brk&& !c.told)=true then 1 else 0
def lJ(c:cP):Nat:=c.out.length+22*c.wait.length+(if c.act=true then 22 - c.ses.sent.toNat else 0)+gP c
def iO(c:cP):Nat:=400*c.wait.length+(if c.act=true then(c.ses.quota - c.ses.used).toNat+1 else 0)+gP c
def jR(c:cP):Bool:=c.act||(!c.wait.isEmpty||(c.brk&& !c.told))
structure oP (c:cP):Prop where
 pot:lJ c≤600000
 rest:c.rest.length≤80000
 prog:fD c.prog=true
 sp:fD c.ses.p=true
 sq:eP c.ses.q=true
theorem oP.of{c:cP}(h:CI 8 c):oP c:=by
 obtain⟨h1,h2,h3,h5,h6,h7⟩:=h
 refine⟨?_,by omega,h5,h6,h7⟩
 unfold lJ gP
 split<;>split<;>omega
theorem oP.sm{c:cP}(h:oP c):c.rest.length≤1048576∧o7 c∧c.wait.length≤1048576∧c.out.length≤1000000:=by
 obtain⟨h1,h4,h5,h6,h7⟩:=h
 have p1:=CR h5
 have p2:=CR h6
 have p3:=JX h7
 unfold lJ at h1
 exact⟨by omega,⟨by omega,by omega,by omega,⟨by omega,p1.2⟩,⟨by omega,p2.2⟩,by omega,p3.2⟩,by omega,by omega⟩
theorem aWR{c:cP}{f:Fr}{w:List Fr}{qu:Int}(hw:c.wait=f::w)(ha:c.act=false)(h0:0≤qu)(h3:qu≤300)(h:oP c):oP (tF c f w qu)∧iO (tF c f w qu)<iO c:=by
 obtain⟨h1,h4,h5,h6,h7⟩:=h
 have hp:lJ c=c.out.length+22*(w.length+1)+gP c:=by unfold lJ;rw[hw,ha];simp
 have hm:iO c=400*(w.length+1)+gP c:=by unfold iO;rw[hw,ha];simp
 have hs:∀(p:List Cl) (k:Int) (t:ByteArray),fD p=true→oP (sent { c with wait:=w,prog:=p } k t)∧iO (sent { c with wait:=w,prog:=p } k t)<iO c:=fun p k t hpo=>by
  have e1:lJ (sent { c with wait:=w,prog:=p } k t)=c.out.length+1+22*w.length+gP c:=by unfold lJ sent;simp [ha,gP]
  have e2:iO (sent { c with wait:=w,prog:=p } k t)=400*w.length+gP c:=by unfold iO sent;simp [ha,gP]
  exact⟨⟨by omega,h4,hpo,h6,h7⟩,by omega⟩
 unfold tF
 split
 · split
   · rename_i p hq
     exact hs p 4 ⟨#[]⟩ (aH8 hq)
   · exact hs c.prog 5 _ h5
 · split
   · split
     · rename_i q hq
       have hss:fD (mA c.prog q qu).p=true∧eP (mA c.prog q qu).q=true∧(mA c.prog q qu).sent=0∧(mA c.prog q qu).quota - (mA c.prog q qu).used≤300:=by
        unfold mA
        split
        · exact⟨h5,(PD hq).1,rfl,by show qu - 0≤300;omega⟩
        · exact⟨w9,FY,rfl,by decide⟩
       generalize mA c.prog q qu=S at *
       obtain⟨s1,s2,s3,s4⟩:=hss
       have e1:lJ { c with wait:=w,ses:=S,act:=true }=c.out.length+22*w.length+22+gP c:=by unfold lJ;simp [s3,gP]
       have e2:iO { c with wait:=w,ses:=S,act:=true }=400*w.length+((S.quota - S.used).toNat+1)+gP c:=by unfold iO;simp [gP]
       exact⟨⟨by omega,h4,h5,s1,s2⟩,by omega⟩
     · exact hs c.prog 5 _ h5
   · split
     · exact hs [] 4 ⟨#[]⟩ w9
     · exact hs c.prog 5 _ h5
theorem a1H{c:cP}{n:Int}(ha:c.act=true)(hs:nK c.ses=true)(hn:1≤n)(h:oP c):oP (zN c n)∧iO (zN c n)<iO c:=by
 obtain⟨h1,h4,h5,h6,h7⟩:=h
 obtain⟨g1,g2,g3,g4,g5,g6,g7,g8,g9,-⟩:=J5 hs (show 0≤n by omega)
 have hp:lJ c=c.out.length+22*c.wait.length+(22 - c.ses.sent.toNat)+gP c:=by unfold lJ;rw[ha];simp
 have hm:iO c=400*c.wait.length+((c.ses.quota - c.ses.used).toNat+1)+gP c:=by unfold iO;rw[ha];simp
 have hl:(gZ c.ses.q (lG c.ses n)).length=(lE c.ses (gQ c.ses n)).1.length - c.ses.sent.toNat:=by unfold gZ lG;rw[aE,j6]
 have fX:(j9 c.ses n).fin= -1→gQ c.ses n<c.ses.quota:=fun he=>by
  have h0:=aI0 (p:=c.ses.p) (cnd:=fun _ l=>l) (q:=c.ses.q) (most:=20) (fuel:=gQ c.ses n)
  simp only[j9,lE] at he
  split at he
  · rename_i hh;exact hh.2
  · omega
 have hs':(j9 c.ses n).sent.toNat=(lE c.ses (gQ c.ses n)).1.length:=by show Int.toNat ((_:Nat):Int)=_;exact gI _
 unfold zN
 split
 · rename_i hf
   have hlt:=fX hf
   have hu:gQ c.ses n=c.ses.used+n:=by
    unfold gQ at hlt ⊢
    split at hlt
    · rename_i hh;rw[aN hh]
    · omega
   have e1:lJ { c with ses:=j9 c.ses n,out:=c.out++gZ c.ses.q (lG c.ses n) }=c.out.length+(gZ c.ses.q (lG c.ses n)).length+22*c.wait.length+(22 - (j9 c.ses n).sent.toNat)+gP c:=by unfold lJ;simp [ha,gP]
   have e2:iO { c with ses:=j9 c.ses n,out:=c.out++gZ c.ses.q (lG c.ses n) }=400*c.wait.length+((c.ses.quota - gQ c.ses n).toNat+1)+gP c:=by unfold iO;simp [ha,gP,j9]
   refine⟨⟨by omega,h4,h5,h6,h7⟩,by omega⟩
 · have e1:∀t,lJ { c with act:=false,ses:=CZ,out:=(c.out++gZ c.ses.q (lG c.ses n))++ [(7,t)] }=c.out.length+(gZ c.ses.q (lG c.ses n)).length+1+22*c.wait.length+gP c:=fun t=>by unfold lJ;simp [gP];omega
   have e2:∀t,iO { c with act:=false,ses:=CZ,out:=(c.out++gZ c.ses.q (lG c.ses n))++ [(7,t)] }=400*c.wait.length+gP c:=fun t=>by unfold iO;simp [gP]
   refine⟨⟨by rw[e1];omega,h4,h5,w9,FY⟩,by rw[e2];omega⟩
theorem aK2{c:cP}{qu n:Int}(hok:lB c=true)(h0:0≤qu)(h3:qu≤300)(hn:1≤n)(h:oP c):oP (lW c qu n)∧(jR c=true→iO (lW c qu n)<iO c)∧(jR c=false→lW c qu n=c):=by
 simp only[lB,bD,c6,kZ,i9,bA] at hok
 obtain⟨k1,k2,k3,k4⟩:=hok
 unfold lW
 split
 · rename_i ha
   have hs:nK c.ses=true:=by
    rcases k2 with k2 | k2
    · rw[ha] at k2;cases k2
    · exact k2.1
   obtain⟨a,b⟩:=a1H ha hs hn h
   exact⟨a,fun _=>b,fun hb=>by simp [jR,ha] at hb⟩
 · rename_i ha
   have ha':c.act=false:=by simpa using ha
   split
   · rename_i f w hw
     obtain⟨a,b⟩:=aWR hw ha' h0 h3 h
     exact⟨a,fun _=>b,fun hb=>by simp [jR,hw] at hb⟩
   · rename_i hw
     split
     · rename_i hb
       obtain⟨h1,h4,h5,h6,h7⟩:=h
       have hb':gP c=1:=by unfold gP;rw[aN hb]
       have hp:lJ c=c.out.length+1:=by unfold lJ;rw[hw,ha',hb'];simp
       have hm:iO c=1:=by unfold iO;rw[hw,ha',hb'];simp
       have e1:∀t,lJ (sent { c with told:=true } 5 t)=c.out.length+1:=fun t=>by unfold lJ sent gP;simp [hw,ha']
       have e2:∀t,iO (sent { c with told:=true } 5 t)=0:=fun t=>by unfold iO sent gP;simp [hw,ha']
       exact⟨⟨by rw[e1];omega,h4,h5,h6,h7⟩,fun _=>by rw[e2];omega,fun hb2=>by simp only[jR,hb,v5] at hb2;cases hb2⟩
     · rename_i hb
       have hb':(c.brk&& !c.told)=false:=by simpa using hb
       exact⟨h,⟨fun hb2=>by simp [jR,hb',hw,ha'] at hb2,fun _=>rfl⟩⟩
structure mM (s:Sv):Prop where
 len:s.cs.length≤4
 all:∀c∈s.cs,oP c
theorem mM.of{s:Sv}(h:SI 8 s):mM s:=⟨h.len,fun c hc=>oP.of (h.all c hc)⟩
theorem mM.sm{s:Sv}(h:mM s):s.cs.length≤1048576∧(∀c∈s.cs,c.rest.length≤1048576)∧(∀c∈s.cs,o7 c)∧(∀c∈s.cs,o7 c∧c.wait.length≤1048576∧c.out.length≤1000000):=
 ⟨by have:=h.len;omega,fun c hc=>(h.all c hc).sm.1,fun c hc=>(h.all c hc).sm.2.1,fun c hc=>(h.all c hc).sm.2⟩
theorem mM.Q0{s:Sv}{n:Int}(h:mM s):mM (rG s n):=by
 unfold rG
 split
 · rename_i hg
   refine⟨by simp only[aE];exact h.len,fun y hy=>?_⟩
   obtain⟨c,hc,rfl⟩:=cM.1 hy
   have hs:=hg.2
   simp only[lT,bD,c6,bA] at hs
   exact(aK2 (hs.1 c hc) hs.2.2.1 hs.2.2.2 hg.1 (h.all c hc)).1
 · exact h
def wG(s:Sv):Bool:=s.cs.any jR
def JI(s:Sv):Nat:=bH iO s.cs
theorem aJA{f:cP→Nat}{g:cP→cP}:∀ {l:List cP},(∀c∈l,f (g c)≤f c)→(∃c∈l,f (g c)<f c)→bH f (l.map g)<bH f l
 | [],_,h=>by obtain⟨c,hc,_⟩:=h;cases hc
 | x::l,h1,⟨c,hc,h2⟩=>by
  have hle:∀l:List cP,(∀c∈l,f (g c)≤f c)→bH f (l.map g)≤bH f l:=by
   intro l
   induction l with
   | nil=>intro _;exact cX _
   | cons y l ih=>
    intro h
    have a:=h y (by simp)
    have b:=ih fun c hc=>h c (by simp [hc])
    simp only[bL,bH]
    omega
  have a:=h1 x (by simp)
  have b:=hle l fun c hc=>h1 c (by simp [hc])
  simp only[bL,bH]
  rcases cL.1 hc with rfl | hc
  · omega
  · have:=aJA (fun c hc=>h1 c (by simp [hc])) ⟨c,hc,h2⟩
    omega
theorem mM.less{s:Sv}{n:Int}(h:mM s)(hok:lT s=true)(hn:1≤n)(hb:wG s=true):JI (rG s n)<JI s:=by
 unfold rG JI
 rw[aN ⟨hn,hok⟩]
 simp only[lT,bD,c6,bA] at hok
 have key:=fun c hc=>aK2 (hok.1 c hc) hok.2.2.1 hok.2.2.2 hn (h.all c hc)
 refine aJA (fun c hc=>?_) ?_
 · cases hbc:jR c with
   | true=>exact Nat.le_of_lt ((key c hc).2.1 hbc)
   | false=>rw[(key c hc).2.2 hbc];exact cX _
 · obtain⟨c,hc,hbc⟩:=G7.1 hb
   exact⟨c,hc,(key c hc).2.1 hbc⟩
theorem SI.sm{k:Nat}{s:Sv}(h:SI k s)(hk:k≤9):s.cs.length≤1048576∧(∀c∈s.cs,c.rest.length≤2000000∧o7 c)∧(∀c∈s.cs,o7 c∧c.wait.length≤1048576∧c.out.length≤1000000):=
 ⟨by have:=h.len;omega,fun c hc=>⟨((h.all c hc).sm hk).1,((h.all c hc).sm hk).2.1⟩,fun c hc=>((h.all c hc).sm hk).2⟩
abbrev tV:=zi DL (zi aS (zi kH (zi nN (zi mF (zi tZ mG)))))
set_option maxHeartbeats 1000000 in
theorem aP4(bs:List Bt)(c p:Nat)(st:aA)(hp:p+5000≤1099511627776)(hR:fH st c bs p) :
 aD prog 32 [.ptr c 0] st (Dr bs c p 5000 st (fun r=>∃s:Sv,SI 8 s∧r=dZ s)):=by
 refine aD.o9 ?_
 refine wF [1000000,3] 1 func32 ntmps32 rfl rfl ?_
 intro _
 simp only[aB,seval,tV]
 intro b2 h2
 have h2c:b2≠c:=hR.ne h2
 have hR2:=fun o=>hR.aC (o:=o) h2c
 refine(H4 [2,1,3,0] (by simp) (by simp) bs c p (by omega) _ (hR2 _)).mono ?_
 rintro _ _ ⟨n0,hn0,rfl,rfl⟩
 obtain⟨n,rfl,hn⟩:∃n:Nat,n0=(n:Int)∧n≤4:=⟨n0.toNat,by simp only[cL,c8,dP] at hn0;omega,by simp only[cL,c8,dP] at hn0;omega⟩
 simp only[aB,seval,tV]
 refine(H4 [60,100,20,7] (by simp) (by simp) bs c (p+1) (by omega) _ fH.new).mono ?_
 rintro _ _ ⟨qu,hqu,rfl,rfl⟩
 rw[dW]
 have aGQ:0≤qu∧qu≤300:=by simp only[cL,c8,dP] at hqu;omega
 simp only[aB,seval]
 refine(aRX n qu hn aGQ.1 aGQ.2 _).to ?_
 have hSI:=SI.start n hn qu
 generalize (⟨List.replicate n IB,qu⟩:Sv)=s at *
 unfold dZ
 simp only[aB,↓aU,seval,tV]
 intro b3 h3
 have h32:b3≠b2:=by rintro rfl;rw[aA.aJ _ _ h2c,aA.aH] at h3;cases h3
 have h3c:b3≠c:=by rintro rfl;rw[aA.aH] at h3;cases h3
 have h3':st b3=none:=by rw[aA.aJ _ _ h3c,aA.aJ _ _ h32] at h3;exact h3
 obtain⟨W,hW⟩:∃W:Nat→Sv→aA,W=fun q s=>((st.aC b2 (.cells [.fslice [],.int .i64 0])).aC c (fO bs q)).aC b3 (.cells [.slice (s.cs.map bF),.int .i64 s.quota]):=⟨_,rfl⟩
 have hW0:((st.aC b2 (.cells [.fslice [],.int .i64 0])).aC c (fO bs (p+1+1))).aC b3 (.cells [.slice (s.cs.map bF),.int .i64 s.quota])=W (p+1+1) s:=by rw[hW]
 have hWc:∀q s q',(W q s).aC c (fO bs q')=W q' s:=fun q s q'=>by
  rw[hW]
  funext y
  by_cases e3:y=b3<;>by_cases ec:y=c<;>simp_all [aA.aC]
 have hWs:∀q s s',(W q s).aC b3 (.cells [.slice (s'.cs.map bF),.int .i64 s'.quota])=W q s':=fun q s s'=>by
  rw[hW];exact dW _ _ _ _
 have hWR:∀q s,fH (W q s) c bs q:=fun q s=>by
  unfold fH
  rw[hW]
  simp only
  rw[aA.aJ _ _ h3c.symm,aA.aH]
  try rfl
 have hW3:∀q s,W q s b3=some (.cells [.slice (s.cs.map bF),.int .i64 s.quota]):=fun q s=>by rw[hW];exact aA.aH _ _ _
 have hW2:∀q s,W q s b2=some (.cells [.fslice [],.int .i64 0]):=fun q s=>by
  rw[hW]
  simp only
  rw[aA.aJ _ _ h32.symm,aA.aJ _ _ h2c,aA.aH]
 have hWd:∀q s o,aL ((W q s).aC b2 o) (st.aC c (fO bs q)):=fun q s o y=>by
  rw[hW]
  by_cases e2:y=b2<;>by_cases ec:y=c<;>by_cases e3:y=b3<;>simp_all [aA.aC]
 simp only[aG,hW0,aB,seval]
 refine(H4 [2,3,1,4] (by simp) (by simp) bs c (p+1+1) (by omega) _ (hWR _ _)).mono ?_
 rintro _ _ ⟨i0,hi0,rfl,rfl⟩
 obtain⟨i,rfl,hi⟩:∃n:Nat,i0=(n:Int)∧n≤4:=⟨i0.toNat,by simp only[cL,c8,dP] at hi0;omega,by simp only[cL,c8,dP] at hi0;omega⟩
 rw[hWc]
 clear hW hW0 hR2 h3 hn0 hqu hi0
 simp only[aB,seval]
 refine i8 (σ:=Nat×Nat×Nat×Sv) [1000000,3] [0,2,3] (fun x=>2*x.1+x.2.1≤8∧p≤x.2.2.1∧x.2.2.1+1000*x.1≤p+5000∧SI x.2.1 x.2.2.2) (fun x=>[(5,.int .i64 (x.1:Int))]) (fun x=>W x.2.2.1 x.2.2.2) (fun x=>x.1) (by decide +kernel) ⟨(i,0,p+1+1+1,s),⟨by simp only;omega,by simp only;omega,by simp only;omega,hSI⟩,aO.mk (by simp only[aB,seval])⟩ ?_
 rintro⟨i,k,q,t⟩ ⟨i1,i2,i3,hSI⟩
 simp only at i1 i2 i3 hSI ⊢
 have e3:=hW3 q t
 have e2:=hW2 q t
 have FH:∃s2,aL ((W q t).aC b2 (.cells [.slice (t.cs.map bF),.int .i64 t.quota])) s2∧Dr bs c p 5000 st (fun r=>∃s:Sv,SI 8 s∧r=dZ s) (.agg [.slice (t.cs.map bF),.int .i64 t.quota]) s2:=⟨_,hWd _ _ _,q,i2,by omega,rfl,t,hSI.more (by omega),rfl⟩
 by_cases hi0:0<i
 case neg=>
  have hi':=bG (show ¬(0:Int)<(i:Int) by omega)
  simp only[hi',bB,aG,e3,e2,aB,seval,tV]
  exact FH
 have hi':=bT (show(0:Int)<(i:Int) by omega)
 simp only[hi',aZ,aE,e3,aB,seval,tV]
 refine aQ (fun h0=>?_) (fun h0=>?_)
 case refine_2=>
  simp only[aG,e3,e2,aB,seval,tV]
  exact FH
 simp only[bA] at h0
 obtain⟨hm1,hm2,hm3⟩:=hSI.sm (by omega)
 have hci:((i - 1:Nat):Int)=(i:Int) - 1:=by omega
 have hwi:=bC (n:=(i:Int) - 1)
 simp only[aB,seval]
 refine z5 [(0,1),(1,1),(2,1),(3,1),(4,1),(6,1),(5,0),(7,0),(8,2),(9,2)] [0,1,2,3,4,6] (eF.aC b3 (.cells [.slice (t.cs.map bF),.int .i64 t.quota])) mixed (by decide +kernel) (by decide +kernel) (by decide +kernel) rfl (hJ e3) ?_
 simp only[aE,aB,seval,tV]
 have hfs:=fun(j:Int) (x:List Bt) (hx:x.length≤10000) st=>aRT t j x st hm1 hm2 (by omega)
 unfold dZ at hfs
 refine(UC bs c q (by omega) t.cs.length (by have:=hSI.len;omega) _ (hWR _ _)).mono ?_
 rintro _ _ ⟨j,hj,rfl,rfl⟩
 rw[hWc]
 have e3:=hW3 (q+1) t
 have e2:=hW2 (q+1) t
 simp only[aB,seval]
 refine⟨hJ e3,?_⟩
 refine(aP1 bs c (q+1) _ (by omega) (hWR _ _)).mono ?_
 rintro _ _ ⟨q2,r1,r2,rfl,x,hx,rfl⟩
 rw[hWc]
 have e3:=hW3 q2 t
 have e2:=hW2 q2 t
 simp only[aB,seval]
 refine⟨hJ e3,?_⟩
 refine(hfs (j:Int) x hx _).to ?_
 obtain⟨hF,hFl⟩:=hSI.fed (j:=(j:Int)) (x:=x) (by omega) hx
 generalize uZ t (j:Int) x=t2 at *
 have N9:=hWs q2 t t2
 simp only[aG,e3,N9,aB,seval,tV]
 clear hfs
 have e3:=hW3 q2 t2
 have e2:=hW2 q2 t2
 obtain⟨tm1,tm2,tm3⟩:=hF.sm (by omega)
 have htu:=fun n st=>UK t2 n st tm1 tm3
 unfold dZ at htu
 refine(s9 bs c q2 (by omega) 2 (by omega) (by omega) _ (hWR _ _)).mono ?_
 rintro _ _ ⟨j2,hj2,rfl,rfl⟩
 rw[hWc]
 have e3:=hW3 (q2+1) t2
 have e2:=hW2 (q2+1) t2
 simp only[aB,seval]
 refine aQ (fun h0=>?_) (fun h0=>?_)
 case refine_2=>
  simp only[hwi,aB,seval]
  exact⟨(i - 1,k+2,q2+1,t2),by simp only;omega,⟨by simp only;omega,by simp only;omega,by simp only;omega,hF.more (Nat.le_succ _)⟩,aO.mk (by simp only[hci,aB,seval])⟩
 simp only[aB,seval]
 refine z5 [(0,1),(1,1),(2,1),(3,0),(4,2),(5,2)] [0,1,2] (eF.aC b3 (.cells [.slice (t2.cs.map bF),.int .i64 t2.quota])) mixed (by decide +kernel) (by decide +kernel) (by decide +kernel) rfl (hJ e3) ?_
 simp only[aB,seval,tV]
 refine(H4 [3,10,1,50] (by simp) (by simp) bs c (q2+1) (by omega) _ (hWR _ _)).mono ?_
 rintro _ _ ⟨m,hm,rfl,rfl⟩
 rw[hWc]
 have e3:=hW3 (q2+1+1) t2
 have e2:=hW2 (q2+1+1) t2
 simp only[aB,seval]
 refine⟨hJ e3,?_⟩
 refine(htu m _).to ?_
 obtain⟨hT,hTl⟩:=hF.Q0 (n:=m)
 generalize rG t2 m=t3 at *
 have N9:=hWs (q2+1+1) t2 t3
 simp only[aG,e3,hwi,N9,aB,seval,tV]
 have e3:=hW3 (q2+1+1) t3
 have e2:=hW2 (q2+1+1) t3
 exact⟨(i - 1,k+2,q2+1+1,t3),by simp only;omega,⟨by simp only;omega,by simp only;omega,by simp only;omega,hT⟩,aO.mk (by simp only[hci,aB,seval])⟩

theorem aP3(s:Sv)(hlen:s.cs.length≤1048576)(hb:∀c∈s.cs,o7 c)(st:aA):aD prog 42 [dZ s] st (fun r st'=>r=dZ s∧st'=st):=by
 refine aD.told ((MU s hlen hb st).mono ?_)
 rintro r s' ⟨q,rfl,hA,hf,hk⟩
 have D:aL s' st:=fun y=>by
  by_cases hy:y∈cW q
  · exact⟨fun _=>hf y hy,fun o h=>by rw[hf y hy] at h;cases h⟩
  · rw[hk y hy];exact⟨id,fun _=>id⟩
 exact⟨_,st,D,Told.agg (.cons (Told.acc D hA hf (E2 _) (uW _)) (.cons (Told.same (fun h=>D.step h) rfl) .nil)),rfl,rfl⟩
abbrev aJX:=zi aS (zi bV (zi iE (zi rE kI)))
theorem aP0(c:cP)(st:aA):aD prog 35 [bF c] st (fun r st'=>r=.bool (jR c)∧st'=st):=by
 obtain⟨r,bk,wt,pr,ac,ss,td,ou⟩:=c
 simp only[bF,eR,jR]
 have hw:decide (0<(wt.length:Int))= !wt.isEmpty:=by
  cases wt with
  | nil=>rfl
  | cons x w=>exact d9 (by simp only[aX];omega)
 generalize wt.isEmpty=we at *
 cases ac<;>cases we<;>cases bk<;>cases td
 all_goals
  refine wF [1000000] 1 func35 ntmps35 rfl rfl ?_
  intro _
  simp only[eA,eK,dV,aE,hw,aB,seval,aJX]
  repeat' (first
   | (simp only[*,aE,hw,aB,↓aU,seval,aJX])
   | (refine cK (fun h=>?_) (fun h=>?_))
   | (refine aQ (fun h=>?_) (fun h=>?_)))
  all_goals first | rfl | skip
abbrev QC:=zi aS (zi bV (zi nN (zi mF kI)))
theorem UI(s:Sv)(st:aA):aD prog 10 [dZ s] st (fun r st'=>r=.bool (!wG s)∧st'=st):=by
 obtain⟨cs,qu⟩:=s
 simp only[dZ,wG]
 refine wF [1000000] 1 func10 ntmps10 rfl rfl ?_
 simp only[dS,AV.fits,dU,aE]
 intro ⟨hl,_⟩
 simp only[aB,seval,QC]
 refine dX (σ:=Unit) [1000000] [1] cs (fun i _=>(cs.drop i).any jR=cs.any jR) (fun i _=>[(3,.int .i64 i)]) (fun _ _=>st) (by decide +kernel) ⟨(),rfl,aO.mk (by simp only[aB,↓aU,seval])⟩ (fun i x _ hx hlt bP hdr hinv=>?_) (fun _ hge hinv=>?_)
 case refine_2=>
  rw[mJ] at hinv
  rw[←hinv]
  simp only[hge,aE,aB,seval,QC]
  rfl
 have hw:=bC (n:=(i:Int)+1)
 have hat:=bS (av:=bF) (P:=prog) pB hx (mY x)
 have hf:=fun s=>aP0 x s
 rw[hdr,t9] at hinv
 simp only[bP,aZ,aE,hat,BP,mY,aB,seval,QC]
 refine(hf _).to ?_
 cases hx2:jR x with
 | true=>
  rw[hx2,t8] at hinv
  rw[←hinv]
  simp only[aB,seval]
 | false=>
  rw[hx2,mT] at hinv
  simp only[hw,aB,seval]
  exact⟨(),hinv,aO.mk (by simp only[aB,seval])⟩
abbrev xJ:=zi aS (zi bV mF)
set_option maxHeartbeats 1000000 in
theorem aRZ(s:Sv)(hs:mM s)(n:Int)(hn:1≤n)(st:aA):aD prog 20 [dZ s,.int .i64 n] st (fun r st'=>(∃s':Sv,mM s'∧r=dZ s')∧st'=st):=by
 obtain⟨h1,h2,h3,h4⟩:=hs.sm
 have hcp:=fun st=>aP3 s h1 h3 st
 unfold dZ at hcp ⊢
 refine aD.drop ?_
 refine wF [1000000,5] 2 func20 ntmps20 rfl rfl ?_
 intro _
 simp only[aB,seval,xJ]
 intro b4 hb4
 refine(hcp _).to ?_
 simp only[aG,aB,↓aU,seval,xJ]
 intro b5 hb5
 have h54:b5≠b4:=by rintro rfl;rw[aA.aH] at hb5;cases hb5
 have aWY:st b5=none:=by rw[aA.aJ _ _ h54] at hb5;exact hb5
 have D:∀o o' o'',aL (((st.aC b4 o).aC b5 o').aC b4 o'') st:=fun o o' o''=>(((aL.refl _).aC hb4).aC aWY).aC hb4
 obtain⟨W,hW⟩:∃W:Sv→aA,W=fun s=>(st.aC b4 (.cells [.fslice [],.int .i64 0])).aC b5 (.cells [.slice (s.cs.map bF),.int .i64 s.quota]):=⟨_,rfl⟩
 have hW0:(st.aC b4 (.cells [.fslice [],.int .i64 0])).aC b5 (.cells [.slice (s.cs.map bF),.int .i64 s.quota])=W s:=by rw[hW]
 have hW5:∀s,W s b5=some (.cells [.slice (s.cs.map bF),.int .i64 s.quota]):=fun s=>by rw[hW];exact aA.aH _ _ _
 have hW4:∀s,W s b4=some (.cells [.fslice [],.int .i64 0]):=fun s=>by rw[hW];simp only;rw[aA.aJ _ _ h54.symm,aA.aH]
 have hWs:∀s s',(W s).aC b5 (.cells [.slice (s'.cs.map bF),.int .i64 s'.quota])=W s':=fun s s'=>by rw[hW];exact dW _ _ _ _
 have hWd:∀s o,aL ((W s).aC b4 o) st:=fun s o=>by rw[hW];exact D _ _ _
 clear hW
 simp only[hW0,seval]
 refine i8 (σ:=Sv) [1000000,5] [1,4,5] (fun x=>mM x) (fun x=>[]) (fun x=>W x) JI (by decide +kernel) ⟨s,hs,aO.mk (by simp only[aB,seval])⟩ ?_
 intro t ht
 have e5:=hW5 t
 have e4:=hW4 t
 have FH:aL ((W t).aC b4 (.cells [.slice (t.cs.map bF),.int .i64 t.quota])) st∧∃s':Sv,mM s'∧AV.agg [.slice (t.cs.map bF),.int .i64 t.quota]=.agg [.slice (s'.cs.map bF),.int .i64 s'.quota]:=⟨hWd _ _,t,ht,rfl⟩
 have hn':=bT hn
 have hid:=fun st=>UI t st
 have hri:=fun st=>MV t st
 obtain⟨g1,g2,g3,g4⟩:=ht.sm
 have htu:=fun st=>UK t n st g1 g4
 unfold dZ at hid hri htu
 simp only[aZ,dV,e5,hn',aB,seval,xJ]
 refine(hid _).to ?_
 cases hb:wG t with
 | false=>
  simp only[eK,eA,aG,e5,e4,aB,seval,xJ]
  exact FH
 | true=>
  simp only[eK,eA,e5,aB,seval,xJ]
  refine(hri _).to ?_
  cases hok:lT t with
  | false=>
   simp only[aG,e5,e4,aB,seval,xJ]
   exact FH
  | true=>
   simp only[e5,aB,seval,xJ]
   refine(htu _).to ?_
   have hT:=ht.Q0 (n:=n)
   have hlt:=ht.less hok hn hb
   have hWt:=hWs t (rG t n)
   generalize rG t n=t2 at *
   simp only[aG,e5,hWt,aB,seval,xJ]
   exact⟨t2,hlt,hT,aO.mk (by simp only[aB,seval])⟩
abbrev GG:=zi DL (zi aS (zi kH (zi mF tZ)))
theorem aOU(code:List Bt)(st:aA):aD prog 8 [bZ code] st (fun r st'=>(∃s:Sv,mM s∧r=dZ s)∧st'=st):=by
 refine aD.drop ?_
 refine wF [1000000] 1 func8 ntmps8 rfl rfl ?_
 intro _
 simp only[aB,seval,GG]
 intro b2 h2
 refine(aQD code _).mono ?_
 rintro _ _ ⟨c,bs',rfl,hn,rfl⟩
 have h2c:b2≠c:=by rintro rfl;rw[aA.aH] at hn;cases hn
 have hnc:st c=none:=by rw[aA.aJ _ _ h2c.symm] at hn;exact hn
 simp only[aB,seval]
 refine(aP4 bs' c 0 _ (by omega) fH.new).mono ?_
 rintro _ _ ⟨p1,r1,r2,rfl,s,hS,rfl⟩
 rw[dW]
 have hK:=mM.of hS
 unfold dZ
 simp only[aB,↓aU,seval,GG]
 refine(s9 bs' c p1 (by omega) 2 (by omega) (by omega) _ fH.new).mono ?_
 rintro _ _ ⟨k,hk,rfl,rfl⟩
 rw[dW]
 have e2:∀q,((st.aC b2 (.cells [.fslice [],.int .i64 0])).aC c (fO bs' q)) b2=some (.cells [.fslice [],.int .i64 0]):=fun q=>by rw[aA.aJ _ _ h2c,aA.aH]
 simp only[aB,seval]
 have kT:=fun st=>aRZ s hK 20 (by omega) st
 unfold dZ at kT
 refine aQ (fun h0=>?_) (fun h0=>?_)
 · simp only[aB,seval,GG]
   refine(kT _).mono ?_
   rintro _ _ ⟨⟨s2,hK2,rfl⟩,rfl⟩
   simp only[aG,e2,aB,seval,GG]
   exact⟨(((aL.refl _).aC h2).aC hnc).aC h2,s2,hK2,rfl⟩
 · simp only[aG,e2,aB,seval,GG]
   exact⟨(((aL.refl _).aC h2).aC hnc).aC h2,s,hK,rfl⟩
abbrev aJN:=zi aS (zi iE oL)
theorem aOZ(l:List Fr)(g:FuncId)(dB:List AV)(p:Fr→Bool)(st:aA)(hc:∀x∈l,aD prog g ([bO x]++dB) st (fun r st'=>r=.bool (p x)∧st'=st)) :
 aD prog 166 [.slice (l.map bO),.func g dB] st (fun r st'=>∃j:Int,r=.int .i64 j∧decide (0≤j)=l.any p∧st'=st):=by
 refine wF [] 2 func166 ntmps166 rfl rfl ?_
 simp only[dS,AV.fits,dU,aE]
 intro ⟨hl,_⟩
 simp only[aE,aB,seval,aJN]
 refine dX (σ:=Unit) [] [0,1,7] l (fun i _=>(l.drop i).any p=l.any p) (fun i _=>[(8,.int .i64 i)]) (fun _ _=>st) (by decide +kernel) ⟨(),rfl,aO.mk (by simp only[aB,↓aU,seval])⟩ (fun i x _ hx hlt bP hdr hinv=>?_) (fun _ hge hinv=>?_)
 case refine_2=>
  simp only[hge,aB,seval]
  rw[mJ] at hinv
  exact⟨-1,rfl,by rw[←hinv];try rfl⟩
 rw[hdr,t9] at hinv
 have hw:=bC (n:=(i:Int)+1)
 simp only[bP,bS (av:=bO) lC hx (qS x),wM,qS,aB,seval,aJN]
 refine(hc x (cQ hx)).to ?_
 simp only[aB,seval]
 refine aQ (fun h=>?_) (fun h=>?_)
 · simp only[aB,seval]
   exact⟨i,rfl,by rw[←hinv,h];simp⟩
 · rw[h,mT] at hinv
   simp only[aB,seval]
   exact⟨(),hinv,aO.mk (by simp only[hw,aB,seval])⟩
theorem aOQ(l:List Fr)(g:FuncId)(dB:List AV)(p:Fr→Bool)(st:aA)(hc:∀x∈l,aD prog g ([bO x]++dB) st (fun r st'=>r=.bool (p x)∧st'=st)) :
 aD prog 112 [.slice (l.map bO),.func g dB] st (fun r st'=>r=.bool (l.any p)∧st'=st):=by
 refine wF [] 2 func112 ntmps112 rfl rfl ?_
 intro _
 simp only[aB,seval]
 refine(aOZ l g dB p st hc).mono ?_
 rintro _ _ ⟨j,rfl,hj,rfl⟩
 simp only[hj,aB,seval]
abbrev a16:=zi bV oL
theorem aPB(f:Fr)(st:aA):aD prog 113 [bO f] st (fun r st'=>r=.bool (!iA f)∧st'=st):=by
 have hf:=fun s=>aPH f s
 obtain⟨k,s⟩:=f
 simp only[bO] at hf ⊢
 refine wF [1000000] 1 func113 ntmps113 rfl rfl ?_
 intro _
 simp only[aB,seval,a16]
 refine(hf _).to ?_
 simp only[aB,seval]
theorem aY1{st:aA}{b w:Nat}{l:List AV}(hf:∀(s:aA),bN s l l [])(hw:∀e∈l,e.width=w)(hb:l≠[]→st b=none):Made st (.slice l) (bK w b l) (a9 st b l):=by
 have:=aH4 (hf (a9 st b l)) hw
 rw[jO] at this
 refine⟨_,?_,?_,this,?_⟩
 · cases l<;>simp [nV]
 · intro x hx
   obtain⟨rfl,hne⟩:=FO.1 hx
   exact hb hne
 · intro x hx
   by_cases h:l= []
   · rw[h,rQ]
   · exact sU fun e=>hx (FO.2 ⟨e,h⟩)
theorem aMY{w b:Nat}{l:List AV}:∀b' w',bK w b l≠.mslice b' 0 0 w':=fun b' w'=>by
 cases l with
 | nil=>simp [bK]
 | cons y l=>simp [bK]
theorem aZG(l:List Bt)(st:aA)(hb:l.length≤4194304):aD prog 68 [bZ l] st (Made st (bZ l)):=by
 refine MB func68 ntmps68 rfl rfl (by kernel_rfl) (by show 1≤_;decide +kernel) ?_
 intro _
 refine uP (nW [1000000] (by decide +kernel) ?_)
 simp only[aB,seval]
 refine uP (uP (ML Q6 (by decide +kernel) (by decide +kernel) rfl fun c hc=>?_))
 refine nW [1000000] (by decide +kernel) ?_
 simp only[aB,seval]
 refine aQ (fun h=>?_) (fun h=>?_)
 · subst h
   have hn:l= []:=by
    rcases l with _ | ⟨x,l⟩
    · rfl
    · have:=hc (by simp);cases this
   subst hn
   simp only[aB,seval]
   exact⟨[],nR,by simp,by simp [bX],fun _ _=>rfl⟩
 · refine nW [1000000] (by decide +kernel) ?_
   simp only[aB,seval,kH]
   refine aM4 hb fun b hb'=>?_
   simp only[aB,seval]
   exact aY1 (fun s=>bN.flat (by simp [bJ,AV.flat])) (o5 l) hb'
theorem aZH(l:List Fr)(st:aA)(hb:l.length≤4194304):aD prog 40 [aT l] st (fun r st'=>Made st (aT l) r st'∧∀b w,r≠.mslice b 0 0 w):=by
 refine MB func40 ntmps40 rfl rfl (by kernel_rfl) (by show 1≤_;decide +kernel) ?_
 intro _
 refine uP (nW [1000000] (by decide +kernel) ?_)
 simp only[aB,seval]
 refine uP (uP (ML aK8 (by decide +kernel) (by decide +kernel) rfl fun c hc=>?_))
 refine nW [1000000] (by decide +kernel) ?_
 simp only[aB,seval]
 refine aQ (fun h=>?_) (fun h=>?_)
 · subst h
   have hn:l= []:=by
    rcases l with _ | ⟨x,l⟩
    · rfl
    · have:=hc (by simp);cases this
   subst hn
   simp only[aB,seval]
   exact⟨[],nR,by simp,by simp [bX],fun _ _=>rfl⟩
 · refine nW [1000000] (by decide +kernel) ?_
   simp only[aB,seval,iE]
   refine SP hb fun b hb'=>?_
   simp only[aB,seval]
   exact⟨aG9 hb',aMY⟩
theorem jN.K9{es:List AV}{st:aA}{i:Nat}{os:List AV}{bs:List Nat}{b c:Nat}{s:aA}(h:jN es st i os bs b s)(hc:st c≠none)(X:AO):jN es (st.aC c X) i os bs b (s.aC c X):=by
 obtain⟨h1,h2,h3,h4,h5,h6⟩:=h
 have hcb:∀q∈bs,q≠c:=fun q hq e=>hc (e▸h4 q hq)
 refine⟨h1,bN.aY _ _ _ (fun q hq=>aA.aJ _ _ (hcb q hq)) h2,h3,fun q hq=>by rw[aA.aJ _ _ (hcb q hq)];exact h4 q hq,fun hne=>?_,fun q h7 h8=>?_⟩
 · obtain⟨k1,k2,k3⟩:=h5 hne
   have:b≠c:=fun e=>hc (e▸k1)
   exact⟨by rw[aA.aJ _ _ this];exact k1,k2,by rw[aA.aJ _ _ this];exact k3⟩
 · by_cases e:q=c
   · subst e;rw[aA.aH,aA.aH]
   · rw[aA.aJ _ _ e,aA.aJ _ _ e];exact h6 q h7 h8
theorem jN.stay{es:List AV}{st:aA}{i:Nat}{os:List AV}{bs:List Nat}{b d:Nat}{s:aA}(h:jN es st i os bs b s)(hd:st d≠none):s d=st d:=by
 obtain⟨h1,h2,h3,h4,h5,h6⟩:=h
 exact h6 d (fun hq=>hd (h4 d hq)) fun hne e=>hd (e▸(h5 hne).1)
theorem jN.under{es:List AV}{st S:aA}{i:Nat}{os:List AV}{bs:List Nat}{b:Nat}{s:aA}(h:jN es S i os bs b s)(hS:∀y o,st y=some o→S y=some o):∃s2,aL s s2∧jN es st i os bs b s2:=by
 obtain⟨h1,h2,h3,h4,h5,h6⟩:=h
 have hn:∀y,S y=none→st y=none:=fun y hy=>by
  cases e:st y with
  | none=>rfl
  | some o=>rw[hS y o e] at hy;cases hy
 refine⟨fun y=>if y∈bs∨(os≠[]∧y=b) then s y else st y,fun y=>⟨fun hy=>?_,fun o hy=>?_⟩,h1,bN.aY _ _ _ (fun q hq=>aN (.inl hq)) h2,h3,fun q hq=>hn q (h4 q hq),fun hne=>?_,fun q h7 h8=>?_⟩
 · by_cases e:y∈bs∨(os≠[]∧y=b)
   · simp only[e,eN];exact hy
   · simp only[e,dA]
     simp only[not_or,not_and] at e
     rw[h6 y e.1 e.2] at hy
     exact hn y hy
 · by_cases e:y∈bs∨(os≠[]∧y=b)
   · simp only[e,eN] at hy;exact hy
   · simp only[e,dA] at hy
     simp only[not_or,not_and] at e
     rw[h6 y e.1 e.2]
     exact hS y o hy
 · obtain⟨k1,k2,k3⟩:=h5 hne
   exact⟨hn b k1,k2,by simp only[hne,ne_eq,FR,and_self,or_true,eN];exact k3⟩
 · refine aK ?_
   simp only[not_or,not_and]
   exact⟨h7,h8⟩
theorem aZ0{st:aA}{a0 a1 a2 a3 a4 a5 q0 q1 q2 q3 q4 q5:AV}{bs:List Nat}(h:bN st [a0,a1,a5,a2,a3,a4] [q0,q1,q5,q2,q3,q4] bs):∃bs',bs.Perm bs'∧bN st [a0,a1,a2,a3,a4,a5] [q0,q1,q2,q3,q4,q5] bs':=by
 simp only[bN] at h
 obtain⟨_,_,b0,_,e,rfl,h0,_,_,b1,_,rfl,rfl,h1,_,_,b5,_,rfl,rfl,h5,_,_,b2,_,rfl,rfl,h2,_,_,b3,_,rfl,rfl,h3,_,_,b4,_,rfl,rfl,h4,rfl,rfl⟩:=h
 simp only[List.cons.injEq,dU] at e
 obtain⟨rfl,rfl,rfl,rfl,rfl,rfl⟩:=e
 refine⟨b0++(b1++(b2++(b3++(b4++(b5++ []))))),?_,?_⟩
 · refine List.Perm.append_left _ (List.Perm.append_left _ ?_)
   have:=List.perm_append_comm (l₁:=b5) (l₂:=b2++(b3++(b4++ [])))
   simpa [p9] using this
 · simp only[bN]
   exact⟨_,_,b0,_,rfl,rfl,h0,_,_,b1,_,rfl,rfl,h1,_,_,b2,_,rfl,rfl,h2,_,_,b3,_,rfl,rfl,h3,_,_,b4,_,rfl,rfl,h4,_,_,b5,_,rfl,rfl,h5,rfl,rfl⟩
def nz3:AV→Prop
 | .agg (_::_::q::_)=>∀b w,q≠.mslice b 0 0 w
 | _=>True
abbrev rA:=zi aS (zi kH (zi nN (zi mF (zi iE (zi rE (zi jK (zi oK kI)))))))
set_option maxHeartbeats 1000000 in
theorem aRN(s:Sv)(aXH:s.cs.length≤1048576)(hb:∀c∈s.cs,o7 c)(st:aA):aD prog 36 [dZ s] st (fun r st'=>∃os bs b,r=.agg [bK 13 b os,.int .i64 s.quota]∧jN (s.cs.map bF) st s.cs.length os bs b st'∧∀o∈os,nz3 o):=by
 obtain⟨cs,qu⟩:=s
 simp only at hb aXH
 simp only[dZ]
 refine aD.o9 ?_
 refine wF [1000000,3,5] 1 func36 ntmps36 rfl rfl ?_
 intro _
 simp only[aG,aE,aB,↓aU,seval,rA]
 intro b2 hb2 c hc
 have hne:c≠b2:=by rintro rfl;rw[aA.aH] at hc;cases hc
 have hcn:st c=none:=by rw[aA.aJ st _ hne] at hc;exact hc
 generalize hS0:(st.aC b2 (.cells [.fslice [],.int .i64 0])).aC c (.cells [.fslice [],.int .i64 qu])=S0
 have hS2:S0 b2=some (.cells [.fslice [],.int .i64 0]):=by rw[←hS0,aA.aJ _ _ hne.symm,aA.aH]
 have hSc:S0 c≠none:=by rw[←hS0,aA.aH];simp
 have hSu:∀X,(S0.aC c X) c≠none:=fun X=>by rw[aA.aH];simp
 have hS:∀y o,st y=some o→S0 y=some o:=fun y o h=>by
  have h1:y≠b2:=by rintro rfl;rw[hb2] at h;cases h
  have h2:y≠c:=by rintro rfl;rw[hcn] at h;cases h
  rw[←hS0,aA.aJ _ _ h2,aA.aJ _ _ h1];exact h
 have aXT:S0.aC c (.cells [.fslice [],.int .i64 qu])=S0:=by rw[←hS0,dW]
 refine dX (σ:=List AV×List Nat×Nat×aA) [1000000,3,5] [2,3,10,11] cs (fun i p=>jN (cs.map bF) (S0.aC c (.cells [bK 13 p.2.2.1 p.1,.int .i64 qu])) i p.1 p.2.1 p.2.2.1 p.2.2.2∧∀o∈p.1,nz3 o) (fun i _=>[(12,.int .i64 i)]) (fun _ p=>p.2.2.2) (by decide +kernel)
  ⟨([],[],0,S0),⟨by simp only[j8,aXT];exact jN.start,by simp⟩,aO.mk (by simp only[aB,↓aU,seval])⟩ (fun i x p hx hlt bP hdr hinv=>?_) (fun p hge hinv=>?_)
 case refine_2=>
  obtain⟨os,bs,b,s⟩:=p
  obtain⟨hG,hz⟩:=hinv
  simp only at hG hz
  have es:s c=some (.cells [bK 13 b os,.int .i64 qu]):=(hG.stay (hSu _)).trans (aA.aH _ _ _)
  have es2:s b2=some (.cells [.fslice [],.int .i64 0]):=(hG.stay (by rw[aA.aJ _ _ hne.symm,hS2];simp)).trans (by rw[aA.aJ _ _ hne.symm,hS2])
  simp only[hge,aG,es,es2,iJ,aB,seval,rA]
  obtain⟨s2,d2,G2⟩:=(hG.K9 (c:=b2) (by rw[aA.aJ _ _ hne.symm,hS2];simp) (.cells [bK 13 b os,.int .i64 qu])).under (st:=st) (fun y o h=>by
   have h1:y≠b2:=by rintro rfl;rw[hb2] at h;cases h
   have h2:y≠c:=by rintro rfl;rw[hcn] at h;cases h
   rw[aA.aJ _ _ h1,aA.aJ _ _ h2];exact hS y o h)
  exact⟨s2,d2,os,bs,b,rfl,G2,hz⟩
 obtain⟨os,bs,b,s⟩:=p
 obtain⟨hG,hz⟩:=hinv
 simp only at hG hz
 have es:s c=some (.cells [bK 13 b os,.int .i64 qu]):=(hG.stay (hSu _)).trans (aA.aH _ _ _)
 have es2:s b2=some (.cells [.fslice [],.int .i64 0]):=(hG.stay (by rw[aA.aJ _ _ hne.symm,hS2];simp)).trans (by rw[aA.aJ _ _ hne.symm,hS2])
 have hat:=bS (av:=bF) pB hx (mY x)
 obtain⟨k1,k2,k3,⟨k4,k5⟩,⟨k6,k7⟩,k8,k9⟩:=hb x (cQ hx)
 have hxe:(cs.map bF)[i]?=some (bF x):=by rw[lK,hx];try rfl
 obtain⟨r,bk,wt,pr,ac,ss,td,ou⟩:=x
 simp only[bF,eR] at hat
 simp only at k1 k2 k3 k4 k5 k6 k7 k8 k9
 have hw:=bC (n:=(i:Int)+1)
 have hse:=fun st=>aZJ ss k6 k7 k8 k9 st
 unfold iZ at hse
 simp only[bP,aG,hat,aB,↓aU,seval,rA]
 intro b5 h5
 have C0:f9 s [b5] [] [] [] (s.aC b5 (.cells [bZ r,.bool bk,aT wt,.slice (pr.map aF),.bool ac,.slice (ss.p.map aF),.slice (ss.q.map Tm.av),.int .i64 ss.quota,.int .i64 ss.used,.int .i64 ss.sent,.int .i64 ss.fin,.bool td,aT ou])):=f9.start (fun d hd=>by simp only[cL,c8,dP] at hd;subst hd;exact⟨h5,by rw[aA.aH];simp⟩) (fun x hx=>aA.aJ _ _ (by simpa using hx))
 have stay:∀ {ee oo:List AV} {bb:List Nat} {s':aA},f9 s [b5] ee oo bb s'→∀d,s d≠none→s' d=s d:=fun C d hd=>C.aY d (fun h=>hd (C.fresh d h)) (by simp only[cL,c8,dP];rintro rfl;exact hd h5)
 have hbc:s c≠none:=by rw[es];simp
 refine(aZG r _ (by omega)).mono ?_
 rintro q0 s1 m1
 obtain⟨f1,bs1,C1⟩:=C0.made m1
 replace C1:f9 s [b5] [bZ r] [q0] bs1 s1:=C1
 have e1:=f1 b5 (by simp)
 rw[aA.aH] at e1
 obtain⟨c0,t0,g0,w0,j0⟩:=C1.own.vO rfl q0 (by simp)
 simp only[aG,e1,c0,t0,aB,seval,rA]
 have C1:=C1.aC (d:=b5) (by simp) (.cells [q0,.bool bk,aT wt,.slice (pr.map aF),.bool ac,.slice (ss.p.map aF),.slice (ss.q.map Tm.av),.int .i64 ss.quota,.int .i64 ss.used,.int .i64 ss.sent,.int .i64 ss.fin,.bool td,aT ou])
 have e1:(s1.aC b5 (.cells [q0,.bool bk,aT wt,.slice (pr.map aF),.bool ac,.slice (ss.p.map aF),.slice (ss.q.map Tm.av),.int .i64 ss.quota,.int .i64 ss.used,.int .i64 ss.sent,.int .i64 ss.fin,.bool td,aT ou])) b5=some (.cells [q0,.bool bk,aT wt,.slice (pr.map aF),.bool ac,.slice (ss.p.map aF),.slice (ss.q.map Tm.av),.int .i64 ss.quota,.int .i64 ss.used,.int .i64 ss.sent,.int .i64 ss.fin,.bool td,aT ou]):=aA.aH _ _ _
 generalize s1.aC b5 (.cells [q0,.bool bk,aT wt,.slice (pr.map aF),.bool ac,.slice (ss.p.map aF),.slice (ss.q.map Tm.av),.int .i64 ss.quota,.int .i64 ss.used,.int .i64 ss.sent,.int .i64 ss.fin,.bool td,aT ou])=t1 at *
 refine wX [(0,1),(1,1),(3,1),(4,1),(2,0),(6,1),(5,0),(7,2),(8,2),(9,2)] [0,1,3,4,6] (one b5 (.cells [q0,.bool bk,aT wt,.slice (pr.map aF),.bool ac,.slice (ss.p.map aF),.slice (ss.q.map Tm.av),.int .i64 ss.quota,.int .i64 ss.used,.int .i64 ss.sent,.int .i64 ss.fin,.bool td,aT ou])) mixed rfl (hJ e1) ?_
 simp only[FT,aB,seval,rA]
 refine(aZH wt _ (by omega)).mono ?_
 rintro q1 s2 ⟨m2,hnz⟩
 obtain⟨f2,bs2,C2⟩:=C1.made m2
 replace C2:f9 s [b5] [bZ r,aT wt] [q0,q1] bs2 s2:=C2
 have e2:=(f2 b5 (by simp)).trans e1
 obtain⟨c1,t1',g1,w1,j1⟩:=C2.own.vO rfl q1 (by simp)
 simp only[aB,seval,rA]
 refine⟨hJ e2,?_⟩
 refine(aHM ou _ (by omega)).mono ?_
 rintro q5 s3 m3
 obtain⟨f3,bs3,C3⟩:=C2.made m3
 replace C3:f9 s [b5] [bZ r,aT wt,aT ou] [q0,q1,q5] bs3 s3:=C3
 have e3:=(f3 b5 (by simp)).trans e2
 obtain⟨c5,t5,g5,w5,j5⟩:=C3.own.vO rfl q5 (by simp)
 simp only[aG,e3,c1,t1',c5,t5,dW,aA.aH,aB,seval,rA]
 refine⟨hJ e3,?_⟩
 have C3:=C3.aC (d:=b5) (by simp) (.cells [q0,.bool bk,q1,.slice (pr.map aF),.bool ac,.slice (ss.p.map aF),.slice (ss.q.map Tm.av),.int .i64 ss.quota,.int .i64 ss.used,.int .i64 ss.sent,.int .i64 ss.fin,.bool td,q5])
 have e3:(s3.aC b5 (.cells [q0,.bool bk,q1,.slice (pr.map aF),.bool ac,.slice (ss.p.map aF),.slice (ss.q.map Tm.av),.int .i64 ss.quota,.int .i64 ss.used,.int .i64 ss.sent,.int .i64 ss.fin,.bool td,q5])) b5=some (.cells [q0,.bool bk,q1,.slice (pr.map aF),.bool ac,.slice (ss.p.map aF),.slice (ss.q.map Tm.av),.int .i64 ss.quota,.int .i64 ss.used,.int .i64 ss.sent,.int .i64 ss.fin,.bool td,q5]):=aA.aH _ _ _
 generalize s3.aC b5 (.cells [q0,.bool bk,q1,.slice (pr.map aF),.bool ac,.slice (ss.p.map aF),.slice (ss.q.map Tm.av),.int .i64 ss.quota,.int .i64 ss.used,.int .i64 ss.sent,.int .i64 ss.fin,.bool td,q5])=t3 at *
 refine wX [(0,1),(1,1),(3,1),(4,1),(2,0),(6,1),(5,0),(7,2),(8,2),(9,2)] [0,1,3,4,6] (one b5 (.cells [q0,.bool bk,q1,.slice (pr.map aF),.bool ac,.slice (ss.p.map aF),.slice (ss.q.map Tm.av),.int .i64 ss.quota,.int .i64 ss.used,.int .i64 ss.sent,.int .i64 ss.fin,.bool td,q5])) mixed rfl (hJ e3) ?_
 simp only[FT,aB,seval,rA]
 refine(aHO pr _ k4 fun x hx s=>aHN x s (k5 x hx)).mono ?_
 rintro q2 s4 m4
 obtain⟨f4,bs4,C4⟩:=C3.made m4
 replace C4:f9 s [b5] [bZ r,aT wt,aT ou,.slice (pr.map aF)] [q0,q1,q5,q2] bs4 s4:=C4
 have e4:=(f4 b5 (by simp)).trans e3
 obtain⟨c2,t2,g2,w2,j2⟩:=C4.own.vO rfl q2 (by simp)
 simp only[aB,seval,rA]
 refine⟨hJ e4,?_⟩
 refine(hse _).mono ?_
 rintro r5 s5 m5
 obtain⟨f5,qs,bs5,rfl,C5⟩:=C4.aYZ m5
 obtain⟨q3,q4,rfl⟩:=aYN (qs:=qs) (by have:=C5.own.length;simpa [tL] using this)
 replace C5:f9 s [b5] [bZ r,aT wt,aT ou,.slice (pr.map aF),.slice (ss.p.map aF),.slice (ss.q.map Tm.av)] [q0,q1,q5,q2,q3,q4] bs5 s5:=C5
 have e5:=(f5 b5 (by simp)).trans e4
 obtain⟨c3,t3',g3,w3,j3⟩:=C5.own.vO rfl q3 (by simp)
 obtain⟨c4,t4,g4,w4,j4⟩:=C5.own.vO rfl q4 (by simp)
 simp only[vZ,tL,eN,iF,dA]
 simp only[aG,e5,c2,t2,t3',t4,dW,aA.aH,aB,seval,rA]
 refine⟨hJ e5,?_⟩
 have C6:=C5.aC (d:=b5) (by simp) (.cells [q0,.bool bk,q1,q2,.bool ac,q3,q4,.int .i64 ss.quota,.int .i64 ss.used,.int .i64 ss.sent,.int .i64 ss.fin,.bool td,q5])
 have e6:(s5.aC b5 (.cells [q0,.bool bk,q1,q2,.bool ac,q3,q4,.int .i64 ss.quota,.int .i64 ss.used,.int .i64 ss.sent,.int .i64 ss.fin,.bool td,q5])) b5=some (.cells [q0,.bool bk,q1,q2,.bool ac,q3,q4,.int .i64 ss.quota,.int .i64 ss.used,.int .i64 ss.sent,.int .i64 ss.fin,.bool td,q5]):=aA.aH _ _ _
 generalize s5.aC b5 (.cells [q0,.bool bk,q1,q2,.bool ac,q3,q4,.int .i64 ss.quota,.int .i64 ss.used,.int .i64 ss.sent,.int .i64 ss.fin,.bool td,q5])=s6 at *
 have ec:s6 c=some (.cells [bK 13 b os,.int .i64 qu]):=(stay C6 c hbc).trans es
 have ebk:os≠[]→s6 b=some (.cells (os.flatMap AV.cells)):=fun hn=>by
  have h:=(hG.2.2.2.2.1 hn).2.2
  rw[stay C6 b (by rw[h];simp),h]
 obtain⟨bx,hbx,hO6⟩:=aZ0 C6.own
 have hlen:os.length=i:=hG.1
 have FG:∀e∈os,e.width=13:=fun e he=>by
  obtain⟨k,hk,rfl⟩:=LU he
  exact hG.2.1.LE (fun q hq=>uW cs q (lY hq)) _ he
 have hos:(AV.agg [q0,.bool bk,q1,q2,.bool ac,q3,q4,.int .i64 ss.quota,.int .i64 ss.used,.int .i64 ss.sent,.int .i64 ss.fin,.bool td,q5]).cells.all AV.storable=true:=by
  show List.all [q0,.bool bk,q1,q2,.bool ac,q3,q4,.int .i64 ss.quota,.int .i64 ss.used,.int .i64 ss.sent,.int .i64 ss.fin,.bool td,q5] AV.storable=true
  simp only[iS,AD,t0,t1',t2,t3',t4,t5,xS,cZ]
  rfl
 simp only[e6,ec,sV,aB,seval,rA]
 refine MD (xs:=[.agg [q0,.bool bk,q1,q2,.bool ac,q3,q4,.int .i64 ss.quota,.int .i64 ss.used,.int .i64 ss.sent,.int .i64 ss.fin,.bool td,q5]]) pB NL NP rfl rfl (gN rfl hos) FG ebk (by simp only[aX,a8,hlen];omega) (by simp only[aX,a8,hlen];omega) (fun b' s' n1 n2 n3 n4=>?_)
 have ec':s' c=some (.cells [bK 13 b os,.int .i64 qu]):=by
  rw[n3 c (fun _ e=>?_) (fun hn e=>?_),ec]
  · rcases n2 (by simp) with ⟨h1,h2⟩ | h
    · have:=(hG.2.2.2.2.1 h2).1
      rw[←h1,←e,aA.aH] at this;cases this
    · rw[←e,ec] at h;cases h
  · have:=(hG.2.2.2.2.1 hn).1
    rw[←e,aA.aH] at this;cases this
 simp only[aG,ec',iJ,mU,hw,aB,seval,rA]
 have fC:=hG.step h5 (o:=.cells [q0,.bool bk,q1,q2,.bool ac,q3,q4,.int .i64 ss.quota,.int .i64 ss.used,.int .i64 ss.sent,.int .i64 ss.fin,.bool td,q5]) hxe (hbx.nodup_iff.1 C6.nd) (fun q hq=>?_) (aZY.2 ⟨q0,q1,q2,q3,q4,q5,rfl,hO6⟩) (fun q hq=>?_) (n1 (by simp)) (n2 (by simp)) (fun q h1 h2=>n3 q (fun _=>h1) h2) n4
 · have hT:=fC.K9 (hSu _) (.cells [bK 13 b' (os++ [.agg [q0,.bool bk,q1,q2,.bool ac,q3,q4,.int .i64 ss.quota,.int .i64 ss.used,.int .i64 ss.sent,.int .i64 ss.fin,.bool td,q5]]),.int .i64 qu])
   rw[dW] at hT
   refine⟨(os++ [.agg [q0,.bool bk,q1,q2,.bool ac,q3,q4,.int .i64 ss.quota,.int .i64 ss.used,.int .i64 ss.sent,.int .i64 ss.fin,.bool td,q5]],bs++bx,b',(s'.erase b5).aC c (.cells [bK 13 b' (os++ [.agg [q0,.bool bk,q1,q2,.bool ac,q3,q4,.int .i64 ss.quota,.int .i64 ss.used,.int .i64 ss.sent,.int .i64 ss.fin,.bool td,q5]]),.int .i64 qu])),⟨hT,fun o ho=>?_⟩,aO.drop ?_ (by simp only[aB,seval])⟩
   · rcases fG.1 ho with ho | ho
     · exact hz o ho
     · simp only[cL,c8,dP] at ho
       subst ho
       exact hnz
   · intro y
     dsimp only
     by_cases e1:y=c
     · subst e1;simp only[aA.aH];exact⟨fun h=>h,fun o h=>h⟩
     · rw[aA.aJ _ _ e1,aA.aJ _ _ e1];exact hH s' b5 y
 · have h1:=C6.fresh q (hbx.mem_iff.2 hq)
   have h2:q≠b5:=by rintro rfl;exact(C6.apart q (by simp)).2.1 (hbx.mem_iff.2 hq)
   rw[aA.aJ _ _ h2];exact h1
 · by_cases h2:q=b5
   · subst h2;rw[aA.aH];exact e6
   · rw[aA.aJ _ _ h2];exact C6.aY q (fun h=>hq (hbx.mem_iff.1 h)) (by simpa using h2)
theorem aZK(s:Sv)(h1:s.cs.length≤1048576)(h2:∀c∈s.cs,o7 c)(st:aA):aD prog 36 [dZ s] st (Made st (dZ s)):=by
 refine(aRN s h1 h2 st).mono ?_
 rintro r st' ⟨os,bs,b,rfl,hG,-⟩
 obtain⟨bs',m1,m2,m3,m4⟩:=hG.done (aE _) (uW _)
 exact⟨bs',m1,m2,aZZ.2 ⟨_,rfl,m3⟩,m4⟩
abbrev aJZ:=zi aS (zi bV (zi iE (zi rE (zi kI aKM))))
theorem aPE(c:cP)(st:aA):aD prog 34 [.pptr (bF c)] st (fun r st'=>r=.bool (!jR c)∧st'=st):=by
 obtain⟨r,bk,wt,pr,ac,ss,td,ou⟩:=c
 simp only[bF,eR,jR]
 have hw:decide ((wt.length:Int)=0)=wt.isEmpty:=by
  cases wt with
  | nil=>rfl
  | cons x w=>exact eM (by simp only[aX];omega)
 generalize wt.isEmpty=we at *
 cases ac<;>cases we<;>cases bk<;>cases td
 all_goals
  refine wF [1000000] 1 func34 ntmps34 rfl rfl ?_
  intro _
  simp only[eA,eK,dV,aE,hw,aB,seval,aJZ]
  repeat' (first
   | (simp only[*,aE,hw,aB,↓aU,seval,aJZ])
   | (refine cK (fun h=>?_) (fun h=>?_))
   | (refine aQ (fun h=>?_) (fun h=>?_)))
  all_goals first | rfl | skip
abbrev aJ3:=zi aS (zi bV (zi nN (zi mF kI)))
theorem aPM(s:Sv)(st:aA):aD prog 9 [dZ s] st (fun r st'=>r=.bool (!wG s)∧st'=st):=by
 obtain⟨cs,qu⟩:=s
 simp only[dZ,wG]
 refine wF [1000000] 1 func9 ntmps9 rfl rfl ?_
 simp only[dS,AV.fits,dU,aE]
 intro ⟨hl,_⟩
 simp only[aE,aB,seval,aJ3]
 refine dX (σ:=Unit) [1000000] [1,6] cs (fun i _=>(cs.drop i).any jR=cs.any jR) (fun i _=>[(2,.bool false),(7,.int .i64 i)]) (fun _ _=>st) (by decide +kernel) ⟨(),rfl,aO.mk (by simp only[aB,↓aU,seval])⟩ (fun i x _ hx hlt bP hdr hinv=>?_) (fun _ hge hinv=>?_)
 case refine_2=>
  rw[mJ] at hinv
  rw[←hinv]
  simp only[hge,aB,seval]
  rfl
 have hw:=bC (n:=(i:Int)+1)
 have hat:=bS (av:=bF) (P:=prog) pB hx (mY x)
 have hf:=fun s=>aPE x s
 rw[hdr,t9] at hinv
 simp only[bP,aZ,hat,aB,seval,aJ3]
 refine(hf _).to ?_
 cases hx2:jR x with
 | true=>
  rw[hx2,t8] at hinv
  rw[←hinv]
  simp only[eA,eK,aB,seval]
 | false=>
  rw[hx2,mT] at hinv
  simp only[eA,eK,hw,aB,seval]
  exact⟨(),hinv,aO.mk (by simp only[aB,seval])⟩
abbrev aJ2:=zi aS (zi bV (zi iE (zi rE (zi jK (zi oK kI)))))
theorem aO9(c:cP)(ha:c.act=false)(st:aA)(hr:c.rest.length≤1048576):aD prog 73 [bF c] st (fun r st'=>r=.bool (lB c)∧st'=st):=by
 obtain⟨r,bk,wt,pr,ac,ss,td,ou⟩:=c
 simp only at hr ha
 subst ha
 have hd:=fun s=>aPG r bk s (by omega)
 have hp:=fun s=>aPL pr s
 have hw:=fun s=>aOQ wt 113 [] (fun f=> !iA f) s fun x _=>aPB x s
 have ha:wt.any (fun f=> !iA f)= !(wt.all iA):=by rw[←EP,Bool.not_not]
 rw[ha] at hw
 simp only[bF,eR,lB]
 unfold o8 at hd
 generalize rY r bk=dv at *
 generalize fD pr=pv at *
 generalize wt.all iA=wv at *
 refine aD.jT ?_
 refine wF [1000000] 1 func73 ntmps73 rfl rfl ?_
 intro _
 simp only[aB,seval,aJ2]
 repeat' (first
  | (simp only[*,aB,seval,aJ2])
  | (refine cK (fun h=>?_) (fun h=>?_))
  | (refine(hd _).to ?_) | (refine(hp _).to ?_) | (refine(hw _).to ?_)
  | (refine aQ (fun h=>?_) (fun h=>?_)))
 all_goals first | exact aL.refl _ | (refine⟨?_,aL.refl _⟩;first | (simp_all;done))
abbrev a2G:=zi bV kI
theorem aPA(c:cP)(ha:c.act=false)(st:aA)(hr:c.rest.length≤1048576):aD prog 72 [bF c] st (fun r st'=>r=.bool (!lB c)∧st'=st):=by
 have hf:=fun s=>aO9 c ha s hr
 refine wF [1000000] 1 func72 ntmps72 rfl rfl ?_
 intro _
 simp only[UR,BP,mY,aB,seval,a2G]
 refine(hf _).to ?_
 simp only[aB,seval]
abbrev aJY:=zi aS (zi nN kI)
theorem aOY(l:List cP)(g:FuncId)(dB:List AV)(p:cP→Bool)(st:aA)(hc:∀x∈l,aD prog g ([bF x]++dB) st (fun r st'=>r=.bool (p x)∧st'=st)) :
 aD prog 111 [.slice (l.map bF),.func g dB] st (fun r st'=>∃j:Int,r=.int .i64 j∧decide (0≤j)=l.any p∧st'=st):=by
 refine wF [] 2 func111 ntmps111 rfl rfl ?_
 simp only[dS,AV.fits,dU,aE]
 intro ⟨hl,_⟩
 simp only[aE,aB,seval,aJY]
 refine dX (σ:=Unit) [] [0,1,7] l (fun i _=>(l.drop i).any p=l.any p) (fun i _=>[(8,.int .i64 i)]) (fun _ _=>st) (by decide +kernel) ⟨(),rfl,aO.mk (by simp only[aB,↓aU,seval])⟩ (fun i x _ hx hlt bP hdr hinv=>?_) (fun _ hge hinv=>?_)
 case refine_2=>
  simp only[hge,aB,seval]
  rw[mJ] at hinv
  exact⟨-1,rfl,by rw[←hinv];try rfl⟩
 rw[hdr,t9] at hinv
 have hw:=bC (n:=(i:Int)+1)
 simp only[bP,bS (av:=bF) pB hx (mY x),BP,mY,aB,seval,aJY]
 refine(hc x (cQ hx)).to ?_
 simp only[aB,seval]
 refine aQ (fun h=>?_) (fun h=>?_)
 · simp only[aB,seval]
   exact⟨i,rfl,by rw[←hinv,h];simp⟩
 · rw[h,mT] at hinv
   simp only[aB,seval]
   exact⟨(),hinv,aO.mk (by simp only[hw,aB,seval])⟩
theorem aOP(l:List cP)(g:FuncId)(dB:List AV)(p:cP→Bool)(st:aA)(hc:∀x∈l,aD prog g ([bF x]++dB) st (fun r st'=>r=.bool (p x)∧st'=st)) :
 aD prog 71 [.slice (l.map bF),.func g dB] st (fun r st'=>r=.bool (l.any p)∧st'=st):=by
 refine wF [] 2 func71 ntmps71 rfl rfl ?_
 intro _
 simp only[aB,seval]
 refine(aOY l g dB p st hc).mono ?_
 rintro _ _ ⟨j,rfl,hj,rfl⟩
 simp only[hj,aB,seval]
abbrev aJ0:=zi aS (zi bV (zi nN mF))
theorem aR1(s:Sv)(st:aA)(hr:∀c∈s.cs,c.rest.length≤1048576)(hi:∀c∈s.cs,c.act=false):aD prog 37 [dZ s] st (fun r st'=>r=.bool (lT s)∧st'=st):=by
 obtain⟨cs,qu⟩:=s
 simp only at hr hi
 have hc:=fun s=>aOP cs 72 [] (fun f=> !lB f) s fun x hx=>aPA x (hi x hx) s (hr x hx)
 have ha:cs.any (fun f=> !lB f)= !(cs.all lB):=by rw[←EP,Bool.not_not]
 rw[ha] at hc
 have hwi:=fun s=>wI qu 0 300 s
 simp only[dZ,lT]
 generalize cs.all lB=v at *
 have h4:decide ((cs.length:Int)≤4)=decide (cs.length≤4):=by rw[qM];omega
 refine aD.jT ?_
 refine wF [1000000] 1 func37 ntmps37 rfl rfl ?_
 intro _
 simp only[aE,h4,aB,seval,aJ0]
 repeat' (first
  | (simp only[*,aB,seval,aJ0])
  | (refine cK (fun h=>?_) (fun h=>?_))
  | (refine(hc _).to ?_) | (refine(hwi _).to ?_)
  | (refine aQ (fun h=>?_) (fun h=>?_)))
 all_goals first | exact aL.refl _ | (refine⟨?_,aL.refl _⟩;first | (simp_all;done))
abbrev aJ1:=zi aS (zi bV (zi gD (zi KP (zi cH (zi iE (zi rE (zi cB (zi oK (zi kI (zi oL (zi aKM (zi DM (zi QR KO)))))))))))))
theorem aR3(c:cP)(hb:jR c=false)(n q:Int)(st:aA):aD prog 38 [.pptr (bF c),.int .i64 n,.int .i64 q] st (fun r st'=>r=.tup []∧st'=st):=by
 obtain⟨r,bk,wt,pr,ac,ss,td,ou⟩:=c
 simp only[jR,LN] at hb
 obtain⟨rfl,hw,hbk⟩:=hb
 obtain rfl:wt= []:=by cases wt<;>simp_all
 simp only[bF,eR]
 cases bk<;>cases td
 all_goals first | (simp at hbk;done) | skip
 all_goals
  refine wF [1000000] 3 func38 ntmps38 rfl rfl ?_
  intro _
  simp only[eA,dV,bB,bE,a8,aB,seval,aJ1]
  repeat' (first
   | (simp only[*,aE,bE,a8,aB,↓aU,seval,aJ1])
   | (refine cK (fun h=>?_) (fun h=>?_))
   | (refine aQ (fun h=>?_) (fun h=>?_)))
  all_goals first | rfl | skip
abbrev xK:=zi aS (zi bV (zi nN (zi mF kI)))
theorem aPO(s:Sv)(hs:mM s)(hb:wG s=false)(n:Int)(st:aA):aD prog 11 [dZ s,.int .i64 n] st (fun r st'=>r=dZ s∧st'=st):=by
 obtain⟨h1,h2,h3,h4⟩:=hs.sm
 have hi:∀c∈s.cs,jR c=false:=fun c hc=>by
  have:=List.any_eq_false.1 hb c hc
  simpa using this
 have OQ:=fun st=>(aZK s h1 h3 st).made
 have eU:=fun st=>aR1 s st h2 (fun c hc=>by have:=hi c hc;simp only[jR,LN] at this;exact this.1)
 have htu:=fun c hc q st=>aR3 c (hi c hc) n q st
 obtain⟨cs,qu⟩:=s
 simp only[dZ] at OQ eU ⊢
 simp only at hi htu
 generalize lT ⟨cs,qu⟩=ok at *
 refine aD.jT ?_
 refine wF [1000000] 2 func11 ntmps11 rfl rfl ?_
 simp only[dS,AV.fits,dU,aE]
 intro _
 simp only[aB,seval,xK]
 intro b4 hb4
 refine(OQ _).to ?_
 by_cases hn:n<1
 · have hn':=bT hn
   simp only[hn',aZ,aG,aB,↓aU,seval,xK]
   exact(aL.refl _).aC hb4
 have hn':=bG hn
 simp only[hn',bB,aB,↓aU,seval,xK]
 refine(eU _).to ?_
 cases ok with
 | false=>
  simp only[eK,aG,aB,seval,xK]
  exact(aL.refl _).aC hb4
 | true=>
  simp only[eA,aE,aB,seval,xK]
  refine dX (σ:=Unit) [1000000] [1,4,5,19] cs (fun i _=>True) (fun i _=>[(20,.int .i64 i)]) (fun _ _=>st.aC b4 (.cells [.fslice [],.int .i64 0])) (by decide +kernel) ⟨(),trivial,aO.mk (by simp only[aB,↓aU,seval])⟩ (fun i x _ hx hlt bP hdr hinv=>?_) (fun _ hge hinv=>?_)
  case refine_2=>
   simp only[hge,aB,seval,xK]
   refine(OQ _).to ?_
   simp only[aG,aB,seval,xK]
   exact(aL.refl _).aC hb4
  have hw:=bC (n:=(i:Int)+1)
  have hat:=bS (av:=bF) (P:=prog) pB hx (mY x)
  have hf:=htu x (cQ hx) qu
  simp only[bP,aZ,aB,seval]
  refine wP [(0,1),(2,1),(4,1),(5,1),(1,2),(3,1),(6,2),(7,2)] [0,2,4,5,1,3,6,7] mixed ?_
  simp only[hat,aB,seval,xK]
  refine gG (hf _) ?_
  simp only[hw,aB,seval]
  exact⟨(),aO.mk (by simp only[aB,seval])⟩
abbrev KF:=zi aS (zi bV (zi iE oL))
theorem aRO(l:List Fr)(st:aA):aD prog 12 [aT l,aT l] st (fun r st'=>r=.bool true∧st'=st):=by
 refine wF [1000000] 2 func12 ntmps12 rfl rfl ?_
 simp only[dS,AV.fits,dU,aE]
 intro ⟨⟨hl,_⟩,_⟩
 simp only[dV,aZ,aE,aB,seval,KF]
 refine dX (σ:=Unit) [1000000] [0,1] l (fun i _=>True) (fun i _=>[(4,.bool false),(5,.int .i64 i)]) (fun _ _=>st) (by decide +kernel) ⟨(),trivial,aO.mk (by simp only[aB,↓aU,seval])⟩ (fun i x _ hx hlt bP hdr hinv=>?_) (fun _ hge hinv=>?_)
 case refine_2=>
  simp only[hge,aE,aB,seval,KF]
 have hw:=bC (n:=(i:Int)+1)
 have hat:=bS (av:=bO) (P:=prog) lC hx (qS x)
 obtain⟨k,t⟩:=x
 simp only[bO] at hat
 have aW4:dJ prog .neq 66 (.agg [.int .i64 k,.str t]) (.agg [.int .i64 k,.str t])=some (.bool false):=by
  have h:IK prog 66=true:=by kernel_rfl
  simp only[dJ,h,and_self,eN,aZ,eA,Bool.and_self]
 simp only[bP,aZ,aE,aB,seval,KF]
 refine MJ mixed (by decide +kernel) (by decide +kernel) ?_
 simp only[hw,hat,aW4,aB,seval,KF]
 exact⟨(),aO.mk (by simp only[aB,seval])⟩
abbrev pW:=zi aS (zi bV (zi kH (zi nN (zi mF iE))))
set_option maxHeartbeats 1000000 in
theorem aOW(code more:List Bt)(st:aA):aD prog 3 [.slice (code.map bJ),.slice (more.map bJ)] st (fun r _=>r=.bool true):=by
 refine wF [1000000] 2 func3 ntmps3 rfl rfl ?_
 simp only[dS,AV.fits,dU,aE]
 intro _
 by_cases hc:1048576<(code.length:Int)
 · have hc':=bT hc
   simp only[hc',aZ,dV,aE,aB,seval,pW]
 have hc':=bG hc
 by_cases hmo:1048576<(more.length:Int)
 · have hm':=bT hmo
   simp only[hc',hm',aZ,bB,dV,aE,aB,seval,pW]
 have hm':=bG hmo
 simp only[hc',hm',bB,dV,aE,aB,seval,pW]
 refine(aOU code _).mono ?_
 rintro _ s1 ⟨⟨s,hK,rfl⟩,rfl⟩
 obtain⟨g1,g2,g3,g4⟩:=hK.sm
 have hii:=fun s st=>aPM s st
 have hsi:=fun st=>UI s st
 have htu:=fun hb n st=>aPO s hK hb n st
 have hco:=fun(i:Nat) (x:cP) (hx:s.cs[i]?=some x) (st:aA)=>(aZI s (i:Int) st g1 (by
  have e:cout s (i:Int)=x.out:=by
   unfold cout
   rw[aN (by omega),gI,hx]
   try rfl
  rw[e]
  have:=(g4 x (cQ hx)).2.2
  omega)).made
 have hpg:=fun l st=>aRO l st
 unfold dZ at hii hsi htu hco ⊢
 simp only[aB,↓aU,seval,pW]
 refine(hii s _).to ?_
 simp only[aB,seval,pW]
 refine(hsi _).to ?_
 cases hb:wG s with
 | true=>
  simp only[eA,eK,dV,aB,seval,pW]
  refine(hsi _).to ?_
  rw[hb]
  simp only[eA,dV,aB,seval,pW]
 | false=>
  simp only[eA,eK,dV,aE,aB,seval,pW]
  refine(htu hb _ _).to ?_
  simp only[aB,↓aU,seval,pW]
  refine dX (σ:=Unit) [1000000] [5,7] s.cs (fun i _=>True) (fun i _=>[(4,.bool false),(8,.int .i64 i)]) (fun _ _=>s1) (by decide +kernel) ⟨(),trivial,aO.mk (by simp only[aB,↓aU,seval])⟩ (fun i x _ hx hlt bP hdr hinv=>?_) (fun _ hge hinv=>?_)
  case refine_2=>
   simp only[hge,aE,aB,seval,pW]
   refine(hii s _).to ?_
   rw[hb]
   simp only[eK,aB,seval]
  have hw:=bC (n:=(i:Int)+1)
  have hc:=hco i x hx
  simp only[bP,aZ,aE,aB,seval,pW]
  refine wP [(1,1),(4,1),(0,2),(2,2),(3,2),(5,2),(6,2),(7,1)] [1,4,0,2,3,5,6,7] mixed ?_
  simp only[aB,seval,pW]
  refine gG (hc _) ?_
  simp only[aB,seval,pW]
  refine gG (hc _) ?_
  simp only[aB,seval]
  refine gG (hpg _ _) ?_
  simp only[eA,hw,aB,seval]
  exact⟨(),aO.mk (by simp only[aB,seval])⟩
end Go.AW
namespace Go.AW
open Go.ChangeShapes Go.WideShapes Go.ChangeAt Go.RowKit
abbrev sA:aA:=fun _=>none
section
variable {H:Type} {enc:TypeId×Value→H} {P:Program} {w:World}
def Reads(enc:TypeId×Value→H)(P:Program)(w:World)(t n:Nat){α:Type}(av:α→AV):Prop:=
 ∀cs x,DataW.trod enc P w 0 (fun _=>true) true n t cs=some x→∃a:α,VC w.heap sA (av a) cs
theorem RR{h:a7}{st:aA}{b k:Nat}:∀ {es:List AV} {off:Nat},(∀e∈es,e.width=k)→(∀(i:Nat) e,es[i]?=some e→VE h st b (off+i*k) e)→cS h st b off es
 | [],_,_,_=>by simp [cS]
 | e::es,off,hw,h=>by
  simp only[cS]
  refine⟨by simpa [VE] using h 0 e rfl,RR (fun x hx=>hw x (by simp [hx])) fun i x hx=>?_⟩
  have:=h (i+1) x (by simpa using hx)
  rw[hw e (by simp),AI,←Nat.a1X k i] 
  exact this
where Nat.a1X (k i:Nat):(i+1)*k=k+i*k:=by rw[qA];omega
theorem UN{a:Addr}{v:Value}(h:w.cell? a=some v):a.spot=none∧a.block<w.heap.size∧cellAt w.heap a.block a.off=some v:=by
 unfold World.cell? at h
 split at h
 · rename_i c t fr hb
   split at h
   · cases h
   · rename_i hs
     refine⟨by simpa using hs,(LI.1 hb).1,by simp [cellAt,hb,h]⟩
 · cases h
theorem aSA{a:Addr}{n:Nat}{cs:List Value}(hs:a.spot=none)(h:w.cells? 0 a n=some cs):d8 w.heap a.block a.off cs∧cs.length=n:=by
 obtain⟨_,hl,hc⟩:=World.cells?_some h
 refine⟨?_,hl⟩
 have:∀(l:List Value) (k:Nat),(∀i,i<l.length→w.cell? (a.add (k+i))=l[i]?)→d8 w.heap a.block (a.off+k) l:=by
  intro l
  induction l with
  | nil=>intro _ _;trivial
  | cons v l ih=>
   intro k hk
   refine⟨?_,?_⟩
   · have:=(UN (hk 0 (by simp))).2.2
     obtain⟨b,off,sp⟩:=a
     simp only at hs
     subst hs
     simpa [Addr.mW] using this
   · have:=ih (k+1) (fun i hi=>by have:=hk (i+1) (by simp;omega);rw[show k+1+i=k+(i+1) by omega];simpa using this)
     simpa [AI] using this
 simpa using this cs 0 (fun i hi=>by simpa using hc i (by omega))
theorem a0R{t e n k:Nat}{α:Type}{av:α→AV}(ht:P.underlying t=some (.slice e))(hk:P.cellsOf e=k)(wR:0<k)(hw:∀a,(av a).width=k)(hr:∀m,m<n→Reads enc P w e m av) :
 Reads enc P w t n (fun l:List α=>.slice (l.map av)):=by
 intro cs x h
 rcases DataW.trod_slice ht h with ⟨rfl,_⟩ | ⟨a,len,cap,elems,rest,m,hm,rfl,rfl,_,hl,I4,hlen,hel,hsp,_⟩
 · exact⟨[],by simp only[bE];unfold VC;exact .inl ⟨⟨_,rfl⟩,rfl⟩⟩
 obtain⟨hrl,B5⟩:=hsp rfl
 rw[hk] at hel B5
 have get:∀i,i<cap→∃ds y,w.cells? 0 (a.add (i*k)) k=some ds∧DataW.trod enc P w 0 (fun _=>true) true m e ds=some y:=by
  intro i hi
  have hb:∃y,(w.cells? 0 (a.add (i*k)) k).bind (DataW.trod enc P w 0 (fun _=>true) true m e)=some y:=by
   by_cases hi':i<len
   · exact⟨elems[i]'(by omega),by rw[hel i hi'];simp [show i<elems.length by omega]⟩
   · have:=B5 (i - len) (by omega)
     rw[show len+(i - len)=i by omega] at this
     exact⟨rest[i - len]'(by omega),by rw[this];simp [show i - len<rest.length by omega]⟩
  obtain⟨y,hy⟩:=hb
  obtain⟨ds,h1,h2⟩:=Option.bind_eq_some_iff.1 hy
  exact⟨ds,y,h1,h2⟩
 by_cases hc0:cap=0
 · subst hc0
   obtain rfl:len=0:=by omega
   exact⟨[],by simp only[bE];unfold VC;exact .inl ⟨⟨_,rfl⟩,rfl⟩⟩
 obtain⟨ds0,_,hd0,_⟩:=get 0 (by omega)
 have aGU:a.spot=none∧a.block<w.heap.size:=by
  obtain⟨_,hl0,hc⟩:=World.cells?_some hd0
  have:=hc 0 wR
  have h0:ds0[0]?=some (ds0[0]'(by omega)):=by simp [hl0,wR]
  rw[h0] at this
  have:=UN this
  obtain⟨b,off,sp⟩:=a
  simp only[Nat.zero_mul] at this
  cases sp with
  | none=>exact⟨rfl,by simpa [Addr.mW] using this.2.1⟩
  | some s=>exact absurd this.1 (by simp [Addr.add])
 obtain⟨b,off,sp⟩:=a
 simp only at aGU
 obtain⟨rfl,hbl⟩:=aGU
 have val:∀i,i<len→∃v:α,VE w.heap sA b (off+i*k) (av v):=by
  intro i hi
  obtain⟨ds,y,h1,h2⟩:=get i (by omega)
  obtain⟨v,hv⟩:=hr m (by omega) ds y h2
  obtain⟨c1,c2⟩:=aSA (a:=(⟨b,off,none⟩:Addr).add (i*k)) (by simp [Addr.mW]) h1
  exact⟨v,ds,by simpa [Addr.mW] using c1,by rw[hw];exact c2,hv⟩
 have build:∀j,j≤len→∃l:List α,l.length=j∧∀(i:Nat) v,l[i]?=some v→VE w.heap sA b (off+i*k) (av v):=by
  intro j
  induction j with
  | zero=>intro _;exact⟨[],rfl,by simp⟩
  | succ j ih=>
   intro hj
   obtain⟨l,h1,h2⟩:=ih (by omega)
   obtain⟨v,hv⟩:=val j (by omega)
   refine⟨l++ [v],by simp [h1],fun i u hi=>?_⟩
   rw[List.getElem?_append] at hi
   split at hi
   · exact h2 i u hi
   · rename_i hge
     have:i=j:=by
      have:=(fM.1 hi).1
      simp at this
      omega
     subst this
     simp [h1] at hi
     subst hi
     exact hv
 obtain⟨l,h1,h2⟩:=build len (cX _)
 refine⟨l,?_⟩
 unfold VC
 refine .inr ⟨b,off,cap,by simp [h1],by simp [h1];exact hl,I4,rfl,hbl,aTQ hw l,RR (k:=k) (by intro e he;simp only[cM] at he;obtain⟨v,_,rfl⟩:=he;exact hw v) fun i e he=>?_⟩
 rw[lK] at he
 obtain⟨v,hv,rfl⟩:=Option.map_eq_some_iff.1 he
 exact h2 i v hv
theorem aIK{t:TypeId}{α:Type}{av:α→AV}{v:Value}{d:DataW H}{ps:List MemPlace}(hr:∀n,Reads enc P w t n av)(hag:∀a,(av a).isAgg=jY v)(h:DataW.Trod enc P w 0 (fun _=>true) true t v d ps) :
 ∃a:α,aM w.heap sA (av a) v:=by
 obtain⟨n,hn⟩:=h
 obtain⟨a,ha⟩:=hr n _ _ hn
 refine⟨a,?_⟩
 have:=hag a
 cases hq:av a<;>rw[hq] at ha this<;>first | trivial | exact⟨this,ha⟩
theorem aK0(hl:laidOutB P=true){W W':World}{sp:Nat→Bool}:∀ {ts:List TypeId} {vs:List Value} {ds:List (DataW H)} {ps:List MemPlace},(ts.all fun t=>P.readableRec t&&decide (t<P.types.size))=true →
 DataW.TrodAll enc P W 0 (fun _=>true) true ts vs ds ps→(∀x∈ps,W.sameAt W' x)→(∀x∈ps,sp x.block=true)→DataW.TrodAll enc P W' 0 sp true ts vs ds ps
 | [],vs,ds,ps,_,h,_,_=>by
  cases vs<;>cases ds<;>simp [DataW.TrodAll] at h ⊢
  exact h
 | t::ts,vs,ds,ps,ht,h,h1,h2=>by
  obtain⟨v,vs',d,ds',p,q,rfl,rfl,rfl,hd,B5⟩:=trodAll_cons h
  simp only[iS,bD,bA] at ht
  refine⟨p,q,Go.WideElems.Trod_stays hl ht.1.1 ht.1.2 hd (fun x hx=>h1 x (by simp [hx])) (fun x hx=>h2 x (by simp [hx])),aK0 hl ht.2 B5 (fun x hx=>h1 x (by simp [hx])) (fun x hx=>h2 x (by simp [hx])),rfl⟩
theorem aOA{W W':World}{st':aA}(T:bQ W.heap sA W'.heap st')(s:eD W W'):Below W.heap.size W W':=
 ⟨s.1,s.2.1,s.2.2,T.size,fun k hk=>(T.aY k hk rfl).1⟩
theorem aYJ{f:Func}{g:FuncId}{s:ChangeSpec}{W:World}{args:Array Value}{ds:List (DataW H)}{before:List MemPlace}{avs:List AV}{tb:TypeId}
 (hl:laidOutB P=true) (hts:(f.params.toList.all fun t=>P.readableRec t&&decide (t<P.types.size))=true) (hrt:f.resultTypes= #[tb]) (htb:P.underlying tb=some .bool) (hsv:s.vars= [])
 (hW:DataW.Whole enc P f.params.toList [] false W args.toList ds [] before) (hfn:s.fn H ds= { results:=[.lit (.bool true)],args:=ds }) (aXP:cO W.heap sA avs args.toList)
 (hc:aD P g avs sA (fun r _=>r=.bool true)) :
 Calls P g args W fun e W'=>∃v,e=.returned v∧s.post enc P f false true false false W args v W':=by
 have hS:cA W.heap sA:=fun b o h=>by cases h
 have:=hc.2 W args.toList hS aXP
 simp only[p8] at this
 refine this.mono ?_
 rintro e W' ⟨v,r,st',rfl,hv,_,T,sm,rfl⟩
 refine⟨v,rfl,?_⟩
 have hB:=aOA T sm
 rw[hv.yD]
 have hW':DataW.Whole enc P f.params.toList s.vars false W args.toList ds [] before:=by rw[hsv];exact hW
 obtain⟨p,q,hA,hV,rfl,hz,_⟩:=hW
 obtain⟨_,rfl⟩:=trodVars_none hV
 have hlt:∀x∈p,x.block<W.heap.size:=fun x hx=>hW'.lt x (by simp [hx])
 have aGR:∀(b:Nat) (sp:Nat→Bool) (hd:Bool),DataW.TrodAll enc P W' b sp hd f.resultTypes.toList ((Value.bool true).resultList f.resultTypes.size) (s.fn H (ds++ [])).results []:=fun _ _ _=>by
  rw[jO,hfn,hrt]
  exact trodAll_mk1 (shut_bool htb true)
 have pK:∀sp:Nat→Bool,(∀x∈p,sp x.block=true)→DataW.TrodAll enc P W' 0 sp true f.params.toList args.toList (s.fn H (ds++ [])).args p:=fun sp hsp=>by
  rw[jO,hfn]
  exact aK0 hl hts hA (fun x hx=>hB.same (hlt x hx)) hsp
 have aGX:∀sp:Nat→Bool,DataW.TrodVars enc P W' sp s.vars (s.fn H (ds++ [])).vars []:=fun sp=>by
  rw[jO,hfn,hsv]
  exact rfl
 refine⟨ds,[],p++ [],[],p,[],hW',aGR _ _ _,pK _ (fun x hx=>by simpa using hlt x hx),aGX _,World.keptBut_mono (fun x hx=>⟨hx,by simpa using hx⟩) (hB.frame (·∈p++ [])),fun _=>?_⟩
 refine⟨ok_one hrt rfl (okWide_bool_mk htb true),_,_,([]++p)++ [],⟨[]++p,[],trodAll_append (pK _ (fun _ _=>rfl)) (aGR _ _ _),aGX _,rfl,?_,?_⟩,?_⟩
 · intro b off hp
   have hp':MemPlace.cell b off∈p:=by simpa using hp
   rw[hB.frozen (p:=⟨b,off,none⟩) (hlt _ hp')]
   exact hz b off (by simpa using hp')
 · intro ha;cases ha
 · intro x hx _
   simpa using hx
end
end Go.AW

