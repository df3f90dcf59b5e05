/- The abstract values and the relation between them and a heap: no function of the program is mentioned here. -/
import Derived.WalkKit
set_option linter.unusedSimpArgs false
set_option linter.unusedVariables false
set_option maxRecDepth 100000
namespace Go.AW
theorem aE:type_of% @List.length_map.{0,0}:=@List.length_map
theorem aK:type_of% @if_neg.{1}:=@if_neg
theorem aN:type_of% @if_pos.{1}:=@if_pos
theorem aX:type_of% @List.length_cons.{0}:=@List.length_cons
theorem aZ:type_of% @decide_true:=@decide_true
theorem a8:type_of% @List.length_nil.{0}:=@List.length_nil
theorem bA:type_of% @decide_eq_true_eq:=@decide_eq_true_eq
theorem bB:type_of% @decide_false:=@decide_false
theorem bD:type_of% @Bool.and_eq_true:=@Bool.and_eq_true
theorem bE:type_of% @List.map_nil.{0,0}:=@List.map_nil
theorem bG:type_of% @eq_false:=@eq_false
theorem bL:type_of% @List.map_cons.{0,0}:=@List.map_cons
theorem bT:type_of% @eq_true:=@eq_true
theorem cL:type_of% @List.mem_cons.{0}:=@List.mem_cons
theorem cM:type_of% @List.mem_map.{0,0}:=@List.mem_map
theorem cQ:type_of% @List.mem_of_getElem?.{0}:=@List.mem_of_getElem?
theorem cX:type_of% @Nat.le_refl:=@Nat.le_refl
theorem cZ:type_of% @Bool.true_and:=@Bool.true_and
theorem c6:type_of% @List.all_eq_true.{0}:=@List.all_eq_true
theorem c8:type_of% @List.not_mem_nil.{0}:=@List.not_mem_nil
theorem dA:type_of% @if_false.{1}:=@if_false
theorem dC:type_of% @decide_eq_false_iff_not:=@decide_eq_false_iff_not
theorem dK:type_of% @List.length_take.{0}:=@List.length_take
theorem dL:type_of% @List.nil_append.{0}:=@List.nil_append
theorem dM:type_of% @Ne.symm.{1}:=@Ne.symm
theorem dO:type_of% @List.length_append.{0}:=@List.length_append
theorem dP:type_of% @or_false:=@or_false
theorem dU:type_of% @and_true:=@and_true
theorem dV:type_of% @beq_self_eq_true.{0}:=@beq_self_eq_true
theorem d6:type_of% @List.take_length.{0}:=@List.take_length
theorem d9:type_of% @decide_eq_true:=@decide_eq_true
theorem eA:type_of% @Bool.not_true:=@Bool.not_true
theorem eJ:type_of% @Bool.false_and:=@Bool.false_and
theorem eK:type_of% @Bool.not_false:=@Bool.not_false
theorem eL:type_of% @List.getElem?_eq_getElem.{0}:=@List.getElem?_eq_getElem
theorem eM:type_of% @decide_eq_false:=@decide_eq_false
theorem eN:type_of% @if_true.{1}:=@if_true
theorem eS:type_of% @List.take_add_one.{0}:=@List.take_add_one
theorem fG:type_of% @List.mem_append.{0}:=@List.mem_append
theorem fM:type_of% @List.getElem?_eq_some_iff.{0}:=@List.getElem?_eq_some_iff
theorem fU:type_of% @List.cons_append.{0}:=@List.cons_append
theorem gI:type_of% @Int.toNat_natCast:=@Int.toNat_natCast
theorem iF:type_of% @Bool.false_eq_true:=@Bool.false_eq_true
theorem iI:type_of% @Nat.zero_le:=@Nat.zero_le
theorem iS:type_of% @List.all_cons.{0}:=@List.all_cons
theorem i9:type_of% @Bool.not_eq_true':=@Bool.not_eq_true'
theorem jO:type_of% @List.append_nil.{0}:=@List.append_nil
theorem jP:type_of% @List.mem_cons_self.{0}:=@List.mem_cons_self
theorem j6:type_of% @List.length_drop.{0}:=@List.length_drop
theorem j7:type_of% @Nat.zero_add:=@Nat.zero_add
theorem kK:type_of% @Nat.lt_or_ge:=@Nat.lt_or_ge
theorem kZ:type_of% @Bool.or_eq_true:=@Bool.or_eq_true
theorem lK:type_of% @List.getElem?_map.{0,0}:=@List.getElem?_map
theorem lX:type_of% @Int.ofNat_lt:=@Int.ofNat_lt
theorem lY:type_of% @List.mem_of_mem_take.{0}:=@List.mem_of_mem_take
theorem lZ:type_of% @Nat.le_trans:=@Nat.le_trans
theorem mJ:type_of% @List.drop_length.{0}:=@List.drop_length
theorem mK:type_of% @List.take_zero.{0}:=@List.take_zero
theorem mL:type_of% @Option.some.inj.{0}:=@Option.some.inj
theorem mS:type_of% @Array.mem_toList_iff.{0}:=@Array.mem_toList_iff
theorem mT:type_of% @Bool.false_or:=@Bool.false_or
theorem nR:type_of% @List.nodup_nil.{0}:=@List.nodup_nil
theorem oQ:type_of% @List.eq_nil_of_length_eq_zero.{0}:=@List.eq_nil_of_length_eq_zero
theorem oR:type_of% @List.take_of_length_le.{0}:=@List.take_of_length_le
theorem oS:type_of% @Nat.min_eq_left:=@Nat.min_eq_left
theorem oT:type_of% @Option.map_some.{0,0}:=@Option.map_some
theorem p8:type_of% @Array.toArray_toList.{0}:=@Array.toArray_toList
theorem p9:type_of% @List.append_assoc.{0}:=@List.append_assoc
theorem qA:type_of% @Nat.succ_mul:=@Nat.succ_mul
theorem qM:type_of% @decide_eq_decide:=@decide_eq_decide
theorem rI:type_of% @Bool.and_false:=@Bool.and_false
theorem rJ:type_of% @Bool.not_eq_false':=@Bool.not_eq_false'
theorem rM:type_of% @List.map_append.{0,0}:=@List.map_append
theorem rX:type_of% @congrArg.{1,1}:=@congrArg
theorem sI:type_of% @true_and:=@true_and
theorem sN:type_of% @List.drop_zero.{0}:=@List.drop_zero
theorem t8:type_of% @Bool.true_or:=@Bool.true_or
theorem t9:type_of% @List.any_cons.{0}:=@List.any_cons
theorem uA:type_of% @List.drop_eq_getElem_cons.{0}:=@List.drop_eq_getElem_cons
theorem uB:type_of% @List.flatMap_append.{0,0}:=@List.flatMap_append
theorem uC:type_of% @List.foldl_cons.{0,0}:=@List.foldl_cons
theorem uD:type_of% @List.getElem?_eq_none.{0}:=@List.getElem?_eq_none
theorem uE:type_of% @List.take_succ_cons.{0}:=@List.take_succ_cons
theorem uF:type_of% @Nat.lt_of_lt_of_le:=@Nat.lt_of_lt_of_le
theorem uG:type_of% @Nat.mod_lt:=@Nat.mod_lt
theorem v5:type_of% @Bool.or_true:=@Bool.or_true
theorem v6:type_of% @Int.eq_ofNat_of_zero_le:=@Int.eq_ofNat_of_zero_le
theorem v8:type_of% @List.getElem?_toArray.{0}:=@List.getElem?_toArray
theorem v9:type_of% @Nat.add_mul:=@Nat.add_mul
theorem wA:type_of% @Nat.mul_le_mul_right:=@Nat.mul_le_mul_right
theorem xS:type_of% @Bool.and_true:=@Bool.and_true
theorem xU:type_of% @List.mem_range:=@List.mem_range
theorem xV:type_of% @List.nodup_append.{0}:=@List.nodup_append
theorem yG:type_of% @cond_false.{1}:=@cond_false
theorem z9:type_of% @Array.mem_of_getElem?.{0}:=@Array.mem_of_getElem?
theorem AA:type_of% @Array.setIfInBounds_comm.{0}:=@Array.setIfInBounds_comm
theorem AC:type_of% @List.all_append.{0}:=@List.all_append
theorem AD:type_of% @List.all_nil.{0}:=@List.all_nil
theorem AE:type_of% @List.flatMap_cons.{0,0}:=@List.flatMap_cons
theorem AG:type_of% @List.map_congr_left.{0,0}:=@List.map_congr_left
theorem AH:type_of% @List.mem_cons_of_mem.{0}:=@List.mem_cons_of_mem
theorem AI:type_of% @Nat.add_assoc:=@Nat.add_assoc
theorem AJ:type_of% @Nat.mul_one:=@Nat.mul_one
theorem DV:type_of% @Bool.or_false:=@Bool.or_false
theorem DW:type_of% @List.getElem?_of_mem.{0}:=@List.getElem?_of_mem
theorem DX:type_of% @List.pairwise_cons.{0}:=@List.pairwise_cons
theorem DY:type_of% @List.takeWhile_cons.{0}:=@List.takeWhile_cons
theorem DZ:type_of% @List.take_append_drop.{0}:=@List.take_append_drop
theorem D0:type_of% @Nat.add_zero:=@Nat.add_zero
theorem D1:type_of% @Nat.mod_eq_of_lt:=@Nat.mod_eq_of_lt
theorem D3:type_of% @Option.getD_some.{0}:=@Option.getD_some
theorem D4:type_of% @Option.map_none.{0,0}:=@Option.map_none
theorem FR:type_of% @not_false_eq_true:=@not_false_eq_true
theorem G4:type_of% @Array.getElem?_modify.{0}:=@Array.getElem?_modify
theorem G5:type_of% @Bool.eq_iff_iff:=@Bool.eq_iff_iff
theorem G6:type_of% @Classical.byContradiction:=@Classical.byContradiction
theorem G7:type_of% @List.any_eq_true.{0}:=@List.any_eq_true
theorem G8:type_of% @List.drop_eq_nil_of_le.{0}:=@List.drop_eq_nil_of_le
theorem G9:type_of% @List.ext_getElem?.{0}:=@List.ext_getElem?
theorem HA:type_of% @List.foldl_append.{0,0}:=@List.foldl_append
theorem HB:type_of% @List.set_eq_take_append_cons_drop.{0}:=@List.set_eq_take_append_cons_drop
theorem HC:type_of% @List.take_append_of_le_length.{0}:=@List.take_append_of_le_length
theorem HD:type_of% @List.take_take.{0}:=@List.take_take
theorem JN:type_of% @not_true_eq_false:=@not_true_eq_false
theorem LH:type_of% @Array.eq_empty_of_size_eq_zero.{0}:=@Array.eq_empty_of_size_eq_zero
theorem LI:type_of% @Array.getElem?_eq_some_iff.{0}:=@Array.getElem?_eq_some_iff
theorem LJ:type_of% @Array.mem_iff_getElem?.{0}:=@Array.mem_iff_getElem?
theorem LK:type_of% @BitVec.ofInt_natCast:=@BitVec.ofInt_natCast
theorem LM:type_of% @BitVec.toNat_ofNat:=@BitVec.toNat_ofNat
theorem LN:type_of% @Bool.or_eq_false_iff:=@Bool.or_eq_false_iff
theorem LP:type_of% @Int.tmod_lt_of_pos:=@Int.tmod_lt_of_pos
theorem LQ:type_of% @List.getElem?_append_right.{0}:=@List.getElem?_append_right
theorem LR:type_of% @List.getElem?_cons_succ.{0}:=@List.getElem?_cons_succ
theorem LS:type_of% @List.getElem?_cons_zero.{0}:=@List.getElem?_cons_zero
theorem LT:type_of% @List.getElem?_drop.{0}:=@List.getElem?_drop
theorem LU:type_of% @List.getElem_of_mem.{0}:=@List.getElem_of_mem
theorem LV:type_of% @List.length_singleton.{0}:=@List.length_singleton
theorem LW:type_of% @List.mem_singleton.{0}:=@List.mem_singleton
theorem LX:type_of% @List.replicate_succ.{0}:=@List.replicate_succ
theorem LY:type_of% @Option.toList_some.{0}:=@Option.toList_some
theorem RE:type_of% @Array.getElem?_setIfInBounds_ne.{0}:=@Array.getElem?_setIfInBounds_ne
theorem RF:type_of% @List.getD_eq_getElem?_getD.{0}:=@List.getD_eq_getElem?_getD
theorem RH:type_of% @List.getElem?_append_left.{0}:=@List.getElem?_append_left
theorem RI:type_of% @List.getLast?_eq_getElem?.{0}:=@List.getLast?_eq_getElem?
theorem RJ:type_of% @List.mem_or_eq_of_mem_set.{0}:=@List.mem_or_eq_of_mem_set
inductive AV where
 | junk
 | undef
 | int (k:IntKind) (n:Int)
 | bool (b:Bool)
 | str (s:ByteArray)
 | agg (cs:List AV)
 | tup (vs:List AV)
 | slice (es:List AV)
 | fslice (es:List AV)
 | mslice (b off len st:Nat)
 | nilptr
 | ptr (b off:Nat)
 | pptr (e:AV)
 | nilmap
 | map (b:Nat)
 | func (f:FuncId) (dB:List AV)
 | raw (v:Value)
 | eslice
 deriving Inhabited
def AV.isAgg:AV→Bool
 | .agg _=>true
 | _=>false
def AV.width:AV→Nat
 | .agg cs=>cs.length
 | _=>1
def AV.cells:AV→List AV
 | .agg cs=>cs
 | a=>[a]
def gW(es:List AV):Prop:=∃n,∀e∈es,e.width=n
def jY:Value→Bool
 | .agg _=>true
 | _=>false
inductive AO where
 | cells (cs:List AV)
 | map (f:Int→Option AV)
 | tab (cs:Array Value)
abbrev aA:=Nat→Option AO
def aA.aC(st:aA)(b:Nat)(o:AO):aA:=fun x=>if x=b then some o else st x
def aA.erase(st:aA)(b:Nat):aA:=fun x=>if x=b then none else st x
theorem aA.aH(st:aA)(b:Nat)(o:AO):st.aC b o b=some o:=by simp [aA.aC]
theorem aA.aJ(st:aA){b x:Nat}(o:AO)(h:x≠b):st.aC b o x=st x:=by simp [aA.aC,h]
theorem dW(st:aA)(b:Nat)(o o':AO):(st.aC b o).aC b o'=st.aC b o':=by
 funext x;simp only[aA.aC];split<;>rfl
theorem aA.yI(st:aA)(b:Nat)(o:AO)(h:st b=none):(st.aC b o).erase b=st:=by
 funext x;simp only[aA.aC,aA.erase];split
 · rename_i e;rw[e,h]
 · rfl
theorem aA.VA(st:aA)(b:Nat):st.erase b b=none:=by simp [aA.erase]
theorem aA.aTB(st:aA){b x:Nat}(h:st x=none):st.erase b x=none:=by simp [aA.erase,h]
theorem aA.sK(st:aA){b c:Nat}(o p:AO)(h:b≠c):(st.aC b o).aC c p=(st.aC c p).aC b o:=by
 funext x;simp only[aA.aC];split<;>split<;>simp_all
abbrev a7:=Array Obj
def cellAt(h:a7)(b off:Nat):Option Value:=
 match h[b]? with
 | some (.cells c _ _)=>c[off]?
 | _=>none
def d8(h:a7)(b:Nat):Nat→List Value→Prop
 | _,[]=>True
 | off,v::vs=>cellAt h b off=some v∧d8 h b (off+1) vs
mutual
def VC(h:a7)(st:aA):AV→List Value→Prop
 | .junk,cs=>cs.length=1
 | .undef,cs=>cs= [undef]
 | .int k n,cs=>cs= [.int k n]
 | .bool b,cs=>cs= [.bool b]
 | .str s,cs=>cs= [.string s]∧s.size≤maxLen
 | .agg as,cs=>aR h st as cs
 | .tup as,cs=>∃vs:List Value,cs= [.tuple vs.toArray]∧c7 h st as vs
 | .slice es,cs=>((∃p,cs= [.slice p 0 0])∧es= [])∨∃b off cap,cs= [.slice (some ⟨b,off,none⟩) es.length cap]∧es.length≤cap∧cap≤maxLen∧st b=none∧b<h.size∧gW es∧cS h st b off es
 | .fslice es,cs=>((∃p,cs= [.slice p 0 0])∧es= [])∨∃b off,cs= [.slice (some ⟨b,off,none⟩) es.length es.length]∧es.length≤maxLen∧st b=none∧b<h.size∧gW es∧cS h st b off es
 | .mslice b off len n,cs=>∃cap,cs= [.slice (some ⟨b,off,none⟩) len cap]∧len≤cap∧cap≤maxLen∧∃c t,h[b]?=some (.cells c t (0,0))∧off+cap*n≤c.size
 | .nilptr,cs=>cs= [.pointer none]
 | .ptr b off,cs=>cs= [.pointer (some ⟨b,off,none⟩)]
 | .pptr e,cs=>∃b off,cs= [.pointer (some ⟨b,off,none⟩)]∧st b=none∧b<h.size∧∃vs,d8 h b off vs∧vs.length=e.width∧VC h st e vs
 | .nilmap,cs=>cs= [.map none]
 | .map b,cs=>cs= [.map (some b)]
 | .func f as,cs=>∃vs:List Value,cs= [.func (.func f) #[] vs.toArray]∧c7 h st as vs
 | .raw v,cs=>cs= [v]∧jY v=false
 | .eslice,cs=>∃p c,cs= [.slice p 0 c]
def aR(h:a7)(st:aA):List AV→List Value→Prop
 | [],cs=>cs= []
 | a::as,cs=>∃c r,cs=c::r∧VC h st a [c]∧aR h st as r
def c7(h:a7)(st:aA):List AV→List Value→Prop
 | [],vs=>vs= []
 | a::as,vs=>∃v r,vs=v::r∧(a.isAgg=jY v∧VC h st a v.cells.toList)∧c7 h st as r
def cS(h:a7)(st:aA)(b:Nat):Nat→List AV→Prop
 | _,[]=>True
 | off,a::as=>(∃cs,d8 h b off cs∧cs.length=a.width∧VC h st a cs)∧cS h st b (off+a.width) as
end
def VE(h:a7)(st:aA)(b off:Nat)(a:AV):Prop:=∃cs,d8 h b off cs∧cs.length=a.width∧VC h st a cs
def aM(h:a7)(st:aA):AV→Value→Prop
 | .junk,_=>True
 | a,v=>a.isAgg=jY v∧VC h st a v.cells.toList
structure bQ (h:a7) (st:aA) (h':a7) (st':aA):Prop where
 size:h.size≤h'.size
 aY:∀b,b<h.size→st b=none→h'[b]?=h[b]?∧st' b=none
 shape:∀(b:Nat) c t fr,h[b]?=some (.cells c t fr)→∃c',h'[b]?=some (.cells c' t fr)∧c'.size=c.size
theorem bQ.refl(h:a7)(st:aA):bQ h st h st:=⟨cX _,fun _ _ e=>⟨rfl,e⟩,fun _ c _ _ e=>⟨c,e,rfl⟩⟩
theorem bQ.trans{h h' h'':a7}{st st' GA:aA}(x:bQ h st h' st')(y:bQ h' st' h'' GA):bQ h st h'' GA:=
 ⟨lZ x.size y.size,
  fun b hb e=>let ⟨e1,e2⟩:=x.aY b hb e;let ⟨e3,e4⟩:=y.aY b (uF hb x.size) e2;⟨e3.trans e1,e4⟩,
  fun b c t fr e=>let ⟨c1,e1,s1⟩:=x.shape b c t fr e;let ⟨c2,e2,s2⟩:=y.shape b c1 t fr e1;⟨c2,e2,s2.trans s1⟩⟩
theorem aR7{h h':a7}{b:Nat}(e:h'[b]?=h[b]?)(off:Nat):cellAt h' b off=cellAt h b off:=by simp [cellAt,e]
theorem H7{h h':a7}{b:Nat}(e:h'[b]?=h[b]?):∀(vs:List Value) (off:Nat),d8 h b off vs→d8 h' b off vs
 | [],_,_=>trivial
 | _::vs,off,x=>⟨(aR7 e off).trans x.1,H7 e vs (off+1) x.2⟩
section
variable {h h':a7} {st st':aA}
mutual
theorem VC.mono(S:bQ h st h' st'):∀(a:AV) (cs:List Value),VC h st a cs→VC h' st' a cs
 | .junk,_,x=>x
 | .undef,_,x=>x
 | .int _ _,_,x=>x
 | .bool _,_,x=>x
 | .str _,_,x=>x
 | .agg as,cs,x=>by simp only[VC] at x ⊢;exact aR.mono S as cs x
 | .tup as,cs,x=>by
  simp only[VC] at x ⊢
  obtain⟨vs,e,r⟩:=x
  exact⟨vs,e,c7.mono S as vs r⟩
 | .slice es,cs,x=>by
  simp only[VC] at x ⊢
  rcases x with x | ⟨b,off,cap,e,l1,l2,n,l3,ev,r⟩
  · exact .inl x
  · obtain⟨k1,k2⟩:=S.aY b l3 n
    exact .inr ⟨b,off,cap,e,l1,l2,k2,uF l3 S.size,ev,cS.mono S b k1 es off r⟩
 | .fslice es,cs,x=>by
  simp only[VC] at x ⊢
  rcases x with x | ⟨b,off,e,l1,n,l3,ev,r⟩
  · exact .inl x
  · obtain⟨k1,k2⟩:=S.aY b l3 n
    exact .inr ⟨b,off,e,l1,k2,uF l3 S.size,ev,cS.mono S b k1 es off r⟩
 | .mslice b off len n,cs,x=>by
  simp only[VC] at x ⊢
  obtain⟨cap,e,l1,l2,c,t,hb,l3⟩:=x
  obtain⟨c',e',s'⟩:=S.shape b c t _ hb
  exact⟨cap,e,l1,l2,c',t,e',by omega⟩
 | .nilptr,_,x=>x
 | .ptr _ _,_,x=>x
 | .pptr e,cs,x=>by
  simp only[VC] at x ⊢
  obtain⟨b,off,e1,n,l,vs,r1,r2,r3⟩:=x
  obtain⟨k1,k2⟩:=S.aY b l n
  exact⟨b,off,e1,k2,uF l S.size,vs,H7 k1 vs off r1,r2,VC.mono S e vs r3⟩
 | .nilmap,_,x=>x
 | .map _,_,x=>x
 | .func _ as,cs,x=>by
  simp only[VC] at x ⊢
  obtain⟨vs,e,r⟩:=x
  exact⟨vs,e,c7.mono S as vs r⟩
 | .raw _,_,x=>x
 | .eslice,_,x=>x
theorem aR.mono(S:bQ h st h' st'):∀(as:List AV) (cs:List Value),aR h st as cs→aR h' st' as cs
 | [],_,x=>x
 | a::as,cs,x=>by
  simp only[aR] at x ⊢
  obtain⟨c,r,e,x1,x2⟩:=x
  exact⟨c,r,e,VC.mono S a [c] x1,aR.mono S as r x2⟩
theorem c7.mono(S:bQ h st h' st'):∀(as:List AV) (cs:List Value),c7 h st as cs→c7 h' st' as cs
 | [],_,x=>x
 | a::as,cs,x=>by
  simp only[c7] at x ⊢
  obtain⟨c,r,e,x1,x2⟩:=x
  exact⟨c,r,e,⟨x1.1,VC.mono S a _ x1.2⟩,c7.mono S as r x2⟩
theorem cS.mono(S:bQ h st h' st')(b:Nat)(k:h'[b]?=h[b]?):∀(es:List AV) (off:Nat),cS h st b off es→cS h' st' b off es
 | [],_,x=>x
 | a::as,off,x=>by
  simp only[cS] at x ⊢
  obtain⟨⟨cs,x1,x2,x3⟩,x4⟩:=x
  exact⟨⟨cs,H7 k cs off x1,x2,VC.mono S a cs x3⟩,cS.mono S b k as (off+a.width) x4⟩
end
end
theorem aM.mono{h h':a7}{st st':aA}(S:bQ h st h' st'){a:AV}{v:Value}(x:aM h st a v):aM h' st' a v:=by
 cases a<;>first | trivial | exact⟨x.1,VC.mono S _ _ x.2⟩
def lA(h:a7)(st:aA)(b:Nat):AO→Prop
 | .cells as=>∃c t,h[b]?=some (.cells c t (0,0))∧as.length≤c.size∧∃vs,d8 h b 0 vs∧aR h st as vs
 | .map f=>∃es clock,h[b]?=some (.map es clock)∧(∀e∈es.toList,∃n,e.key=.int .i64 n)∧(es.toList.map (·.key)).Nodup ∧
  ∀n,(match f n with
   | some a=>∃e∈es.toList,e.key=.int .i64 n∧aM h st a e.val
   | none=>∀e∈es.toList,e.key≠.int .i64 n)
 | .tab cs=>∃t,h[b]?=some (.cells cs t (0,0))
def cA(h:a7)(st:aA):Prop:=∀b o,st b=some o→b<h.size∧lA h st b o
abbrev AF:=Nat→AV
def AF.bot:AF:=fun _=>.junk
def AF.aC(f:AF)(d:Nat)(v:AV):AF:=fun x=>if x=d then v else f x
theorem AF.aH(f:AF)(d:Nat)(v:AV):f.aC d v d=v:=by simp [AF.aC]
theorem AF.aJ(f:AF){d x:Nat}(v:AV)(h:x≠d):f.aC d v x=f x:=by simp [AF.aC,h]
theorem AF.sK(f:AF){d e:Nat}(v u:AV)(h:d≠e):(f.aC d v).aC e u=(f.aC e u).aC d v:=by
 funext x;simp only[AF.aC];split<;>split<;>simp_all
def AF.put(f:AF)(dst:Option Tmp)(v:AV):AF:=match dst with | some d=>f.aC d v | none=>f
def ofConst:Value→AV
 | .int k n=>.int k n
 | .bool b=>.bool b
 | .string s=>if s.size≤maxLen then .str s else .junk
 | .slice none 0 0=>.fslice []
 | .pointer none=>.nilptr
 | .map none=>.nilmap
 | .nilIface=>.raw .nilIface
 | .nilFunc=>.raw .nilFunc
 | .iface t v=>.raw (.iface t v)
 | _=>.junk
def AF.eval(f:AF):Operand→AV
 | .tmp t=>f t
 | .const v=>ofConst v
 | .global g=>.raw (.pointer (some ⟨g,0,none⟩))
 | .func g=>.func g []
def dR(h:a7)(st:aA)(tmps:Array Value)(f:AF):Prop:=∀d,aM h st (f d) (tmps.getD d undef)
theorem dR.mono{h h':a7}{st st':aA}{tmps:Array Value}{f:AF}(S:bQ h st h' st')(x:dR h st tmps f):dR h' st' tmps f:=fun d=>(x d).mono S
theorem dR.set{h:a7}{st:aA}{tmps:Array Value}{f:AF}(x:dR h st tmps f){d:Nat}(hd:d<tmps.size){a:AV}{v:Value}(y:aM h st a v):dR h st (tmps.setIfInBounds d v) (f.aC d a):=by
 intro e
 simp only[AF.aC]
 split
 · rename_i e1;subst e1;simpa [hd] using y
 · rename_i e1
   have:=x e
   simpa [RE (dM e1)] using this
theorem aM.const(h:a7)(st:aA)(v:Value):aM h st (ofConst v) v:=by
 unfold ofConst
 split<;>try trivial
 case h_3=>split<;>first | trivial | exact⟨rfl,rfl,by assumption⟩
 all_goals first | exact⟨rfl,rfl⟩ | exact⟨rfl,.inl ⟨⟨_,rfl⟩,rfl⟩⟩ | exact⟨rfl,rfl,rfl⟩
theorem aM.eval{h:a7}{st:aA}{a:Act}{f:AF}(x:dR h st a.tmps f)(o:Operand):aM h st (f.eval o) (a.eval o):=by
 cases o with
 | tmp t=>exact x t
 | const v=>exact aM.const h st v
 | global g=>exact⟨rfl,rfl,rfl⟩
 | func g=>exact⟨rfl,[],rfl,rfl⟩
theorem aM.aHU{h:a7}{st:aA}{e:AV}{c:Value}(ha:e.isAgg=false)(x:VC h st e [c]):aM h st e c:=by
 have key:∀ {e:AV},e.isAgg=jY c→VC h st e [c]→jY c=false→aM h st e c:=by
  intro e h1 h2 h3
  have hc:c.cells.toList= [c]:=by cases c<;>first | rfl | (simp [jY] at h3)
  cases e<;>first | trivial | exact⟨h1,by rw[hc];exact h2⟩
 cases e<;>simp only[VC] at x
 case junk=>trivial
 case undef=>cases x;exact key rfl (by simp [VC]) rfl
 case int=>cases x;exact key rfl (by simp [VC]) rfl
 case bool=>cases x;exact key rfl (by simp [VC]) rfl
 case str=>obtain⟨x1,x2⟩:=x;cases x1;exact key rfl (by simp [VC,x2]) rfl
 case agg=>simp [AV.isAgg] at ha
 case tup=>obtain⟨vs,x1,x2⟩:=x;cases x1;exact key rfl (by simp only[VC];exact⟨vs,rfl,x2⟩) rfl
 case slice es=>
  have x':=x
  rcases x with ⟨⟨p,x1⟩,x2⟩ | ⟨b,off,cap,x1,x2⟩<;>cases x1<;>exact key rfl (by unfold VC;exact x') rfl
 case fslice es=>
  have x':=x
  rcases x with ⟨⟨p,x1⟩,x2⟩ | ⟨b,off,x1,x2⟩<;>cases x1<;>exact key rfl (by unfold VC;exact x') rfl
 case mslice=>have x':=x;obtain⟨cap,x1,x2⟩:=x;cases x1;exact key rfl (by unfold VC;exact x') rfl
 case nilptr=>cases x;exact key rfl (by simp [VC]) rfl
 case ptr=>cases x;exact key rfl (by simp [VC]) rfl
 case pptr=>have x':=x;obtain⟨b,off,x1,x2⟩:=x;cases x1;exact key rfl (by unfold VC;exact x') rfl
 case nilmap=>cases x;exact key rfl (by simp [VC]) rfl
 case map=>cases x;exact key rfl (by simp [VC]) rfl
 case func=>have x':=x;obtain⟨vs,x1,x2⟩:=x;cases x1;exact key rfl (by unfold VC;exact x') rfl
 case raw=>obtain⟨x1,x2⟩:=x;cases x1;exact key (by simp [AV.isAgg,x2]) (by simp [VC,x2]) x2
 case eslice=>have x':=x;obtain⟨p,c,x1⟩:=x;cases x1;exact key rfl (by unfold VC;exact x') rfl
theorem VC.one{h:a7}{st:aA}{e:AV}{cs:List Value}(ha:e.isAgg=false)(x:VC h st e cs):∃c,cs= [c]:=by
 cases e<;>simp only[VC] at x
 case junk=>match cs,x with | [c],_=>exact⟨c,rfl⟩
 case undef=>exact⟨_,x⟩
 case int=>exact⟨_,x⟩
 case bool=>exact⟨_,x⟩
 case str=>exact⟨_,x.1⟩
 case agg=>simp [AV.isAgg] at ha
 case tup=>obtain⟨vs,x1,_⟩:=x;exact⟨_,x1⟩
 case slice=>rcases x with ⟨⟨p,x1⟩,_⟩ | ⟨b,off,cap,x1,_⟩<;>exact⟨_,x1⟩
 case fslice=>rcases x with ⟨⟨p,x1⟩,_⟩ | ⟨b,off,x1,_⟩<;>exact⟨_,x1⟩
 case mslice=>obtain⟨cap,x1,_⟩:=x;exact⟨_,x1⟩
 case nilptr=>exact⟨_,x⟩
 case ptr=>exact⟨_,x⟩
 case pptr=>obtain⟨b,off,x1,_⟩:=x;exact⟨_,x1⟩
 case nilmap=>exact⟨_,x⟩
 case map=>exact⟨_,x⟩
 case func=>obtain⟨vs,x1,_⟩:=x;exact⟨_,x1⟩
 case raw=>exact⟨_,x.1⟩
 case eslice=>obtain⟨p,c,x1⟩:=x;exact⟨_,x1⟩
theorem UP{v:Value}(h:jY v=false):v.cells.toList= [v]:=by cases v<;>first | rfl | (simp [jY] at h)
theorem aM.single{h:a7}{st:aA}{a:AV}{v:Value}(x:aM h st a v)(ha:a.isAgg=false)(hj:a≠.junk):VC h st a [v]:=by
 have key:a.isAgg=jY v∧VC h st a v.cells.toList:=by cases a<;>first | exact absurd rfl hj | exact x
 rw[UP (key.1.symm.trans ha)] at key
 exact key.2
theorem aM.jF{h:a7}{st:aA}{k:IntKind}{n:Int}{v:Value}(x:aM h st (.int k n) v):v=.int k n:=by
 have:=x.single rfl (by simp);simpa [VC] using this
theorem aM.yD{h:a7}{st:aA}{b:Bool}{v:Value}(x:aM h st (.bool b) v):v=.bool b:=by
 have:=x.single rfl (by simp);simpa [VC] using this
theorem aM.zP{h:a7}{st:aA}{s:ByteArray}{v:Value}(x:aM h st (.str s) v):v=.string s∧s.size≤maxLen:=by
 have:=x.single rfl (by simp);simpa [VC] using this
theorem aM.a24{h:a7}{st:aA}{v:Value}(x:aM h st .undef v):v=Go.undef:=by
 have:=x.single rfl (by simp);simpa [VC] using this
theorem aM.zE{h:a7}{st:aA}{b off:Nat}{v:Value}(x:aM h st (.ptr b off) v):v=.pointer (some ⟨b,off,none⟩):=by
 have:=x.single rfl (by simp);simpa [VC] using this
theorem aM.O4{h:a7}{st:aA}{v:Value}(x:aM h st .nilptr v):v=.pointer none:=by
 have:=x.single rfl (by simp);simpa [VC] using this
theorem aM.CB{h:a7}{st:aA}{b:Nat}{v:Value}(x:aM h st (.map b) v):v=.map (some b):=by
 have:=x.single rfl (by simp);simpa [VC] using this
theorem aM.JU{h:a7}{st:aA}{e:AV}{v:Value}(x:aM h st (.pptr e) v) :
 ∃b off,v=.pointer (some ⟨b,off,none⟩)∧st b=none∧b<h.size∧∃vs,d8 h b off vs∧vs.length=e.width∧VC h st e vs:=by
 have:=x.single rfl (by simp);simpa [VC] using this
theorem aM.F8{h:a7}{st:aA}{es:List AV}{v:Value}(x:aM h st (.slice es) v) :
 ((∃p,v=.slice p 0 0)∧es= [])∨∃b off cap,v=.slice (some ⟨b,off,none⟩) es.length cap∧es.length≤cap∧cap≤maxLen∧st b=none∧b<h.size∧gW es∧cS h st b off es:=by
 have:=x.single rfl (by simp);simpa [VC] using this
theorem aM.vA{h:a7}{st:aA}{es:List AV}{v:Value}(x:aM h st (.fslice es) v) :
 ((∃p,v=.slice p 0 0)∧es= [])∨∃b off,v=.slice (some ⟨b,off,none⟩) es.length es.length∧es.length≤maxLen∧st b=none∧b<h.size∧gW es∧cS h st b off es:=by
 have:=x.single rfl (by simp);simpa [VC] using this
theorem aM.E9{h:a7}{st:aA}{es:List AV}{v:Value}(x:aM h st (.fslice es) v):aM h st (.slice es) v:=by
 rcases x.vA with ⟨⟨p,rfl⟩,rfl⟩ | ⟨b,off,rfl,r1,r2⟩
 · exact⟨rfl,.inl ⟨⟨p,rfl⟩,rfl⟩⟩
 · exact⟨rfl,.inr ⟨b,off,es.length,rfl,cX _,r1,r2⟩⟩
theorem aM.CG{h:a7}{st:aA}{b off len n:Nat}{v:Value}(x:aM h st (.mslice b off len n) v) :
 ∃cap,v=.slice (some ⟨b,off,none⟩) len cap∧len≤cap∧cap≤maxLen∧∃c t,h[b]?=some (.cells c t (0,0))∧off+cap*n≤c.size:=by
 have:=x.single rfl (by simp);simpa [VC] using this
theorem aM.NX{h:a7}{st:aA}{v:Value}(x:aM h st .eslice v):∃p c,v=.slice p 0 c:=by
 have:=x.single rfl (by simp);simpa [VC] using this
theorem aM.a2W{h:a7}{st:aA}{as:List AV}{v:Value}(x:aM h st (.tup as) v):∃vs:List Value,v=.tuple vs.toArray∧c7 h st as vs:=by
 have:=x.single rfl (by simp);simpa [VC] using this
theorem aM.aWK{h:a7}{st:aA}{g:FuncId}{as:List AV}{v:Value}(x:aM h st (.func g as) v):∃vs:List Value,v=.func (.func g) #[] vs.toArray∧c7 h st as vs:=by
 have:=x.single rfl (by simp);simpa [VC] using this
theorem aM.SM{h:a7}{st:aA}{as:List AV}{vs:List Value}(x:aR h st as vs):aM h st (.agg as) (.agg vs.toArray):=
 ⟨rfl,by simpa [Value.cells,VC] using x⟩
theorem aM.x9{h:a7}{st:aA}{as:List AV}{v:Value}(x:aM h st (.agg as) v):∃vs:List Value,v=.agg vs.toArray∧aR h st as vs:=by
 obtain⟨x1,x2⟩:=x
 cases v<;>simp [AV.isAgg,jY] at x1
 case agg cs=>exact⟨cs.toList,by simp,by simpa [Value.cells,VC] using x2⟩
theorem aR.length{h:a7}{st:aA}:∀ {as:List AV} {vs:List Value},aR h st as vs→vs.length=as.length
 | [],vs,x=>by simp only[aR] at x;simp [x]
 | a::as,vs,x=>by
  simp only[aR] at x
  obtain⟨c,r,rfl,_,x2⟩:=x
  simp [aR.length x2]
theorem aR.drop{h:a7}{st:aA}:∀ {as:List AV} {vs:List Value} (n:Nat),aR h st as vs→aR h st (as.drop n) (vs.drop n)
 | as,vs,0,x=>by simpa using x
 | [],vs,n+1,x=>by simp only[aR] at x;simp [x,aR]
 | a::as,vs,n+1,x=>by
  simp only[aR] at x
  obtain⟨c,r,rfl,_,x2⟩:=x
  simpa using aR.drop n x2
theorem aR.take{h:a7}{st:aA}:∀ {as:List AV} {vs:List Value} (n:Nat),aR h st as vs→aR h st (as.take n) (vs.take n)
 | as,vs,0,x=>by simp [aR]
 | [],vs,n+1,x=>by simp only[aR] at x;simp [x,aR]
 | a::as,vs,n+1,x=>by
  simp only[aR] at x
  obtain⟨c,r,rfl,x1,x2⟩:=x
  simp only[uE,aR]
  exact⟨c,r.take n,rfl,x1,aR.take n x2⟩
theorem aR.get{h:a7}{st:aA}:∀ {as:List AV} {vs:List Value} (n:Nat) {a:AV},aR h st as vs→as[n]?=some a→∃v,vs[n]?=some v∧VC h st a [v]
 | [],_,n,a,_,e=>by simp at e
 | a'::as,vs,0,a,x,e=>by
  simp only[aR] at x
  obtain⟨c,r,rfl,x1,x2⟩:=x
  simp at e;subst e
  exact⟨c,rfl,x1⟩
 | a'::as,vs,n+1,a,x,e=>by
  simp only[aR] at x
  obtain⟨c,r,rfl,x1,x2⟩:=x
  simpa using aR.get n x2 (by simpa using e)
theorem d8.drop{h:a7}{b:Nat}:∀ {vs:List Value} {off:Nat} (n:Nat),d8 h b off vs→d8 h b (off+n) (vs.drop n)
 | vs,off,0,x=>by simpa using x
 | [],off,n+1,x=>by simp [d8]
 | v::vs,off,n+1,x=>by
  have:=d8.drop n x.2
  simpa [AI,Nat.add_comm 1 n] using this
theorem d8.take{h:a7}{b:Nat}:∀ {vs:List Value} {off:Nat} (n:Nat),d8 h b off vs→d8 h b off (vs.take n)
 | vs,off,0,x=>by simp [d8]
 | [],off,n+1,x=>by simp [d8]
 | v::vs,off,n+1,x=>⟨x.1,d8.take n x.2⟩
theorem d8.get{h:a7}{b:Nat}:∀ {vs:List Value} {off:Nat} (n:Nat) {v:Value},d8 h b off vs→vs[n]?=some v→cellAt h b (off+n)=some v
 | [],off,n,v,_,e=>by simp at e
 | w::vs,off,0,v,x,e=>by simp at e;subst e;exact x.1
 | w::vs,off,n+1,v,x,e=>by
  have:=d8.get n x.2 (by simpa using e)
  simpa [AI,Nat.add_comm 1 n] using this
theorem cS.get{h:a7}{st:aA}{b:Nat}{n:Nat}:∀ {es:List AV} {off:Nat} (i:Nat) {e:AV},(∀x∈es,x.width=n)→cS h st b off es→es[i]?=some e→VE h st b (off+i*n) e
 | [],off,i,e,_,_,g=>by simp at g
 | a::as,off,0,e,_,x,g=>by simp only[cS] at x;simp at g;subst g;simpa [VE] using x.1
 | a::as,off,i+1,e,u,x,g=>by
  simp only[cS] at x
  have:=cS.get (n:=n) i (fun x hx=>u x (by simp [hx])) x.2 (by simpa using g)
  rw[u a (by simp)] at this
  rwa [show off+(i+1)*n=off+n+i*n by rw[qA];omega]
theorem cS.drop{h:a7}{st:aA}{b:Nat}{n:Nat}:∀ {es:List AV} {off:Nat} (i:Nat),(∀x∈es,x.width=n)→cS h st b off es→cS h st b (off+i*n) (es.drop i)
 | es,off,0,_,x=>by simpa using x
 | [],off,i+1,_,_=>by simp [cS]
 | a::as,off,i+1,u,x=>by
  simp only[cS] at x
  have:=cS.drop (n:=n) i (fun x hx=>u x (by simp [hx])) x.2
  rw[u a (by simp)] at this
  rw[show off+(i+1)*n=off+n+i*n by rw[qA];omega]
  simpa using this
theorem cS.take{h:a7}{st:aA}{b:Nat}:∀ {es:List AV} {off:Nat} (i:Nat),cS h st b off es→cS h st b off (es.take i)
 | es,off,0,x=>by simp [cS]
 | [],off,i+1,_=>by simp [cS]
 | a::as,off,i+1,x=>by
  simp only[cS] at x
  simp only[uE,cS]
  exact⟨x.1,cS.take i x.2⟩
def sub(ag:Bool)(cs:List AV)(off sz:Nat):Option AV:=
 if ag then(if off+sz≤cs.length then some (.agg ((cs.drop off).take sz)) else none)
 else match cs[off]? with
  | some a=>if a.isAgg then none else some a
  | none=>none
def eD(w w':World):Prop:=w'.os=w.os∧w'.tape=w.tape∧w'.output=w.output
theorem eD.refl(w:World):eD w w:=⟨rfl,rfl,rfl⟩
theorem eD.trans{a b c:World}(x:eD a b)(y:eD b c):eD a c:=⟨y.1.trans x.1,y.2.1.trans x.2.1,y.2.2.trans x.2.2⟩
structure Ext (h h':a7):Prop where
 size:h.size≤h'.size
 aY:∀b,b<h.size→h'[b]?=h[b]?
theorem Ext.refl(h:a7):Ext h h:=⟨cX _,fun _ _=>rfl⟩
theorem Ext.push(h:a7)(o:Obj):Ext h (h.push o):=⟨by simp,fun b hb=>by rw[Array.getElem?_push,aK (by omega)]⟩
theorem Ext.step{h h':a7}(x:Ext h h')(st:aA):bQ h st h' st:=
 ⟨x.size,fun b hb e=>⟨x.aY b hb,e⟩,fun b c t fr e=>⟨c,by
  have hb:b<h.size:=by
   rcases kK b h.size with h' | h'
   · exact h'
   · simp [Array.getElem?_eq_none h'] at e
  rw[x.aY b hb];exact e,rfl⟩⟩
theorem lA.mono{h h':a7}{st st':aA}(S:bQ h st h' st'){b:Nat}(k:h'[b]?=h[b]?):∀ {o:AO},lA h st b o→lA h' st' b o
 | .cells as,x=>by
  obtain⟨c,t,e,l,vs,x1,x2⟩:=x
  exact⟨c,t,k.trans e,l,vs,H7 k vs 0 x1,aR.mono S as vs x2⟩
 | .map f,x=>by
  obtain⟨es,cl,e,x1,x2,x3⟩:=x
  refine⟨es,cl,k.trans e,x1,x2,fun n=>?_⟩
  have:=x3 n
  split
  · rename_i a ha
    rw[ha] at this
    obtain⟨e,he,hk,hv⟩:=this
    exact⟨e,he,hk,hv.mono S⟩
  · rename_i ha
    rw[ha] at this
    exact this
 | .tab cs,x=>by
  obtain⟨t,e⟩:=x
  exact⟨t,k.trans e⟩
theorem cA.ext{h h':a7}{st:aA}(x:Ext h h')(s:cA h st):cA h' st:=fun b o e=>
 let ⟨l,r⟩:=s b o e
 ⟨uF l x.size,lA.mono (x.step st) (x.aY b l) r⟩
def gA(st:aA)(w:World)(r:AV)(x:Result Next):Prop:=
 ∃v w',x=.ok (.value v) w'∧aM w'.heap st r v∧Ext w.heap w'.heap∧eD w w'
theorem gA.same{st:aA}{w:World}{r:AV}{x:Result Next}{v:Value}(e:x=.ok (.value v) w)(y:aM w.heap st r v):gA st w r x:=
 ⟨v,w,e,y,Ext.refl _,eD.refl _⟩
def UW:TypeDesc→Bool
 | .struct _=>true
 | .array _ _=>true
 | _=>false
def tI(P:Program)(t:TypeId):Option (Bool×Nat):=
 match P.underlying t,P.info? t with
 | some d,some i=>some (UW d,i.size)
 | _,_=>none
def fI(P:Program)(t:TypeId)(f:Nat):Option (Nat×Bool×Nat):=
 match P.underlying t with
 | some (.struct fs)=>
  match fs[f]? with
  | some fd=>match tI P fd.type with
   | some (ag,sz)=>if sz=0 then none else some (fd.offset,ag,sz)
   | none=>none
  | none=>none
 | _=>none
def eI(P:Program)(t:TypeId):Option (Bool×Nat):=
 match P.underlying t with
 | some (.slice e)=>tI P e
 | _=>none
def aI(P:Program)(t:TypeId):Option (Nat×Bool×Nat):=
 match P.underlying t with
 | some (.array n e)=>(tI P e).map fun x=>(n,x)
 | _=>none
theorem tI_run{P:Program}{t:TypeId}{ag:Bool}{sz:Nat}(e:tI P t=some (ag,sz))(w:World) :
 (isAgg t).run P w=.ok ag w∧(sizeOf t).run P w=.ok sz w∧∃d i,P.underlying t=some d∧P.info? t=some i∧i.size=sz∧UW d=ag:=by
 unfold tI at e
 split at e
 · rename_i d i hu hi
   cases e
   refine⟨?_,by simp [sizeOf,typeInfo,hi],_,_,hu,hi,rfl,rfl⟩
   simp only[isAgg,underlying,Sem.run_bind,run_program,Result.andThen_ok,hu]
   cases d<;>rfl
 · cases e
theorem yE(w:World)(b off:Nat):w.cell? ⟨b,off,none⟩=cellAt w.heap b off:=by
 unfold World.cell? cellAt
 split<;>simp_all
theorem Addr.mW(b off n:Nat):Addr.add ⟨b,off,none⟩ n=⟨b,off+n,none⟩:=by
 unfold Addr.add
 split
 · rename_i h;rw[h];try rfl
 · rfl
theorem aIR{P:Program}{w:World}{b off:Nat}{vs:List Value}(x:d8 w.heap b off vs):(loadCells ⟨b,off,none⟩ vs.length).run P w=.ok vs.toArray w:=
 run_loadCells_list (P:=P) w ⟨b,off,none⟩ vs fun j v hj=>by rw[Addr.mW,yE];exact x.get j hj
theorem aIS{P:Program}{w:World}{b off:Nat}{t:TypeId}{ag:Bool}{sz:Nat}{vs:List Value}{st:aA}{e:AV}(hI:tI P t=some (ag,sz))
 (x:d8 w.heap b off vs) (hl:vs.length=sz) (ha:e.isAgg=ag) (y:VC w.heap st e vs) :
 ∃v,(loadVar t ⟨b,off,none⟩).run P w=.ok v w∧aM w.heap st e v:=by
 obtain⟨r1,r2,_⟩:=tI_run hI w
 cases ag with
 | true=>
  refine⟨.agg vs.toArray,?_,?_⟩
  · simp only[loadVar,Sem.run_bind,r1,Result.andThen_ok,eN,r2,←hl,aIR x,Sem.run_pure]
  · cases e<;>simp [AV.isAgg] at ha
    exact aM.SM (by simpa [VC] using y)
 | false=>
  obtain⟨c,rfl⟩:=VC.one ha y
  refine⟨c,?_,aM.aHU ha y⟩
  simp only[loadVar,Sem.run_bind,r1,Result.andThen_ok,iF,dA,run_load,yE,x.1]
def EM(k:IntKind)(a b:Int):Int:=k.wrap ((BitVec.ofInt k.bits a ^^^ BitVec.ofInt k.bits b).toNat)
def L4(k:IntKind)(a b:Int):Int:=k.wrap ((BitVec.ofInt k.bits a &&& BitVec.ofInt k.bits b).toNat)
def EI(k:IntKind)(a b:Int):Int:=k.wrap ((BitVec.ofInt k.bits a ||| BitVec.ofInt k.bits b).toNat)
def A7(op:BinOp)(k:IntKind)(a b:Int):Option AV:=
 if b<0 then none else match op with
 | .shl=>some (.int k (k.wrap (a*2 ^ min b.toNat k.bits)))
 | .shr=>some (.int k (a.fdiv (2 ^ min b.toNat k.bits)))
 | _=>none
def iU(op:BinOp):AV→AV→Option AV
 | .int k a,.int k' b=>
  if k≠k' then A7 op k a b else match op with
  | .add=>some (.int k (k.wrap (a+b)))
  | .sub=>some (.int k (k.wrap (a - b)))
  | .mul=>some (.int k (k.wrap (a*b)))
  | .quo=>if b=0 then none else some (.int k (k.wrap (a.tdiv b)))
  | .rem=>if b=0 then none else some (.int k (a.tmod b))
  | .eql=>some (.bool (decide (a=b)))
  | .neq=>some (.bool (!decide (a=b)))
  | .lss=>some (.bool (decide (a<b)))
  | .leq=>some (.bool (decide (a≤b)))
  | .gtr=>some (.bool (decide (b<a)))
  | .geq=>some (.bool (decide (b≤a)))
  | .xor=>some (.int k (EM k a b))
  | .and=>some (.int k (L4 k a b))
  | .or=>some (.int k (EI k a b))
  | _=>none
 | .str a,.str b=>match op with
  | .eql=>some (.bool (decide (a=b)))
  | .neq=>some (.bool (!decide (a=b)))
  | .lss=>some (.bool (Op.bytesLess a.toList b.toList))
  | .gtr=>some (.bool (!(Op.bytesLess a.toList b.toList||decide (a=b))))
  | .add=>if a.size+b.size≤maxLen then some (.str (a++b)) else none
  | _=>none
 | _,_=>none
def EL(op:UnOp):AV→Option AV
 | .bool b=>match op with | .not=>some (.bool (!b)) | _=>none
 | .int k n=>match op with | .neg=>some (.int k (k.wrap (0 - n))) | _=>none
 | _=>none
theorem QZ(a b:ByteArray):(a.toList == b.toList)=decide (a=b):=by
 have h:a.toList=b.toList↔a=b:=⟨fun h=>by
  rw[ByteArray.toList_eq,ByteArray.toList_eq] at h
  cases a;cases b;simp_all,fun h=>by rw[h]⟩
 rw[G5]
 simp [h]
theorem aS7(op:BinOp)(t:TypeId)(x y:Operand)(k:IntKind)(n:Int)(v:Value):eqGuard op t x y (.int k n) v=pure ():=eqGuard_at_int ..
theorem aS8(op:BinOp)(t:TypeId)(x y:Operand)(s:ByteArray)(v:Value):eqGuard op t x y (.string s) v=pure ():=eqGuard_at_string ..
theorem aM.mP{h:a7}{st:aA}{k:IntKind}{n:Int}:aM h st (.int k n) (.int k n):=⟨rfl,rfl⟩
theorem aM.jQ{h:a7}{st:aA}{b:Bool}:aM h st (.bool b) (.bool b):=⟨rfl,rfl⟩
theorem aMK{P:Program}{h:a7}{st:aA}{w:World}{op:BinOp}{t:TypeId}{p q r:AV}{u v:Value}(e:iU op p q=some r)(hp:aM h st p u)(hq:aM h st q v) :
 ∃z,(binOp op t u v).run P w=.ok z w∧aM h st r z∧∀x y,(eqGuard op t x y u v).run P w=.ok () w:=by
 unfold iU at e
 split at e
 · rename_i k a k' b
   rw[hp.jF,hq.jF]
   have hg:∀x y,(eqGuard op t x y (.int k a) (.int k' b)).run P w=.ok () w:=fun x y=>by rw[aS7];try rfl
   split at e
   · unfold A7 at e
     split at e
     · cases e
     rename_i hb
     cases op<;>simp only[] at e
     case shl=>cases e;exact⟨_,by simp only[binOp,Op.shift,aK hb,Sem.run_pure],aM.mP,hg⟩
     case shr=>cases e;exact⟨_,by simp only[binOp,Op.shift,aK hb,Sem.run_pure],aM.mP,hg⟩
     all_goals cases e
   · rename_i hk
     have hk':k=k':=G6 hk
     subst hk'
     cases op<;>simp only[] at e
     case add=>cases e;exact⟨_,by simp only[binOp,ne_eq,not_true,dA,Op.intArith,Sem.run_pure],aM.mP,hg⟩
     case sub=>cases e;exact⟨_,by simp only[binOp,ne_eq,not_true,dA,Op.intArith,Sem.run_pure],aM.mP,hg⟩
     case mul=>cases e;exact⟨_,by simp only[binOp,ne_eq,not_true,dA,Op.intArith,Sem.run_pure],aM.mP,hg⟩
     case quo=>
      split at e
      · cases e
      · rename_i hb;cases e;exact⟨_,by simp only[binOp,ne_eq,not_true,dA,Op.intDiv,hb,Sem.run_pure],aM.mP,hg⟩
     case rem=>
      split at e
      · cases e
      · rename_i hb;cases e;exact⟨_,by simp only[binOp,ne_eq,not_true,dA,Op.intDiv,hb,Sem.run_pure],aM.mP,hg⟩
     case eql=>cases e;exact⟨.bool (decide (a=b)),by simp [binOp,Op.intCmp,BEq.beq],aM.jQ,hg⟩
     case neq=>cases e;exact⟨.bool (!decide (a=b)),by simp [binOp,Op.intCmp,bne,BEq.beq],aM.jQ,hg⟩
     case lss=>cases e;exact⟨.bool (decide (a<b)),by simp [binOp,Op.intCmp],aM.jQ,hg⟩
     case leq=>cases e;exact⟨.bool (decide (a≤b)),by simp [binOp,Op.intCmp],aM.jQ,hg⟩
     case gtr=>cases e;exact⟨.bool (decide (b<a)),by simp [binOp,Op.intCmp],aM.jQ,hg⟩
     case xor=>cases e;exact⟨_,by simp only[binOp,ne_eq,not_true,dA,Op.intBits,Sem.run_pure,EM],aM.mP,hg⟩
     case and=>cases e;exact⟨_,by simp only[binOp,ne_eq,not_true,dA,Op.intBits,Sem.run_pure,L4],aM.mP,hg⟩
     case or=>cases e;exact⟨_,by simp only[binOp,ne_eq,not_true,dA,Op.intBits,Sem.run_pure,EI],aM.mP,hg⟩
     case geq=>cases e;exact⟨.bool (decide (b≤a)),by simp [binOp,Op.intCmp],aM.jQ,hg⟩
     all_goals cases e
 · rename_i a b
   rw[hp.zP.1,hq.zP.1]
   have hg:∀x y,(eqGuard op t x y (.string a) (.string b)).run P w=.ok () w:=fun x y=>by rw[aS8];try rfl
   cases op<;>simp only[] at e
   case eql=>cases e;exact⟨.bool (decide (a=b)),by simp [binOp,Op.stringOp,QZ],aM.jQ,hg⟩
   case neq=>cases e;exact⟨.bool (!decide (a=b)),by simp [binOp,Op.stringOp,QZ],aM.jQ,hg⟩
   case lss=>cases e;exact⟨.bool (Op.bytesLess a.toList b.toList),by simp [binOp,Op.stringOp],aM.jQ,hg⟩
   case gtr=>cases e;exact⟨.bool (!(Op.bytesLess a.toList b.toList||decide (a=b))),by simp [binOp,Op.stringOp,QZ],aM.jQ,hg⟩
   case add=>
    split at e
    · rename_i hs
      cases e
      refine⟨.string (a++b),?_,⟨rfl,rfl,by rw[ByteArray.size_append];exact hs⟩,hg⟩
      unfold maxLen at hs
      have:¬((a.size+b.size:Nat):Int)>IntKind.i64.max:=by simp [IntKind.max,IntKind.signed,IntKind.bits];omega
      simp only[binOp,Op.stringOp,this,dA,Sem.run_pure]
    · cases e
   all_goals cases e
 · cases e
theorem aFI{P:Program}{t:TypeId}{f off sz:Nat}{ag:Bool}(e:fI P t f=some (off,ag,sz)) :
 ∃fs fd,P.underlying t=some (.struct fs)∧fs[f]?=some fd∧fd.offset=off∧tI P fd.type=some (ag,sz)∧sz≠0:=by
 unfold fI at e
 split at e
 · rename_i fs hu
   split at e
   · rename_i fd hfd
     split at e
     · rename_i ag' sz' hI
       split at e
       · cases e
       · rename_i hz;cases e;exact⟨fs,fd,hu,hfd,rfl,hI,hz⟩
     · cases e
   · cases e
 · cases e
theorem pC{P:Program}{t:TypeId}{sz:Nat}{ag:Bool}(e:eI P t=some (ag,sz)):∃e',P.underlying t=some (.slice e')∧tI P e'=some (ag,sz):=by
 unfold eI at e
 split at e
 · rename_i e' hu;exact⟨e',hu,e⟩
 · cases e
theorem R8{P:Program}{t:TypeId}{n sz:Nat}{ag:Bool}(e:aI P t=some (n,ag,sz)):∃e',P.underlying t=some (.array n e')∧tI P e'=some (ag,sz):=by
 unfold aI at e
 split at e
 · rename_i n' e' hu
   cases h:tI P e' with
   | none=>rw[h] at e;cases e
   | some x=>rw[h] at e;cases e;exact⟨e',hu,h⟩
 · cases e
theorem dQ{P:Program}{t:TypeId}{d:TypeDesc}(e:P.underlying t=some d)(w:World):(underlying t).run P w=.ok d w:=by
 simp [underlying,e]
theorem aI9{P:Program}{h:a7}{st:aA}{w:World}{t:TypeId}{ag:Bool}{off sz:Nat}{as:List AV}{vs:List Value}{r:AV}(hI:tI P t=some (ag,sz))
 (e:sub ag as off sz=some r) (x:aR h st as vs):∃v,(part t vs.toArray off).run P w=.ok v w∧aM h st r v:=by
 obtain⟨r1,r2,_⟩:=tI_run hI w
 unfold sub at e
 cases ag with
 | true=>
  simp only[eN] at e
  split at e
  · rename_i hl
    cases e
    refine⟨.agg ((vs.drop off).take sz).toArray,?_,aM.SM ((x.drop off).take sz)⟩
    simp only[part,Sem.run_bind,r1,Result.andThen_ok,eN,r2,Sem.run_pure]
    congr 2
    simp [List.take_drop]
  · cases e
 | false=>
  simp only[iF,dA] at e
  split at e
  · rename_i a ha
    split at e
    · cases e
    · rename_i hag
      cases e
      obtain⟨v,hv,y⟩:=x.get off ha
      refine⟨v,?_,aM.aHU (by simpa using hag) y⟩
      simp [part,r1,hv]
  · cases e
theorem aI8{h:a7}{st:aA}{b o off sz:Nat}{ag:Bool}{as:List AV}{vs:List Value}{r:AV}(e:sub ag as off sz=some r)(x:d8 h b o vs)(y:aR h st as vs) :
 ∃us,d8 h b (o+off) us∧us.length=r.width∧VC h st r us∧r.isAgg=ag∧(ag=true→r.width=sz):=by
 unfold sub at e
 cases ag with
 | true=>
  simp only[eN] at e
  split at e
  · rename_i hl
    cases e
    have l:=y.length
    refine⟨(vs.drop off).take sz,(x.drop off).take sz,by simp [AV.width,l],by simpa [VC] using (y.drop off).take sz,rfl,fun _=>by simp [AV.width];omega⟩
  · cases e
 | false=>
  simp only[iF,dA] at e
  split at e
  · rename_i a ha
    split at e
    · cases e
    · rename_i hag
      cases e
      have aFZ:r.isAgg=false:=by simpa using hag
      obtain⟨v,hv,y'⟩:=y.get off ha
      exact⟨[v],⟨x.get off hv,trivial⟩,by cases r<;>first | rfl | (simp [AV.isAgg] at aFZ),y',aFZ,by simp⟩
  · cases e
def sM(P:Program)(t f:Nat):AV→Option AV
 | .ptr b o=>(fI P t f).map fun x=>.ptr b (o+x.1)
 | .pptr (.agg cs)=>match fI P t f with
  | some (off,ag,sz)=>(sub ag cs off sz).map .pptr
  | none=>none
 | _=>none
def f0(P:Program)(st:aA)(t:TypeId):AV→Option AV
 | .pptr e=>match tI P t with
  | some (ag,sz)=>if e.isAgg=ag∧e.width=sz then some e else none
  | none=>none
 | .ptr b o=>match tI P t,st b with
  | some (ag,sz),some (.cells cs)=>if ag=false∧sz≠1 then none else sub ag cs o sz
  | _,_=>none
 | _=>none
def dT(P:Program)(t:TypeId):AV→AV→Option AV
 | .slice es,.int _ n | .fslice es,.int _ n=>match eI P t with
  | some (_,sz)=>if 0≤n then(match es[n.toNat]? with
   | some e=>if e.width=sz then some (.pptr e) else none
   | none=>none) else none
  | none=>none
 | .mslice b off len m,.int _ n=>match eI P t with
  | some (_,sz)=>if 0≤n∧n<len∧m=sz then some (.ptr b (off+n.toNat*sz)) else none
  | none=>none
 | .ptr b off,.int _ n=>match aI P t with
  | some (len,_,sz)=>if 0≤n∧n<len then some (.ptr b (off+n.toNat*sz)) else none
  | none=>none
 | _,_=>none
def AT(P:Program)(t:TypeId):AV→AV→Option AV
 | .str s,.int _ n=>match P.underlying t with
  | some .string=>if 0≤n then(match s[n.toNat]? with | some b=>some (.int .u8 b.toNat) | none=>none) else none
  | _=>none
 | .agg cs,.int _ n=>match aI P t with
  | some (len,ag,sz)=>if 0≤n∧n<len then sub ag cs (n.toNat*sz) sz else none
  | none=>none
 | _,_=>none
section
variable {P:Program} {st:aA} {w:World} {a:Act} {φ:AF}
theorem aV5{t:TypeId}{x:Operand}{f:Nat}{r:AV}{o:Oper}(ho:o.op=.fieldAddr t x f)(F:dR w.heap st a.tmps φ)(e:sM P t f (φ.eval x)=some r):gA st w r ((execOp a.eval o).run P w):=by
 have y:=aM.eval F x
 have run:∀ {off sz:Nat} {ag:Bool} {b q:Nat},fI P t f=some (off,ag,sz)→a.eval x=.pointer (some ⟨b,q,none⟩) →
  (execOp a.eval o).run P w=.ok (.value (.pointer (some ⟨b,q+off,none⟩))) w:=by
  intro off sz ag b q hI hv
  obtain⟨fs,fd,hu,hfd,OO,hT,hz⟩:=aFI hI
  obtain⟨_,r2,_⟩:=tI_run hT w
  simp only[execOp,ho,hv,Instr.fieldAt,Sem.run_bind,dQ hu,Result.andThen_ok,hfd,Instr.sureAddr,Sem.run_pure,fieldPlace,r2,hz,dA,Addr.mW,OO]
 unfold sM at e
 split at e
 · rename_i b q hx
   rw[hx] at y
   cases hI:fI P t f with
   | none=>rw[hI] at e;cases e
   | some z=>
    obtain⟨off,ag,sz⟩:=z
    rw[hI] at e;cases e
    exact .same (run hI y.zE) ⟨rfl,rfl⟩
 · rename_i cs hx
   rw[hx] at y
   split at e
   · rename_i off ag sz hI
     cases hs:sub ag cs off sz with
     | none=>rw[hs] at e;cases e
     | some r'=>
      rw[hs] at e;cases e
      obtain⟨b,q,hv,e2,e3,vs,e4,e5,e6⟩:=y.JU
      obtain⟨us,u1,u2,u3,_⟩:=aI8 hs e4 (by simpa [VC] using e6)
      exact .same (run hI hv) ⟨rfl,b,q+off,rfl,e2,e3,us,u1,u2,u3⟩
   · cases e
 · cases e
theorem R9{t:TypeId}{x r:AV}{v:Value}(y:aM w.heap st x v)(S:cA w.heap st)(e:f0 P st t x=some r) :
 ∃b off u,v=.pointer (some ⟨b,off,none⟩)∧(loadVar t ⟨b,off,none⟩).run P w=.ok u w∧aM w.heap st r u:=by
 unfold f0 at e
 split at e
 · rename_i e'
   split at e
   · rename_i ag sz hI
     split at e
     · rename_i hc
       cases e
       obtain⟨b,off,hv,e2,e3,vs,e4,e5,e6⟩:=y.JU
       obtain⟨u,r1,rv⟩:=aIS hI e4 (by rw[e5,hc.2]) hc.1 e6
       exact⟨b,off,u,hv,r1,rv⟩
     · cases e
   · cases e
 · rename_i b q
   split at e
   · rename_i ag sz cs hI hs
     split at e
     · cases e
     · rename_i hsz
       obtain⟨_,c,t',hb,hl,vs,x1,x2⟩:=S b _ hs
       obtain⟨us,u1,u2,u3,u4,u5⟩:=aI8 e x1 x2
       rw[j7] at u1
       have hw:us.length=sz:=by
        cases ag with
        | true=>rw[u2];exact u5 rfl
        | false=>rw[u2];simp at hsz;rw[hsz];cases r<;>first | rfl | (simp [AV.isAgg] at u4)
       obtain⟨u,r1,rv⟩:=aIS hI u1 hw u4 u3
       exact⟨b,q,u,y.zE,r1,rv⟩
   · cases e
 · cases e
theorem aYV{t:TypeId}{x:Operand}{r:AV}{o:Oper}(ho:o.op=.load t x)(F:dR w.heap st a.tmps φ)(S:cA w.heap st)(e:f0 P st t (φ.eval x)=some r):gA st w r ((execOp a.eval o).run P w):=by
 obtain⟨b,off,u,hv,r1,rv⟩:=R9 (aM.eval F x) S e
 exact .same (v:=u) (by simp [execOp,ho,Instr.loadAt,Instr.sureAddr,hv,r1]) rv
theorem aV6{t:TypeId}{x:Operand}{f:Nat}{r:AV}{o:Oper}{off sz:Nat}{ag:Bool}{cs:List AV}(ho:o.op=.field t x f)(F:dR w.heap st a.tmps φ)(hI:fI P t f=some (off,ag,sz))(hx:φ.eval x=.agg cs)
 (e:sub ag cs off sz=some r):gA st w r ((execOp a.eval o).run P w):=by
 have y:=aM.eval F x
 rw[hx] at y
 obtain⟨vs,hv,hc⟩:=y.x9
 obtain⟨fs,fd,hu,hfd,OO,hT,hz⟩:=aFI hI
 obtain⟨v,r1,rv⟩:=aI9 (P:=P) (w:=w) hT e hc
 exact .same (v:=v) (by simp only[execOp,ho,hv,Instr.field,Sem.run_bind,dQ hu,Result.andThen_ok,hfd,asAgg,Sem.run_pure,OO,r1]) rv
theorem aX6{t:TypeId}{x i:Operand}{r:AV}{o:Oper}(ho:o.op=.indexAddr t x i)(F:dR w.heap st a.tmps φ)(e:dT P t (φ.eval x) (φ.eval i)=some r):gA st w r ((execOp a.eval o).run P w):=by
 have y:=aM.eval F x
 have yi:=aM.eval F i
 have aIO:∀ {b off len cap sz:Nat} {ag:Bool} {k:IntKind} {n:Int},eI P t=some (ag,sz)→a.eval x=.slice (some ⟨b,off,none⟩) len cap→a.eval i=.int k n→0≤n→n<len →
  (execOp a.eval o).run P w=.ok (.value (.pointer (some ⟨b,off+n.toNat*sz,none⟩))) w:=by
  intro b off len cap sz ag k n hI hv hi h0 h1
  obtain⟨e',hu,hT⟩:=pC hI
  obtain⟨_,r2,_⟩:=tI_run hT w
  simp only[execOp,ho,hv,hi,Instr.indexAt,asIntOf,Sem.run_bind,dQ hu,Result.andThen_ok,Sem.run_pure,h0,h1,and_self,eN,r2,Addr.mW]
 have imm:∀ {es:List AV} {k:IntKind} {n:Int} {b off cap:Nat},φ.eval i=.int k n→a.eval x=.slice (some ⟨b,off,none⟩) es.length cap→st b=none→b<w.heap.size→gW es→cS w.heap st b off es →
  (match eI P t with
   | some (_,sz)=>if 0≤n then(match es[n.toNat]? with
    | some e=>if e.width=sz then some (.pptr e) else none
    | none=>none) else none
   | none=>none)=some r→gA st w r ((execOp a.eval o).run P w):=by
  intro es k n b off cap hi hv e2 e3 ev e4 e
  rw[hi] at yi
  split at e
  · rename_i ag sz hI
    split at e
    · rename_i h0
      split at e
      · rename_i e' he'
        split at e
        · rename_i hw
          cases e
          obtain⟨m,hm⟩:=ev
          have hlt:n.toNat<es.length:=(fM.1 he').1
          have hms:m=sz:=by rw[←hw];exact(hm e' (cQ he')).symm
          obtain⟨us,u1,u2,u3⟩:=cS.get n.toNat hm e4 he'
          rw[hms] at u1
          exact .same (aIO hI hv yi.jF h0 (by omega)) ⟨rfl,b,_,rfl,e2,e3,us,u1,u2,u3⟩
        · cases e
      · cases e
    · cases e
  · cases e
 unfold dT at e
 split at e
 · rename_i es k n hx hi
   rw[hx] at y
   rcases y.F8 with ⟨⟨p0,hv⟩,rfl⟩ | ⟨b,off,cap,hv,l1,l2,e2,e3,ev,e4⟩
   · split at e<;>simp at e
   · exact imm hi hv e2 e3 ev e4 e
 · rename_i es k n hx hi
   rw[hx] at y
   rcases y.vA with ⟨⟨p0,hv⟩,rfl⟩ | ⟨b,off,hv,l1,e2,e3,ev,e4⟩
   · split at e<;>simp at e
   · exact imm hi hv e2 e3 ev e4 e
 · rename_i b off len m k n hx hi
   rw[hx] at y
   rw[hi] at yi
   obtain⟨cap,hv,l1,l2,c,t',hb,l3⟩:=y.CG
   split at e
   · rename_i ag sz hI
     split at e
     · rename_i hc
       cases e
       exact .same (aIO hI hv yi.jF hc.1 hc.2.1) ⟨rfl,rfl⟩
     · cases e
   · cases e
 · rename_i b off k n hx hi
   rw[hx] at y
   rw[hi] at yi
   split at e
   · rename_i len ag sz hI
     split at e
     · rename_i hc
       cases e
       obtain⟨e',hu,hT⟩:=R8 hI
       obtain⟨_,r2,_⟩:=tI_run hT w
       refine .same (v:=.pointer (some ⟨b,off+n.toNat*sz,none⟩)) ?_ ⟨rfl,rfl⟩
       simp only[execOp,ho,y.zE,yi.jF,Instr.indexAt,asIntOf,Sem.run_bind,dQ hu,Result.andThen_ok,Sem.run_pure,Instr.sureAddr,hc.1,hc.2,and_self,eN,r2,Addr.mW]
     · cases e
   · cases e
 · cases e
theorem aX7{t:TypeId}{x i:Operand}{r:AV}{o:Oper}(ho:o.op=.index t x i)(F:dR w.heap st a.tmps φ)(e:AT P t (φ.eval x) (φ.eval i)=some r):gA st w r ((execOp a.eval o).run P w):=by
 have y:=aM.eval F x
 have yi:=aM.eval F i
 unfold AT at e
 split at e
 · rename_i s k n hx hi
   rw[hx] at y
   rw[hi] at yi
   split at e
   · rename_i hu
     split at e
     · rename_i h0
       split at e
       · rename_i b hb
         cases e
         refine .same (v:=.int .u8 b.toNat) ?_ ⟨rfl,rfl⟩
         simp only[execOp,ho,y.zP.1,yi.jF,Instr.index,asIntOf,Sem.run_bind,dQ hu,Result.andThen_ok,Sem.run_pure,h0,eN,hb]
       · cases e
     · cases e
   · cases e
 · rename_i cs k n hx hi
   rw[hx] at y
   rw[hi] at yi
   obtain⟨vs,hv,hc⟩:=y.x9
   split at e
   · rename_i len ag sz hI
     split at e
     · rename_i hn
       obtain⟨e',hu,hT⟩:=R8 hI
       obtain⟨_,r2,_⟩:=tI_run hT w
       obtain⟨v,r1,rv⟩:=aI9 (P:=P) (w:=w) hT e hc
       refine .same (v:=v) ?_ rv
       simp only[execOp,ho,hv,yi.jF,Instr.index,asIntOf,Sem.run_bind,dQ hu,Result.andThen_ok,Sem.run_pure,hn.1,hn.2,and_self,eN,r2,r1]
     · cases e
   · cases e
 · cases e
end
def dE(φ:AF)(x:Option Operand)(NF most:Nat):Option Nat:=
 match x with
 | none=>some NF
 | some y=>match φ.eval y with
  | .int _ n=>if 0≤n∧n≤most then some n.toNat else none
  | _=>none
def pZ(es:List AV)(l sz:Nat):Bool:=match es[l]? with | some e=>e.width == sz | none=>true
def qV:AV→Bool
 | .fslice []=>true
 | _=>false
def nU(P:Program)(φ:AF)(t:TypeId)(x:AV)(lo hi mx:Option Operand):Option AV:=
 match x with
 | .str s=>match P.underlying t,mx with
  | some .string,none=>match dE φ hi s.size s.size with
   | some h=>match dE φ lo 0 h with
    | some l=>some (.str (s.extract l h))
    | none=>none
   | none=>none
  | _,_=>none
 | .slice es | .fslice es=>match eI P t with
  | some (_,sz)=>if mx.isSome∧hi.isNone then none else match dE φ mx es.length es.length with
   | some m=>match dE φ hi es.length m with
    | some h=>match dE φ lo 0 h with
     | some l=>if l=0∨pZ es l sz=true then
      some (if mx.isSome∧m=h then .fslice ((es.take h).drop l) else .slice ((es.take h).drop l)) else none
     | none=>none
    | none=>none
   | none=>none
  | none=>none
 | .mslice b off len n=>match eI P t,mx with
  | some (_,sz),none=>match dE φ hi len len with
   | some h=>match dE φ lo 0 h with
    | some l=>if n=sz then(if l=0 then some (.mslice b off h n) else if l<h then some (.mslice b (off+l*n) (h - l) n) else some .eslice) else none
    | none=>none
   | none=>none
  | some (_,sz),some z=>match lo,hi with
   | none,some y=>match dE φ (some z) len len with
    | some m=>match dE φ (some y) len m with
     | some h=>if n=sz then some (.mslice b off h n) else none
     | none=>none
    | none=>none
   | _,_=>none
  | _,_=>none
 | .eslice=>match eI P t,mx with
  | some _,some z=>match lo,hi with
   | none,some y=>match dE φ (some z) 0 0 with
    | some m=>match dE φ (some y) 0 m with
     | some _=>some (.fslice [])
     | none=>none
    | none=>none
   | _,_=>none
  | _,_=>none
 | _=>none
def gJ(P:Program)(φ:AF)(t:TypeId)(x:AV)(lo hi mx:Option Operand):Option AV:=
 if qV x=true∧mx.isNone=true then match eI P t with
  | some _=>match dE φ hi 0 0 with
   | some h=>match dE φ lo 0 h with
    | some _=>some (.fslice [])
    | none=>none
   | none=>none
  | none=>none
 else nU P φ t x lo hi mx
section
variable {P:Program} {st:aA} {w:World} {a:Act} {φ:AF}
theorem uQ(F:dR w.heap st a.tmps φ){y:Operand}{NF most O2 r:Nat}(code:BoundsCode)(e:dE φ (some y) NF most=some r)(hm:most≤O2) :
 (Instr.sliceBound (a.eval y) O2 code).run P w=.ok r w∧r≤most:=by
 simp only[dE] at e
 have z:=aM.eval F y
 split at e
 · rename_i k n hn
   rw[hn] at z
   split at e
   · rename_i h
     cases e
     rw[z.jF]
     have h2:n≤(O2:Int):=by omega
     refine⟨?_,by omega⟩
     simp [Instr.sliceBound,asIntOf,h.1,h2]
   · cases e
 · cases e
theorem HV(F:dR w.heap st a.tmps φ){lo hi:Option Operand}{isS:Bool}{len FM cap h l:Nat}(eh:dE φ hi len FM=some h)(el:dE φ lo 0 h=some l)(hl:len≤FM)(hc:FM≤cap) :
 (Instr.sliceBounds isS len cap (lo.map a.eval) (hi.map a.eval) none).run P w=.ok (l,h,cap) w∧l≤h∧h≤FM:=by
 have hh:h≤FM:=by
  cases hi with
  | none=>cases eh;exact hl
  | some y=>exact(uQ (P:=P) F .index eh (cX _)).2
 have hll:l≤h:=by
  cases lo with
  | none=>cases el;exact iI _
  | some y=>exact(uQ (P:=P) F .index el (cX _)).2
 refine⟨?_,hll,hh⟩
 cases hi with
 | none=>
  cases eh
  cases lo with
  | none=>cases el;simp [Instr.sliceBounds]
  | some y=>
   have:=(uQ (P:=P) F .sliceB el (cX _)).1
   simp [Instr.sliceBounds,this]
 | some z=>
  have h1:=(uQ (P:=P) F (if isS then .sliceAcap else .sliceAlen) eh hc).1
  cases lo with
  | none=>cases el;simp [Instr.sliceBounds,h1]
  | some y=>
   have:=(uQ (P:=P) F .sliceB el (cX _)).1
   simp [Instr.sliceBounds,h1,this]
theorem MM(F:dR w.heap st a.tmps φ){lo hi:Option Operand}{x y:Operand}{len cap h l m:Nat}(he:hi=some y)(em:dE φ (some x) len len=some m)(eh:dE φ hi len m=some h)(el:dE φ lo 0 h=some l)(hc:len≤cap) :
 (Instr.sliceBounds true len cap (lo.map a.eval) (hi.map a.eval) (some (a.eval x))).run P w=.ok (l,h,m) w∧l≤h∧h≤m∧m≤len:=by
 subst he
 have h0:=uQ (P:=P) F .slice3Acap em hc
 have h1:=uQ (P:=P) F .slice3B eh (cX _)
 have hll:l≤h:=by
  cases lo with
  | none=>cases el;exact iI _
  | some y=>exact(uQ (P:=P) F .index el (cX _)).2
 refine⟨?_,hll,h1.2,h0.2⟩
 cases lo with
 | none=>cases el;simp [Instr.sliceBounds,h0.1,h1.1]
 | some y=>
  have:=(uQ (P:=P) F .slice3C el (cX _)).1
  simp [Instr.sliceBounds,h0.1,h1.1,this]
theorem a1E{t:TypeId}{x:Operand}{lo hi mx:Option Operand}{r:AV}{o:Oper}(ho:o.op=.slice t x lo hi mx)(F:dR w.heap st a.tmps φ)(e:nU P φ t (φ.eval x) lo hi mx=some r):gA st w r ((execOp a.eval o).run P w):=by
 have y:=aM.eval F x
 have imm:∀ {es:List AV},aM w.heap st (.slice es) (a.eval x) →
  (match eI P t with
   | some (_,sz)=>if mx.isSome∧hi.isNone then none else match dE φ mx es.length es.length with
    | some m=>match dE φ hi es.length m with
     | some h=>match dE φ lo 0 h with
      | some l=>if l=0∨pZ es l sz=true then
       some (if mx.isSome∧m=h then .fslice ((es.take h).drop l) else .slice ((es.take h).drop l)) else none
      | none=>none
     | none=>none
    | none=>none
   | none=>none)=some r→gA st w r ((execOp a.eval o).run P w):=by
  intro es y e
  split at e
  case h_2=>cases e
  rename_i ag sz hI
  obtain⟨e',hu,hT⟩:=pC hI
  obtain⟨_,r2,_⟩:=tI_run hT w
  split at e
  case isTrue=>cases e
  rename_i hno
  split at e
  case h_2=>cases e
  rename_i m hm
  split at e
  case h_2=>cases e
  rename_i h hh
  split at e
  case h_2=>cases e
  rename_i l hl
  split at e
  case isFalse=>cases e
  rename_i hw
  cases e
  -- the bounds
  have key:∀base cap,a.eval x=.slice base es.length cap→es.length≤cap→∃M,(execOp a.eval o).run P w=.ok (.value (.slice (if M=l then base else base.map (·.add (l*sz))) (h - l) (M - l))) w∧l≤h∧h≤es.length∧h≤M∧M≤cap∧(mx.isSome∧m=h→M=h):=by
   intro base cap hv hc
   cases mx with
   | none=>
    cases hm
    obtain⟨b1,b2,b3⟩:=HV (P:=P) (isS:=true) F hh hl (cX _) hc
    refine⟨cap,?_,b2,b3,by omega,cX _,by simp⟩
    simp only[execOp,ho,Instr.sliceAt,Sem.run_bind,dQ hu,Result.andThen_ok,Instr.slice,hv,D4,b1,r2,Sem.run_pure]
   | some z=>
    cases hi with
    | none=>
     exact absurd ⟨rfl,rfl⟩ hno
    | some y'=>
     obtain⟨b1,b2,b3,b4⟩:=MM (P:=P) F rfl hm hh hl hc
     refine⟨m,?_,b2,by omega,b3,by omega,fun q=>q.2⟩
     simp only[execOp,ho,Instr.sliceAt,Sem.run_bind,dQ hu,Result.andThen_ok,Instr.slice,hv]
     rw[show(some z).map a.eval=some (a.eval z) from rfl,b1]
     simp only[Result.andThen_ok,r2,Sem.run_pure]
  rcases y.F8 with ⟨⟨p0,hv⟩,rfl⟩ | ⟨b,off,cap,hv,l1,l2,e2,e3,ev,e4⟩
  · obtain⟨M,r1,b1,b2,b3,b4,b5⟩:=key p0 0 hv (by simp)
    have hM:M=0:=by omega
    have hh0:h=0:=by omega
    have hl0:l=0:=by omega
    subst hM hh0 hl0
    refine .same (v:=.slice p0 0 0) (by rw[r1];simp) ?_
    split
    · exact⟨rfl,.inl ⟨⟨p0,rfl⟩,by simp⟩⟩
    · exact⟨rfl,.inl ⟨⟨p0,rfl⟩,by simp⟩⟩
  · obtain⟨M,r1,b1,b2,b3,b4,b5⟩:=key _ cap hv l1
    have hlen:((es.take h).drop l).length=h - l:=by simp;omega
    obtain⟨n,hn⟩:=ev
    have hE:∃CK,cS w.heap st b CK ((es.take h).drop l)∧(if M=l then some (⟨b,off,none⟩:Addr) else(some (⟨b,off,none⟩:Addr)).map (·.add (l*sz)))=some ⟨b,CK,none⟩:=by
     by_cases hMl:M=l
     · have:(es.take h).drop l= []:=by apply oQ;omega
       refine⟨off,by rw[this];simp [cS],by rw[aN hMl]⟩
     · refine⟨off+l*sz,?_,by rw[aK hMl];simp [Addr.mW]⟩
       have base:cS w.heap st b (off+l*n) ((es.take h).drop l):=cS.drop l (fun x hx=>hn x (lY hx)) (cS.take h e4)
       rcases hw with hw | hw
       · subst hw;simpa using base
       · unfold pZ at hw
         split at hw
         · rename_i e'' aW3
           have h1:e''.width=sz:=by simpa using hw
           have h2:=hn e'' (cQ aW3)
           rw[←h1,h2];exact base
         · rename_i tJ
           have h3:es.length≤l:=by simpa using tJ
           have:(es.take h).drop l= []:=by apply oQ;omega
           rw[this];simp [cS]
    obtain⟨CK,hE1,hE2⟩:=hE
    have hEv:gW ((es.take h).drop l):=⟨n,fun x hx=>hn x (lY (List.mem_of_mem_drop hx))⟩
    refine .same (v:=.slice (some ⟨b,CK,none⟩) (h - l) (M - l)) (by rw[r1,hE2]) ?_
    split
    · rename_i hc
      have:=b5 hc
      subst this
      exact⟨rfl,.inr ⟨b,CK,by rw[hlen];try rfl,by omega,e2,e3,hEv,hE1⟩⟩
    · exact⟨rfl,.inr ⟨b,CK,M - l,by rw[hlen];try rfl,by omega,by omega,e2,e3,hEv,hE1⟩⟩
 unfold nU at e
 split at e
 · rename_i s hx
   rw[hx] at y
   split at e
   case h_2=>cases e
   rename_i hu
   split at e
   case h_2=>cases e
   rename_i h hh
   split at e
   case h_2=>cases e
   rename_i l hl
   cases e
   obtain⟨b1,b2,b3⟩:=HV (P:=P) (isS:=false) F hh hl (cX _) (cX s.size)
   refine .same (v:=.string (s.extract l h)) ?_ ⟨rfl,rfl,by have h1:=y.zP.2;rw[ByteArray.size_extract];omega⟩
   simp only[execOp,ho,Instr.sliceAt,Sem.run_bind,dQ hu,Result.andThen_ok,Instr.slice,y.zP.1,D4,Option.isSome_none,iF,dA,b1,Sem.run_pure]
 · rename_i es hx
   rw[hx] at y
   exact imm y e
 · rename_i es hx
   rw[hx] at y
   exact imm y.E9 e
 · rename_i b off len n hx
   rw[hx] at y
   obtain⟨cap,hv,l1,l2,c,t',hb,l3⟩:=y.CG
   split at e
   case h_3=>cases e
   case h_2=>
    rename_i mx' ag sz z hI
    obtain⟨e',hu,hT⟩:=pC hI
    obtain⟨_,r2,_⟩:=tI_run hT w
    split at e
    case h_2=>cases e
    rename_i lo' hi' y'
    split at e
    case h_2=>cases e
    rename_i m hm
    split at e
    case h_2=>cases e
    rename_i h hh
    split at e
    case isFalse=>cases e
    rename_i hc1
    subst hc1
    cases e
    obtain⟨b1,b2,b3,b4⟩:=MM (P:=P) (lo:=none) F rfl hm hh rfl l1
    refine .same (v:=.slice (some ⟨b,off,none⟩) h m) ?_ ⟨rfl,m,rfl,by omega,by omega,c,t',hb,?_⟩
    · simp only[execOp,ho,Instr.sliceAt,Sem.run_bind,dQ hu,Result.andThen_ok,Instr.slice,hv]
      rw[show(some z).map a.eval=some (a.eval z) from rfl,b1]
      simp only[Result.andThen_ok,r2,Sem.run_pure]
      simp [Addr.add]
    · have:m*n≤cap*n:=wA n (by omega)
      omega
   rename_i ag sz hI
   obtain⟨e',hu,hT⟩:=pC hI
   obtain⟨_,r2,_⟩:=tI_run hT w
   split at e
   case h_2=>cases e
   rename_i h hh
   split at e
   case h_2=>cases e
   rename_i l hl
   split at e
   case isFalse=>cases e
   rename_i hc1
   subst hc1
   obtain⟨b1,b2,b3⟩:=HV (P:=P) (isS:=true) F hh hl (cX _) l1
   have run:(execOp a.eval o).run P w=.ok (.value (.slice (if cap=l then some ⟨b,off,none⟩ else(some ⟨b,off,none⟩:Option Addr).map (·.add (l*n))) (h - l) (cap - l))) w:=by
    simp only[execOp,ho,Instr.sliceAt,Sem.run_bind,dQ hu,Result.andThen_ok,Instr.slice,hv,D4,b1,r2,Sem.run_pure]
   split at e
   · rename_i hc2
     cases e
     subst hc2
     refine .same (v:=.slice (some ⟨b,off,none⟩) h cap) ?_ ⟨rfl,cap,rfl,by omega,l2,c,t',hb,l3⟩
     rw[run]
     simp [Addr.add]
   · rename_i hc2
     split at e
     · rename_i hc3
       cases e
       have hne:¬cap=l:=by omega
       refine .same (v:=.slice (some ⟨b,off+l*n,none⟩) (h - l) (cap - l)) ?_ ⟨rfl,cap - l,rfl,by omega,by omega,c,t',hb,?_⟩
       · rw[run,aK hne]
         simp [Addr.mW]
       · have:l*n+(cap - l)*n=cap*n:=by rw[←v9];congr 1;omega
         omega
     · rename_i hc3
       cases e
       have hz:h - l=0:=by omega
       rw[hz] at run
       exact .same run ⟨rfl,_,_,rfl⟩
 · rename_i hx
   rw[hx] at y
   obtain⟨p0,cap,hv⟩:=y.NX
   split at e
   case h_2=>cases e
   rename_i mx' ag z hI
   obtain⟨ag,sz⟩:=ag
   obtain⟨e',hu,hT⟩:=pC hI
   obtain⟨_,r2,_⟩:=tI_run hT w
   split at e
   case h_2=>cases e
   rename_i lo' hi' y'
   split at e
   case h_2=>cases e
   rename_i m hm
   split at e
   case h_2=>cases e
   rename_i h hh
   cases e
   obtain⟨b1,b2,b3,b4⟩:=MM (P:=P) (lo:=none) F rfl hm hh rfl (iI cap)
   have h0:h=0:=by omega
   have m0:m=0:=by omega
   subst h0 m0
   refine .same (v:=.slice p0 0 0) ?_ ⟨rfl,.inl ⟨⟨p0,rfl⟩,rfl⟩⟩
   simp only[execOp,ho,Instr.sliceAt,Sem.run_bind,dQ hu,Result.andThen_ok,Instr.slice,hv]
   rw[show(some z).map a.eval=some (a.eval z) from rfl,b1]
   simp only[Result.andThen_ok,r2,Sem.run_pure]
   simp
 · cases e
theorem a1L{t:TypeId}{x:Operand}{lo hi mx:Option Operand}{r:AV}{o:Oper}(ho:o.op=.slice t x lo hi mx)(F:dR w.heap st a.tmps φ)(e:gJ P φ t (φ.eval x) lo hi mx=some r):gA st w r ((execOp a.eval o).run P w):=by
 unfold gJ at e
 split at e
 case isFalse=>exact a1E ho F e
 rename_i hc
 have y:=aM.eval F x
 have hx:φ.eval x=.fslice []:=by
  have:=hc.1
  generalize φ.eval x=v at *
  unfold qV at this
  split at this
  · rfl
  · cases this
 have hm:mx=none:=by cases mx with | none=>rfl | some _=>simp at hc
 subst hm
 rw[hx] at y
 split at e
 case h_2=>cases e
 rename_i sz hI
 obtain⟨ag,sz⟩:=sz
 obtain⟨e',hu,hT⟩:=pC hI
 obtain⟨_,r2,_⟩:=tI_run hT w
 split at e
 case h_2=>cases e
 rename_i h hh
 split at e
 case h_2=>cases e
 rename_i l hl
 cases e
 have hv:∃p,a.eval x=.slice p 0 0:=by
  rcases y.vA with ⟨⟨p0,hv⟩,_⟩ | ⟨b,off,hv,_⟩
  · exact⟨p0,hv⟩
  · exact⟨_,hv⟩
 obtain⟨p,hv⟩:=hv
 obtain⟨b1,b2,b3⟩:=HV (P:=P) (isS:=true) F hh hl (cX _) (cX 0)
 have h0:h=0:=by omega
 have l0:l=0:=by omega
 subst h0 l0
 refine .same (v:=.slice p 0 0) ?_ ⟨rfl,.inl ⟨⟨p,rfl⟩,rfl⟩⟩
 simp only[execOp,ho,Instr.sliceAt,Sem.run_bind,dQ hu,Result.andThen_ok,Instr.slice,hv,D4,b1,r2,Sem.run_pure]
 simp
end
def bI(P:Program)(t:TypeId):Option (List (Nat×Nat)):=
 match P.underlying t with
 | some (.struct fs)=>fs.toList.mapM fun f=>(P.info? f.type).map fun i=>(f.offset,i.size)
 | _=>none
def zI(P:Program)(t:TypeId):Option (List AV):=
 match P.info? t with
 | some i=>match i.zero with
  | some z=>some (z.cells.toList.map ofConst)
  | none=>none
 | none=>none
def AV.bR:AV→Bool
 | .junk=>true
 | _=>false
def rN(h:a7)(st:aA):List (Nat×AV)→List (Nat×Value)→Prop
 | [],qs=>qs= []
 | p::ps,qs=>∃q r,qs=q::r∧(p.1=q.1∧aM h st p.2 q.2)∧rN h st ps r
def oO(place:Nat→Option (Nat×Nat))(cells:List AV):List (Nat×AV)→Option (List AV)
 | []=>some cells
 | (i,v)::rest=>
  match place i with
  | none=>none
  | some (off,size)=>
   if v.cells.length≠size∨off+size>cells.length∨v.bR=true then none
   else oO place (cells.take off++v.cells++cells.drop (off+size)) rest
theorem aR.append{h:a7}{st:aA}:∀ {as bs:List AV} {vs us:List Value},aR h st as vs→aR h st bs us→aR h st (as++bs) (vs++us)
 | [],_,vs,us,x,y=>by simp only[aR] at x;subst x;simpa using y
 | a::as,_,vs,us,x,y=>by
  simp only[aR] at x
  obtain⟨c,r,rfl,x1,x2⟩:=x
  simp only[fU,aR]
  exact⟨c,r++us,rfl,x1,aR.append x2 y⟩
theorem aM.cells{h:a7}{st:aA}{a:AV}{v:Value}(x:aM h st a v)(hj:a≠.junk):aR h st a.cells v.cells.toList:=by
 by_cases ha:a.isAgg=true
 · cases a<;>simp [AV.isAgg] at ha
   obtain⟨vs,rfl,hc⟩:=x.x9
   simpa [AV.cells,Value.cells] using hc
 · have ha':a.isAgg=false:=by simpa using ha
   have h1:=x.single ha' hj
   have h2:a.isAgg=jY v:=by cases a<;>first | exact absurd rfl hj | exact x.1
   rw[UP (h2.symm.trans ha')]
   have h3:a.cells= [a]:=by cases a<;>first | rfl | (simp [AV.isAgg] at ha')
   rw[h3]
   simp only[aR]
   exact⟨v,[],rfl,h1,rfl⟩
theorem aFP(off:Nat):∀(vs:List Value) (k:Nat) (cs:Array Value),off+k+vs.length≤cs.size →
 ((vs.zipIdx k).foldl (fun cs (x:Value×Nat)=>cs.setIfInBounds (off+x.2) x.1) cs).toList=cs.toList.take (off+k)++vs++cs.toList.drop (off+k+vs.length)
 | [],k,cs,_=>by simp
 | v::vs,k,cs,hl=>by
  simp only[List.zipIdx_cons,uC]
  rw[aFP off vs (k+1) (cs.setIfInBounds (off+k) v) (by simp at hl ⊢;omega)]
  have hlt:off+k<cs.toList.length:=by simp at hl ⊢;omega
  simp only[Array.toList_setIfInBounds]
  have e1:(cs.toList.set (off+k) v).take (off+(k+1))=cs.toList.take (off+k)++ [v]:=by
   rw[show off+(k+1)=off+k+1 by omega,List.take_succ_eq_append_getElem (by simpa using hlt)]
   simp [List.take_set_of_le]
  have e2:(cs.toList.set (off+k) v).drop (off+(k+1)+vs.length)=cs.toList.drop (off+k+(v::vs).length):=by
   rw[List.drop_set_of_lt (by omega)]
   congr 1
   simp;omega
  rw[e1,e2]
  simp
theorem N0{h:a7}{st:aA}{place:Nat→Option (Nat×Nat)}:∀ {parts:List (Nat×AV)} {LD:List (Nat×Value)} {as r:List AV} {cs:Array Value},
 rN h st parts LD→aR h st as cs.toList→oO place as parts=some r→∃cs',Instr.fill place cs LD=some cs'∧aR h st r cs'.toList
 | [],LD,as,r,cs,y,x,e=>by simp only[oO] at e;cases e;simp only[rN] at y;subst y;exact⟨cs,rfl,x⟩
 | (i,p)::parts,LD,as,r,cs,y,x,e=>by
  simp only[rN] at y
  obtain⟨⟨j,q⟩,rest,rfl,⟨y1,y2⟩,y3⟩:=y
  simp only at y1 y2
  subst y1
  simp only[oO] at e
  split at e
  · cases e
  · rename_i off size hp
    split at e
    · cases e
    · rename_i hc
      have hj:p≠.junk:=by intro hj;subst hj;simp [AV.bR] at hc
      have I6:=y2.cells hj
      have hl1:=I6.length
      have hl2:=x.length
      simp only[not_or,Decidable.not_not] at hc
      obtain⟨hc1,hc2,_⟩:=hc
      have hq:q.cells.size=size:=by rw[←hc1,←hl1];simp
      have aW7:off+q.cells.size≤cs.size:=by
       have:cs.size=as.length:=by rw[←hl2];simp
       omega
      have pO:=aFP off q.cells.toList 0 cs (by simpa using aW7)
      have hx:aR h st (as.take off++p.cells++as.drop (off+size)) ((q.cells.toList.zipIdx 0).foldl (fun cs (x:Value×Nat)=>cs.setIfInBounds (off+x.2) x.1) cs).toList:=by
       rw[pO]
       have:=((x.take off).append I6).append (x.drop (off+size))
       simpa [hq] using this
      obtain⟨cs',f1,f2⟩:=N0 (place:=place) y3 hx e
      refine⟨cs',?_,f2⟩
      have aW8:q.cells.zipIdx.foldl (fun cs (x:Value×Nat)=>cs.setIfInBounds (off+x.2) x.1) cs=(q.cells.toList.zipIdx 0).foldl (fun cs (x:Value×Nat)=>cs.setIfInBounds (off+x.2) x.1) cs:=by
       rw[←Array.foldl_toList];simp
      simp only[Instr.fill,hp,hq,ne_eq,JN,bB,mT]
      rw[aK (by simp;omega)]
      rw[←f1,←aW8]
theorem VC.const(h:a7)(st:aA)(c:Value):VC h st (ofConst c) [c]:=by
 have x:=aM.const h st c
 have ha:(ofConst c).isAgg=false:=by unfold ofConst;split<;>first | rfl | (split<;>rfl)
 by_cases hj:ofConst c=.junk
 · rw[hj];simp [VC]
 · exact x.single ha hj
theorem aR.consts(h:a7)(st:aA):∀(cs:List Value),aR h st (cs.map ofConst) cs
 | []=>by simp [aR]
 | c::cs=>by simp only[bL,aR];exact⟨c,cs,rfl,VC.const h st c,aR.consts h st cs⟩
theorem zI_run{P:Program}{t:TypeId}{as:List AV}(e:zI P t=some as)(h:a7)(st:aA)(w:World):∃z,(zeroValue t).run P w=.ok z w∧aR h st as z.cells.toList:=by
 unfold zI at e
 split at e
 · rename_i i hi
   split at e
   · rename_i z hz
     cases e
     exact⟨z,by simp [zeroValue,typeInfo,hi,hz],aR.consts h st _⟩
   · cases e
 · cases e
theorem aIT{P:Program}{w:World}{α β:Type}(f:α→Sem β)(g:α→Option β)(hfg:∀x y,g x=some y→(f x).run P w=.ok y w):∀(l:List α) (r:List β),l.mapM g=some r→(l.mapM f).run P w=.ok r w
 | [],r,e=>by simp at e;subst e;rfl
 | x::l,r,e=>by
  rw[List.mapM_cons] at e
  cases hx:g x with
  | none=>rw[hx] at e;cases e
  | some y=>
   rw[hx] at e
   cases hl:l.mapM g with
   | none=>rw[hl] at e;cases e
   | some ys=>
    rw[hl] at e
    cases e
    simp only[List.mapM_cons,Sem.run_bind,hfg x y hx,Result.andThen_ok,aIT f g hfg l ys hl,Sem.run_pure]
def p7(φ:AF)(parts:Array (Nat×Operand)):List (Nat×AV):=parts.toList.map fun p=>(p.1,φ.eval p.2)
theorem rN.parts{h:a7}{st:aA}{a:Act}{φ:AF}(F:dR h st a.tmps φ):∀(l:List (Nat×Operand)),rN h st (l.map fun p=>(p.1,φ.eval p.2)) (l.map fun p=>(p.1,a.eval p.2))
 | []=>by simp [rN]
 | p::l=>by simp only[bL,rN];exact⟨_,_,rfl,⟨rfl,aM.eval F p.2⟩,rN.parts F l⟩
def xR(P:Program)(φ:AF)(t:TypeId)(parts:Array (Nat×Operand)):Option AV:=
 match bI P t,zI P t with
 | some places,some zs=>(oO (fun i=>places[i]?) zs (p7 φ parts)).map .agg
 | _,_=>none
theorem aOI{P:Program}{st:aA}{w:World}{a:Act}{φ:AF}{t:TypeId}{parts:Array (Nat×Operand)}{r:AV}{o:Oper}(ho:o.op=.build t parts)(F:dR w.heap st a.tmps φ)(e:xR P φ t parts=some r) :
 gA st w r ((execOp a.eval o).run P w):=by
 unfold xR at e
 split at e
 case h_2=>cases e
 rename_i places zs hb hz
 cases hf:oO (fun i=>places[i]?) zs (p7 φ parts) with
 | none=>rw[hf] at e;cases e
 | some cs=>
  rw[hf] at e;cases e
  obtain⟨z,z1,z2⟩:=zI_run hz w.heap st w
  have hps:=rN.parts F parts.toList
  obtain⟨cs',f1,f2⟩:=N0 (place:=fun i=>places[i]?) hps z2 hf
  unfold bI at hb
  split at hb
  case h_2=>cases hb
  rename_i fs hu
  have hm:(fs.mapM fun f=>(do pure (f.offset,←sizeOf f.type):Sem (Nat×Nat))).run P w=.ok places.toArray w:=by
   rw[Array.mapM_eq_mapM_toList]
   have:=aIT (P:=P) (w:=w) (fun f:Field=>(do pure (f.offset,←sizeOf f.type):Sem (Nat×Nat))) (fun f=>(P.info? f.type).map fun i=>(f.offset,i.size))
    (fun x y hy=>by
     cases hi:P.info? x.type with
     | none=>rw[hi] at hy;cases hy
     | some i=>rw[hi] at hy;cases hy;simp [sizeOf,typeInfo,hi]) fs.toList places hb
   simp only[Sem.run_map,this,Result.andThen_ok]
  have JC:((parts.map fun(i,x)=>(i,a.eval x)).toList:List (Nat×Value))=parts.toList.map fun p=>(p.1,a.eval p.2):=by simp
  refine .same (v:=.agg cs') ?_ ⟨rfl,by simpa [Value.cells,VC] using f2⟩
  simp only[execOp,ho,Instr.build,Sem.run_bind,z1,Result.andThen_ok,dQ hu,hm,JC]
  have:(fun i:Nat=>places.toArray[i]?)=fun i:Nat=>places[i]?:=by funext i;simp
  rw[this,f1]
  try rfl
theorem R6{n:Nat}:∀(ps:List AV) (k:Nat) (pre:List AV),pre.length=k*n→(∀p∈ps,p.width=n∧p.bR=false) →
 oO (fun i=>some (i*n,n)) (pre++List.replicate (ps.length*n) .junk) ((List.range' k ps.length).zip ps)=some (pre++ps.flatMap AV.cells)
 | [],k,pre,_,_=>by simp [oO]
 | p::ps,k,pre,hp,h=>by
  have hw:=(h p (by simp)).1
  have hj:=(h p (by simp)).2
  have hc:p.cells.length=n:=by rw[←hw];cases p<;>rfl
  simp only[aX,List.range'_succ,List.zip_cons_cons,oO,hc,hj]
  have hl:(pre++List.replicate ((ps.length+1)*n) AV.junk).length=k*n+(ps.length+1)*n:=by simp [hp]
  have hs:(ps.length+1)*n=ps.length*n+n:=qA _ _
  rw[aK (by rw[hl];simp;omega)]
  have e1:(pre++List.replicate ((ps.length+1)*n) AV.junk).take (k*n)=pre:=by rw[←hp];simp
  have e2:(pre++List.replicate ((ps.length+1)*n) AV.junk).drop (k*n+n)=List.replicate (ps.length*n) AV.junk:=by
   rw[List.drop_append,hp,G8 (by rw[hp];omega)]
   simp;rw[hs];omega
  rw[e1,e2]
  have:=R6 (n:=n) ps (k+1) (pre++p.cells) (by simp [hp,hc,qA]) (fun q hq=>h q (by simp [hq]))
  rw[this]
  simp
theorem AM{h:a7}{st:aA}{b:Nat}:∀ {es:List AV} {off:Nat} {vs:List Value},(∀e∈es,e.bR=false)→d8 h b off vs→aR h st (es.flatMap AV.cells) vs→cS h st b off es
 | [],_,_,_,_,_=>by simp [cS]
 | e::es,off,vs,hj,x,y=>by
  have hl:=y.length
  have hc:e.cells.length=e.width:=by cases e<;>rfl
  have y1:=y.take e.width
  have y2:=y.drop e.width
  rw[AE,HC (by omega),oR (by omega)] at y1
  rw[AE,List.drop_append_of_le_length (by omega),G8 (by omega),dL] at y2
  simp only[cS]
  refine⟨⟨vs.take e.width,x.take e.width,?_,?_⟩,AM (fun q hq=>hj q (by simp [hq])) (x.drop e.width) y2⟩
  · rw[y1.length,hc]
  · cases e
    case agg cs=>simpa [VC,AV.cells] using y1
    case junk=>have:=hj .junk (by simp);simp [AV.bR] at this
    all_goals
     simp only[AV.cells,aR] at y1
     obtain⟨c,r,e1,e2,e3⟩:=y1
     rw[e1,e3]
     exact e2
theorem aR.junk(h:a7)(st:aA):∀(vs:List Value),aR h st (List.replicate vs.length .junk) vs
 | []=>by simp [aR]
 | v::vs=>by simp only[aX,LX,aR];exact⟨v,vs,rfl,by simp [VC],aR.junk h st vs⟩
theorem EZ(h:a7)(c:Array Value)(t:TypeId)(fr:Nat×Nat):∀(vs:List Value) (off:Nat),c.toList.drop off=vs→d8 (h.push (.cells c t fr)) h.size off vs
 | [],_,_=>trivial
 | v::vs,off,e=>by
  refine⟨?_,EZ h c t fr vs (off+1) ?_⟩
  · have:c.toList[off]?=some v:=by
     have:=rX (fun l=>l[0]?) e
     simpa using this
    simp only[cellAt,Array.getElem?_push,eN]
    simpa using this
  · rw[show off+1=off+1 from rfl,←List.drop_drop,e]
    try rfl
def LG(ps:List (Nat×AV)):Bool:=ps.map (·.1) == List.range' 0 ps.length
def RD(ps:List AV)(ag:Bool)(sz:Nat):Bool:=ps.all fun p=>p.width == sz&&p.isAgg == ag&& !p.bR
def eZ(P:Program)(t:TypeId):Option (List AV):=
 match P.underlying t with
 | some (.slice e)=>zI P e
 | _=>none
theorem aLV{α β:Type}:∀(l:List (α×β)),(l.map (·.1)).zip (l.map (·.2))=l
 | []=>rfl
 | x::l=>by simp [aLV l]
def z0(P:Program)(φ:AF)(t:TypeId)(len:Nat)(parts:Array (Nat×Operand)):Option AV:=
 match eI P t with
 | some (ag,sz)=>
  if LG (p7 φ parts)=true∧RD ((p7 φ parts).map (·.2)) ag sz=true∧len=parts.size∧len*sz≤16777216∧len≤16777216∧(eZ P t).isSome=true then some (.fslice ((p7 φ parts).map (·.2))) else none
 | none=>none
theorem aOH{P:Program}{st:aA}{w:World}{a:Act}{φ:AF}{t:TypeId}{len:Nat}{parts:Array (Nat×Operand)}{r:AV}{o:Oper}(ho:o.op=.buildSlice t len parts)(F:dR w.heap st a.tmps φ)(S:cA w.heap st)
 (e:z0 P φ t len parts=some r):gA st w r ((execOp a.eval o).run P w):=by
 unfold z0 at e
 split at e
 case h_2=>cases e
 rename_i ag sz hI
 split at e
 case isFalse=>cases e
 rename_i hc
 cases e
 obtain⟨hs,hf,hlen,a4R,a4S,hZ⟩:=hc
 obtain⟨e',hu,hT⟩:=pC hI
 obtain⟨_,r2,_⟩:=tI_run hT w
 obtain⟨z,hz1⟩:∃z,(zeroValue e').run P w=.ok z w:=by
  obtain⟨zs,hzs⟩:=Option.isSome_iff_exists.1 hZ
  simp only[eZ,hu] at hzs
  obtain⟨z,h1,_⟩:=zI_run hzs w.heap st w
  exact⟨z,h1⟩
 generalize hps:p7 φ parts=ps at *
 have cU:ps.length=len:=by rw[←hps,hlen];simp [p7]
 have aGO:=rN.parts F parts.toList
 rw[show(parts.toList.map fun p=>(p.1,φ.eval p.2))=ps from hps] at aGO
 have JC:((parts.map fun(i,x)=>(i,a.eval x)).toList:List (Nat×Value))=parts.toList.map fun p=>(p.1,a.eval p.2):=by simp
 have c9:∀p∈ps.map (·.2),p.width=sz∧p.bR=false∧p.isAgg=ag:=by
  intro p hp
  have:=c6.1 hf p hp
  simp at this
  exact⟨this.1.1,this.2,this.1.2⟩
 have aX3:(List.range' 0 (ps.map (·.2)).length).zip (ps.map (·.2))=ps:=by
  have:ps.map (·.1)=List.range' 0 ps.length:=by simpa [LG] using hs
  rw[aE,←this]
  exact aLV ps
 -- whatever the row holds at first
 have step:∀(cs:Array Value),cs.size=len*sz→∃cs',Instr.fill (fun i=>some (i*sz,sz)) cs (parts.toList.map fun p=>(p.1,a.eval p.2))=some cs'∧aR w.heap st ((ps.map (·.2)).flatMap AV.cells) cs'.toList:=by
  intro cs hcs
  have h0:aR w.heap st (List.replicate ((ps.map (·.2)).length*sz) .junk) cs.toList:=by
   have:=aR.junk w.heap st cs.toList
   rwa [show cs.toList.length=(ps.map (·.2)).length*sz by simp [hcs,cU]] at this
  have h1:=R6 (n:=sz) (ps.map (·.2)) 0 [] (by simp) (fun p hp=>⟨(c9 p hp).1,(c9 p hp).2.1⟩)
  rw[dL,dL,aX3] at h1
  exact N0 (place:=fun i=>some (i*sz,sz)) aGO h0 h1
 have fin:∀cs':Array Value,aR w.heap st ((ps.map (·.2)).flatMap AV.cells) cs'.toList →
  aM (w.heap.push (.cells cs' e')) st (.fslice (ps.map (·.2))) (.slice (some ⟨w.heap.size,0,none⟩) len len):=by
  intro cs' hv
  have S':=(Ext.push w.heap (.cells cs' e')).step st
  refine⟨rfl,.inr ⟨w.heap.size,0,by simp [Value.cells,cU],by simp only[aE,cU];unfold maxLen;omega,?_,by simp,⟨sz,fun p hp=>(c9 p hp).1⟩,?_⟩⟩
  · cases hst:st w.heap.size with
    | none=>rfl
    | some o=>exact absurd (S _ _ hst).1 (Nat.lt_irrefl _)
  · exact AM (fun p hp=>(c9 p hp).2.1) (EZ w.heap cs' e' (0,0) cs'.toList 0 rfl) (aR.mono S' _ _ hv)
 by_cases h0:len*sz=0
 · obtain⟨cs',f1,f2⟩:=step ((Array.range (len*sz)).map fun x=>(#[]:Array Value)[x % (#[]:Array Value).size]!) (by simp)
   refine⟨.slice (some ⟨w.heap.size,0,none⟩) len len,w.alloc (.cells cs' e'),?_,fin cs' f2,Ext.push _ _,⟨rfl,rfl,rfl⟩⟩
   simp only[execOp,ho,Instr.buildSlice,Sem.run_bind,dQ hu,Result.andThen_ok,r2]
   rw[aK (by omega),aN h0]
   simp only[Sem.run_bind,Sem.run_pure,Result.andThen_ok,JC]
   rw[f1]
   simp [newRow]
 · obtain⟨cs',f1,f2⟩:=step ((Array.range (len*sz)).map fun x=>z.cells[x % z.cells.size]!) (by simp)
   refine⟨.slice (some ⟨w.heap.size,0,none⟩) len len,w.alloc (.cells cs' e'),?_,fin cs' f2,Ext.push _ _,⟨rfl,rfl,rfl⟩⟩
   simp only[execOp,ho,Instr.buildSlice,Sem.run_bind,dQ hu,Result.andThen_ok,r2]
   rw[aK (by omega),aK h0]
   simp only[Sem.run_bind,hz1,Result.andThen_ok,Sem.run_pure,JC]
   rw[f1]
   simp [newRow]
def NW(P:Program)(t:TypeId):Bool:=match P.underlying t with
 | some (.struct fs)=>match fs.toList with
  | [f,g]=>f.name != "_" && g.name != "_" && f.offset == 0&&g.offset == 1&&(match P.underlying f.type with | some .string=>true | _=>false)&&(match P.underlying g.type with | some (.int _)=>true | _=>false)
   && (tI P f.type == some (false,1))&&(tI P g.type == some (false,1))&& !P.stoodInHeld t&& !P.eqGuardType P.depth t
  | _=>false
 | _=>false
theorem w7{P:Program}{t:TypeId}(h:tI P t=some (false,1))(cs:Array Value)(off:Nat)(v:Value)(hv:cs[off]?=some v)(w:World):(part t cs off).run P w=.ok v w:=by
 obtain⟨r1,r2,_⟩:=tI_run h w
 simp only[part,Sem.run_bind,r1,Result.andThen_ok,iF,dA,hv,Sem.run_pure]
theorem aTA{P:Program}{t:TypeId}(h:NW P t=true)(a b:ByteArray)(k:IntKind)(n m:Int)(w:World) :
 (Op.equalIn 10000 t (.agg #[.string a,.int k n]) (.agg #[.string b,.int k m])).run P w=.ok (decide (a=b)&&decide (n=m)) w ∧
 ∀op x y,(eqGuard op t x y (.agg #[.string a,.int k n]) (.agg #[.string b,.int k m])).run P w=.ok () w:=by
 unfold NW at h
 split at h
 case h_2=>cases h
 rename_i fs hu
 split at h
 case h_2=>cases h
 rename_i f g hfs
 simp only[bD,beq_iff_eq,bne_iff_ne,i9] at h
 obtain⟨⟨⟨⟨⟨⟨⟨⟨⟨n1,n2⟩,o1⟩,o2⟩,u1⟩,u2⟩,t1⟩,t2⟩,hs⟩,hg⟩:=h
 have hf:P.fieldsOf t=fs:=by unfold Program.fieldsOf;rw[hu]
 refine⟨?_,fun op x y=>run_eqGuard_agg w op t x y _ _ hg⟩
 have hu1:P.underlying f.type=some .string:=by
  split at u1
  · assumption
  · cases u1
 obtain⟨k',hu2⟩:∃k',P.underlying g.type=some (.int k'):=by
  split at u2
  · exact⟨_,by assumption⟩
  · cases u2
 suffices key:∀d,(Op.equalIn (d+1+1) t (.agg #[.string a,.int k n]) (.agg #[.string b,.int k m])).run P w=.ok (decide (a=b)&&decide (n=m)) w from key 9998
 intro d
 rw[run_equalIn_struct w (d+1) t _ _ (by rw[hf];exact hu) hs,hf,hfs]
 have p1:=w7 (P:=P) t1 #[.string a,.int k n] 0 (.string a) rfl
 have p2:=w7 (P:=P) t1 #[.string b,.int k m] 0 (.string b) rfl
 have p3:=w7 (P:=P) t2 #[.string a,.int k n] 1 (.int k n) rfl
 have p4:=w7 (P:=P) t2 #[.string b,.int k m] 1 (.int k m) rfl
 have q1:=run_equalIn_string (P:=P) w d f.type a b hu1
 have q2:=run_equalIn_int (P:=P) w d g.type k k' n m hu2
 have hab:(a.toList == b.toList)=decide (a=b):=by
  by_cases h:a=b
  · subst h;simp
  · have h2:a.toList≠b.toList:=fun e=>h (by
     rw[ByteArray.toList_eq,ByteArray.toList_eq] at e
     exact ByteArray.ext (Array.ext' e))
    simp [h,h2]
 rw[hab] at q1
 have hnm:(n == m)=decide (n=m):=by by_cases h:n=m<;>simp [h]
 rw[hnm] at q2
 simp only[Op.eqFields,n1,n2,o1,o2,ne_eq,FR,eN,Sem.run_bind,p1,p2,p3,p4,q1,q2,Result.andThen_ok,Sem.run_ite,Sem.run_pure]
 generalize decide (a=b)=x
 generalize decide (n=m)=y
 cases x<;>cases y<;>rfl
def IK(P:Program)(t:TypeId):Bool:=match P.underlying t with
 | some (.struct fs)=>match fs.toList with
  | [f,g]=>f.name != "_" && g.name != "_" && f.offset == 0&&g.offset == 1&&(match P.underlying f.type with | some (.int _)=>true | _=>false)&&(match P.underlying g.type with | some .string=>true | _=>false)
   && (tI P f.type == some (false,1))&&(tI P g.type == some (false,1))&& !P.stoodInHeld t&& !P.eqGuardType P.depth t
  | _=>false
 | _=>false
theorem aS9{P:Program}{t:TypeId}(h:IK P t=true)(a b:ByteArray)(k:IntKind)(n m:Int)(w:World) :
 (Op.equalIn 10000 t (.agg #[.int k n,.string a]) (.agg #[.int k m,.string b])).run P w=.ok (decide (n=m)&&decide (a=b)) w ∧
 ∀op x y,(eqGuard op t x y (.agg #[.int k n,.string a]) (.agg #[.int k m,.string b])).run P w=.ok () w:=by
 unfold IK at h
 split at h
 case h_2=>cases h
 rename_i fs hu
 split at h
 case h_2=>cases h
 rename_i f g hfs
 simp only[bD,beq_iff_eq,bne_iff_ne,i9] at h
 obtain⟨⟨⟨⟨⟨⟨⟨⟨⟨n1,n2⟩,o1⟩,o2⟩,u1⟩,u2⟩,t1⟩,t2⟩,hs⟩,hg⟩:=h
 have hf:P.fieldsOf t=fs:=by unfold Program.fieldsOf;rw[hu]
 refine⟨?_,fun op x y=>run_eqGuard_agg w op t x y _ _ hg⟩
 have hu1:P.underlying g.type=some .string:=by
  split at u2
  · assumption
  · cases u2
 obtain⟨k',hu2⟩:∃k',P.underlying f.type=some (.int k'):=by
  split at u1
  · exact⟨_,by assumption⟩
  · cases u1
 suffices key:∀d,(Op.equalIn (d+1+1) t (.agg #[.int k n,.string a]) (.agg #[.int k m,.string b])).run P w=.ok (decide (n=m)&&decide (a=b)) w from key 9998
 intro d
 rw[run_equalIn_struct w (d+1) t _ _ (by rw[hf];exact hu) hs,hf,hfs]
 have p1:=w7 (P:=P) t1 #[.int k n,.string a] 0 (.int k n) rfl
 have p2:=w7 (P:=P) t1 #[.int k m,.string b] 0 (.int k m) rfl
 have p3:=w7 (P:=P) t2 #[.int k n,.string a] 1 (.string a) rfl
 have p4:=w7 (P:=P) t2 #[.int k m,.string b] 1 (.string b) rfl
 have q1:=run_equalIn_string (P:=P) w d g.type a b hu1
 have q2:=run_equalIn_int (P:=P) w d f.type k k' n m hu2
 have hab:(a.toList == b.toList)=decide (a=b):=by
  by_cases h:a=b
  · subst h;simp
  · have h2:a.toList≠b.toList:=fun e=>h (by
     rw[ByteArray.toList_eq,ByteArray.toList_eq] at e
     exact ByteArray.ext (Array.ext' e))
    simp [h,h2]
 rw[hab] at q1
 have hnm:(n == m)=decide (n=m):=by by_cases h:n=m<;>simp [h]
 rw[hnm] at q2
 simp only[Op.eqFields,n1,n2,o1,o2,ne_eq,FR,eN,Sem.run_bind,p1,p2,p3,p4,q1,q2,Result.andThen_ok,Sem.run_ite,Sem.run_pure]
 generalize decide (a=b)=x
 generalize decide (n=m)=y
 cases x<;>cases y<;>rfl
theorem aM.aHT{h:a7}{st:aA}{a:AV}{v:Value}(x:a.isAgg=jY v∧VC h st a v.cells.toList):aM h st a v:=by
 cases a<;>first | trivial | exact x
theorem c7.get{h:a7}{st:aA}:∀ {as:List AV} {vs:List Value} (n:Nat) {a:AV},c7 h st as vs→as[n]?=some a→∃v,vs[n]?=some v∧aM h st a v
 | [],_,n,a,_,e=>by simp at e
 | a'::as,vs,0,a,x,e=>by
  simp only[c7] at x
  obtain⟨c,r,rfl,x1,x2⟩:=x
  simp at e;subst e
  exact⟨c,rfl,aM.aHT x1⟩
 | a'::as,vs,n+1,a,x,e=>by
  simp only[c7] at x
  obtain⟨c,r,rfl,x1,x2⟩:=x
  simpa using c7.get n x2 (by simpa using e)
theorem aM.pair{h:a7}{st:aA}{a:AV}{v:Value}(x:aM h st a v)(hj:a.bR=false):a.isAgg=jY v∧VC h st a v.cells.toList:=by
 cases a<;>first | exact x | (simp [AV.bR] at hj)
def kY(as:List AV):Bool:=as.all fun a=> !a.bR
theorem c7.mk{h:a7}{st:aA}{a:Act}{φ:AF}(F:dR h st a.tmps φ):∀(l:List Operand),kY (l.map φ.eval)=true→c7 h st (l.map φ.eval) (l.map a.eval)
 | [],_=>by simp [c7]
 | o::l,hj=>by
  simp [kY] at hj
  simp only[bL,c7]
  exact⟨_,_,rfl,(aM.eval F o).pair hj.1,c7.mk F l (by simp [kY];exact hj.2)⟩
def v3(P:Program)(t:TypeId)(x:AV):Option AV:=
 match tI P t with
 | some (_,_)=>if x.bR then none else some (.pptr x)
 | none=>none
def oW(P:Program)(t:TypeId):AV→Option AV
 | .str s=>match P.underlying t with | some .string=>some (.int .i64 s.size) | _=>none
 | .slice es | .fslice es=>match P.underlying t with | some (.slice _)=>some (.int .i64 es.length) | _=>none
 | .mslice _ _ len _=>match P.underlying t with | some (.slice _)=>some (.int .i64 len) | _=>none
 | .eslice=>match P.underlying t with | some (.slice _)=>some (.int .i64 ((0:Nat):Int)) | _=>none
 | _=>none
def ED(P:Program)(t:TypeId):AV→Option AV
 | .fslice es=>match P.underlying t with | some (.slice _)=>some (.int .i64 es.length) | _=>none
 | _=>none
def bytesOf:List AV→Option (List UInt8)
 | []=>some []
 | .int .u8 n::r=>(bytesOf r).map (UInt8.ofNat n.toNat:: ·)
 | _=>none
def lM(P:Program)(src dst:TypeId):AV→Option AV
 | .int _ n=>match P.underlying src,P.underlying dst with
  | some _,some (.int k)=>some (.int k (k.wrap n))
  | _,_=>none
 | .slice es | .fslice es=>match P.underlying src,P.underlying dst with
  | some (.slice e),some .string=>match P.underlying e with
   | some (.int .u8)=>match bytesOf es with
    | some bs=>some (.str ⟨bs.toArray⟩)
    | none=>none
   | _=>none
  | _,_=>none
 | _=>none
def O6:Value→AV
 | .agg cs=>.agg (cs.toList.map ofConst)
 | v=>ofConst v
def zV(P:Program)(t:TypeId):Option AV:=
 match P.info? t with
 | some i=>i.zero.map O6
 | none=>none
theorem aM.aSS(h:a7)(st:aA)(v:Value):aM h st (O6 v) v:=by
 unfold O6
 split
 · rename_i cs
   exact⟨rfl,by simpa [Value.cells,VC] using aR.consts h st cs.toList⟩
 · exact aM.const h st v
theorem a3I{P:Program}{t:TypeId}{z:AV}(e:zV P t=some z)(h:a7)(st:aA)(w:World):∃v,(zeroValue t).run P w=.ok v w∧aM h st z v:=by
 unfold zV at e
 split at e
 · rename_i i hi
   cases hz:i.zero with
   | none=>rw[hz] at e;cases e
   | some v=>rw[hz] at e;cases e;exact⟨v,by simp [zeroValue,typeInfo,hi,hz],aM.aSS h st v⟩
 · cases e
def sS(P:Program)(st:aA)(t:TypeId)(ok:Bool):AV→AV→Option AV
 | .map b,.int .i64 n=>match st b,P.underlying t with
  | some (.map f),some (.map k e)=>match P.underlying k,f n with
   | some (.int .i64),some v=>if v.bR then none else some (if ok then .tup [v,.bool true] else v)
   | some (.int .i64),none=>match zV P e with
    | some z=>if z.bR then none else some (if ok then .tup [z,.bool false] else z)
    | none=>none
   | _,_=>none
  | _,_=>none
 | _,_=>none
section
variable {P:Program} {st:aA} {w:World} {a:Act} {φ:AF}
theorem S4{t:TypeId}{x:Operand}{r:AV}{o:Oper}(ho:o.op=.box t x)(F:dR w.heap st a.tmps φ)(S:cA w.heap st)(e:v3 P t (φ.eval x)=some r):gA st w r ((execOp a.eval o).run P w):=by
 have y:=aM.eval F x
 unfold v3 at e
 split at e
 case h_2=>cases e
 split at e
 · cases e
 rename_i hj
 cases e
 have hj':(φ.eval x).bR=false:=by simpa using hj
 have yp:=y.pair hj'
 refine⟨.pointer (some ⟨w.heap.size,0,none⟩),w.alloc (.cells (a.eval x).cells t),by simp [execOp,ho,Instr.box,newVar,newRow],?_,Ext.push _ _,⟨rfl,rfl,rfl⟩⟩
 have S':=(Ext.push w.heap (.cells (a.eval x).cells t)).step st
 refine⟨rfl,w.heap.size,0,rfl,?_,by simp,(a.eval x).cells.toList,EZ w.heap _ t (0,0) _ 0 rfl,?_,VC.mono S' _ _ yp.2⟩
 · cases hst:st w.heap.size with
   | none=>rfl
   | some o=>exact absurd (S _ _ hst).1 (Nat.lt_irrefl _)
 · have:=(y.cells (by intro h;rw[h] at hj';simp [AV.bR] at hj')).length
   rw[this]
   generalize φ.eval x=z
   cases z<;>rfl
theorem aR6{t:TypeId}{x:Operand}{r:AV}{o:Oper}(ho:o.op=.call { callee:=.builtin .cap,args:=#[x],argTypes:=#[t] })(F:dR w.heap st a.tmps φ)(e:ED P t (φ.eval x)=some r):gA st w r ((execOp a.eval o).run P w):=by
 have y:=aM.eval F x
 have run:∀ {n:Nat},(Builtin.cap_ #[t] o.type #[a.eval x]).run P w=.ok (.int .i64 n) w→gA st w (.int .i64 n) ((execOp a.eval o).run P w):=by
  intro n h
  refine .same (v:=.int .i64 n) ?_ aM.mP
  simp only[execOp,ho,resolve,Sem.run_bind,Sem.run_pure,Result.andThen_ok,invoke,builtin]
  simp [h]
 unfold ED at e
 split at e
 · rename_i es hx
   rw[hx] at y
   split at e
   · rename_i hu
     cases e
     rcases y.vA with ⟨⟨p0,hv⟩,rfl⟩ | ⟨b,off,hv,_⟩
     · exact run (by simp [Builtin.cap_,dQ hu,hv,goInt])
     · exact run (by simp [Builtin.cap_,dQ hu,hv,goInt])
   · cases e
 · cases e
theorem aYO{t:TypeId}{x:Operand}{r:AV}{o:Oper}(ho:o.op=.call { callee:=.builtin .len,args:=#[x],argTypes:=#[t] })(F:dR w.heap st a.tmps φ)(e:oW P t (φ.eval x)=some r):gA st w r ((execOp a.eval o).run P w):=by
 have y:=aM.eval F x
 have run:∀ {n:Nat},(Builtin.len_ #[t] o.type #[a.eval x]).run P w=.ok (.int .i64 n) w→gA st w (.int .i64 n) ((execOp a.eval o).run P w):=by
  intro n h
  refine .same (v:=.int .i64 n) ?_ aM.mP
  simp only[execOp,ho,resolve,Sem.run_bind,Sem.run_pure,Result.andThen_ok,invoke,builtin]
  simp [h]
 unfold oW at e
 split at e
 · rename_i s hx
   rw[hx] at y
   split at e
   · rename_i hu
     cases e
     exact run (by simp [Builtin.len_,dQ hu,y.zP.1,goInt])
   · cases e
 · rename_i es hx
   rw[hx] at y
   split at e
   · rename_i hu
     cases e
     rcases y.F8 with ⟨⟨p0,hv⟩,rfl⟩ | ⟨b,off,cap,hv,_⟩
     · exact run (by simp [Builtin.len_,dQ hu,hv,goInt])
     · exact run (by simp [Builtin.len_,dQ hu,hv,goInt])
   · cases e
 · rename_i es hx
   rw[hx] at y
   split at e
   · rename_i hu
     cases e
     rcases y.vA with ⟨⟨p0,hv⟩,rfl⟩ | ⟨b,off,hv,_⟩
     · exact run (by simp [Builtin.len_,dQ hu,hv,goInt])
     · exact run (by simp [Builtin.len_,dQ hu,hv,goInt])
   · cases e
 · rename_i b off len n hx
   rw[hx] at y
   split at e
   · rename_i hu
     cases e
     obtain⟨cap,hv,_⟩:=y.CG
     exact run (by simp [Builtin.len_,dQ hu,hv,goInt])
   · cases e
 · rename_i hx
   rw[hx] at y
   split at e
   · rename_i hu
     cases e
     obtain⟨p,c,hv⟩:=y.NX
     exact run (by simp [Builtin.len_,dQ hu,hv,goInt])
   · cases e
 · cases e
theorem aTR{x:Operand}{i:Nat}{r:AV}{vs:List AV}{o:Oper}(ho:o.op=.extract x i)(F:dR w.heap st a.tmps φ)(hx:φ.eval x=.tup vs)(e:vs[i]?=some r):gA st w r ((execOp a.eval o).run P w):=by
 have y:=aM.eval F x
 rw[hx] at y
 obtain⟨us,hv,hus⟩:=y.a2W
 obtain⟨v,hv',rv⟩:=hus.get i e
 exact .same (v:=v) (by simp [execOp,ho,Instr.extract,hv,hv']) rv
theorem aY2{g:FuncId}{dB:Array Operand}{o:Oper}(ho:o.op=.makeFunc (.func g) #[] dB)(F:dR w.heap st a.tmps φ)(hj:kY (dB.toList.map φ.eval)=true) :
 gA st w (.func g (dB.toList.map φ.eval)) ((execOp a.eval o).run P w):=by
 refine .same (v:=.func (.func g) #[] (dB.map a.eval)) (by simp [execOp,ho,Instr.makeFunc]) ⟨rfl,dB.toList.map a.eval,?_,c7.mk F dB.toList hj⟩
 have:dB.map a.eval=(dB.toList.map a.eval).toArray:=by apply Array.ext';simp
 simp [Value.cells,this]
theorem S6{h:a7}{b:Nat}:∀ {es:List AV} {bs:List UInt8} {off:Nat},bytesOf es=some bs→cS h st b off es →
 ∃vs,d8 h b off vs∧vs.length=es.length∧∃ns:List Int,vs=ns.map (Value.int .u8)∧bs=ns.map fun n=>UInt8.ofNat n.toNat
 | [],bs,off,e,_=>by simp only[bytesOf] at e;cases e;exact⟨[],trivial,rfl,[],rfl,rfl⟩
 | x::es,bs,off,e,y=>by
  unfold bytesOf at e
  split at e
  · rename_i h;cases h
  · rename_i n r h
    cases h
    cases hb:bytesOf es with
    | none=>rw[hb] at e;cases e
    | some bs'=>
     rw[hb] at e;cases e
     simp only[cS] at y
     obtain⟨⟨cs,c1,c2,c3⟩,y2⟩:=y
     simp only[VC] at c3
     subst c3
     obtain⟨vs,v1,v2,ns,n1,n2⟩:=S6 hb y2
     exact⟨.int .u8 n::vs,⟨c1.1,v1⟩,by simp [v2],n::ns,by simp [n1],by simp [n2]⟩
  · cases e
theorem aL7(es:List AV)(bs:List UInt8)(e:bytesOf es=some bs):bs.length=es.length:=by
 induction es generalizing bs with
 | nil=>simp only[bytesOf] at e;cases e;rfl
 | cons x es ih=>
  unfold bytesOf at e
  split at e
  · rename_i h;cases h
  · rename_i n r h
    cases h
    cases hb:bytesOf es with
    | none=>rw[hb] at e;cases e
    | some bs'=>rw[hb] at e;cases e;simp [ih _ hb]
  · cases e
theorem aST{src dst:TypeId}{x:Operand}{r:AV}{o:Oper}(ho:o.op=.convert src dst x)(F:dR w.heap st a.tmps φ)(e:lM P src dst (φ.eval x)=some r):gA st w r ((execOp a.eval o).run P w):=by
 have y:=aM.eval F x
 have bytes:∀ {es:List AV},aM w.heap st (.slice es) (a.eval x)→(match P.underlying src,P.underlying dst with
  | some (.slice e),some .string=>match P.underlying e with
   | some (.int .u8)=>match bytesOf es with
    | some bs=>some (AV.str ⟨bs.toArray⟩)
    | none=>none
   | _=>none
  | _,_=>none)=some r→gA st w r ((execOp a.eval o).run P w):=by
  intro es y e
  split at e
  case h_2=>cases e
  rename_i el hs hd
  split at e
  case h_2=>cases e
  rename_i he
  split at e
  case h_2=>cases e
  rename_i bs hb
  cases e
  have hlen:=aL7 es bs hb
  rcases y.F8 with ⟨⟨p0,hv⟩,rfl⟩ | ⟨b,off,cap,hv,l1,l2,e2,e3,ev,e4⟩
  · simp only[bytesOf] at hb;cases hb
    refine .same (v:=.string ByteArray.empty) ?_ ⟨rfl,rfl,iI _⟩
    simp only[execOp,ho,convert,Sem.run_bind,dQ hs,dQ hd,Result.andThen_ok,hv,dQ he]
    cases p0 with
    | none=>rfl
    | some a0=>
     have hk:=Go.run_bytesToString (P:=P) w a0 0 0 [] (by simp [loadCells,loadCellsFrom])
     rw[hk]
     try rfl
  · obtain⟨vs,v1,v2,ns,n1,n2⟩:=S6 hb e4
    subst n1
    have hl:=aIR (P:=P) v1
    rw[aE] at hl
    have hns:ns.length=es.length:=by simpa using v2
    refine .same (v:=.string ⟨bs.toArray⟩) ?_ ⟨rfl,rfl,by simp [ByteArray.size,hlen];unfold maxLen at *;omega⟩
    simp only[execOp,ho,convert,Sem.run_bind,dQ hs,dQ hd,Result.andThen_ok,hv,dQ he]
    have hk:=Go.run_bytesToString (P:=P) w ⟨b,off,none⟩ es.length cap ns (by rw[←hns];exact hl)
    rw[hk]
    simp only[Result.andThen_ok,Sem.run_pure]
    rw[foldl_push_bytes ns ByteArray.empty,n2]
    simp [ByteArray.empty,ByteArray.emptyWithCapacity]
    rfl
 unfold lM at e
 split at e
 · rename_i k n hx
   rw[hx] at y
   split at e
   · rename_i d k' hs hd
     cases e
     refine .same (v:=.int k' (k'.wrap n)) ?_ aM.mP
     simp only[execOp,ho,convert,Sem.run_bind,dQ hs,dQ hd,Result.andThen_ok,y.jF]
     cases d<;>simp [Conv.intToInt]
   · cases e
 · rename_i es hx
   rw[hx] at y
   exact bytes y e
 · rename_i es hx
   rw[hx] at y
   exact bytes y.E9 e
 · cases e
theorem E5(n:Int):∀(es:List MapEntry) (i:Nat),(∀e∈es,∃m,e.key=.int .i64 m) →
 (∃j e,es[j]?=some e∧e.key=.int .i64 n∧Instr.findNow (.int .i64) (.int .i64 n) es i=some (some (i+j,e.val))) ∨
 ((∀e∈es,e.key≠.int .i64 n)∧Instr.findNow (.int .i64) (.int .i64 n) es i=some none)
 | [],i,_=>.inr ⟨by simp,rfl⟩
 | e::es,i,h=>by
  obtain⟨m,hm⟩:=h e (by simp)
  by_cases hmn:m=n
  · subst hmn
    exact .inl ⟨0,e,rfl,hm,by simp [Instr.findNow,Instr.sameNow,hm]⟩
  · have hne:(n == m)=false:=by simpa using fun q=>hmn q.symm
    have step:Instr.findNow (.int .i64) (.int .i64 n) (e::es) i=Instr.findNow (.int .i64) (.int .i64 n) es (i+1):=by
     simp [Instr.findNow,Instr.sameNow,hm,hne]
    rw[step]
    rcases E5 n es (i+1) (fun e he=>h e (by simp [he])) with ⟨j,e',h1,h2,h3⟩ | ⟨h1,h2⟩
    · exact .inl ⟨j+1,e',by simpa using h1,h2,by rw[h3];congr 3;omega⟩
    · refine .inr ⟨fun e' he'=>?_,h2⟩
      rcases cL.1 he' with rfl | he'
      · rw[hm];simpa using hmn
      · exact h1 e' he'
theorem aSC{kt:TypeId}(hk:P.underlying kt=some (.int .i64))(b:Bool)(n:Int)(m:Nat):(Instr.checkKey b (m+1) kt (.int .i64 n)).run P w=.ok () w:=by
 simp only[Instr.checkKey,Sem.run_bind,dQ hk,Result.andThen_ok]
 rfl
theorem BK{kt:TypeId}(hk:P.underlying kt=some (.int .i64))(b:Bool)(n:Int):(Instr.checkKey b 10000 kt (.int .i64 n)).run P w=.ok () w:=aSC hk b n 9999
theorem BX{b:Nat}{es:Array MapEntry}{cl:Nat}(h:w.heap[b]?=some (.map es cl)):(getObj b).run P w=.ok (.map es cl) w:=by
 simp only[getObj,Sem.run,h]
theorem aYY{t:TypeId}{x i:Operand}{ok:Bool}{r:AV}{o:Oper}(ho:o.op=.lookup t x i ok)(F:dR w.heap st a.tmps φ)(S:cA w.heap st)(e:sS P st t ok (φ.eval x) (φ.eval i)=some r):gA st w r ((execOp a.eval o).run P w):=by
 have y:=aM.eval F x
 have yi:=aM.eval F i
 unfold sS at e
 split at e
 case h_2=>cases e
 rename_i b n hx hi
 rw[hx] at y
 rw[hi] at yi
 split at e
 case h_2=>cases e
 rename_i f k el hs hu
 obtain⟨_,es,cl,hb,hk1,hk2,hk3⟩:=S b _ hs
 have hn:=hk3 n
 have fin:∀ {v:Value} {z:AV} {q:Bool},z.bR=false→aM w.heap st z v→(execOp a.eval o).run P w=.ok (.value (if ok then .tuple #[v,.bool q] else v)) w→gA st w (if ok then .tup [z,.bool q] else z) ((execOp a.eval o).run P w):=by
  intro v z q hz hv hr
  refine .same hr ?_
  cases ok with
  | true=>exact⟨rfl,[v,.bool q],by simp [Value.cells],by simp only[c7];exact⟨v,_,rfl,hv.pair hz,_,_,rfl,⟨rfl,by simp [VC,Value.cells]⟩,rfl⟩⟩
  | false=>exact hv
 split at e
 · rename_i v hk hf
   rw[hf] at hn
   obtain⟨en,hen,aGD,hv⟩:=hn
   split at e
   · cases e
   rename_i hvj
   cases e
   have aXY:v.bR=false:=by simpa using hvj
   rcases E5 n es.toList 0 hk1 with ⟨j,e',h1,h2,h3⟩ | ⟨h1,_⟩
   · have hee:e'=en:=by
      obtain⟨j',hj'⟩:=DW hen
      have hjj:j=j':=by
       have a1:(es.toList.map (·.key))[j]?=some (.int .i64 n):=by simp [h1,h2]
       have a2:(es.toList.map (·.key))[j']?=some (.int .i64 n):=by simp [hj',aGD]
       exact(List.getElem?_inj (by have:=(fM.1 a1).1;simpa using this) hk2).1 (a1.trans a2.symm)
      subst hjj
      rw[h1] at hj';exact mL hj'
     subst hee
     refine fin aXY hv ?_
     simp only[execOp,ho,Instr.lookup,Sem.run_bind,dQ hu,Result.andThen_ok,y.CB,yi.jF,BX hb,Sem.run_pure,BK hk,Instr.findKey,dQ hk,h3]
   · exact absurd aGD (h1 en hen)
 · rename_i hk hf
   rw[hf] at hn
   rcases E5 n es.toList 0 hk1 with ⟨j,e',h1,h2,h3⟩ | ⟨_,h3⟩
   · exact absurd h2 (hn e' (cQ h1))
   · split at e
     case h_2=>cases e
     rename_i z hz
     split at e
     · cases e
     rename_i hzj
     cases e
     obtain⟨v,z1,z2⟩:=a3I hz w.heap st w
     refine fin (by simpa using hzj) z2 ?_
     simp only[execOp,ho,Instr.lookup,Sem.run_bind,dQ hu,Result.andThen_ok,y.CB,yi.jF,BX hb,Sem.run_pure,BK hk,Instr.findKey,dQ hk,h3,z1]
 · cases e
end
def dJ(P:Program)(op:BinOp)(t:TypeId)(x y:AV):Option AV:=
 match x,y with
 | .bool a,.bool b=>match P.underlying t,op with
  | some .bool,.eql=>some (.bool (a == b))
  | some .bool,.neq=>some (.bool (!(a == b)))
  | _,_=>none
 | .agg [.str a,.int k n],.agg [.str b,.int k' m]=>if k=k'∧NW P t=true then match op with
  | .eql=>some (.bool (decide (a=b)&&decide (n=m)))
  | .neq=>some (.bool (!(decide (a=b)&&decide (n=m))))
  | _=>none
  else none
 | .agg [.int k n,.str a],.agg [.int k' m,.str b]=>if k=k'∧IK P t=true then match op with
  | .eql=>some (.bool (decide (n=m)&&decide (a=b)))
  | .neq=>some (.bool (!(decide (n=m)&&decide (a=b))))
  | _=>none
  else none
 | .pptr _,.nilptr=>match P.underlying t,op with
  | some (.pointer _),.eql=>some (.bool false)
  | some (.pointer _),.neq=>some (.bool true)
  | _,_=>none
 | .nilptr,.nilptr=>match P.underlying t,op with
  | some (.pointer _),.eql=>some (.bool true)
  | some (.pointer _),.neq=>some (.bool false)
  | _,_=>none
 | x,y=>iU op x y
theorem aMJ{P:Program}{h:a7}{st:aA}{w:World}{op:BinOp}{t:TypeId}{p q r:AV}{u v:Value}(e:dJ P op t p q=some r)(hp:aM h st p u)(hq:aM h st q v) :
 ∃z,(binOp op t u v).run P w=.ok z w∧aM h st r z∧∀x y,(eqGuard op t x y u v).run P w=.ok () w:=by
 unfold dJ at e
 split at e
 · rename_i a b
   rw[hp.yD,hq.yD]
   have hg:∀x y,(eqGuard op t x y (.bool a) (.bool b)).run P w=.ok () w:=fun x y=>by rw[eqGuard_at_bool];try rfl
   split at e
   · rename_i hu;cases e;exact⟨_,run_eql_bool w t a b hu,aM.jQ,hg⟩
   · rename_i hu;cases e;exact⟨_,run_neq_bool w t a b hu,aM.jQ,hg⟩
   · cases e
 · rename_i a k n b k' m
   split at e
   case isFalse=>cases e
   rename_i hk
   obtain⟨rfl,hk⟩:=hk
   obtain⟨vs,rfl,h1⟩:=hp.x9
   obtain⟨us,rfl,h2⟩:=hq.x9
   simp only[aR,VC] at h1 h2
   obtain⟨v1,r1,rfl,h3,v2,r2,rfl,h4,rfl⟩:=h1
   obtain⟨u1,s1,rfl,h5,u2,s2,rfl,h6,rfl⟩:=h2
   obtain rfl:v1=.string a:=by simpa using h3.1
   obtain rfl:u1=.string b:=by simpa using h5.1
   obtain rfl:v2=.int k n:=by simpa using h4
   obtain rfl:u2=.int k m:=by simpa using h6
   obtain⟨q1,q2⟩:=aTA (P:=P) hk a b k n m w
   split at e
   · cases e
     exact⟨_,by rw[run_eql_struct,q1];try rfl,aM.jQ,fun x y=>q2 _ x y⟩
   · cases e
     exact⟨_,by rw[run_neq_struct,q1];try rfl,aM.jQ,fun x y=>q2 _ x y⟩
   · cases e
 · rename_i k n a k' m b
   split at e
   case isFalse=>cases e
   rename_i hk
   obtain⟨rfl,hk⟩:=hk
   obtain⟨vs,rfl,h1⟩:=hp.x9
   obtain⟨us,rfl,h2⟩:=hq.x9
   simp only[aR,VC] at h1 h2
   obtain⟨v1,r1,rfl,h3,v2,r2,rfl,h4,rfl⟩:=h1
   obtain⟨u1,s1,rfl,h5,u2,s2,rfl,h6,rfl⟩:=h2
   obtain rfl:v1=.int k n:=by simpa using h3
   obtain rfl:u1=.int k m:=by simpa using h5
   obtain rfl:v2=.string a:=by simpa using h4.1
   obtain rfl:u2=.string b:=by simpa using h6.1
   obtain⟨q1,q2⟩:=aS9 (P:=P) hk a b k n m w
   split at e
   · cases e
     exact⟨_,by rw[run_eql_struct,q1];try rfl,aM.jQ,fun x y=>q2 _ x y⟩
   · cases e
     exact⟨_,by rw[run_neq_struct,q1];try rfl,aM.jQ,fun x y=>q2 _ x y⟩
   · cases e
 · obtain⟨b,off,rfl,_⟩:=hp.JU
   obtain rfl:=hq.O4
   split at e
   · rename_i pe hu
     cases e
     exact⟨_,run_eql_pointer_nil w t _ (by unfold Program.pointee;rw[hu]),aM.jQ,fun x y=>by rw[eqGuard_at_pointer];try rfl⟩
   · rename_i pe hu
     cases e
     exact⟨_,run_neq_pointer_nil w t _ (by unfold Program.pointee;rw[hu]),aM.jQ,fun x y=>by rw[eqGuard_at_pointer];try rfl⟩
   · cases e
 · obtain rfl:=hp.O4
   obtain rfl:=hq.O4
   split at e
   · rename_i pe hu
     cases e
     exact⟨_,run_eql_pointer_nil w t _ (by unfold Program.pointee;rw[hu]),aM.jQ,fun x y=>by rw[eqGuard_at_pointer];try rfl⟩
   · rename_i pe hu
     cases e
     exact⟨_,run_neq_pointer_nil w t _ (by unfold Program.pointee;rw[hu]),aM.jQ,fun x y=>by rw[eqGuard_at_pointer];try rfl⟩
   · cases e
 · exact aMK e hp hq
def AU:AV→AV→Option AV
 | .int k x,.int k' y=>if k=k' then some (.int k (if x<y then y else x)) else none
 | _,_=>none
theorem aY8{P:Program}{st:aA}{w:World}{a:Act}{φ:AF}{ts:Array TypeId}{x y:Operand}{r:AV}{o:Oper}(ho:o.op=.call { callee:=.builtin .max,args:=#[x,y],argTypes:=ts })(F:dR w.heap st a.tmps φ)(e:AU (φ.eval x) (φ.eval y)=some r):gA st w r ((execOp a.eval o).run P w):=by
 have y1:=aM.eval F x
 have y2:=aM.eval F y
 unfold AU at e
 split at e
 case h_2=>cases e
 rename_i k n k' m h1 h2
 split at e
 case isFalse=>cases e
 rename_i hk
 subst hk
 cases e
 rw[h1] at y1
 rw[h2] at y2
 refine .same (v:=.int k (if n<m then m else n)) ?_ aM.mP
 simp only[execOp,ho,resolve,Sem.run_bind,Sem.run_pure,Result.andThen_ok,invoke,builtin]
 have:=run_max_int2 (P:=P) w ts o.type k k n m
 simp only[gt_iff_lt] at this
 simp [y1.jF,y2.jF,this]
def AX:AV→AV→Option AV
 | .int k x,.int k' y=>if k=k' then some (.int k (if y<x then y else x)) else none
 | _,_=>none
theorem aZB{P:Program}{st:aA}{w:World}{a:Act}{φ:AF}{ts:Array TypeId}{x y:Operand}{r:AV}{o:Oper}(ho:o.op=.call { callee:=.builtin .min,args:=#[x,y],argTypes:=ts })(F:dR w.heap st a.tmps φ)(e:AX (φ.eval x) (φ.eval y)=some r):gA st w r ((execOp a.eval o).run P w):=by
 have y1:=aM.eval F x
 have y2:=aM.eval F y
 unfold AX at e
 split at e
 case h_2=>cases e
 rename_i k n k' m h1 h2
 split at e
 case isFalse=>cases e
 rename_i hk
 subst hk
 cases e
 rw[h1] at y1
 rw[h2] at y2
 refine .same (v:=.int k (if m<n then m else n)) ?_ aM.mP
 simp only[execOp,ho,resolve,Sem.run_bind,Sem.run_pure,Result.andThen_ok,invoke,builtin]
 have:=run_min_int2 (P:=P) w ts o.type k k n m
 simp [y1.jF,y2.jF,this]
def kN(P:Program)(φ:AF)(st:aA)(o:Oper):Option AV:=
 match o.op with
 | .move x=>some (φ.eval x)
 | .assign x=>some (φ.eval x)
 | .pick c x y=>match φ.eval c with | .bool b=>some (if b then φ.eval x else φ.eval y) | _=>none
 | .binOp op t x y _=>dJ P op t (φ.eval x) (φ.eval y)
 | .unOp op _ x=>EL op (φ.eval x)
 | .nilCheck x=>match φ.eval x with | .ptr b q=>some (.ptr b q) | .pptr e=>some (.pptr e) | _=>none
 | .fieldAddr t x f=>sM P t f (φ.eval x)
 | .load t x=>f0 P st t (φ.eval x)
 | .field t x f=>match fI P t f,φ.eval x with | some (off,ag,sz),.agg cs=>sub ag cs off sz | _,_=>none
 | .indexAddr t x i=>dT P t (φ.eval x) (φ.eval i)
 | .index t x i=>AT P t (φ.eval x) (φ.eval i)
 | .slice t x lo hi mx=>gJ P φ t (φ.eval x) lo hi mx
 | .extract x i=>match φ.eval x with | .tup vs=>vs[i]? | _=>none
 | .makeFunc (.func g) first dB=>if first.size=0∧kY (dB.toList.map φ.eval)=true then some (.func g (dB.toList.map φ.eval)) else none
 | .build t parts=>xR P φ t parts
 | .buildSlice t len parts=>z0 P φ t len parts
 | .convert src dst x=>lM P src dst (φ.eval x)
 | .box t x=>v3 P t (φ.eval x)
 | .lookup t x i ok=>sS P st t ok (φ.eval x) (φ.eval i)
 | .call { callee:=.builtin .len,args,argTypes }=>match args.toList,argTypes.toList with | [x],[t]=>oW P t (φ.eval x) | _,_=>none
 | .call { callee:=.builtin .cap,args,argTypes }=>match args.toList,argTypes.toList with | [x],[t]=>ED P t (φ.eval x) | _,_=>none
 | .call { callee:=.builtin .max,args,argTypes }=>match args.toList with | [x,y]=>AU (φ.eval x) (φ.eval y) | _=>none
 | .call { callee:=.builtin .min,args,argTypes }=>match args.toList with | [x,y]=>AX (φ.eval x) (φ.eval y) | _=>none
 | _=>none
theorem aMT{P:Program}{st:aA}{w:World}{a:Act}{φ:AF}{o:Oper}{r:AV}(F:dR w.heap st a.tmps φ)(S:cA w.heap st)(e:kN P φ st o=some r):gA st w r ((execOp a.eval o).run P w):=by
 unfold kN at e
 split at e
 case h_1 x ho=>cases e;exact .same (v:=a.eval x) (by simp [execOp,ho]) (aM.eval F x)
 case h_2 x ho=>cases e;exact .same (v:=a.eval x) (by simp [execOp,ho]) (aM.eval F x)
 case h_3 c x y ho=>
  split at e
  · rename_i b hc
    cases e
    have yc:=aM.eval F c
    rw[hc] at yc
    refine .same (v:=if b then a.eval x else a.eval y) (by simp [execOp,ho,yc.yD,asBool]) ?_
    cases b
    · exact aM.eval F y
    · exact aM.eval F x
  · cases e
 case h_4 op t x y t' ho=>
  obtain⟨z,z1,z2,z3⟩:=aMJ (P:=P) (w:=w) (t:=t) e (aM.eval F x) (aM.eval F y)
  exact .same (v:=z) (by simp [execOp,ho,z1,z3]) z2
 case h_5 op t x ho=>
  have y:=aM.eval F x
  unfold EL at e
  split at e
  · rename_i b hx
    rw[hx] at y
    cases op<;>simp only[] at e<;>cases e
    exact .same (v:=.bool (!b)) (by simp [execOp,ho,y.yD,Op.unary]) aM.jQ
  · rename_i k n hx
    rw[hx] at y
    cases op<;>simp only[] at e<;>cases e
    exact .same (v:=.int k (k.wrap (0 - n))) (by simp [execOp,ho,y.jF,Op.unary,Op.intArith]) aM.mP
  · cases e
 case h_6 x ho=>
  have y:=aM.eval F x
  split at e
  · rename_i b q hx
    rw[hx] at y
    cases e
    exact .same (v:=.pointer (some ⟨b,q,none⟩)) (by simp [execOp,ho,y.zE]) ⟨rfl,rfl⟩
  · rename_i e' hx
    rw[hx] at y
    cases e
    obtain⟨b,q,hv,_⟩:=y.JU
    exact .same (v:=.pointer (some ⟨b,q,none⟩)) (by simp [execOp,ho,hv]) (by rw[←hv];exact y)
  · cases e
 case h_7 t x f ho=>exact aV5 ho F e
 case h_8 t x ho=>exact aYV ho F S e
 case h_9 t x f ho=>
  split at e
  · rename_i off ag sz cs hI hx;exact aV6 ho F hI hx e
  · cases e
 case h_10 t x i ho=>exact aX6 ho F e
 case h_11 t x i ho=>exact aX7 ho F e
 case h_12 t x lo hi mx ho=>exact a1L ho F e
 case h_13 x i ho=>
  split at e
  · rename_i vs hx;exact aTR ho F hx e
  · cases e
 case h_14 g first dB ho=>
  split at e
  · rename_i hc
    cases e
    have:first= #[]:=LH hc.1
    subst this
    exact aY2 ho F hc.2
  · cases e
 case h_15 t parts ho=>exact aOI ho F e
 case h_16 t len parts ho=>exact aOH ho F S e
 case h_17 src dst x ho=>exact aST ho F e
 case h_18 t x ho=>exact S4 ho F S e
 case h_19 t x i ok ho=>exact aYY ho F S e
 case h_20 args ats ho=>
  split at e
  · rename_i x t hx ht
    obtain rfl:args= #[x]:=by rw[←p8 (xs:=args),hx]
    obtain rfl:ats= #[t]:=by rw[←p8 (xs:=ats),ht]
    exact aYO ho F e
  · cases e
 case h_21 args ats ho=>
  split at e
  · rename_i x t hx ht
    obtain rfl:args= #[x]:=by rw[←p8 (xs:=args),hx]
    obtain rfl:ats= #[t]:=by rw[←p8 (xs:=ats),ht]
    exact aR6 ho F e
  · cases e
 case h_22 args ats ho=>
  split at e
  · rename_i x y hx
    obtain rfl:args= #[x,y]:=by rw[←p8 (xs:=args),hx]
    exact aY8 ho F e
  · cases e
 case h_23 args ats ho=>
  split at e
  · rename_i x y hx
    obtain rfl:args= #[x,y]:=by rw[←p8 (xs:=args),hx]
    exact aZB ho F e
  · cases e
 case h_24=>cases e
end Go.AW
