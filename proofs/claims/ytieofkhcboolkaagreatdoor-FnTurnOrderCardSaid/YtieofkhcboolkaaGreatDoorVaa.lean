/- The abstract values and the relation between them and a heap: no function of the program is mentioned here. -/
import Derived.WalkKit
set_option linter.unusedSimpArgs false
set_option linter.unusedVariables false
set_option maxRecDepth 100000
namespace Go.AW
theorem aE:type_of% @if_neg.{1}:=@if_neg
theorem aF:type_of% @List.length_map.{0,0}:=@List.length_map
theorem aG:type_of% @if_pos.{1}:=@if_pos
theorem aU:type_of% @List.length_cons.{0}:=@List.length_cons
theorem aY:type_of% @List.map_nil.{0,0}:=@List.map_nil
theorem aZ:type_of% @List.length_nil.{0}:=@List.length_nil
theorem bA:type_of% @List.map_cons.{0,0}:=@List.map_cons
theorem bK:type_of% @decide_eq_true_eq:=@decide_eq_true_eq
theorem bM:type_of% @decide_true:=@decide_true
theorem bP:type_of% @decide_false:=@decide_false
theorem bV:type_of% @Bool.and_eq_true:=@Bool.and_eq_true
theorem bZ:type_of% @eq_false:=@eq_false
theorem cB:type_of% @List.mem_map.{0,0}:=@List.mem_map
theorem cH:type_of% @List.mem_of_getElem?.{0}:=@List.mem_of_getElem?
theorem cL:type_of% @eq_true:=@eq_true
theorem cU:type_of% @Nat.le_refl:=@Nat.le_refl
theorem cY:type_of% @List.mem_cons.{0}:=@List.mem_cons
theorem c7:type_of% @List.length_take.{0}:=@List.length_take
theorem c9:type_of% @Ne.symm.{1}:=@Ne.symm
theorem dF:type_of% @decide_eq_false_iff_not:=@decide_eq_false_iff_not
theorem dK:type_of% @List.not_mem_nil.{0}:=@List.not_mem_nil
theorem dN:type_of% @List.length_append.{0}:=@List.length_append
theorem dQ:type_of% @or_false:=@or_false
theorem dS:type_of% @List.take_length.{0}:=@List.take_length
theorem dT:type_of% @if_false.{1}:=@if_false
theorem dU:type_of% @Bool.true_and:=@Bool.true_and
theorem dW:type_of% @List.all_eq_true.{0}:=@List.all_eq_true
theorem dY:type_of% @List.take_add_one.{0}:=@List.take_add_one
theorem d4:type_of% @List.getElem?_eq_getElem.{0}:=@List.getElem?_eq_getElem
theorem d5:type_of% @decide_eq_false:=@decide_eq_false
theorem eA:type_of% @congrArg.{1,1}:=@congrArg
theorem eE:type_of% @decide_eq_true:=@decide_eq_true
theorem eH:type_of% @List.mem_append.{0}:=@List.mem_append
theorem eS:type_of% @and_true:=@and_true
theorem eX:type_of% @if_true.{1}:=@if_true
theorem fA:type_of% @List.getElem?_eq_some_iff.{0}:=@List.getElem?_eq_some_iff
theorem fB:type_of% @List.nil_append.{0}:=@List.nil_append
theorem fF:type_of% @Bool.false_and:=@Bool.false_and
theorem fX:type_of% @Bool.false_eq_true:=@Bool.false_eq_true
theorem gM:type_of% @List.append_nil.{0}:=@List.append_nil
theorem gV:type_of% @List.cons_append.{0}:=@List.cons_append
theorem gZ:type_of% @Nat.zero_add:=@Nat.zero_add
theorem iU:type_of% @Nat.zero_le:=@Nat.zero_le
theorem jA:type_of% @List.take_zero.{0}:=@List.take_zero
theorem jO:type_of% @Int.toNat_natCast:=@Int.toNat_natCast
theorem jZ:type_of% @Bool.not_true:=@Bool.not_true
theorem kB:type_of% @List.drop_length.{0}:=@List.drop_length
theorem kG:type_of% @beq_self_eq_true.{0}:=@beq_self_eq_true
theorem kQ:type_of% @Nat.le_trans:=@Nat.le_trans
theorem kY:type_of% @List.all_cons.{0}:=@List.all_cons
theorem kZ:type_of% @Nat.min_eq_left:=@Nat.min_eq_left
theorem lJ:type_of% @Bool.not_eq_true':=@Bool.not_eq_true'
theorem lL:type_of% @List.append_assoc.{0}:=@List.append_assoc
theorem lM:type_of% @List.take_of_length_le.{0}:=@List.take_of_length_le
theorem lN:type_of% @Nat.lt_or_ge:=@Nat.lt_or_ge
theorem l8:type_of% @Bool.and_false:=@Bool.and_false
theorem l9:type_of% @Bool.not_false:=@Bool.not_false
theorem mA:type_of% @List.getElem?_map.{0,0}:=@List.getElem?_map
theorem mB:type_of% @List.length_drop.{0}:=@List.length_drop
theorem mC:type_of% @List.mem_of_mem_take.{0}:=@List.mem_of_mem_take
theorem mD:type_of% @Option.some.inj.{0}:=@Option.some.inj
theorem nL:type_of% @Int.ofNat_lt:=@Int.ofNat_lt
theorem oF:type_of% @List.nodup_nil.{0}:=@List.nodup_nil
theorem oG:type_of% @Option.map_some.{0,0}:=@Option.map_some
theorem oX:type_of% @Array.mem_toList_iff.{0}:=@Array.mem_toList_iff
theorem oY:type_of% @Bool.false_or:=@Bool.false_or
theorem oZ:type_of% @Bool.or_eq_true:=@Bool.or_eq_true
theorem o0:type_of% @List.eq_nil_of_length_eq_zero.{0}:=@List.eq_nil_of_length_eq_zero
theorem o7:type_of% @List.map_append.{0,0}:=@List.map_append
theorem pR:type_of% @List.map_map.{0,0,0}:=@List.map_map
theorem pS:type_of% @List.nodup_append.{0}:=@List.nodup_append
theorem pT:type_of% @List.take_append_drop.{0}:=@List.take_append_drop
theorem qR:type_of% @Int.eq_ofNat_of_zero_le:=@Int.eq_ofNat_of_zero_le
theorem qS:type_of% @List.drop_eq_getElem_cons.{0}:=@List.drop_eq_getElem_cons
theorem qT:type_of% @List.flatMap_cons.{0,0}:=@List.flatMap_cons
theorem qU:type_of% @List.map_congr_left.{0,0}:=@List.map_congr_left
theorem qV:type_of% @Nat.succ_mul:=@Nat.succ_mul
theorem r8:type_of% @List.drop_zero.{0}:=@List.drop_zero
theorem sN:type_of% @decide_eq_decide:=@decide_eq_decide
theorem tH:type_of% @Bool.not_eq_false':=@Bool.not_eq_false'
theorem tL:type_of% @List.flatMap_append.{0,0}:=@List.flatMap_append
theorem tM:type_of% @Nat.add_mul:=@Nat.add_mul
theorem tN:type_of% @Nat.mul_le_mul_right:=@Nat.mul_le_mul_right
theorem uX:type_of% @true_and:=@true_and
theorem vA:type_of% @Array.toArray_toList.{0}:=@Array.toArray_toList
theorem vB:type_of% @Bool.or_true:=@Bool.or_true
theorem vD:type_of% @List.foldl_cons.{0,0}:=@List.foldl_cons
theorem vE:type_of% @Nat.lt_of_lt_of_le:=@Nat.lt_of_lt_of_le
theorem wJ:type_of% @Bool.and_true:=@Bool.and_true
theorem wK:type_of% @Bool.eq_iff_iff:=@Bool.eq_iff_iff
theorem wL:type_of% @Bool.true_or:=@Bool.true_or
theorem wN:type_of% @List.getElem?_eq_none.{0}:=@List.getElem?_eq_none
theorem wO:type_of% @List.mem_range:=@List.mem_range
theorem wQ:type_of% @List.take_succ_cons.{0}:=@List.take_succ_cons
theorem wR:type_of% @Nat.mul_one:=@Nat.mul_one
theorem yK:type_of% @Bool.or_false:=@Bool.or_false
theorem yL:type_of% @Classical.byContradiction:=@Classical.byContradiction
theorem yO:type_of% @List.getElem?_toArray.{0}:=@List.getElem?_toArray
theorem yP:type_of% @List.take_take.{0}:=@List.take_take
theorem yR:type_of% @Nat.add_assoc:=@Nat.add_assoc
theorem A4:type_of% @List.any_cons.{0}:=@List.any_cons
theorem A5:type_of% @List.any_eq_true.{0}:=@List.any_eq_true
theorem A6:type_of% @List.drop_eq_nil_of_le.{0}:=@List.drop_eq_nil_of_le
theorem A7:type_of% @List.getElem?_cons_succ.{0}:=@List.getElem?_cons_succ
theorem A8:type_of% @List.getElem?_cons_zero.{0}:=@List.getElem?_cons_zero
theorem A9:type_of% @List.getElem?_of_mem.{0}:=@List.getElem?_of_mem
theorem BA:type_of% @List.map_drop.{0,0}:=@List.map_drop
theorem BS:type_of% @cond_false.{1}:=@cond_false
theorem DC:type_of% @Array.mem_of_getElem?.{0}:=@Array.mem_of_getElem?
theorem DD:type_of% @Array.setIfInBounds_comm.{0}:=@Array.setIfInBounds_comm
theorem DE:type_of% @ByteArray.ext:=@ByteArray.ext
theorem DF:type_of% @List.all_append.{0}:=@List.all_append
theorem DG:type_of% @List.drop_left.{0}:=@List.drop_left
theorem DH:type_of% @List.ext_getElem?.{0}:=@List.ext_getElem?
theorem DI:type_of% @List.mem_singleton.{0}:=@List.mem_singleton
theorem DJ:type_of% @List.take_append_of_le_length.{0}:=@List.take_append_of_le_length
theorem DK:type_of% @Nat.add_zero:=@Nat.add_zero
theorem DL:type_of% @Option.toList_some.{0}:=@Option.toList_some
theorem GN:type_of% @Array.getElem?_eq_some_iff.{0}:=@Array.getElem?_eq_some_iff
theorem GO:type_of% @ByteArray.data_append:=@ByteArray.data_append
theorem GP:type_of% @Function.comp_apply.{1,1,1}:=@Function.comp_apply
theorem GQ:type_of% @List.drop_drop.{0}:=@List.drop_drop
theorem GR:type_of% @List.map_id'.{0}:=@List.map_id'
theorem GS:type_of% @List.map_take.{0,0}:=@List.map_take
theorem GT:type_of% @List.nodup_cons.{0}:=@List.nodup_cons
theorem GU:type_of% @List.takeWhile_cons.{0}:=@List.takeWhile_cons
theorem GV:type_of% @List.take_left.{0}:=@List.take_left
theorem GW:type_of% @List.take_left'.{0}:=@List.take_left'
theorem GX:type_of% @Nat.add_comm:=@Nat.add_comm
theorem GY:type_of% @Option.getD_some.{0}:=@Option.getD_some
theorem GZ:type_of% @Option.map_none.{0,0}:=@Option.map_none
theorem I3:type_of% @not_false_eq_true:=@not_false_eq_true
theorem KL:type_of% @Array.getElem?_modify.{0}:=@Array.getElem?_modify
theorem KM:type_of% @Int.cast_ofNat_Int:=@Int.cast_ofNat_Int
theorem KN:type_of% @List.foldl_append.{0,0}:=@List.foldl_append
theorem KO:type_of% @List.mem_of_mem_drop.{0}:=@List.mem_of_mem_drop
theorem KP:type_of% @List.size_toArray.{0}:=@List.size_toArray
theorem KR:type_of% @Nat.mul_le_mul:=@Nat.mul_le_mul
theorem KS:type_of% @Option.bind_some.{0,0}:=@Option.bind_some
theorem NF:type_of% @not_true_eq_false:=@not_true_eq_false
theorem PC:type_of% @Array.eq_empty_of_size_eq_zero.{0}:=@Array.eq_empty_of_size_eq_zero
theorem PD:type_of% @Array.mem_iff_getElem?.{0}:=@Array.mem_iff_getElem?
theorem PF:type_of% @Int.tmod_lt_of_pos:=@Int.tmod_lt_of_pos
theorem PG:type_of% @List.dropLast_concat.{0}:=@List.dropLast_concat
theorem PH:type_of% @List.dropLast_subset.{0}:=@List.dropLast_subset
theorem PI:type_of% @List.getElem?_drop.{0}:=@List.getElem?_drop
theorem PJ:type_of% @List.length_eq_zero_iff.{0}:=@List.length_eq_zero_iff
theorem PK:type_of% @List.length_pos_iff.{0}:=@List.length_pos_iff
theorem PL:type_of% @List.length_singleton.{0}:=@List.length_singleton
theorem PM:type_of% @List.mem_cons_of_mem.{0}:=@List.mem_cons_of_mem
theorem PN:type_of% @List.mem_of_getLast?.{0}:=@List.mem_of_getLast?
theorem PO:type_of% @List.replicate_succ.{0}:=@List.replicate_succ
theorem PQ:type_of% @Nat.eq_zero_or_pos:=@Nat.eq_zero_or_pos
theorem XC:type_of% @Array.getElem?_setIfInBounds_ne.{0}:=@Array.getElem?_setIfInBounds_ne
theorem XI:type_of% @List.drop_append_of_le_length.{0}:=@List.drop_append_of_le_length
theorem XJ:type_of% @List.getD_eq_getElem?_getD.{0}:=@List.getD_eq_getElem?_getD
theorem XK:type_of% @List.getElem?_append_left.{0}:=@List.getElem?_append_left
theorem XL:type_of% @List.getElem?_append_right.{0}:=@List.getElem?_append_right
theorem XM:type_of% @List.getLast?_eq_getElem?.{0}:=@List.getLast?_eq_getElem?
theorem XN:type_of% @List.set_eq_take_append_cons_drop.{0}:=@List.set_eq_take_append_cons_drop
inductive AV where
 | junk
 | undef
 | int (k:IntKind) (n:Int)
 | bool (b:Bool)
 | str (s:ByteArray)
 | agg (cs:List AV)
 | tup (vs:List AV)
 | slice (es:List AV)
 | fslice (es:List AV)
 | mslice (b off len st:Nat)
 | nilptr
 | ptr (b off:Nat)
 | pptr (e:AV)
 | nilmap
 | map (b:Nat)
 | func (f:FuncId) (dD:List AV)
 | raw (v:Value)
 | eslice
 deriving Inhabited
def AV.isAgg:AV→Bool
 | .agg _=>true
 | _=>false
def AV.width:AV→Nat
 | .agg cs=>cs.length
 | _=>1
def AV.cells:AV→List AV
 | .agg cs=>cs
 | a=>[a]
def iT(es:List AV):Prop:=∃n,∀e∈es,e.width=n
def j8:Value→Bool
 | .agg _=>true
 | _=>false
inductive AO where
 | cells (cs:List AV)
 | map (f:Int→Option AV)
 | tab (cs:Array Value)
abbrev aB:=Nat→Option AO
def aB.aC(st:aB)(b:Nat)(o:AO):aB:=fun x=>if x=b then some o else st x
def aB.erase(st:aB)(b:Nat):aB:=fun x=>if x=b then none else st x
theorem aB.aJ(st:aB)(b:Nat)(o:AO):st.aC b o b=some o:=by simp [aB.aC]
theorem aB.aH(st:aB){b x:Nat}(o:AO)(h:x≠b):st.aC b o x=st x:=by simp [aB.aC,h]
theorem dO(st:aB)(b:Nat)(o o':AO):(st.aC b o).aC b o'=st.aC b o':=by
 funext x;simp only[aB.aC];split<;>rfl
theorem aB.BU(st:aB)(b:Nat)(o:AO)(h:st b=none):(st.aC b o).erase b=st:=by
 funext x;simp only[aB.aC,aB.erase];split
 · rename_i e;rw[e,h]
 · rfl
theorem aB.aBK(st:aB)(b:Nat):st.erase b b=none:=by simp [aB.erase]
theorem aB.a0C(st:aB){b x:Nat}(h:st x=none):st.erase b x=none:=by simp [aB.erase,h]
theorem aB.lZ(st:aB){b c:Nat}(o p:AO)(h:b≠c):(st.aC b o).aC c p=(st.aC c p).aC b o:=by
 funext x;simp only[aB.aC];split<;>split<;>simp_all
abbrev bJ:=Array Obj
def cellAt(h:bJ)(b off:Nat):Option Value:=
 match h[b]? with
 | some (.cells c _ _)=>c[off]?
 | _=>none
def eP(h:bJ)(b:Nat):Nat→List Value→Prop
 | _,[]=>True
 | off,v::vs=>cellAt h b off=some v∧eP h b (off+1) vs
mutual
def VC(h:bJ)(st:aB):AV→List Value→Prop
 | .junk,cs=>cs.length=1
 | .undef,cs=>cs= [undef]
 | .int k n,cs=>cs= [.int k n]
 | .bool b,cs=>cs= [.bool b]
 | .str s,cs=>cs= [.string s]∧s.size≤maxLen
 | .agg as,cs=>a8 h st as cs
 | .tup as,cs=>∃vs:List Value,cs= [.tuple vs.toArray]∧dP h st as vs
 | .slice es,cs=>((∃p,cs= [.slice p 0 0])∧es= [])∨∃b off cap,cs= [.slice (some ⟨b,off,none⟩) es.length cap]∧es.length≤cap∧cap≤maxLen∧st b=none∧b<h.size∧iT es∧dA h st b off es
 | .fslice es,cs=>((∃p,cs= [.slice p 0 0])∧es= [])∨∃b off,cs= [.slice (some ⟨b,off,none⟩) es.length es.length]∧es.length≤maxLen∧st b=none∧b<h.size∧iT es∧dA h st b off es
 | .mslice b off len n,cs=>∃cap,cs= [.slice (some ⟨b,off,none⟩) len cap]∧len≤cap∧cap≤maxLen∧∃c t,h[b]?=some (.cells c t (0,0))∧off+cap*n≤c.size
 | .nilptr,cs=>cs= [.pointer none]
 | .ptr b off,cs=>cs= [.pointer (some ⟨b,off,none⟩)]
 | .pptr e,cs=>∃b off,cs= [.pointer (some ⟨b,off,none⟩)]∧st b=none∧b<h.size∧∃vs,eP h b off vs∧vs.length=e.width∧VC h st e vs
 | .nilmap,cs=>cs= [.map none]
 | .map b,cs=>cs= [.map (some b)]
 | .func f as,cs=>∃vs:List Value,cs= [.func (.func f) #[] vs.toArray]∧dP h st as vs
 | .raw v,cs=>cs= [v]∧j8 v=false
 | .eslice,cs=>∃p c,cs= [.slice p 0 c]
def a8(h:bJ)(st:aB):List AV→List Value→Prop
 | [],cs=>cs= []
 | a::as,cs=>∃c r,cs=c::r∧VC h st a [c]∧a8 h st as r
def dP(h:bJ)(st:aB):List AV→List Value→Prop
 | [],vs=>vs= []
 | a::as,vs=>∃v r,vs=v::r∧(a.isAgg=j8 v∧VC h st a v.cells.toList)∧dP h st as r
def dA(h:bJ)(st:aB)(b:Nat):Nat→List AV→Prop
 | _,[]=>True
 | off,a::as=>(∃cs,eP h b off cs∧cs.length=a.width∧VC h st a cs)∧dA h st b (off+a.width) as
end
def VE(h:bJ)(st:aB)(b off:Nat)(a:AV):Prop:=∃cs,eP h b off cs∧cs.length=a.width∧VC h st a cs
def aQ(h:bJ)(st:aB):AV→Value→Prop
 | .junk,_=>True
 | a,v=>a.isAgg=j8 v∧VC h st a v.cells.toList
structure bX (h:bJ) (st:aB) (h':bJ) (st':aB):Prop where
 size:h.size≤h'.size
 aV:∀b,b<h.size→st b=none→h'[b]?=h[b]?∧st' b=none
 shape:∀(b:Nat) c t fr,h[b]?=some (.cells c t fr)→∃c',h'[b]?=some (.cells c' t fr)∧c'.size=c.size
theorem bX.refl(h:bJ)(st:aB):bX h st h st:=⟨cU _,fun _ _ e=>⟨rfl,e⟩,fun _ c _ _ e=>⟨c,e,rfl⟩⟩
theorem bX.trans{h h' h'':bJ}{st st' AI:aB}(x:bX h st h' st')(y:bX h' st' h'' AI):bX h st h'' AI:=
 ⟨kQ x.size y.size,
  fun b hb e=>let ⟨e1,e2⟩:=x.aV b hb e;let ⟨e3,e4⟩:=y.aV b (vE hb x.size) e2;⟨e3.trans e1,e4⟩,
  fun b c t fr e=>let ⟨c1,e1,s1⟩:=x.shape b c t fr e;let ⟨c2,e2,s2⟩:=y.shape b c1 t fr e1;⟨c2,e2,s2.trans s1⟩⟩
theorem aY3{h h':bJ}{b:Nat}(e:h'[b]?=h[b]?)(off:Nat):cellAt h' b off=cellAt h b off:=by simp [cellAt,e]
theorem LU{h h':bJ}{b:Nat}(e:h'[b]?=h[b]?):∀(vs:List Value) (off:Nat),eP h b off vs→eP h' b off vs
 | [],_,_=>trivial
 | _::vs,off,x=>⟨(aY3 e off).trans x.1,LU e vs (off+1) x.2⟩
section
variable {h h':bJ} {st st':aB}
mutual
theorem VC.mono(S:bX h st h' st'):∀(a:AV) (cs:List Value),VC h st a cs→VC h' st' a cs
 | .junk,_,x=>x
 | .undef,_,x=>x
 | .int _ _,_,x=>x
 | .bool _,_,x=>x
 | .str _,_,x=>x
 | .agg as,cs,x=>by simp only[VC] at x ⊢;exact a8.mono S as cs x
 | .tup as,cs,x=>by
  simp only[VC] at x ⊢
  obtain⟨vs,e,r⟩:=x
  exact⟨vs,e,dP.mono S as vs r⟩
 | .slice es,cs,x=>by
  simp only[VC] at x ⊢
  rcases x with x | ⟨b,off,cap,e,l1,l2,n,l3,ev,r⟩
  · exact .inl x
  · obtain⟨k1,k2⟩:=S.aV b l3 n
    exact .inr ⟨b,off,cap,e,l1,l2,k2,vE l3 S.size,ev,dA.mono S b k1 es off r⟩
 | .fslice es,cs,x=>by
  simp only[VC] at x ⊢
  rcases x with x | ⟨b,off,e,l1,n,l3,ev,r⟩
  · exact .inl x
  · obtain⟨k1,k2⟩:=S.aV b l3 n
    exact .inr ⟨b,off,e,l1,k2,vE l3 S.size,ev,dA.mono S b k1 es off r⟩
 | .mslice b off len n,cs,x=>by
  simp only[VC] at x ⊢
  obtain⟨cap,e,l1,l2,c,t,hb,l3⟩:=x
  obtain⟨c',e',s'⟩:=S.shape b c t _ hb
  exact⟨cap,e,l1,l2,c',t,e',by omega⟩
 | .nilptr,_,x=>x
 | .ptr _ _,_,x=>x
 | .pptr e,cs,x=>by
  simp only[VC] at x ⊢
  obtain⟨b,off,e1,n,l,vs,r1,r2,r3⟩:=x
  obtain⟨k1,k2⟩:=S.aV b l n
  exact⟨b,off,e1,k2,vE l S.size,vs,LU k1 vs off r1,r2,VC.mono S e vs r3⟩
 | .nilmap,_,x=>x
 | .map _,_,x=>x
 | .func _ as,cs,x=>by
  simp only[VC] at x ⊢
  obtain⟨vs,e,r⟩:=x
  exact⟨vs,e,dP.mono S as vs r⟩
 | .raw _,_,x=>x
 | .eslice,_,x=>x
theorem a8.mono(S:bX h st h' st'):∀(as:List AV) (cs:List Value),a8 h st as cs→a8 h' st' as cs
 | [],_,x=>x
 | a::as,cs,x=>by
  simp only[a8] at x ⊢
  obtain⟨c,r,e,x1,x2⟩:=x
  exact⟨c,r,e,VC.mono S a [c] x1,a8.mono S as r x2⟩
theorem dP.mono(S:bX h st h' st'):∀(as:List AV) (cs:List Value),dP h st as cs→dP h' st' as cs
 | [],_,x=>x
 | a::as,cs,x=>by
  simp only[dP] at x ⊢
  obtain⟨c,r,e,x1,x2⟩:=x
  exact⟨c,r,e,⟨x1.1,VC.mono S a _ x1.2⟩,dP.mono S as r x2⟩
theorem dA.mono(S:bX h st h' st')(b:Nat)(k:h'[b]?=h[b]?):∀(es:List AV) (off:Nat),dA h st b off es→dA h' st' b off es
 | [],_,x=>x
 | a::as,off,x=>by
  simp only[dA] at x ⊢
  obtain⟨⟨cs,x1,x2,x3⟩,x4⟩:=x
  exact⟨⟨cs,LU k cs off x1,x2,VC.mono S a cs x3⟩,dA.mono S b k as (off+a.width) x4⟩
end
end
theorem aQ.mono{h h':bJ}{st st':aB}(S:bX h st h' st'){a:AV}{v:Value}(x:aQ h st a v):aQ h' st' a v:=by
 cases a<;>first | trivial | exact⟨x.1,VC.mono S _ _ x.2⟩
def lD(h:bJ)(st:aB)(b:Nat):AO→Prop
 | .cells as=>∃c t,h[b]?=some (.cells c t (0,0))∧as.length≤c.size∧∃vs,eP h b 0 vs∧a8 h st as vs
 | .map f=>∃es clock,h[b]?=some (.map es clock)∧(∀e∈es.toList,∃n,e.key=.int .i64 n)∧(es.toList.map (·.key)).Nodup ∧
  ∀n,(match f n with
   | some a=>∃e∈es.toList,e.key=.int .i64 n∧aQ h st a e.val
   | none=>∀e∈es.toList,e.key≠.int .i64 n)
 | .tab cs=>∃t,h[b]?=some (.cells cs t (0,0))
def cS(h:bJ)(st:aB):Prop:=∀b o,st b=some o→b<h.size∧lD h st b o
abbrev AF:=Nat→AV
def AF.bot:AF:=fun _=>.junk
def AF.aC(f:AF)(d:Nat)(v:AV):AF:=fun x=>if x=d then v else f x
theorem AF.aJ(f:AF)(d:Nat)(v:AV):f.aC d v d=v:=by simp [AF.aC]
theorem AF.aH(f:AF){d x:Nat}(v:AV)(h:x≠d):f.aC d v x=f x:=by simp [AF.aC,h]
theorem AF.lZ(f:AF){d e:Nat}(v u:AV)(h:d≠e):(f.aC d v).aC e u=(f.aC e u).aC d v:=by
 funext x;simp only[AF.aC];split<;>split<;>simp_all
def AF.put(f:AF)(dst:Option Tmp)(v:AV):AF:=match dst with | some d=>f.aC d v | none=>f
def ofConst:Value→AV
 | .int k n=>.int k n
 | .bool b=>.bool b
 | .string s=>if s.size≤maxLen then .str s else .junk
 | .slice none 0 0=>.fslice []
 | .pointer none=>.nilptr
 | .map none=>.nilmap
 | .nilIface=>.raw .nilIface
 | .nilFunc=>.raw .nilFunc
 | .iface t v=>.raw (.iface t v)
 | _=>.junk
def AF.eval(f:AF):Operand→AV
 | .tmp t=>f t
 | .const v=>ofConst v
 | .global g=>.raw (.pointer (some ⟨g,0,none⟩))
 | .func g=>.func g []
def eL(h:bJ)(st:aB)(tmps:Array Value)(f:AF):Prop:=∀d,aQ h st (f d) (tmps.getD d undef)
theorem eL.mono{h h':bJ}{st st':aB}{tmps:Array Value}{f:AF}(S:bX h st h' st')(x:eL h st tmps f):eL h' st' tmps f:=fun d=>(x d).mono S
theorem eL.set{h:bJ}{st:aB}{tmps:Array Value}{f:AF}(x:eL h st tmps f){d:Nat}(hd:d<tmps.size){a:AV}{v:Value}(y:aQ h st a v):eL h st (tmps.setIfInBounds d v) (f.aC d a):=by
 intro e
 simp only[AF.aC]
 split
 · rename_i e1;subst e1;simpa [hd] using y
 · rename_i e1
   have:=x e
   simpa [XC (c9 e1)] using this
theorem aQ.const(h:bJ)(st:aB)(v:Value):aQ h st (ofConst v) v:=by
 unfold ofConst
 split<;>try trivial
 case h_3=>split<;>first | trivial | exact⟨rfl,rfl,by assumption⟩
 all_goals first | exact⟨rfl,rfl⟩ | exact⟨rfl,.inl ⟨⟨_,rfl⟩,rfl⟩⟩ | exact⟨rfl,rfl,rfl⟩
theorem aQ.eval{h:bJ}{st:aB}{a:Act}{f:AF}(x:eL h st a.tmps f)(o:Operand):aQ h st (f.eval o) (a.eval o):=by
 cases o with
 | tmp t=>exact x t
 | const v=>exact aQ.const h st v
 | global g=>exact⟨rfl,rfl,rfl⟩
 | func g=>exact⟨rfl,[],rfl,rfl⟩
theorem aQ.aOH{h:bJ}{st:aB}{e:AV}{c:Value}(ha:e.isAgg=false)(x:VC h st e [c]):aQ h st e c:=by
 have key:∀ {e:AV},e.isAgg=j8 c→VC h st e [c]→j8 c=false→aQ h st e c:=by
  intro e h1 h2 h3
  have hc:c.cells.toList= [c]:=by cases c<;>first | rfl | (simp [j8] at h3)
  cases e<;>first | trivial | exact⟨h1,by rw[hc];exact h2⟩
 cases e<;>simp only[VC] at x
 case junk=>trivial
 case undef=>cases x;exact key rfl (by simp [VC]) rfl
 case int=>cases x;exact key rfl (by simp [VC]) rfl
 case bool=>cases x;exact key rfl (by simp [VC]) rfl
 case str=>obtain⟨x1,x2⟩:=x;cases x1;exact key rfl (by simp [VC,x2]) rfl
 case agg=>simp [AV.isAgg] at ha
 case tup=>obtain⟨vs,x1,x2⟩:=x;cases x1;exact key rfl (by simp only[VC];exact⟨vs,rfl,x2⟩) rfl
 case slice es=>
  have x':=x
  rcases x with ⟨⟨p,x1⟩,x2⟩ | ⟨b,off,cap,x1,x2⟩<;>cases x1<;>exact key rfl (by unfold VC;exact x') rfl
 case fslice es=>
  have x':=x
  rcases x with ⟨⟨p,x1⟩,x2⟩ | ⟨b,off,x1,x2⟩<;>cases x1<;>exact key rfl (by unfold VC;exact x') rfl
 case mslice=>have x':=x;obtain⟨cap,x1,x2⟩:=x;cases x1;exact key rfl (by unfold VC;exact x') rfl
 case nilptr=>cases x;exact key rfl (by simp [VC]) rfl
 case ptr=>cases x;exact key rfl (by simp [VC]) rfl
 case pptr=>have x':=x;obtain⟨b,off,x1,x2⟩:=x;cases x1;exact key rfl (by unfold VC;exact x') rfl
 case nilmap=>cases x;exact key rfl (by simp [VC]) rfl
 case map=>cases x;exact key rfl (by simp [VC]) rfl
 case func=>have x':=x;obtain⟨vs,x1,x2⟩:=x;cases x1;exact key rfl (by unfold VC;exact x') rfl
 case raw=>obtain⟨x1,x2⟩:=x;cases x1;exact key (by simp [AV.isAgg,x2]) (by simp [VC,x2]) x2
 case eslice=>have x':=x;obtain⟨p,c,x1⟩:=x;cases x1;exact key rfl (by unfold VC;exact x') rfl
theorem VC.one{h:bJ}{st:aB}{e:AV}{cs:List Value}(ha:e.isAgg=false)(x:VC h st e cs):∃c,cs= [c]:=by
 cases e<;>simp only[VC] at x
 case junk=>match cs,x with | [c],_=>exact⟨c,rfl⟩
 case undef=>exact⟨_,x⟩
 case int=>exact⟨_,x⟩
 case bool=>exact⟨_,x⟩
 case str=>exact⟨_,x.1⟩
 case agg=>simp [AV.isAgg] at ha
 case tup=>obtain⟨vs,x1,_⟩:=x;exact⟨_,x1⟩
 case slice=>rcases x with ⟨⟨p,x1⟩,_⟩ | ⟨b,off,cap,x1,_⟩<;>exact⟨_,x1⟩
 case fslice=>rcases x with ⟨⟨p,x1⟩,_⟩ | ⟨b,off,x1,_⟩<;>exact⟨_,x1⟩
 case mslice=>obtain⟨cap,x1,_⟩:=x;exact⟨_,x1⟩
 case nilptr=>exact⟨_,x⟩
 case ptr=>exact⟨_,x⟩
 case pptr=>obtain⟨b,off,x1,_⟩:=x;exact⟨_,x1⟩
 case nilmap=>exact⟨_,x⟩
 case map=>exact⟨_,x⟩
 case func=>obtain⟨vs,x1,_⟩:=x;exact⟨_,x1⟩
 case raw=>exact⟨_,x.1⟩
 case eslice=>obtain⟨p,c,x1⟩:=x;exact⟨_,x1⟩
theorem aAZ{v:Value}(h:j8 v=false):v.cells.toList= [v]:=by cases v<;>first | rfl | (simp [j8] at h)
theorem aQ.single{h:bJ}{st:aB}{a:AV}{v:Value}(x:aQ h st a v)(ha:a.isAgg=false)(hj:a≠.junk):VC h st a [v]:=by
 have key:a.isAgg=j8 v∧VC h st a v.cells.toList:=by cases a<;>first | exact absurd rfl hj | exact x
 rw[aAZ (key.1.symm.trans ha)] at key
 exact key.2
theorem aQ.kM{h:bJ}{st:aB}{k:IntKind}{n:Int}{v:Value}(x:aQ h st (.int k n) v):v=.int k n:=by
 have:=x.single rfl (by simp);simpa [VC] using this
theorem aQ.BN{h:bJ}{st:aB}{b:Bool}{v:Value}(x:aQ h st (.bool b) v):v=.bool b:=by
 have:=x.single rfl (by simp);simpa [VC] using this
theorem aQ.CS{h:bJ}{st:aB}{s:ByteArray}{v:Value}(x:aQ h st (.str s) v):v=.string s∧s.size≤maxLen:=by
 have:=x.single rfl (by simp);simpa [VC] using this
theorem aQ.bCF{h:bJ}{st:aB}{v:Value}(x:aQ h st .undef v):v=Go.undef:=by
 have:=x.single rfl (by simp);simpa [VC] using this
theorem aQ.CL{h:bJ}{st:aB}{b off:Nat}{v:Value}(x:aQ h st (.ptr b off) v):v=.pointer (some ⟨b,off,none⟩):=by
 have:=x.single rfl (by simp);simpa [VC] using this
theorem aQ.TZ{h:bJ}{st:aB}{v:Value}(x:aQ h st .nilptr v):v=.pointer none:=by
 have:=x.single rfl (by simp);simpa [VC] using this
theorem aQ.E6{h:bJ}{st:aB}{b:Nat}{v:Value}(x:aQ h st (.map b) v):v=.map (some b):=by
 have:=x.single rfl (by simp);simpa [VC] using this
theorem aQ.NN{h:bJ}{st:aB}{e:AV}{v:Value}(x:aQ h st (.pptr e) v) :
 ∃b off,v=.pointer (some ⟨b,off,none⟩)∧st b=none∧b<h.size∧∃vs,eP h b off vs∧vs.length=e.width∧VC h st e vs:=by
 have:=x.single rfl (by simp);simpa [VC] using this
theorem aQ.FU{h:bJ}{st:aB}{es:List AV}{v:Value}(x:aQ h st (.slice es) v) :
 ((∃p,v=.slice p 0 0)∧es= [])∨∃b off cap,v=.slice (some ⟨b,off,none⟩) es.length cap∧es.length≤cap∧cap≤maxLen∧st b=none∧b<h.size∧iT es∧dA h st b off es:=by
 have:=x.single rfl (by simp);simpa [VC] using this
theorem aQ.BW{h:bJ}{st:aB}{es:List AV}{v:Value}(x:aQ h st (.fslice es) v) :
 ((∃p,v=.slice p 0 0)∧es= [])∨∃b off,v=.slice (some ⟨b,off,none⟩) es.length es.length∧es.length≤maxLen∧st b=none∧b<h.size∧iT es∧dA h st b off es:=by
 have:=x.single rfl (by simp);simpa [VC] using this
theorem aQ.H6{h:bJ}{st:aB}{es:List AV}{v:Value}(x:aQ h st (.fslice es) v):aQ h st (.slice es) v:=by
 rcases x.BW with ⟨⟨p,rfl⟩,rfl⟩ | ⟨b,off,rfl,r1,r2⟩
 · exact⟨rfl,.inl ⟨⟨p,rfl⟩,rfl⟩⟩
 · exact⟨rfl,.inr ⟨b,off,es.length,rfl,cU _,r1,r2⟩⟩
theorem aQ.E8{h:bJ}{st:aB}{b off len n:Nat}{v:Value}(x:aQ h st (.mslice b off len n) v) :
 ∃cap,v=.slice (some ⟨b,off,none⟩) len cap∧len≤cap∧cap≤maxLen∧∃c t,h[b]?=some (.cells c t (0,0))∧off+cap*n≤c.size:=by
 have:=x.single rfl (by simp);simpa [VC] using this
theorem aQ.RY{h:bJ}{st:aB}{v:Value}(x:aQ h st .eslice v):∃p c,v=.slice p 0 c:=by
 have:=x.single rfl (by simp);simpa [VC] using this
theorem aQ.bB3{h:bJ}{st:aB}{as:List AV}{v:Value}(x:aQ h st (.tup as) v):∃vs:List Value,v=.tuple vs.toArray∧dP h st as vs:=by
 have:=x.single rfl (by simp);simpa [VC] using this
theorem aQ.a3G{h:bJ}{st:aB}{g:FuncId}{as:List AV}{v:Value}(x:aQ h st (.func g as) v):∃vs:List Value,v=.func (.func g) #[] vs.toArray∧dP h st as vs:=by
 have:=x.single rfl (by simp);simpa [VC] using this
theorem aQ.YP{h:bJ}{st:aB}{as:List AV}{vs:List Value}(x:a8 h st as vs):aQ h st (.agg as) (.agg vs.toArray):=
 ⟨rfl,by simpa [Value.cells,VC] using x⟩
theorem aQ.HG{h:bJ}{st:aB}{as:List AV}{v:Value}(x:aQ h st (.agg as) v):∃vs:List Value,v=.agg vs.toArray∧a8 h st as vs:=by
 obtain⟨x1,x2⟩:=x
 cases v<;>simp [AV.isAgg,j8] at x1
 case agg cs=>exact⟨cs.toList,by simp,by simpa [Value.cells,VC] using x2⟩
theorem a8.length{h:bJ}{st:aB}:∀ {as:List AV} {vs:List Value},a8 h st as vs→vs.length=as.length
 | [],vs,x=>by simp only[a8] at x;simp [x]
 | a::as,vs,x=>by
  simp only[a8] at x
  obtain⟨c,r,rfl,_,x2⟩:=x
  simp [a8.length x2]
theorem a8.drop{h:bJ}{st:aB}:∀ {as:List AV} {vs:List Value} (n:Nat),a8 h st as vs→a8 h st (as.drop n) (vs.drop n)
 | as,vs,0,x=>by simpa using x
 | [],vs,n+1,x=>by simp only[a8] at x;simp [x,a8]
 | a::as,vs,n+1,x=>by
  simp only[a8] at x
  obtain⟨c,r,rfl,_,x2⟩:=x
  simpa using a8.drop n x2
theorem a8.take{h:bJ}{st:aB}:∀ {as:List AV} {vs:List Value} (n:Nat),a8 h st as vs→a8 h st (as.take n) (vs.take n)
 | as,vs,0,x=>by simp [a8]
 | [],vs,n+1,x=>by simp only[a8] at x;simp [x,a8]
 | a::as,vs,n+1,x=>by
  simp only[a8] at x
  obtain⟨c,r,rfl,x1,x2⟩:=x
  simp only[wQ,a8]
  exact⟨c,r.take n,rfl,x1,a8.take n x2⟩
theorem a8.get{h:bJ}{st:aB}:∀ {as:List AV} {vs:List Value} (n:Nat) {a:AV},a8 h st as vs→as[n]?=some a→∃v,vs[n]?=some v∧VC h st a [v]
 | [],_,n,a,_,e=>by simp at e
 | a'::as,vs,0,a,x,e=>by
  simp only[a8] at x
  obtain⟨c,r,rfl,x1,x2⟩:=x
  simp at e;subst e
  exact⟨c,rfl,x1⟩
 | a'::as,vs,n+1,a,x,e=>by
  simp only[a8] at x
  obtain⟨c,r,rfl,x1,x2⟩:=x
  simpa using a8.get n x2 (by simpa using e)
theorem eP.drop{h:bJ}{b:Nat}:∀ {vs:List Value} {off:Nat} (n:Nat),eP h b off vs→eP h b (off+n) (vs.drop n)
 | vs,off,0,x=>by simpa using x
 | [],off,n+1,x=>by simp [eP]
 | v::vs,off,n+1,x=>by
  have:=eP.drop n x.2
  simpa [yR,GX 1 n] using this
theorem eP.take{h:bJ}{b:Nat}:∀ {vs:List Value} {off:Nat} (n:Nat),eP h b off vs→eP h b off (vs.take n)
 | vs,off,0,x=>by simp [eP]
 | [],off,n+1,x=>by simp [eP]
 | v::vs,off,n+1,x=>⟨x.1,eP.take n x.2⟩
theorem eP.get{h:bJ}{b:Nat}:∀ {vs:List Value} {off:Nat} (n:Nat) {v:Value},eP h b off vs→vs[n]?=some v→cellAt h b (off+n)=some v
 | [],off,n,v,_,e=>by simp at e
 | w::vs,off,0,v,x,e=>by simp at e;subst e;exact x.1
 | w::vs,off,n+1,v,x,e=>by
  have:=eP.get n x.2 (by simpa using e)
  simpa [yR,GX 1 n] using this
theorem dA.get{h:bJ}{st:aB}{b:Nat}{n:Nat}:∀ {es:List AV} {off:Nat} (i:Nat) {e:AV},(∀x∈es,x.width=n)→dA h st b off es→es[i]?=some e→VE h st b (off+i*n) e
 | [],off,i,e,_,_,g=>by simp at g
 | a::as,off,0,e,_,x,g=>by simp only[dA] at x;simp at g;subst g;simpa [VE] using x.1
 | a::as,off,i+1,e,u,x,g=>by
  simp only[dA] at x
  have:=dA.get (n:=n) i (fun x hx=>u x (by simp [hx])) x.2 (by simpa using g)
  rw[u a (by simp)] at this
  rwa [show off+(i+1)*n=off+n+i*n by rw[qV];omega]
theorem dA.drop{h:bJ}{st:aB}{b:Nat}{n:Nat}:∀ {es:List AV} {off:Nat} (i:Nat),(∀x∈es,x.width=n)→dA h st b off es→dA h st b (off+i*n) (es.drop i)
 | es,off,0,_,x=>by simpa using x
 | [],off,i+1,_,_=>by simp [dA]
 | a::as,off,i+1,u,x=>by
  simp only[dA] at x
  have:=dA.drop (n:=n) i (fun x hx=>u x (by simp [hx])) x.2
  rw[u a (by simp)] at this
  rw[show off+(i+1)*n=off+n+i*n by rw[qV];omega]
  simpa using this
theorem dA.take{h:bJ}{st:aB}{b:Nat}:∀ {es:List AV} {off:Nat} (i:Nat),dA h st b off es→dA h st b off (es.take i)
 | es,off,0,x=>by simp [dA]
 | [],off,i+1,_=>by simp [dA]
 | a::as,off,i+1,x=>by
  simp only[dA] at x
  simp only[wQ,dA]
  exact⟨x.1,dA.take i x.2⟩
def sub(ag:Bool)(cs:List AV)(off sz:Nat):Option AV:=
 if ag then(if off+sz≤cs.length then some (.agg ((cs.drop off).take sz)) else none)
 else match cs[off]? with
  | some a=>if a.isAgg then none else some a
  | none=>none
def fC(w w':World):Prop:=w'.os=w.os∧w'.tape=w.tape∧w'.output=w.output
theorem fC.refl(w:World):fC w w:=⟨rfl,rfl,rfl⟩
theorem fC.trans{a b c:World}(x:fC a b)(y:fC b c):fC a c:=⟨y.1.trans x.1,y.2.1.trans x.2.1,y.2.2.trans x.2.2⟩
structure Ext (h h':bJ):Prop where
 size:h.size≤h'.size
 aV:∀b,b<h.size→h'[b]?=h[b]?
theorem Ext.refl(h:bJ):Ext h h:=⟨cU _,fun _ _=>rfl⟩
theorem Ext.push(h:bJ)(o:Obj):Ext h (h.push o):=⟨by simp,fun b hb=>by rw[Array.getElem?_push,aE (by omega)]⟩
theorem Ext.step{h h':bJ}(x:Ext h h')(st:aB):bX h st h' st:=
 ⟨x.size,fun b hb e=>⟨x.aV b hb,e⟩,fun b c t fr e=>⟨c,by
  have hb:b<h.size:=by
   rcases lN b h.size with h' | h'
   · exact h'
   · simp [Array.getElem?_eq_none h'] at e
  rw[x.aV b hb];exact e,rfl⟩⟩
theorem lD.mono{h h':bJ}{st st':aB}(S:bX h st h' st'){b:Nat}(k:h'[b]?=h[b]?):∀ {o:AO},lD h st b o→lD h' st' b o
 | .cells as,x=>by
  obtain⟨c,t,e,l,vs,x1,x2⟩:=x
  exact⟨c,t,k.trans e,l,vs,LU k vs 0 x1,a8.mono S as vs x2⟩
 | .map f,x=>by
  obtain⟨es,cl,e,x1,x2,x3⟩:=x
  refine⟨es,cl,k.trans e,x1,x2,fun n=>?_⟩
  have:=x3 n
  split
  · rename_i a ha
    rw[ha] at this
    obtain⟨e,he,hk,hv⟩:=this
    exact⟨e,he,hk,hv.mono S⟩
  · rename_i ha
    rw[ha] at this
    exact this
 | .tab cs,x=>by
  obtain⟨t,e⟩:=x
  exact⟨t,k.trans e⟩
theorem cS.ext{h h':bJ}{st:aB}(x:Ext h h')(s:cS h st):cS h' st:=fun b o e=>
 let ⟨l,r⟩:=s b o e
 ⟨vE l x.size,lD.mono (x.step st) (x.aV b l) r⟩
def jP(st:aB)(w:World)(r:AV)(x:Result Next):Prop:=
 ∃v w',x=.ok (.value v) w'∧aQ w'.heap st r v∧Ext w.heap w'.heap∧fC w w'
theorem jP.same{st:aB}{w:World}{r:AV}{x:Result Next}{v:Value}(e:x=.ok (.value v) w)(y:aQ w.heap st r v):jP st w r x:=
 ⟨v,w,e,y,Ext.refl _,fC.refl _⟩
def aA7:TypeDesc→Bool
 | .struct _=>true
 | .array _ _=>true
 | _=>false
def tI(P:Program)(t:TypeId):Option (Bool×Nat):=
 match P.underlying t,P.info? t with
 | some d,some i=>some (aA7 d,i.size)
 | _,_=>none
def fI(P:Program)(t:TypeId)(f:Nat):Option (Nat×Bool×Nat):=
 match P.underlying t with
 | some (.struct fs)=>
  match fs[f]? with
  | some fd=>match tI P fd.type with
   | some (ag,sz)=>if sz=0 then none else some (fd.offset,ag,sz)
   | none=>none
  | none=>none
 | _=>none
def eI(P:Program)(t:TypeId):Option (Bool×Nat):=
 match P.underlying t with
 | some (.slice e)=>tI P e
 | _=>none
def aI(P:Program)(t:TypeId):Option (Nat×Bool×Nat):=
 match P.underlying t with
 | some (.array n e)=>(tI P e).map fun x=>(n,x)
 | _=>none
theorem tI_run{P:Program}{t:TypeId}{ag:Bool}{sz:Nat}(e:tI P t=some (ag,sz))(w:World) :
 (isAgg t).run P w=.ok ag w∧(sizeOf t).run P w=.ok sz w∧∃d i,P.underlying t=some d∧P.info? t=some i∧i.size=sz∧aA7 d=ag:=by
 unfold tI at e
 split at e
 · rename_i d i hu hi
   cases e
   refine⟨?_,by simp [sizeOf,typeInfo,hi],_,_,hu,hi,rfl,rfl⟩
   simp only[isAgg,underlying,Sem.run_bind,run_program,Result.andThen_ok,hu]
   cases d<;>rfl
 · cases e
theorem D6(w:World)(b off:Nat):w.cell? ⟨b,off,none⟩=cellAt w.heap b off:=by
 unfold World.cell? cellAt
 split<;>simp_all
theorem Addr.oJ(b off n:Nat):Addr.add ⟨b,off,none⟩ n=⟨b,off+n,none⟩:=by
 unfold Addr.add
 split
 · rename_i h;rw[h];try rfl
 · rfl
theorem aPB{P:Program}{w:World}{b off:Nat}{vs:List Value}(x:eP w.heap b off vs):(loadCells ⟨b,off,none⟩ vs.length).run P w=.ok vs.toArray w:=
 run_loadCells_list (P:=P) w ⟨b,off,none⟩ vs fun j v hj=>by rw[Addr.oJ,D6];exact x.get j hj
theorem aPC{P:Program}{w:World}{b off:Nat}{t:TypeId}{ag:Bool}{sz:Nat}{vs:List Value}{st:aB}{e:AV}(hI:tI P t=some (ag,sz))
 (x:eP w.heap b off vs) (hl:vs.length=sz) (ha:e.isAgg=ag) (y:VC w.heap st e vs) :
 ∃v,(loadVar t ⟨b,off,none⟩).run P w=.ok v w∧aQ w.heap st e v:=by
 obtain⟨r1,r2,_⟩:=tI_run hI w
 cases ag with
 | true=>
  refine⟨.agg vs.toArray,?_,?_⟩
  · simp only[loadVar,Sem.run_bind,r1,Result.andThen_ok,eX,r2,←hl,aPB x,Sem.run_pure]
  · cases e<;>simp [AV.isAgg] at ha
    exact aQ.YP (by simpa [VC] using y)
 | false=>
  obtain⟨c,rfl⟩:=VC.one ha y
  refine⟨c,?_,aQ.aOH ha y⟩
  simp only[loadVar,Sem.run_bind,r1,Result.andThen_ok,fX,dT,run_load,D6,x.1]
def HC(k:IntKind)(a b:Int):Int:=k.wrap ((BitVec.ofInt k.bits a ^^^ BitVec.ofInt k.bits b).toNat)
def P2(k:IntKind)(a b:Int):Int:=k.wrap ((BitVec.ofInt k.bits a &&& BitVec.ofInt k.bits b).toNat)
def P6(k:IntKind)(a b:Int):Int:=k.wrap ((BitVec.ofInt k.bits a ||| BitVec.ofInt k.bits b).toNat)
def k0(op:BinOp):AV→AV→Option AV
 | .int k a,.int k' b=>
  if k≠k' then none else match op with
  | .add=>some (.int k (k.wrap (a+b)))
  | .sub=>some (.int k (k.wrap (a - b)))
  | .mul=>some (.int k (k.wrap (a*b)))
  | .quo=>if b=0 then none else some (.int k (k.wrap (a.tdiv b)))
  | .rem=>if b=0 then none else some (.int k (a.tmod b))
  | .eql=>some (.bool (decide (a=b)))
  | .neq=>some (.bool (!decide (a=b)))
  | .lss=>some (.bool (decide (a<b)))
  | .leq=>some (.bool (decide (a≤b)))
  | .gtr=>some (.bool (decide (b<a)))
  | .geq=>some (.bool (decide (b≤a)))
  | .xor=>some (.int k (HC k a b))
  | .and=>some (.int k (P2 k a b))
  | .or=>some (.int k (P6 k a b))
  | _=>none
 | .str a,.str b=>match op with
  | .eql=>some (.bool (decide (a=b)))
  | .neq=>some (.bool (!decide (a=b)))
  | .lss=>some (.bool (Op.bytesLess a.toList b.toList))
  | .gtr=>some (.bool (!(Op.bytesLess a.toList b.toList||decide (a=b))))
  | .add=>if a.size+b.size≤maxLen then some (.str (a++b)) else none
  | _=>none
 | _,_=>none
def HB(op:UnOp):AV→Option AV
 | .bool b=>match op with | .not=>some (.bool (!b)) | _=>none
 | .int k n=>match op with | .neg=>some (.int k (k.wrap (0 - n))) | _=>none
 | _=>none
theorem WW(a b:ByteArray):(a.toList == b.toList)=decide (a=b):=by
 have h:a.toList=b.toList↔a=b:=⟨fun h=>by
  rw[ByteArray.toList_eq,ByteArray.toList_eq] at h
  cases a;cases b;simp_all,fun h=>by rw[h]⟩
 rw[wK]
 simp [h]
theorem aZ8(op:BinOp)(t:TypeId)(x y:Operand)(k:IntKind)(n:Int)(v:Value):eqGuard op t x y (.int k n) v=pure ():=eqGuard_at_int ..
theorem aZ9(op:BinOp)(t:TypeId)(x y:Operand)(s:ByteArray)(v:Value):eqGuard op t x y (.string s) v=pure ():=eqGuard_at_string ..
theorem aQ.rM{h:bJ}{st:aB}{k:IntKind}{n:Int}:aQ h st (.int k n) (.int k n):=⟨rfl,rfl⟩
theorem aQ.lR{h:bJ}{st:aB}{b:Bool}:aQ h st (.bool b) (.bool b):=⟨rfl,rfl⟩
theorem aS6{P:Program}{h:bJ}{st:aB}{w:World}{op:BinOp}{t:TypeId}{p q r:AV}{u v:Value}(e:k0 op p q=some r)(hp:aQ h st p u)(hq:aQ h st q v) :
 ∃z,(binOp op t u v).run P w=.ok z w∧aQ h st r z∧∀x y,(eqGuard op t x y u v).run P w=.ok () w:=by
 unfold k0 at e
 split at e
 · rename_i k a k' b
   rw[hp.kM,hq.kM]
   have hg:∀x y,(eqGuard op t x y (.int k a) (.int k' b)).run P w=.ok () w:=fun x y=>by rw[aZ8];try rfl
   split at e
   · cases e
   · rename_i hk
     have hk':k=k':=yL hk
     subst hk'
     cases op<;>simp only[] at e
     case add=>cases e;exact⟨_,by simp only[binOp,ne_eq,not_true,dT,Op.intArith,Sem.run_pure],aQ.rM,hg⟩
     case sub=>cases e;exact⟨_,by simp only[binOp,ne_eq,not_true,dT,Op.intArith,Sem.run_pure],aQ.rM,hg⟩
     case mul=>cases e;exact⟨_,by simp only[binOp,ne_eq,not_true,dT,Op.intArith,Sem.run_pure],aQ.rM,hg⟩
     case quo=>
      split at e
      · cases e
      · rename_i hb;cases e;exact⟨_,by simp only[binOp,ne_eq,not_true,dT,Op.intDiv,hb,Sem.run_pure],aQ.rM,hg⟩
     case rem=>
      split at e
      · cases e
      · rename_i hb;cases e;exact⟨_,by simp only[binOp,ne_eq,not_true,dT,Op.intDiv,hb,Sem.run_pure],aQ.rM,hg⟩
     case eql=>cases e;exact⟨.bool (decide (a=b)),by simp [binOp,Op.intCmp,BEq.beq],aQ.lR,hg⟩
     case neq=>cases e;exact⟨.bool (!decide (a=b)),by simp [binOp,Op.intCmp,bne,BEq.beq],aQ.lR,hg⟩
     case lss=>cases e;exact⟨.bool (decide (a<b)),by simp [binOp,Op.intCmp],aQ.lR,hg⟩
     case leq=>cases e;exact⟨.bool (decide (a≤b)),by simp [binOp,Op.intCmp],aQ.lR,hg⟩
     case gtr=>cases e;exact⟨.bool (decide (b<a)),by simp [binOp,Op.intCmp],aQ.lR,hg⟩
     case xor=>cases e;exact⟨_,by simp only[binOp,ne_eq,not_true,dT,Op.intBits,Sem.run_pure,HC],aQ.rM,hg⟩
     case and=>cases e;exact⟨_,by simp only[binOp,ne_eq,not_true,dT,Op.intBits,Sem.run_pure,P2],aQ.rM,hg⟩
     case or=>cases e;exact⟨_,by simp only[binOp,ne_eq,not_true,dT,Op.intBits,Sem.run_pure,P6],aQ.rM,hg⟩
     case geq=>cases e;exact⟨.bool (decide (b≤a)),by simp [binOp,Op.intCmp],aQ.lR,hg⟩
     all_goals cases e
 · rename_i a b
   rw[hp.CS.1,hq.CS.1]
   have hg:∀x y,(eqGuard op t x y (.string a) (.string b)).run P w=.ok () w:=fun x y=>by rw[aZ9];try rfl
   cases op<;>simp only[] at e
   case eql=>cases e;exact⟨.bool (decide (a=b)),by simp [binOp,Op.stringOp,WW],aQ.lR,hg⟩
   case neq=>cases e;exact⟨.bool (!decide (a=b)),by simp [binOp,Op.stringOp,WW],aQ.lR,hg⟩
   case lss=>cases e;exact⟨.bool (Op.bytesLess a.toList b.toList),by simp [binOp,Op.stringOp],aQ.lR,hg⟩
   case gtr=>cases e;exact⟨.bool (!(Op.bytesLess a.toList b.toList||decide (a=b))),by simp [binOp,Op.stringOp,WW],aQ.lR,hg⟩
   case add=>
    split at e
    · rename_i hs
      cases e
      refine⟨.string (a++b),?_,⟨rfl,rfl,by rw[ByteArray.size_append];exact hs⟩,hg⟩
      unfold maxLen at hs
      have:¬((a.size+b.size:Nat):Int)>IntKind.i64.max:=by simp [IntKind.max,IntKind.signed,IntKind.bits];omega
      simp only[binOp,Op.stringOp,this,dT,Sem.run_pure]
    · cases e
   all_goals cases e
 · cases e
theorem aLI{P:Program}{t:TypeId}{f off sz:Nat}{ag:Bool}(e:fI P t f=some (off,ag,sz)) :
 ∃fs fd,P.underlying t=some (.struct fs)∧fs[f]?=some fd∧fd.offset=off∧tI P fd.type=some (ag,sz)∧sz≠0:=by
 unfold fI at e
 split at e
 · rename_i fs hu
   split at e
   · rename_i fd hfd
     split at e
     · rename_i ag' sz' hI
       split at e
       · cases e
       · rename_i hz;cases e;exact⟨fs,fd,hu,hfd,rfl,hI,hz⟩
     · cases e
   · cases e
 · cases e
theorem sP{P:Program}{t:TypeId}{sz:Nat}{ag:Bool}(e:eI P t=some (ag,sz)):∃e',P.underlying t=some (.slice e')∧tI P e'=some (ag,sz):=by
 unfold eI at e
 split at e
 · rename_i e' hu;exact⟨e',hu,e⟩
 · cases e
theorem YC{P:Program}{t:TypeId}{n sz:Nat}{ag:Bool}(e:aI P t=some (n,ag,sz)):∃e',P.underlying t=some (.array n e')∧tI P e'=some (ag,sz):=by
 unfold aI at e
 split at e
 · rename_i n' e' hu
   cases h:tI P e' with
   | none=>rw[h] at e;cases e
   | some x=>rw[h] at e;cases e;exact⟨e',hu,h⟩
 · cases e
theorem eG{P:Program}{t:TypeId}{d:TypeDesc}(e:P.underlying t=some d)(w:World):(underlying t).run P w=.ok d w:=by
 simp [underlying,e]
theorem aP3{P:Program}{h:bJ}{st:aB}{w:World}{t:TypeId}{ag:Bool}{off sz:Nat}{as:List AV}{vs:List Value}{r:AV}(hI:tI P t=some (ag,sz))
 (e:sub ag as off sz=some r) (x:a8 h st as vs):∃v,(part t vs.toArray off).run P w=.ok v w∧aQ h st r v:=by
 obtain⟨r1,r2,_⟩:=tI_run hI w
 unfold sub at e
 cases ag with
 | true=>
  simp only[eX] at e
  split at e
  · rename_i hl
    cases e
    refine⟨.agg ((vs.drop off).take sz).toArray,?_,aQ.YP ((x.drop off).take sz)⟩
    simp only[part,Sem.run_bind,r1,Result.andThen_ok,eX,r2,Sem.run_pure]
    congr 2
    simp [List.take_drop]
  · cases e
 | false=>
  simp only[fX,dT] at e
  split at e
  · rename_i a ha
    split at e
    · cases e
    · rename_i hag
      cases e
      obtain⟨v,hv,y⟩:=x.get off ha
      refine⟨v,?_,aQ.aOH (by simpa using hag) y⟩
      simp [part,r1,hv]
  · cases e
theorem aP2{h:bJ}{st:aB}{b o off sz:Nat}{ag:Bool}{as:List AV}{vs:List Value}{r:AV}(e:sub ag as off sz=some r)(x:eP h b o vs)(y:a8 h st as vs) :
 ∃us,eP h b (o+off) us∧us.length=r.width∧VC h st r us∧r.isAgg=ag∧(ag=true→r.width=sz):=by
 unfold sub at e
 cases ag with
 | true=>
  simp only[eX] at e
  split at e
  · rename_i hl
    cases e
    have l:=y.length
    refine⟨(vs.drop off).take sz,(x.drop off).take sz,by simp [AV.width,l],by simpa [VC] using (y.drop off).take sz,rfl,fun _=>by simp [AV.width];omega⟩
  · cases e
 | false=>
  simp only[fX,dT] at e
  split at e
  · rename_i a ha
    split at e
    · cases e
    · rename_i hag
      cases e
      have aL5:r.isAgg=false:=by simpa using hag
      obtain⟨v,hv,y'⟩:=y.get off ha
      exact⟨[v],⟨x.get off hv,trivial⟩,by cases r<;>first | rfl | (simp [AV.isAgg] at aL5),y',aL5,by simp⟩
  · cases e
def tG(P:Program)(t f:Nat):AV→Option AV
 | .ptr b o=>(fI P t f).map fun x=>.ptr b (o+x.1)
 | .pptr (.agg cs)=>match fI P t f with
  | some (off,ag,sz)=>(sub ag cs off sz).map .pptr
  | none=>none
 | _=>none
def g9(P:Program)(st:aB)(t:TypeId):AV→Option AV
 | .pptr e=>match tI P t with
  | some (ag,sz)=>if e.isAgg=ag∧e.width=sz then some e else none
  | none=>none
 | .ptr b o=>match tI P t,st b with
  | some (ag,sz),some (.cells cs)=>if ag=false∧sz≠1 then none else sub ag cs o sz
  | _,_=>none
 | _=>none
def c8(P:Program)(t:TypeId):AV→AV→Option AV
 | .slice es,.int _ n | .fslice es,.int _ n=>match eI P t with
  | some (_,sz)=>if 0≤n then(match es[n.toNat]? with
   | some e=>if e.width=sz then some (.pptr e) else none
   | none=>none) else none
  | none=>none
 | .mslice b off len m,.int _ n=>match eI P t with
  | some (_,sz)=>if 0≤n∧n<len∧m=sz then some (.ptr b (off+n.toNat*sz)) else none
  | none=>none
 | .ptr b off,.int _ n=>match aI P t with
  | some (len,_,sz)=>if 0≤n∧n<len then some (.ptr b (off+n.toNat*sz)) else none
  | none=>none
 | _,_=>none
def DT(P:Program)(t:TypeId):AV→AV→Option AV
 | .str s,.int _ n=>match P.underlying t with
  | some .string=>if 0≤n then(match s[n.toNat]? with | some b=>some (.int .u8 b.toNat) | none=>none) else none
  | _=>none
 | .agg cs,.int _ n=>match aI P t with
  | some (len,ag,sz)=>if 0≤n∧n<len then sub ag cs (n.toNat*sz) sz else none
  | none=>none
 | _,_=>none
section
variable {P:Program} {st:aB} {w:World} {a:Act} {φ:AF}
theorem a2Y{t:TypeId}{x:Operand}{f:Nat}{r:AV}{o:Oper}(ho:o.op=.fieldAddr t x f)(F:eL w.heap st a.tmps φ)(e:tG P t f (φ.eval x)=some r):jP st w r ((execOp a.eval o).run P w):=by
 have y:=aQ.eval F x
 have run:∀ {off sz:Nat} {ag:Bool} {b q:Nat},fI P t f=some (off,ag,sz)→a.eval x=.pointer (some ⟨b,q,none⟩) →
  (execOp a.eval o).run P w=.ok (.value (.pointer (some ⟨b,q+off,none⟩))) w:=by
  intro off sz ag b q hI hv
  obtain⟨fs,fd,hu,hfd,TF,hT,hz⟩:=aLI hI
  obtain⟨_,r2,_⟩:=tI_run hT w
  simp only[execOp,ho,hv,Instr.fieldAt,Sem.run_bind,eG hu,Result.andThen_ok,hfd,Instr.sureAddr,Sem.run_pure,fieldPlace,r2,hz,dT,Addr.oJ,TF]
 unfold tG at e
 split at e
 · rename_i b q hx
   rw[hx] at y
   cases hI:fI P t f with
   | none=>rw[hI] at e;cases e
   | some z=>
    obtain⟨off,ag,sz⟩:=z
    rw[hI] at e;cases e
    exact .same (run hI y.CL) ⟨rfl,rfl⟩
 · rename_i cs hx
   rw[hx] at y
   split at e
   · rename_i off ag sz hI
     cases hs:sub ag cs off sz with
     | none=>rw[hs] at e;cases e
     | some r'=>
      rw[hs] at e;cases e
      obtain⟨b,q,hv,e2,e3,vs,e4,e5,e6⟩:=y.NN
      obtain⟨us,u1,u2,u3,_⟩:=aP2 hs e4 (by simpa [VC] using e6)
      exact .same (run hI hv) ⟨rfl,b,q+off,rfl,e2,e3,us,u1,u2,u3⟩
   · cases e
 · cases e
theorem YD{t:TypeId}{x r:AV}{v:Value}(y:aQ w.heap st x v)(S:cS w.heap st)(e:g9 P st t x=some r) :
 ∃b off u,v=.pointer (some ⟨b,off,none⟩)∧(loadVar t ⟨b,off,none⟩).run P w=.ok u w∧aQ w.heap st r u:=by
 unfold g9 at e
 split at e
 · rename_i e'
   split at e
   · rename_i ag sz hI
     split at e
     · rename_i hc
       cases e
       obtain⟨b,off,hv,e2,e3,vs,e4,e5,e6⟩:=y.NN
       obtain⟨u,r1,rv⟩:=aPC hI e4 (by rw[e5,hc.2]) hc.1 e6
       exact⟨b,off,u,hv,r1,rv⟩
     · cases e
   · cases e
 · rename_i b q
   split at e
   · rename_i ag sz cs hI hs
     split at e
     · cases e
     · rename_i hsz
       obtain⟨_,c,t',hb,hl,vs,x1,x2⟩:=S b _ hs
       obtain⟨us,u1,u2,u3,u4,u5⟩:=aP2 e x1 x2
       rw[gZ] at u1
       have hw:us.length=sz:=by
        cases ag with
        | true=>rw[u2];exact u5 rfl
        | false=>rw[u2];simp at hsz;rw[hsz];cases r<;>first | rfl | (simp [AV.isAgg] at u4)
       obtain⟨u,r1,rv⟩:=aPC hI u1 hw u4 u3
       exact⟨b,q,u,y.CL,r1,rv⟩
   · cases e
 · cases e
theorem a69{t:TypeId}{x:Operand}{r:AV}{o:Oper}(ho:o.op=.load t x)(F:eL w.heap st a.tmps φ)(S:cS w.heap st)(e:g9 P st t (φ.eval x)=some r):jP st w r ((execOp a.eval o).run P w):=by
 obtain⟨b,off,u,hv,r1,rv⟩:=YD (aQ.eval F x) S e
 exact .same (v:=u) (by simp [execOp,ho,Instr.loadAt,Instr.sureAddr,hv,r1]) rv
theorem a2Z{t:TypeId}{x:Operand}{f:Nat}{r:AV}{o:Oper}{off sz:Nat}{ag:Bool}{cs:List AV}(ho:o.op=.field t x f)(F:eL w.heap st a.tmps φ)(hI:fI P t f=some (off,ag,sz))(hx:φ.eval x=.agg cs)
 (e:sub ag cs off sz=some r):jP st w r ((execOp a.eval o).run P w):=by
 have y:=aQ.eval F x
 rw[hx] at y
 obtain⟨vs,hv,hc⟩:=y.HG
 obtain⟨fs,fd,hu,hfd,TF,hT,hz⟩:=aLI hI
 obtain⟨v,r1,rv⟩:=aP3 (P:=P) (w:=w) hT e hc
 exact .same (v:=v) (by simp only[execOp,ho,hv,Instr.field,Sem.run_bind,eG hu,Result.andThen_ok,hfd,asAgg,Sem.run_pure,TF,r1]) rv
theorem a6I{t:TypeId}{x i:Operand}{r:AV}{o:Oper}(ho:o.op=.indexAddr t x i)(F:eL w.heap st a.tmps φ)(e:c8 P t (φ.eval x) (φ.eval i)=some r):jP st w r ((execOp a.eval o).run P w):=by
 have y:=aQ.eval F x
 have yi:=aQ.eval F i
 have nC:∀ {b off len cap sz:Nat} {ag:Bool} {k:IntKind} {n:Int},eI P t=some (ag,sz)→a.eval x=.slice (some ⟨b,off,none⟩) len cap→a.eval i=.int k n→0≤n→n<len →
  (execOp a.eval o).run P w=.ok (.value (.pointer (some ⟨b,off+n.toNat*sz,none⟩))) w:=by
  intro b off len cap sz ag k n hI hv hi h0 h1
  obtain⟨e',hu,hT⟩:=sP hI
  obtain⟨_,r2,_⟩:=tI_run hT w
  simp only[execOp,ho,hv,hi,Instr.indexAt,asIntOf,Sem.run_bind,eG hu,Result.andThen_ok,Sem.run_pure,h0,h1,and_self,eX,r2,Addr.oJ]
 have imm:∀ {es:List AV} {k:IntKind} {n:Int} {b off cap:Nat},φ.eval i=.int k n→a.eval x=.slice (some ⟨b,off,none⟩) es.length cap→st b=none→b<w.heap.size→iT es→dA w.heap st b off es →
  (match eI P t with
   | some (_,sz)=>if 0≤n then(match es[n.toNat]? with
    | some e=>if e.width=sz then some (.pptr e) else none
    | none=>none) else none
   | none=>none)=some r→jP st w r ((execOp a.eval o).run P w):=by
  intro es k n b off cap hi hv e2 e3 ev e4 e
  rw[hi] at yi
  split at e
  · rename_i ag sz hI
    split at e
    · rename_i h0
      split at e
      · rename_i e' he'
        split at e
        · rename_i hw
          cases e
          obtain⟨m,hm⟩:=ev
          have hlt:n.toNat<es.length:=(fA.1 he').1
          have hms:m=sz:=by rw[←hw];exact(hm e' (cH he')).symm
          obtain⟨us,u1,u2,u3⟩:=dA.get n.toNat hm e4 he'
          rw[hms] at u1
          exact .same (nC hI hv yi.kM h0 (by omega)) ⟨rfl,b,_,rfl,e2,e3,us,u1,u2,u3⟩
        · cases e
      · cases e
    · cases e
  · cases e
 unfold c8 at e
 split at e
 · rename_i es k n hx hi
   rw[hx] at y
   rcases y.FU with ⟨⟨p0,hv⟩,rfl⟩ | ⟨b,off,cap,hv,l1,l2,e2,e3,ev,e4⟩
   · split at e<;>simp at e
   · exact imm hi hv e2 e3 ev e4 e
 · rename_i es k n hx hi
   rw[hx] at y
   rcases y.BW with ⟨⟨p0,hv⟩,rfl⟩ | ⟨b,off,hv,l1,e2,e3,ev,e4⟩
   · split at e<;>simp at e
   · exact imm hi hv e2 e3 ev e4 e
 · rename_i b off len m k n hx hi
   rw[hx] at y
   rw[hi] at yi
   obtain⟨cap,hv,l1,l2,c,t',hb,l3⟩:=y.E8
   split at e
   · rename_i ag sz hI
     split at e
     · rename_i hc
       cases e
       exact .same (nC hI hv yi.kM hc.1 hc.2.1) ⟨rfl,rfl⟩
     · cases e
   · cases e
 · rename_i b off k n hx hi
   rw[hx] at y
   rw[hi] at yi
   split at e
   · rename_i len ag sz hI
     split at e
     · rename_i hc
       cases e
       obtain⟨e',hu,hT⟩:=YC hI
       obtain⟨_,r2,_⟩:=tI_run hT w
       refine .same (v:=.pointer (some ⟨b,off+n.toNat*sz,none⟩)) ?_ ⟨rfl,rfl⟩
       simp only[execOp,ho,y.CL,yi.kM,Instr.indexAt,asIntOf,Sem.run_bind,eG hu,Result.andThen_ok,Sem.run_pure,Instr.sureAddr,hc.1,hc.2,and_self,eX,r2,Addr.oJ]
     · cases e
   · cases e
 · cases e
theorem a6J{t:TypeId}{x i:Operand}{r:AV}{o:Oper}(ho:o.op=.index t x i)(F:eL w.heap st a.tmps φ)(e:DT P t (φ.eval x) (φ.eval i)=some r):jP st w r ((execOp a.eval o).run P w):=by
 have y:=aQ.eval F x
 have yi:=aQ.eval F i
 unfold DT at e
 split at e
 · rename_i s k n hx hi
   rw[hx] at y
   rw[hi] at yi
   split at e
   · rename_i hu
     split at e
     · rename_i h0
       split at e
       · rename_i b hb
         cases e
         refine .same (v:=.int .u8 b.toNat) ?_ ⟨rfl,rfl⟩
         simp only[execOp,ho,y.CS.1,yi.kM,Instr.index,asIntOf,Sem.run_bind,eG hu,Result.andThen_ok,Sem.run_pure,h0,eX,hb]
       · cases e
     · cases e
   · cases e
 · rename_i cs k n hx hi
   rw[hx] at y
   rw[hi] at yi
   obtain⟨vs,hv,hc⟩:=y.HG
   split at e
   · rename_i len ag sz hI
     split at e
     · rename_i hn
       obtain⟨e',hu,hT⟩:=YC hI
       obtain⟨_,r2,_⟩:=tI_run hT w
       obtain⟨v,r1,rv⟩:=aP3 (P:=P) (w:=w) hT e hc
       refine .same (v:=v) ?_ rv
       simp only[execOp,ho,hv,yi.kM,Instr.index,asIntOf,Sem.run_bind,eG hu,Result.andThen_ok,Sem.run_pure,hn.1,hn.2,and_self,eX,r2,r1]
     · cases e
   · cases e
 · cases e
end
def dC(φ:AF)(x:Option Operand)(RJ most:Nat):Option Nat:=
 match x with
 | none=>some RJ
 | some y=>match φ.eval y with
  | .int _ n=>if 0≤n∧n≤most then some n.toNat else none
  | _=>none
def wI(es:List AV)(l sz:Nat):Bool:=match es[l]? with | some e=>e.width == sz | none=>true
def nV:AV→Bool
 | .fslice []=>true
 | _=>false
def mG(P:Program)(φ:AF)(t:TypeId)(x:AV)(lo hi mx:Option Operand):Option AV:=
 match x with
 | .str s=>match P.underlying t,mx with
  | some .string,none=>match dC φ hi s.size s.size with
   | some h=>match dC φ lo 0 h with
    | some l=>some (.str (s.extract l h))
    | none=>none
   | none=>none
  | _,_=>none
 | .slice es | .fslice es=>match eI P t with
  | some (_,sz)=>if mx.isSome∧hi.isNone then none else match dC φ mx es.length es.length with
   | some m=>match dC φ hi es.length m with
    | some h=>match dC φ lo 0 h with
     | some l=>if l=0∨wI es l sz=true then
      some (if mx.isSome∧m=h then .fslice ((es.take h).drop l) else .slice ((es.take h).drop l)) else none
     | none=>none
    | none=>none
   | none=>none
  | none=>none
 | .mslice b off len n=>match eI P t,mx with
  | some (_,sz),none=>match dC φ hi len len with
   | some h=>match dC φ lo 0 h with
    | some l=>if n=sz then(if l=0 then some (.mslice b off h n) else if l<h then some (.mslice b (off+l*n) (h - l) n) else some .eslice) else none
    | none=>none
   | none=>none
  | some (_,sz),some z=>match lo,hi with
   | none,some y=>match dC φ (some z) len len with
    | some m=>match dC φ (some y) len m with
     | some h=>if n=sz then some (.mslice b off h n) else none
     | none=>none
    | none=>none
   | _,_=>none
  | _,_=>none
 | .eslice=>match eI P t,mx with
  | some _,some z=>match lo,hi with
   | none,some y=>match dC φ (some z) 0 0 with
    | some m=>match dC φ (some y) 0 m with
     | some _=>some (.fslice [])
     | none=>none
    | none=>none
   | _,_=>none
  | _,_=>none
 | _=>none
def eV(P:Program)(φ:AF)(t:TypeId)(x:AV)(lo hi mx:Option Operand):Option AV:=
 if nV x=true∧mx.isNone=true then match eI P t with
  | some _=>match dC φ hi 0 0 with
   | some h=>match dC φ lo 0 h with
    | some _=>some (.fslice [])
    | none=>none
   | none=>none
  | none=>none
 else mG P φ t x lo hi mx
section
variable {P:Program} {st:aB} {w:World} {a:Act} {φ:AF}
theorem w9(F:eL w.heap st a.tmps φ){y:Operand}{RJ most TX r:Nat}(code:BoundsCode)(e:dC φ (some y) RJ most=some r)(hm:most≤TX) :
 (Instr.sliceBound (a.eval y) TX code).run P w=.ok r w∧r≤most:=by
 simp only[dC] at e
 have z:=aQ.eval F y
 split at e
 · rename_i k n hn
   rw[hn] at z
   split at e
   · rename_i h
     cases e
     rw[z.kM]
     have h2:n≤(TX:Int):=by omega
     refine⟨?_,by omega⟩
     simp [Instr.sliceBound,asIntOf,h.1,h2]
   · cases e
 · cases e
theorem LC(F:eL w.heap st a.tmps φ){lo hi:Option Operand}{isS:Bool}{len IZ cap h l:Nat}(eh:dC φ hi len IZ=some h)(el:dC φ lo 0 h=some l)(hl:len≤IZ)(hc:IZ≤cap) :
 (Instr.sliceBounds isS len cap (lo.map a.eval) (hi.map a.eval) none).run P w=.ok (l,h,cap) w∧l≤h∧h≤IZ:=by
 have hh:h≤IZ:=by
  cases hi with
  | none=>cases eh;exact hl
  | some y=>exact(w9 (P:=P) F .index eh (cU _)).2
 have hll:l≤h:=by
  cases lo with
  | none=>cases el;exact iU _
  | some y=>exact(w9 (P:=P) F .index el (cU _)).2
 refine⟨?_,hll,hh⟩
 cases hi with
 | none=>
  cases eh
  cases lo with
  | none=>cases el;simp [Instr.sliceBounds]
  | some y=>
   have:=(w9 (P:=P) F .sliceB el (cU _)).1
   simp [Instr.sliceBounds,this]
 | some z=>
  have h1:=(w9 (P:=P) F (if isS then .sliceAcap else .sliceAlen) eh hc).1
  cases lo with
  | none=>cases el;simp [Instr.sliceBounds,h1]
  | some y=>
   have:=(w9 (P:=P) F .sliceB el (cU _)).1
   simp [Instr.sliceBounds,h1,this]
theorem QK(F:eL w.heap st a.tmps φ){lo hi:Option Operand}{x y:Operand}{len cap h l m:Nat}(he:hi=some y)(em:dC φ (some x) len len=some m)(eh:dC φ hi len m=some h)(el:dC φ lo 0 h=some l)(hc:len≤cap) :
 (Instr.sliceBounds true len cap (lo.map a.eval) (hi.map a.eval) (some (a.eval x))).run P w=.ok (l,h,m) w∧l≤h∧h≤m∧m≤len:=by
 subst he
 have h0:=w9 (P:=P) F .slice3Acap em hc
 have h1:=w9 (P:=P) F .slice3B eh (cU _)
 have hll:l≤h:=by
  cases lo with
  | none=>cases el;exact iU _
  | some y=>exact(w9 (P:=P) F .index el (cU _)).2
 refine⟨?_,hll,h1.2,h0.2⟩
 cases lo with
 | none=>cases el;simp [Instr.sliceBounds,h0.1,h1.1]
 | some y=>
  have:=(w9 (P:=P) F .slice3C el (cU _)).1
  simp [Instr.sliceBounds,h0.1,h1.1,this]
theorem a98{t:TypeId}{x:Operand}{lo hi mx:Option Operand}{r:AV}{o:Oper}(ho:o.op=.slice t x lo hi mx)(F:eL w.heap st a.tmps φ)(e:mG P φ t (φ.eval x) lo hi mx=some r):jP st w r ((execOp a.eval o).run P w):=by
 have y:=aQ.eval F x
 have imm:∀ {es:List AV},aQ w.heap st (.slice es) (a.eval x) →
  (match eI P t with
   | some (_,sz)=>if mx.isSome∧hi.isNone then none else match dC φ mx es.length es.length with
    | some m=>match dC φ hi es.length m with
     | some h=>match dC φ lo 0 h with
      | some l=>if l=0∨wI es l sz=true then
       some (if mx.isSome∧m=h then .fslice ((es.take h).drop l) else .slice ((es.take h).drop l)) else none
      | none=>none
     | none=>none
    | none=>none
   | none=>none)=some r→jP st w r ((execOp a.eval o).run P w):=by
  intro es y e
  split at e
  case h_2=>cases e
  rename_i ag sz hI
  obtain⟨e',hu,hT⟩:=sP hI
  obtain⟨_,r2,_⟩:=tI_run hT w
  split at e
  case isTrue=>cases e
  rename_i hno
  split at e
  case h_2=>cases e
  rename_i m hm
  split at e
  case h_2=>cases e
  rename_i h hh
  split at e
  case h_2=>cases e
  rename_i l hl
  split at e
  case isFalse=>cases e
  rename_i hw
  cases e
  -- the bounds
  have key:∀base cap,a.eval x=.slice base es.length cap→es.length≤cap→∃M,(execOp a.eval o).run P w=.ok (.value (.slice (if M=l then base else base.map (·.add (l*sz))) (h - l) (M - l))) w∧l≤h∧h≤es.length∧h≤M∧M≤cap∧(mx.isSome∧m=h→M=h):=by
   intro base cap hv hc
   cases mx with
   | none=>
    cases hm
    obtain⟨b1,b2,b3⟩:=LC (P:=P) (isS:=true) F hh hl (cU _) hc
    refine⟨cap,?_,b2,b3,by omega,cU _,by simp⟩
    simp only[execOp,ho,Instr.sliceAt,Sem.run_bind,eG hu,Result.andThen_ok,Instr.slice,hv,GZ,b1,r2,Sem.run_pure]
   | some z=>
    cases hi with
    | none=>
     exact absurd ⟨rfl,rfl⟩ hno
    | some y'=>
     obtain⟨b1,b2,b3,b4⟩:=QK (P:=P) F rfl hm hh hl hc
     refine⟨m,?_,b2,by omega,b3,by omega,fun q=>q.2⟩
     simp only[execOp,ho,Instr.sliceAt,Sem.run_bind,eG hu,Result.andThen_ok,Instr.slice,hv]
     rw[show(some z).map a.eval=some (a.eval z) from rfl,b1]
     simp only[Result.andThen_ok,r2,Sem.run_pure]
  rcases y.FU with ⟨⟨p0,hv⟩,rfl⟩ | ⟨b,off,cap,hv,l1,l2,e2,e3,ev,e4⟩
  · obtain⟨M,r1,b1,b2,b3,b4,b5⟩:=key p0 0 hv (by simp)
    have hM:M=0:=by omega
    have hh0:h=0:=by omega
    have hl0:l=0:=by omega
    subst hM hh0 hl0
    refine .same (v:=.slice p0 0 0) (by rw[r1];simp) ?_
    split
    · exact⟨rfl,.inl ⟨⟨p0,rfl⟩,by simp⟩⟩
    · exact⟨rfl,.inl ⟨⟨p0,rfl⟩,by simp⟩⟩
  · obtain⟨M,r1,b1,b2,b3,b4,b5⟩:=key _ cap hv l1
    have hlen:((es.take h).drop l).length=h - l:=by simp;omega
    obtain⟨n,hn⟩:=ev
    have hE:∃FC,dA w.heap st b FC ((es.take h).drop l)∧(if M=l then some (⟨b,off,none⟩:Addr) else(some (⟨b,off,none⟩:Addr)).map (·.add (l*sz)))=some ⟨b,FC,none⟩:=by
     by_cases hMl:M=l
     · have:(es.take h).drop l= []:=by apply o0;omega
       refine⟨off,by rw[this];simp [dA],by rw[aG hMl]⟩
     · refine⟨off+l*sz,?_,by rw[aE hMl];simp [Addr.oJ]⟩
       have base:dA w.heap st b (off+l*n) ((es.take h).drop l):=dA.drop l (fun x hx=>hn x (mC hx)) (dA.take h e4)
       rcases hw with hw | hw
       · subst hw;simpa using base
       · unfold wI at hw
         split at hw
         · rename_i e'' a4J
           have h1:e''.width=sz:=by simpa using hw
           have h2:=hn e'' (cH a4J)
           rw[←h1,h2];exact base
         · rename_i vW
           have h3:es.length≤l:=by simpa using vW
           have:(es.take h).drop l= []:=by apply o0;omega
           rw[this];simp [dA]
    obtain⟨FC,hE1,hE2⟩:=hE
    have hEv:iT ((es.take h).drop l):=⟨n,fun x hx=>hn x (mC (KO hx))⟩
    refine .same (v:=.slice (some ⟨b,FC,none⟩) (h - l) (M - l)) (by rw[r1,hE2]) ?_
    split
    · rename_i hc
      have:=b5 hc
      subst this
      exact⟨rfl,.inr ⟨b,FC,by rw[hlen];try rfl,by omega,e2,e3,hEv,hE1⟩⟩
    · exact⟨rfl,.inr ⟨b,FC,M - l,by rw[hlen];try rfl,by omega,by omega,e2,e3,hEv,hE1⟩⟩
 unfold mG at e
 split at e
 · rename_i s hx
   rw[hx] at y
   split at e
   case h_2=>cases e
   rename_i hu
   split at e
   case h_2=>cases e
   rename_i h hh
   split at e
   case h_2=>cases e
   rename_i l hl
   cases e
   obtain⟨b1,b2,b3⟩:=LC (P:=P) (isS:=false) F hh hl (cU _) (cU s.size)
   refine .same (v:=.string (s.extract l h)) ?_ ⟨rfl,rfl,by have h1:=y.CS.2;rw[ByteArray.size_extract];omega⟩
   simp only[execOp,ho,Instr.sliceAt,Sem.run_bind,eG hu,Result.andThen_ok,Instr.slice,y.CS.1,GZ,Option.isSome_none,fX,dT,b1,Sem.run_pure]
 · rename_i es hx
   rw[hx] at y
   exact imm y e
 · rename_i es hx
   rw[hx] at y
   exact imm y.H6 e
 · rename_i b off len n hx
   rw[hx] at y
   obtain⟨cap,hv,l1,l2,c,t',hb,l3⟩:=y.E8
   split at e
   case h_3=>cases e
   case h_2=>
    rename_i mx' ag sz z hI
    obtain⟨e',hu,hT⟩:=sP hI
    obtain⟨_,r2,_⟩:=tI_run hT w
    split at e
    case h_2=>cases e
    rename_i lo' hi' y'
    split at e
    case h_2=>cases e
    rename_i m hm
    split at e
    case h_2=>cases e
    rename_i h hh
    split at e
    case isFalse=>cases e
    rename_i hc1
    subst hc1
    cases e
    obtain⟨b1,b2,b3,b4⟩:=QK (P:=P) (lo:=none) F rfl hm hh rfl l1
    refine .same (v:=.slice (some ⟨b,off,none⟩) h m) ?_ ⟨rfl,m,rfl,by omega,by omega,c,t',hb,?_⟩
    · simp only[execOp,ho,Instr.sliceAt,Sem.run_bind,eG hu,Result.andThen_ok,Instr.slice,hv]
      rw[show(some z).map a.eval=some (a.eval z) from rfl,b1]
      simp only[Result.andThen_ok,r2,Sem.run_pure]
      simp [Addr.add]
    · have:m*n≤cap*n:=tN n (by omega)
      omega
   rename_i ag sz hI
   obtain⟨e',hu,hT⟩:=sP hI
   obtain⟨_,r2,_⟩:=tI_run hT w
   split at e
   case h_2=>cases e
   rename_i h hh
   split at e
   case h_2=>cases e
   rename_i l hl
   split at e
   case isFalse=>cases e
   rename_i hc1
   subst hc1
   obtain⟨b1,b2,b3⟩:=LC (P:=P) (isS:=true) F hh hl (cU _) l1
   have run:(execOp a.eval o).run P w=.ok (.value (.slice (if cap=l then some ⟨b,off,none⟩ else(some ⟨b,off,none⟩:Option Addr).map (·.add (l*n))) (h - l) (cap - l))) w:=by
    simp only[execOp,ho,Instr.sliceAt,Sem.run_bind,eG hu,Result.andThen_ok,Instr.slice,hv,GZ,b1,r2,Sem.run_pure]
   split at e
   · rename_i hc2
     cases e
     subst hc2
     refine .same (v:=.slice (some ⟨b,off,none⟩) h cap) ?_ ⟨rfl,cap,rfl,by omega,l2,c,t',hb,l3⟩
     rw[run]
     simp [Addr.add]
   · rename_i hc2
     split at e
     · rename_i hc3
       cases e
       have hne:¬cap=l:=by omega
       refine .same (v:=.slice (some ⟨b,off+l*n,none⟩) (h - l) (cap - l)) ?_ ⟨rfl,cap - l,rfl,by omega,by omega,c,t',hb,?_⟩
       · rw[run,aE hne]
         simp [Addr.oJ]
       · have:l*n+(cap - l)*n=cap*n:=by rw[←tM];congr 1;omega
         omega
     · rename_i hc3
       cases e
       have hz:h - l=0:=by omega
       rw[hz] at run
       exact .same run ⟨rfl,_,_,rfl⟩
 · rename_i hx
   rw[hx] at y
   obtain⟨p0,cap,hv⟩:=y.RY
   split at e
   case h_2=>cases e
   rename_i mx' ag z hI
   obtain⟨ag,sz⟩:=ag
   obtain⟨e',hu,hT⟩:=sP hI
   obtain⟨_,r2,_⟩:=tI_run hT w
   split at e
   case h_2=>cases e
   rename_i lo' hi' y'
   split at e
   case h_2=>cases e
   rename_i m hm
   split at e
   case h_2=>cases e
   rename_i h hh
   cases e
   obtain⟨b1,b2,b3,b4⟩:=QK (P:=P) (lo:=none) F rfl hm hh rfl (iU cap)
   have h0:h=0:=by omega
   have m0:m=0:=by omega
   subst h0 m0
   refine .same (v:=.slice p0 0 0) ?_ ⟨rfl,.inl ⟨⟨p0,rfl⟩,rfl⟩⟩
   simp only[execOp,ho,Instr.sliceAt,Sem.run_bind,eG hu,Result.andThen_ok,Instr.slice,hv]
   rw[show(some z).map a.eval=some (a.eval z) from rfl,b1]
   simp only[Result.andThen_ok,r2,Sem.run_pure]
   simp
 · cases e
theorem bAE{t:TypeId}{x:Operand}{lo hi mx:Option Operand}{r:AV}{o:Oper}(ho:o.op=.slice t x lo hi mx)(F:eL w.heap st a.tmps φ)(e:eV P φ t (φ.eval x) lo hi mx=some r):jP st w r ((execOp a.eval o).run P w):=by
 unfold eV at e
 split at e
 case isFalse=>exact a98 ho F e
 rename_i hc
 have y:=aQ.eval F x
 have hx:φ.eval x=.fslice []:=by
  have:=hc.1
  generalize φ.eval x=v at *
  unfold nV at this
  split at this
  · rfl
  · cases this
 have hm:mx=none:=by cases mx with | none=>rfl | some _=>simp at hc
 subst hm
 rw[hx] at y
 split at e
 case h_2=>cases e
 rename_i sz hI
 obtain⟨ag,sz⟩:=sz
 obtain⟨e',hu,hT⟩:=sP hI
 obtain⟨_,r2,_⟩:=tI_run hT w
 split at e
 case h_2=>cases e
 rename_i h hh
 split at e
 case h_2=>cases e
 rename_i l hl
 cases e
 have hv:∃p,a.eval x=.slice p 0 0:=by
  rcases y.BW with ⟨⟨p0,hv⟩,_⟩ | ⟨b,off,hv,_⟩
  · exact⟨p0,hv⟩
  · exact⟨_,hv⟩
 obtain⟨p,hv⟩:=hv
 obtain⟨b1,b2,b3⟩:=LC (P:=P) (isS:=true) F hh hl (cU _) (cU 0)
 have h0:h=0:=by omega
 have l0:l=0:=by omega
 subst h0 l0
 refine .same (v:=.slice p 0 0) ?_ ⟨rfl,.inl ⟨⟨p,rfl⟩,rfl⟩⟩
 simp only[execOp,ho,Instr.sliceAt,Sem.run_bind,eG hu,Result.andThen_ok,Instr.slice,hv,GZ,b1,r2,Sem.run_pure]
 simp
end
def bI(P:Program)(t:TypeId):Option (List (Nat×Nat)):=
 match P.underlying t with
 | some (.struct fs)=>fs.toList.mapM fun f=>(P.info? f.type).map fun i=>(f.offset,i.size)
 | _=>none
def zI(P:Program)(t:TypeId):Option (List AV):=
 match P.info? t with
 | some i=>match i.zero with
  | some z=>some (z.cells.toList.map ofConst)
  | none=>none
 | none=>none
def AV.cD:AV→Bool
 | .junk=>true
 | _=>false
def tO(h:bJ)(st:aB):List (Nat×AV)→List (Nat×Value)→Prop
 | [],qs=>qs= []
 | p::ps,qs=>∃q r,qs=q::r∧(p.1=q.1∧aQ h st p.2 q.2)∧tO h st ps r
def qQ(place:Nat→Option (Nat×Nat))(cells:List AV):List (Nat×AV)→Option (List AV)
 | []=>some cells
 | (i,v)::rest=>
  match place i with
  | none=>none
  | some (off,size)=>
   if v.cells.length≠size∨off+size>cells.length∨v.cD=true then none
   else qQ place (cells.take off++v.cells++cells.drop (off+size)) rest
theorem a8.append{h:bJ}{st:aB}:∀ {as bs:List AV} {vs us:List Value},a8 h st as vs→a8 h st bs us→a8 h st (as++bs) (vs++us)
 | [],_,vs,us,x,y=>by simp only[a8] at x;subst x;simpa using y
 | a::as,_,vs,us,x,y=>by
  simp only[a8] at x
  obtain⟨c,r,rfl,x1,x2⟩:=x
  simp only[gV,a8]
  exact⟨c,r++us,rfl,x1,a8.append x2 y⟩
theorem aQ.cells{h:bJ}{st:aB}{a:AV}{v:Value}(x:aQ h st a v)(hj:a≠.junk):a8 h st a.cells v.cells.toList:=by
 by_cases ha:a.isAgg=true
 · cases a<;>simp [AV.isAgg] at ha
   obtain⟨vs,rfl,hc⟩:=x.HG
   simpa [AV.cells,Value.cells] using hc
 · have ha':a.isAgg=false:=by simpa using ha
   have h1:=x.single ha' hj
   have h2:a.isAgg=j8 v:=by cases a<;>first | exact absurd rfl hj | exact x.1
   rw[aAZ (h2.symm.trans ha')]
   have h3:a.cells= [a]:=by cases a<;>first | rfl | (simp [AV.isAgg] at ha')
   rw[h3]
   simp only[a8]
   exact⟨v,[],rfl,h1,rfl⟩
theorem aLQ(off:Nat):∀(vs:List Value) (k:Nat) (cs:Array Value),off+k+vs.length≤cs.size →
 ((vs.zipIdx k).foldl (fun cs (x:Value×Nat)=>cs.setIfInBounds (off+x.2) x.1) cs).toList=cs.toList.take (off+k)++vs++cs.toList.drop (off+k+vs.length)
 | [],k,cs,_=>by simp
 | v::vs,k,cs,hl=>by
  simp only[List.zipIdx_cons,vD]
  rw[aLQ off vs (k+1) (cs.setIfInBounds (off+k) v) (by simp at hl ⊢;omega)]
  have hlt:off+k<cs.toList.length:=by simp at hl ⊢;omega
  simp only[Array.toList_setIfInBounds]
  have e1:(cs.toList.set (off+k) v).take (off+(k+1))=cs.toList.take (off+k)++ [v]:=by
   rw[show off+(k+1)=off+k+1 by omega,List.take_succ_eq_append_getElem (by simpa using hlt)]
   simp [List.take_set_of_le]
  have e2:(cs.toList.set (off+k) v).drop (off+(k+1)+vs.length)=cs.toList.drop (off+k+(v::vs).length):=by
   rw[List.drop_set_of_lt (by omega)]
   congr 1
   simp;omega
  rw[e1,e2]
  simp
theorem R6{h:bJ}{st:aB}{place:Nat→Option (Nat×Nat)}:∀ {parts:List (Nat×AV)} {O8:List (Nat×Value)} {as r:List AV} {cs:Array Value},
 tO h st parts O8→a8 h st as cs.toList→qQ place as parts=some r→∃cs',Instr.fill place cs O8=some cs'∧a8 h st r cs'.toList
 | [],O8,as,r,cs,y,x,e=>by simp only[qQ] at e;cases e;simp only[tO] at y;subst y;exact⟨cs,rfl,x⟩
 | (i,p)::parts,O8,as,r,cs,y,x,e=>by
  simp only[tO] at y
  obtain⟨⟨j,q⟩,rest,rfl,⟨y1,y2⟩,y3⟩:=y
  simp only at y1 y2
  subst y1
  simp only[qQ] at e
  split at e
  · cases e
  · rename_i off size hp
    split at e
    · cases e
    · rename_i hc
      have hj:p≠.junk:=by intro hj;subst hj;simp [AV.cD] at hc
      have MX:=y2.cells hj
      have hl1:=MX.length
      have hl2:=x.length
      simp only[not_or,Decidable.not_not] at hc
      obtain⟨hc1,hc2,_⟩:=hc
      have hq:q.cells.size=size:=by rw[←hc1,←hl1];simp
      have a4P:off+q.cells.size≤cs.size:=by
       have:cs.size=as.length:=by rw[←hl2];simp
       omega
      have nU:=aLQ off q.cells.toList 0 cs (by simpa using a4P)
      have hx:a8 h st (as.take off++p.cells++as.drop (off+size)) ((q.cells.toList.zipIdx 0).foldl (fun cs (x:Value×Nat)=>cs.setIfInBounds (off+x.2) x.1) cs).toList:=by
       rw[nU]
       have:=((x.take off).append MX).append (x.drop (off+size))
       simpa [hq] using this
      obtain⟨cs',f1,f2⟩:=R6 (place:=place) y3 hx e
      refine⟨cs',?_,f2⟩
      have a4Q:q.cells.zipIdx.foldl (fun cs (x:Value×Nat)=>cs.setIfInBounds (off+x.2) x.1) cs=(q.cells.toList.zipIdx 0).foldl (fun cs (x:Value×Nat)=>cs.setIfInBounds (off+x.2) x.1) cs:=by
       rw[←Array.foldl_toList];simp
      simp only[Instr.fill,hp,hq,ne_eq,NF,bP,oY]
      rw[aE (by simp;omega)]
      rw[←f1,←a4Q]
theorem VC.const(h:bJ)(st:aB)(c:Value):VC h st (ofConst c) [c]:=by
 have x:=aQ.const h st c
 have ha:(ofConst c).isAgg=false:=by unfold ofConst;split<;>first | rfl | (split<;>rfl)
 by_cases hj:ofConst c=.junk
 · rw[hj];simp [VC]
 · exact x.single ha hj
theorem a8.consts(h:bJ)(st:aB):∀(cs:List Value),a8 h st (cs.map ofConst) cs
 | []=>by simp [a8]
 | c::cs=>by simp only[bA,a8];exact⟨c,cs,rfl,VC.const h st c,a8.consts h st cs⟩
theorem zI_run{P:Program}{t:TypeId}{as:List AV}(e:zI P t=some as)(h:bJ)(st:aB)(w:World):∃z,(zeroValue t).run P w=.ok z w∧a8 h st as z.cells.toList:=by
 unfold zI at e
 split at e
 · rename_i i hi
   split at e
   · rename_i z hz
     cases e
     exact⟨z,by simp [zeroValue,typeInfo,hi,hz],a8.consts h st _⟩
   · cases e
 · cases e
theorem aPD{P:Program}{w:World}{α β:Type}(f:α→Sem β)(g:α→Option β)(hfg:∀x y,g x=some y→(f x).run P w=.ok y w):∀(l:List α) (r:List β),l.mapM g=some r→(l.mapM f).run P w=.ok r w
 | [],r,e=>by simp at e;subst e;rfl
 | x::l,r,e=>by
  rw[List.mapM_cons] at e
  cases hx:g x with
  | none=>rw[hx] at e;cases e
  | some y=>
   rw[hx] at e
   cases hl:l.mapM g with
   | none=>rw[hl] at e;cases e
   | some ys=>
    rw[hl] at e
    cases e
    simp only[List.mapM_cons,Sem.run_bind,hfg x y hx,Result.andThen_ok,aPD f g hfg l ys hl,Sem.run_pure]
def r7(φ:AF)(parts:Array (Nat×Operand)):List (Nat×AV):=parts.toList.map fun p=>(p.1,φ.eval p.2)
theorem tO.parts{h:bJ}{st:aB}{a:Act}{φ:AF}(F:eL h st a.tmps φ):∀(l:List (Nat×Operand)),tO h st (l.map fun p=>(p.1,φ.eval p.2)) (l.map fun p=>(p.1,a.eval p.2))
 | []=>by simp [tO]
 | p::l=>by simp only[bA,tO];exact⟨_,_,rfl,⟨rfl,aQ.eval F p.2⟩,tO.parts F l⟩
def A0(P:Program)(φ:AF)(t:TypeId)(parts:Array (Nat×Operand)):Option AV:=
 match bI P t,zI P t with
 | some places,some zs=>(qQ (fun i=>places[i]?) zs (r7 φ parts)).map .agg
 | _,_=>none
theorem aU5{P:Program}{st:aB}{w:World}{a:Act}{φ:AF}{t:TypeId}{parts:Array (Nat×Operand)}{r:AV}{o:Oper}(ho:o.op=.build t parts)(F:eL w.heap st a.tmps φ)(e:A0 P φ t parts=some r) :
 jP st w r ((execOp a.eval o).run P w):=by
 unfold A0 at e
 split at e
 case h_2=>cases e
 rename_i places zs hb hz
 cases hf:qQ (fun i=>places[i]?) zs (r7 φ parts) with
 | none=>rw[hf] at e;cases e
 | some cs=>
  rw[hf] at e;cases e
  obtain⟨z,z1,z2⟩:=zI_run hz w.heap st w
  have hps:=tO.parts F parts.toList
  obtain⟨cs',f1,f2⟩:=R6 (place:=fun i=>places[i]?) hps z2 hf
  unfold bI at hb
  split at hb
  case h_2=>cases hb
  rename_i fs hu
  have hm:(fs.mapM fun f=>(do pure (f.offset,←sizeOf f.type):Sem (Nat×Nat))).run P w=.ok places.toArray w:=by
   rw[Array.mapM_eq_mapM_toList]
   have:=aPD (P:=P) (w:=w) (fun f:Field=>(do pure (f.offset,←sizeOf f.type):Sem (Nat×Nat))) (fun f=>(P.info? f.type).map fun i=>(f.offset,i.size))
    (fun x y hy=>by
     cases hi:P.info? x.type with
     | none=>rw[hi] at hy;cases hy
     | some i=>rw[hi] at hy;cases hy;simp [sizeOf,typeInfo,hi]) fs.toList places hb
   simp only[Sem.run_map,this,Result.andThen_ok]
  have M1:((parts.map fun(i,x)=>(i,a.eval x)).toList:List (Nat×Value))=parts.toList.map fun p=>(p.1,a.eval p.2):=by simp
  refine .same (v:=.agg cs') ?_ ⟨rfl,by simpa [Value.cells,VC] using f2⟩
  simp only[execOp,ho,Instr.build,Sem.run_bind,z1,Result.andThen_ok,eG hu,hm,M1]
  have:(fun i:Nat=>places.toArray[i]?)=fun i:Nat=>places[i]?:=by funext i;simp
  rw[this,f1]
  try rfl
theorem YA{n:Nat}:∀(ps:List AV) (k:Nat) (pre:List AV),pre.length=k*n→(∀p∈ps,p.width=n∧p.cD=false) →
 qQ (fun i=>some (i*n,n)) (pre++List.replicate (ps.length*n) .junk) ((List.range' k ps.length).zip ps)=some (pre++ps.flatMap AV.cells)
 | [],k,pre,_,_=>by simp [qQ]
 | p::ps,k,pre,hp,h=>by
  have hw:=(h p (by simp)).1
  have hj:=(h p (by simp)).2
  have hc:p.cells.length=n:=by rw[←hw];cases p<;>rfl
  simp only[aU,List.range'_succ,List.zip_cons_cons,qQ,hc,hj]
  have hl:(pre++List.replicate ((ps.length+1)*n) AV.junk).length=k*n+(ps.length+1)*n:=by simp [hp]
  have hs:(ps.length+1)*n=ps.length*n+n:=qV _ _
  rw[aE (by rw[hl];simp;omega)]
  have e1:(pre++List.replicate ((ps.length+1)*n) AV.junk).take (k*n)=pre:=by rw[←hp];simp
  have e2:(pre++List.replicate ((ps.length+1)*n) AV.junk).drop (k*n+n)=List.replicate (ps.length*n) AV.junk:=by
   rw[List.drop_append,hp,A6 (by rw[hp];omega)]
   simp;rw[hs];omega
  rw[e1,e2]
  have:=YA (n:=n) ps (k+1) (pre++p.cells) (by simp [hp,hc,qV]) (fun q hq=>h q (by simp [hq]))
  rw[this]
  simp
theorem KU{h:bJ}{st:aB}{b:Nat}:∀ {es:List AV} {off:Nat} {vs:List Value},(∀e∈es,e.cD=false)→eP h b off vs→a8 h st (es.flatMap AV.cells) vs→dA h st b off es
 | [],_,_,_,_,_=>by simp [dA]
 | e::es,off,vs,hj,x,y=>by
  have hl:=y.length
  have hc:e.cells.length=e.width:=by cases e<;>rfl
  have y1:=y.take e.width
  have y2:=y.drop e.width
  rw[qT,DJ (by omega),lM (by omega)] at y1
  rw[qT,XI (by omega),A6 (by omega),fB] at y2
  simp only[dA]
  refine⟨⟨vs.take e.width,x.take e.width,?_,?_⟩,KU (fun q hq=>hj q (by simp [hq])) (x.drop e.width) y2⟩
  · rw[y1.length,hc]
  · cases e
    case agg cs=>simpa [VC,AV.cells] using y1
    case junk=>have:=hj .junk (by simp);simp [AV.cD] at this
    all_goals
     simp only[AV.cells,a8] at y1
     obtain⟨c,r,e1,e2,e3⟩:=y1
     rw[e1,e3]
     exact e2
theorem a8.junk(h:bJ)(st:aB):∀(vs:List Value),a8 h st (List.replicate vs.length .junk) vs
 | []=>by simp [a8]
 | v::vs=>by simp only[aU,PO,a8];exact⟨v,vs,rfl,by simp [VC],a8.junk h st vs⟩
theorem HS(h:bJ)(c:Array Value)(t:TypeId)(fr:Nat×Nat):∀(vs:List Value) (off:Nat),c.toList.drop off=vs→eP (h.push (.cells c t fr)) h.size off vs
 | [],_,_=>trivial
 | v::vs,off,e=>by
  refine⟨?_,HS h c t fr vs (off+1) ?_⟩
  · have:c.toList[off]?=some v:=by
     have:=eA (fun l=>l[0]?) e
     simpa using this
    simp only[cellAt,Array.getElem?_push,eX]
    simpa using this
  · rw[show off+1=off+1 from rfl,←GQ,e]
    try rfl
def O9(ps:List (Nat×AV)):Bool:=ps.map (·.1) == List.range' 0 ps.length
def XB(ps:List AV)(ag:Bool)(sz:Nat):Bool:=ps.all fun p=>p.width == sz&&p.isAgg == ag&& !p.cD
def eZ(P:Program)(t:TypeId):Option (List AV):=
 match P.underlying t with
 | some (.slice e)=>zI P e
 | _=>none
theorem aSK{α β:Type}:∀(l:List (α×β)),(l.map (·.1)).zip (l.map (·.2))=l
 | []=>rfl
 | x::l=>by simp [aSK l]
def C9(P:Program)(φ:AF)(t:TypeId)(len:Nat)(parts:Array (Nat×Operand)):Option AV:=
 match eI P t with
 | some (ag,sz)=>
  if O9 (r7 φ parts)=true∧XB ((r7 φ parts).map (·.2)) ag sz=true∧len=parts.size∧len*sz≤16777216∧len≤16777216∧(eZ P t).isSome=true then some (.fslice ((r7 φ parts).map (·.2))) else none
 | none=>none
theorem aU4{P:Program}{st:aB}{w:World}{a:Act}{φ:AF}{t:TypeId}{len:Nat}{parts:Array (Nat×Operand)}{r:AV}{o:Oper}(ho:o.op=.buildSlice t len parts)(F:eL w.heap st a.tmps φ)(S:cS w.heap st)
 (e:C9 P φ t len parts=some r):jP st w r ((execOp a.eval o).run P w):=by
 unfold C9 at e
 split at e
 case h_2=>cases e
 rename_i ag sz hI
 split at e
 case isFalse=>cases e
 rename_i hc
 cases e
 obtain⟨hs,hf,hlen,bEP,bEQ,hZ⟩:=hc
 obtain⟨e',hu,hT⟩:=sP hI
 obtain⟨_,r2,_⟩:=tI_run hT w
 obtain⟨z,hz1⟩:∃z,(zeroValue e').run P w=.ok z w:=by
  obtain⟨zs,hzs⟩:=Option.isSome_iff_exists.1 hZ
  simp only[eZ,hu] at hzs
  obtain⟨z,h1,_⟩:=zI_run hzs w.heap st w
  exact⟨z,h1⟩
 generalize hps:r7 φ parts=ps at *
 have cM:ps.length=len:=by rw[←hps,hlen];simp [r7]
 have aMX:=tO.parts F parts.toList
 rw[show(parts.toList.map fun p=>(p.1,φ.eval p.2))=ps from hps] at aMX
 have M1:((parts.map fun(i,x)=>(i,a.eval x)).toList:List (Nat×Value))=parts.toList.map fun p=>(p.1,a.eval p.2):=by simp
 have dV:∀p∈ps.map (·.2),p.width=sz∧p.cD=false∧p.isAgg=ag:=by
  intro p hp
  have:=dW.1 hf p hp
  simp at this
  exact⟨this.1.1,this.2,this.1.2⟩
 have a56:(List.range' 0 (ps.map (·.2)).length).zip (ps.map (·.2))=ps:=by
  have:ps.map (·.1)=List.range' 0 ps.length:=by simpa [O9] using hs
  rw[aF,←this]
  exact aSK ps
 -- whatever the row holds at first
 have step:∀(cs:Array Value),cs.size=len*sz→∃cs',Instr.fill (fun i=>some (i*sz,sz)) cs (parts.toList.map fun p=>(p.1,a.eval p.2))=some cs'∧a8 w.heap st ((ps.map (·.2)).flatMap AV.cells) cs'.toList:=by
  intro cs hcs
  have h0:a8 w.heap st (List.replicate ((ps.map (·.2)).length*sz) .junk) cs.toList:=by
   have:=a8.junk w.heap st cs.toList
   rwa [show cs.toList.length=(ps.map (·.2)).length*sz by simp [hcs,cM]] at this
  have h1:=YA (n:=sz) (ps.map (·.2)) 0 [] (by simp) (fun p hp=>⟨(dV p hp).1,(dV p hp).2.1⟩)
  rw[fB,fB,a56] at h1
  exact R6 (place:=fun i=>some (i*sz,sz)) aMX h0 h1
 have fin:∀cs':Array Value,a8 w.heap st ((ps.map (·.2)).flatMap AV.cells) cs'.toList →
  aQ (w.heap.push (.cells cs' e')) st (.fslice (ps.map (·.2))) (.slice (some ⟨w.heap.size,0,none⟩) len len):=by
  intro cs' hv
  have S':=(Ext.push w.heap (.cells cs' e')).step st
  refine⟨rfl,.inr ⟨w.heap.size,0,by simp [Value.cells,cM],by simp only[aF,cM];unfold maxLen;omega,?_,by simp,⟨sz,fun p hp=>(dV p hp).1⟩,?_⟩⟩
  · cases hst:st w.heap.size with
    | none=>rfl
    | some o=>exact absurd (S _ _ hst).1 (Nat.lt_irrefl _)
  · exact KU (fun p hp=>(dV p hp).2.1) (HS w.heap cs' e' (0,0) cs'.toList 0 rfl) (a8.mono S' _ _ hv)
 by_cases h0:len*sz=0
 · obtain⟨cs',f1,f2⟩:=step ((Array.range (len*sz)).map fun x=>(#[]:Array Value)[x % (#[]:Array Value).size]!) (by simp)
   refine⟨.slice (some ⟨w.heap.size,0,none⟩) len len,w.alloc (.cells cs' e'),?_,fin cs' f2,Ext.push _ _,⟨rfl,rfl,rfl⟩⟩
   simp only[execOp,ho,Instr.buildSlice,Sem.run_bind,eG hu,Result.andThen_ok,r2]
   rw[aE (by omega),aG h0]
   simp only[Sem.run_bind,Sem.run_pure,Result.andThen_ok,M1]
   rw[f1]
   simp [newRow]
 · obtain⟨cs',f1,f2⟩:=step ((Array.range (len*sz)).map fun x=>z.cells[x % z.cells.size]!) (by simp)
   refine⟨.slice (some ⟨w.heap.size,0,none⟩) len len,w.alloc (.cells cs' e'),?_,fin cs' f2,Ext.push _ _,⟨rfl,rfl,rfl⟩⟩
   simp only[execOp,ho,Instr.buildSlice,Sem.run_bind,eG hu,Result.andThen_ok,r2]
   rw[aE (by omega),aE h0]
   simp only[Sem.run_bind,hz1,Result.andThen_ok,Sem.run_pure,M1]
   rw[f1]
   simp [newRow]
def L9(P:Program)(t:TypeId):Bool:=match P.underlying t with
 | some (.struct fs)=>match fs.toList with
  | [f,g]=>f.name != "_" && g.name != "_" && f.offset == 0&&g.offset == 1&&(match P.underlying f.type with | some .string=>true | _=>false)&&(match P.underlying g.type with | some (.int _)=>true | _=>false)
   && (tI P f.type == some (false,1))&&(tI P g.type == some (false,1))&& !P.stoodInHeld t&& !P.eqGuardType P.depth t
  | _=>false
 | _=>false
theorem NM{P:Program}{t:TypeId}(h:tI P t=some (false,1))(cs:Array Value)(off:Nat)(v:Value)(hv:cs[off]?=some v)(w:World):(part t cs off).run P w=.ok v w:=by
 obtain⟨r1,r2,_⟩:=tI_run h w
 simp only[part,Sem.run_bind,r1,Result.andThen_ok,fX,dT,hv,Sem.run_pure]
theorem a0B{P:Program}{t:TypeId}(h:L9 P t=true)(a b:ByteArray)(k:IntKind)(n m:Int)(w:World) :
 (Op.equalIn 10000 t (.agg #[.string a,.int k n]) (.agg #[.string b,.int k m])).run P w=.ok (decide (a=b)&&decide (n=m)) w ∧
 ∀op x y,(eqGuard op t x y (.agg #[.string a,.int k n]) (.agg #[.string b,.int k m])).run P w=.ok () w:=by
 unfold L9 at h
 split at h
 case h_2=>cases h
 rename_i fs hu
 split at h
 case h_2=>cases h
 rename_i f g hfs
 simp only[bV,beq_iff_eq,bne_iff_ne,lJ] at h
 obtain⟨⟨⟨⟨⟨⟨⟨⟨⟨n1,n2⟩,o1⟩,o2⟩,u1⟩,u2⟩,t1⟩,t2⟩,hs⟩,hg⟩:=h
 have hf:P.fieldsOf t=fs:=by unfold Program.fieldsOf;rw[hu]
 refine⟨?_,fun op x y=>run_eqGuard_agg w op t x y _ _ hg⟩
 have hu1:P.underlying f.type=some .string:=by
  split at u1
  · assumption
  · cases u1
 obtain⟨k',hu2⟩:∃k',P.underlying g.type=some (.int k'):=by
  split at u2
  · exact⟨_,by assumption⟩
  · cases u2
 suffices key:∀d,(Op.equalIn (d+1+1) t (.agg #[.string a,.int k n]) (.agg #[.string b,.int k m])).run P w=.ok (decide (a=b)&&decide (n=m)) w from key 9998
 intro d
 rw[run_equalIn_struct w (d+1) t _ _ (by rw[hf];exact hu) hs,hf,hfs]
 have p1:=NM (P:=P) t1 #[.string a,.int k n] 0 (.string a) rfl
 have p2:=NM (P:=P) t1 #[.string b,.int k m] 0 (.string b) rfl
 have p3:=NM (P:=P) t2 #[.string a,.int k n] 1 (.int k n) rfl
 have p4:=NM (P:=P) t2 #[.string b,.int k m] 1 (.int k m) rfl
 have q1:=run_equalIn_string (P:=P) w d f.type a b hu1
 have q2:=run_equalIn_int (P:=P) w d g.type k k' n m hu2
 have hab:(a.toList == b.toList)=decide (a=b):=by
  by_cases h:a=b
  · subst h;simp
  · have h2:a.toList≠b.toList:=fun e=>h (by
     rw[ByteArray.toList_eq,ByteArray.toList_eq] at e
     exact DE (Array.ext' e))
    simp [h,h2]
 rw[hab] at q1
 have hnm:(n == m)=decide (n=m):=by by_cases h:n=m<;>simp [h]
 rw[hnm] at q2
 simp only[Op.eqFields,n1,n2,o1,o2,ne_eq,I3,eX,Sem.run_bind,p1,p2,p3,p4,q1,q2,Result.andThen_ok,Sem.run_ite,Sem.run_pure]
 generalize decide (a=b)=x
 generalize decide (n=m)=y
 cases x<;>cases y<;>rfl
theorem aQ.UC{h:bJ}{st:aB}{a:AV}{v:Value}(x:a.isAgg=j8 v∧VC h st a v.cells.toList):aQ h st a v:=by
 cases a<;>first | trivial | exact x
theorem dP.get{h:bJ}{st:aB}:∀ {as:List AV} {vs:List Value} (n:Nat) {a:AV},dP h st as vs→as[n]?=some a→∃v,vs[n]?=some v∧aQ h st a v
 | [],_,n,a,_,e=>by simp at e
 | a'::as,vs,0,a,x,e=>by
  simp only[dP] at x
  obtain⟨c,r,rfl,x1,x2⟩:=x
  simp at e;subst e
  exact⟨c,rfl,aQ.UC x1⟩
 | a'::as,vs,n+1,a,x,e=>by
  simp only[dP] at x
  obtain⟨c,r,rfl,x1,x2⟩:=x
  simpa using dP.get n x2 (by simpa using e)
theorem aQ.pair{h:bJ}{st:aB}{a:AV}{v:Value}(x:aQ h st a v)(hj:a.cD=false):a.isAgg=j8 v∧VC h st a v.cells.toList:=by
 cases a<;>first | exact x | (simp [AV.cD] at hj)
def lI(as:List AV):Bool:=as.all fun a=> !a.cD
theorem dP.mk{h:bJ}{st:aB}{a:Act}{φ:AF}(F:eL h st a.tmps φ):∀(l:List Operand),lI (l.map φ.eval)=true→dP h st (l.map φ.eval) (l.map a.eval)
 | [],_=>by simp [dP]
 | o::l,hj=>by
  simp [lI] at hj
  simp only[bA,dP]
  exact⟨_,_,rfl,(aQ.eval F o).pair hj.1,dP.mk F l (by simp [lI];exact hj.2)⟩
def yH(P:Program)(t:TypeId)(x:AV):Option AV:=
 match tI P t with
 | some (_,_)=>if x.cD then none else some (.pptr x)
 | none=>none
def lP(P:Program)(t:TypeId):AV→Option AV
 | .str s=>match P.underlying t with | some .string=>some (.int .i64 s.size) | _=>none
 | .slice es | .fslice es=>match P.underlying t with | some (.slice _)=>some (.int .i64 es.length) | _=>none
 | .mslice _ _ len _=>match P.underlying t with | some (.slice _)=>some (.int .i64 len) | _=>none
 | .eslice=>match P.underlying t with | some (.slice _)=>some (.int .i64 ((0:Nat):Int)) | _=>none
 | _=>none
def bytesOf:List AV→Option (List UInt8)
 | []=>some []
 | .int .u8 n::r=>(bytesOf r).map (UInt8.ofNat n.toNat:: ·)
 | _=>none
def tQ(P:Program)(src dst:TypeId):AV→Option AV
 | .int _ n=>match P.underlying src,P.underlying dst with
  | some _,some (.int k)=>some (.int k (k.wrap n))
  | _,_=>none
 | .slice es | .fslice es=>match P.underlying src,P.underlying dst with
  | some (.slice e),some .string=>match P.underlying e with
   | some (.int .u8)=>match bytesOf es with
    | some bs=>some (.str ⟨bs.toArray⟩)
    | none=>none
   | _=>none
  | _,_=>none
 | _=>none
def UB:Value→AV
 | .agg cs=>.agg (cs.toList.map ofConst)
 | v=>ofConst v
def zV(P:Program)(t:TypeId):Option AV:=
 match P.info? t with
 | some i=>i.zero.map UB
 | none=>none
theorem aQ.aZN(h:bJ)(st:aB)(v:Value):aQ h st (UB v) v:=by
 unfold UB
 split
 · rename_i cs
   exact⟨rfl,by simpa [Value.cells,VC] using a8.consts h st cs.toList⟩
 · exact aQ.const h st v
theorem bC1{P:Program}{t:TypeId}{z:AV}(e:zV P t=some z)(h:bJ)(st:aB)(w:World):∃v,(zeroValue t).run P w=.ok v w∧aQ h st z v:=by
 unfold zV at e
 split at e
 · rename_i i hi
   cases hz:i.zero with
   | none=>rw[hz] at e;cases e
   | some v=>rw[hz] at e;cases e;exact⟨v,by simp [zeroValue,typeInfo,hi,hz],aQ.aZN h st v⟩
 · cases e
def pU(P:Program)(st:aB)(t:TypeId)(ok:Bool):AV→AV→Option AV
 | .map b,.int .i64 n=>match st b,P.underlying t with
  | some (.map f),some (.map k e)=>match P.underlying k,f n with
   | some (.int .i64),some v=>if v.cD then none else some (if ok then .tup [v,.bool true] else v)
   | some (.int .i64),none=>match zV P e with
    | some z=>if z.cD then none else some (if ok then .tup [z,.bool false] else z)
    | none=>none
   | _,_=>none
  | _,_=>none
 | _,_=>none
section
variable {P:Program} {st:aB} {w:World} {a:Act} {φ:AF}
theorem Y8{t:TypeId}{x:Operand}{r:AV}{o:Oper}(ho:o.op=.box t x)(F:eL w.heap st a.tmps φ)(S:cS w.heap st)(e:yH P t (φ.eval x)=some r):jP st w r ((execOp a.eval o).run P w):=by
 have y:=aQ.eval F x
 unfold yH at e
 split at e
 case h_2=>cases e
 split at e
 · cases e
 rename_i hj
 cases e
 have hj':(φ.eval x).cD=false:=by simpa using hj
 have yp:=y.pair hj'
 refine⟨.pointer (some ⟨w.heap.size,0,none⟩),w.alloc (.cells (a.eval x).cells t),by simp [execOp,ho,Instr.box,newVar,newRow],?_,Ext.push _ _,⟨rfl,rfl,rfl⟩⟩
 have S':=(Ext.push w.heap (.cells (a.eval x).cells t)).step st
 refine⟨rfl,w.heap.size,0,rfl,?_,by simp,(a.eval x).cells.toList,HS w.heap _ t (0,0) _ 0 rfl,?_,VC.mono S' _ _ yp.2⟩
 · cases hst:st w.heap.size with
   | none=>rfl
   | some o=>exact absurd (S _ _ hst).1 (Nat.lt_irrefl _)
 · have:=(y.cells (by intro h;rw[h] at hj';simp [AV.cD] at hj')).length
   rw[this]
   generalize φ.eval x=z
   cases z<;>rfl
theorem a61{t:TypeId}{x:Operand}{r:AV}{o:Oper}(ho:o.op=.call { callee:=.builtin .len,args:=#[x],argTypes:=#[t] })(F:eL w.heap st a.tmps φ)(e:lP P t (φ.eval x)=some r):jP st w r ((execOp a.eval o).run P w):=by
 have y:=aQ.eval F x
 have run:∀ {n:Nat},(Builtin.len_ #[t] o.type #[a.eval x]).run P w=.ok (.int .i64 n) w→jP st w (.int .i64 n) ((execOp a.eval o).run P w):=by
  intro n h
  refine .same (v:=.int .i64 n) ?_ aQ.rM
  simp only[execOp,ho,resolve,Sem.run_bind,Sem.run_pure,Result.andThen_ok,invoke,builtin]
  simp [h]
 unfold lP at e
 split at e
 · rename_i s hx
   rw[hx] at y
   split at e
   · rename_i hu
     cases e
     exact run (by simp [Builtin.len_,eG hu,y.CS.1,goInt])
   · cases e
 · rename_i es hx
   rw[hx] at y
   split at e
   · rename_i hu
     cases e
     rcases y.FU with ⟨⟨p0,hv⟩,rfl⟩ | ⟨b,off,cap,hv,_⟩
     · exact run (by simp [Builtin.len_,eG hu,hv,goInt])
     · exact run (by simp [Builtin.len_,eG hu,hv,goInt])
   · cases e
 · rename_i es hx
   rw[hx] at y
   split at e
   · rename_i hu
     cases e
     rcases y.BW with ⟨⟨p0,hv⟩,rfl⟩ | ⟨b,off,hv,_⟩
     · exact run (by simp [Builtin.len_,eG hu,hv,goInt])
     · exact run (by simp [Builtin.len_,eG hu,hv,goInt])
   · cases e
 · rename_i b off len n hx
   rw[hx] at y
   split at e
   · rename_i hu
     cases e
     obtain⟨cap,hv,_⟩:=y.E8
     exact run (by simp [Builtin.len_,eG hu,hv,goInt])
   · cases e
 · rename_i hx
   rw[hx] at y
   split at e
   · rename_i hu
     cases e
     obtain⟨p,c,hv⟩:=y.RY
     exact run (by simp [Builtin.len_,eG hu,hv,goInt])
   · cases e
 · cases e
theorem a0V{x:Operand}{i:Nat}{r:AV}{vs:List AV}{o:Oper}(ho:o.op=.extract x i)(F:eL w.heap st a.tmps φ)(hx:φ.eval x=.tup vs)(e:vs[i]?=some r):jP st w r ((execOp a.eval o).run P w):=by
 have y:=aQ.eval F x
 rw[hx] at y
 obtain⟨us,hv,hus⟩:=y.bB3
 obtain⟨v,hv',rv⟩:=hus.get i e
 exact .same (v:=v) (by simp [execOp,ho,Instr.extract,hv,hv']) rv
theorem a7G{g:FuncId}{dD:Array Operand}{o:Oper}(ho:o.op=.makeFunc (.func g) #[] dD)(F:eL w.heap st a.tmps φ)(hj:lI (dD.toList.map φ.eval)=true) :
 jP st w (.func g (dD.toList.map φ.eval)) ((execOp a.eval o).run P w):=by
 refine .same (v:=.func (.func g) #[] (dD.map a.eval)) (by simp [execOp,ho,Instr.makeFunc]) ⟨rfl,dD.toList.map a.eval,?_,dP.mk F dD.toList hj⟩
 have:dD.map a.eval=(dD.toList.map a.eval).toArray:=by apply Array.ext';simp
 simp [Value.cells,this]
theorem Y9{h:bJ}{b:Nat}:∀ {es:List AV} {bs:List UInt8} {off:Nat},bytesOf es=some bs→dA h st b off es →
 ∃vs,eP h b off vs∧vs.length=es.length∧∃ns:List Int,vs=ns.map (Value.int .u8)∧bs=ns.map fun n=>UInt8.ofNat n.toNat
 | [],bs,off,e,_=>by simp only[bytesOf] at e;cases e;exact⟨[],trivial,rfl,[],rfl,rfl⟩
 | x::es,bs,off,e,y=>by
  unfold bytesOf at e
  split at e
  · rename_i h;cases h
  · rename_i n r h
    cases h
    cases hb:bytesOf es with
    | none=>rw[hb] at e;cases e
    | some bs'=>
     rw[hb] at e;cases e
     simp only[dA] at y
     obtain⟨⟨cs,c1,c2,c3⟩,y2⟩:=y
     simp only[VC] at c3
     subst c3
     obtain⟨vs,v1,v2,ns,n1,n2⟩:=Y9 hb y2
     exact⟨.int .u8 n::vs,⟨c1.1,v1⟩,by simp [v2],n::ns,by simp [n1],by simp [n2]⟩
  · cases e
theorem aSX(es:List AV)(bs:List UInt8)(e:bytesOf es=some bs):bs.length=es.length:=by
 induction es generalizing bs with
 | nil=>simp only[bytesOf] at e;cases e;rfl
 | cons x es ih=>
  unfold bytesOf at e
  split at e
  · rename_i h;cases h
  · rename_i n r h
    cases h
    cases hb:bytesOf es with
    | none=>rw[hb] at e;cases e
    | some bs'=>rw[hb] at e;cases e;simp [ih _ hb]
  · cases e
theorem aZO{src dst:TypeId}{x:Operand}{r:AV}{o:Oper}(ho:o.op=.convert src dst x)(F:eL w.heap st a.tmps φ)(e:tQ P src dst (φ.eval x)=some r):jP st w r ((execOp a.eval o).run P w):=by
 have y:=aQ.eval F x
 have bytes:∀ {es:List AV},aQ w.heap st (.slice es) (a.eval x)→(match P.underlying src,P.underlying dst with
  | some (.slice e),some .string=>match P.underlying e with
   | some (.int .u8)=>match bytesOf es with
    | some bs=>some (AV.str ⟨bs.toArray⟩)
    | none=>none
   | _=>none
  | _,_=>none)=some r→jP st w r ((execOp a.eval o).run P w):=by
  intro es y e
  split at e
  case h_2=>cases e
  rename_i el hs hd
  split at e
  case h_2=>cases e
  rename_i he
  split at e
  case h_2=>cases e
  rename_i bs hb
  cases e
  have hlen:=aSX es bs hb
  rcases y.FU with ⟨⟨p0,hv⟩,rfl⟩ | ⟨b,off,cap,hv,l1,l2,e2,e3,ev,e4⟩
  · simp only[bytesOf] at hb;cases hb
    refine .same (v:=.string ByteArray.empty) ?_ ⟨rfl,rfl,iU _⟩
    simp only[execOp,ho,convert,Sem.run_bind,eG hs,eG hd,Result.andThen_ok,hv,eG he]
    cases p0 with
    | none=>rfl
    | some a0=>
     have hk:=Go.run_bytesToString (P:=P) w a0 0 0 [] (by simp [loadCells,loadCellsFrom])
     rw[hk]
     try rfl
  · obtain⟨vs,v1,v2,ns,n1,n2⟩:=Y9 hb e4
    subst n1
    have hl:=aPB (P:=P) v1
    rw[aF] at hl
    have hns:ns.length=es.length:=by simpa using v2
    refine .same (v:=.string ⟨bs.toArray⟩) ?_ ⟨rfl,rfl,by simp [ByteArray.size,hlen];unfold maxLen at *;omega⟩
    simp only[execOp,ho,convert,Sem.run_bind,eG hs,eG hd,Result.andThen_ok,hv,eG he]
    have hk:=Go.run_bytesToString (P:=P) w ⟨b,off,none⟩ es.length cap ns (by rw[←hns];exact hl)
    rw[hk]
    simp only[Result.andThen_ok,Sem.run_pure]
    rw[foldl_push_bytes ns ByteArray.empty,n2]
    simp [ByteArray.empty,ByteArray.emptyWithCapacity]
    rfl
 unfold tQ at e
 split at e
 · rename_i k n hx
   rw[hx] at y
   split at e
   · rename_i d k' hs hd
     cases e
     refine .same (v:=.int k' (k'.wrap n)) ?_ aQ.rM
     simp only[execOp,ho,convert,Sem.run_bind,eG hs,eG hd,Result.andThen_ok,y.kM]
     cases d<;>simp [Conv.intToInt]
   · cases e
 · rename_i es hx
   rw[hx] at y
   exact bytes y e
 · rename_i es hx
   rw[hx] at y
   exact bytes y.H6 e
 · cases e
theorem H2(n:Int):∀(es:List MapEntry) (i:Nat),(∀e∈es,∃m,e.key=.int .i64 m) →
 (∃j e,es[j]?=some e∧e.key=.int .i64 n∧Instr.findNow (.int .i64) (.int .i64 n) es i=some (some (i+j,e.val))) ∨
 ((∀e∈es,e.key≠.int .i64 n)∧Instr.findNow (.int .i64) (.int .i64 n) es i=some none)
 | [],i,_=>.inr ⟨by simp,rfl⟩
 | e::es,i,h=>by
  obtain⟨m,hm⟩:=h e (by simp)
  by_cases hmn:m=n
  · subst hmn
    exact .inl ⟨0,e,rfl,hm,by simp [Instr.findNow,Instr.sameNow,hm]⟩
  · have hne:(n == m)=false:=by simpa using fun q=>hmn q.symm
    have step:Instr.findNow (.int .i64) (.int .i64 n) (e::es) i=Instr.findNow (.int .i64) (.int .i64 n) es (i+1):=by
     simp [Instr.findNow,Instr.sameNow,hm,hne]
    rw[step]
    rcases H2 n es (i+1) (fun e he=>h e (by simp [he])) with ⟨j,e',h1,h2,h3⟩ | ⟨h1,h2⟩
    · exact .inl ⟨j+1,e',by simpa using h1,h2,by rw[h3];congr 3;omega⟩
    · refine .inr ⟨fun e' he'=>?_,h2⟩
      rcases cY.1 he' with rfl | he'
      · rw[hm];simpa using hmn
      · exact h1 e' he'
theorem aY8{kt:TypeId}(hk:P.underlying kt=some (.int .i64))(b:Bool)(n:Int)(m:Nat):(Instr.checkKey b (m+1) kt (.int .i64 n)).run P w=.ok () w:=by
 simp only[Instr.checkKey,Sem.run_bind,eG hk,Result.andThen_ok]
 rfl
theorem D8{kt:TypeId}(hk:P.underlying kt=some (.int .i64))(b:Bool)(n:Int):(Instr.checkKey b 10000 kt (.int .i64 n)).run P w=.ok () w:=aY8 hk b n 9999
theorem EG{b:Nat}{es:Array MapEntry}{cl:Nat}(h:w.heap[b]?=some (.map es cl)):(getObj b).run P w=.ok (.map es cl) w:=by
 simp only[getObj,Sem.run,h]
theorem a7E{t:TypeId}{x i:Operand}{ok:Bool}{r:AV}{o:Oper}(ho:o.op=.lookup t x i ok)(F:eL w.heap st a.tmps φ)(S:cS w.heap st)(e:pU P st t ok (φ.eval x) (φ.eval i)=some r):jP st w r ((execOp a.eval o).run P w):=by
 have y:=aQ.eval F x
 have yi:=aQ.eval F i
 unfold pU at e
 split at e
 case h_2=>cases e
 rename_i b n hx hi
 rw[hx] at y
 rw[hi] at yi
 split at e
 case h_2=>cases e
 rename_i f k el hs hu
 obtain⟨_,es,cl,hb,hk1,hk2,hk3⟩:=S b _ hs
 have hn:=hk3 n
 have fin:∀ {v:Value} {z:AV} {q:Bool},z.cD=false→aQ w.heap st z v→(execOp a.eval o).run P w=.ok (.value (if ok then .tuple #[v,.bool q] else v)) w→jP st w (if ok then .tup [z,.bool q] else z) ((execOp a.eval o).run P w):=by
  intro v z q hz hv hr
  refine .same hr ?_
  cases ok with
  | true=>exact⟨rfl,[v,.bool q],by simp [Value.cells],by simp only[dP];exact⟨v,_,rfl,hv.pair hz,_,_,rfl,⟨rfl,by simp [VC,Value.cells]⟩,rfl⟩⟩
  | false=>exact hv
 split at e
 · rename_i v hk hf
   rw[hf] at hn
   obtain⟨en,hen,aML,hv⟩:=hn
   split at e
   · cases e
   rename_i hvj
   cases e
   have a5Y:v.cD=false:=by simpa using hvj
   rcases H2 n es.toList 0 hk1 with ⟨j,e',h1,h2,h3⟩ | ⟨h1,_⟩
   · have hee:e'=en:=by
      obtain⟨j',hj'⟩:=A9 hen
      have hjj:j=j':=by
       have a1:(es.toList.map (·.key))[j]?=some (.int .i64 n):=by simp [h1,h2]
       have a2:(es.toList.map (·.key))[j']?=some (.int .i64 n):=by simp [hj',aML]
       exact(List.getElem?_inj (by have:=(fA.1 a1).1;simpa using this) hk2).1 (a1.trans a2.symm)
      subst hjj
      rw[h1] at hj';exact mD hj'
     subst hee
     refine fin a5Y hv ?_
     simp only[execOp,ho,Instr.lookup,Sem.run_bind,eG hu,Result.andThen_ok,y.E6,yi.kM,EG hb,Sem.run_pure,D8 hk,Instr.findKey,eG hk,h3]
   · exact absurd aML (h1 en hen)
 · rename_i hk hf
   rw[hf] at hn
   rcases H2 n es.toList 0 hk1 with ⟨j,e',h1,h2,h3⟩ | ⟨_,h3⟩
   · exact absurd h2 (hn e' (cH h1))
   · split at e
     case h_2=>cases e
     rename_i z hz
     split at e
     · cases e
     rename_i hzj
     cases e
     obtain⟨v,z1,z2⟩:=bC1 hz w.heap st w
     refine fin (by simpa using hzj) z2 ?_
     simp only[execOp,ho,Instr.lookup,Sem.run_bind,eG hu,Result.andThen_ok,y.E6,yi.kM,EG hb,Sem.run_pure,D8 hk,Instr.findKey,eG hk,h3,z1]
 · cases e
end
def d6(P:Program)(op:BinOp)(t:TypeId)(x y:AV):Option AV:=
 match x,y with
 | .bool a,.bool b=>match P.underlying t,op with
  | some .bool,.eql=>some (.bool (a == b))
  | some .bool,.neq=>some (.bool (!(a == b)))
  | _,_=>none
 | .agg [.str a,.int k n],.agg [.str b,.int k' m]=>if k=k'∧L9 P t=true then match op with
  | .eql=>some (.bool (decide (a=b)&&decide (n=m)))
  | .neq=>some (.bool (!(decide (a=b)&&decide (n=m))))
  | _=>none
  else none
 | .pptr _,.nilptr=>match P.underlying t,op with
  | some (.pointer _),.eql=>some (.bool false)
  | some (.pointer _),.neq=>some (.bool true)
  | _,_=>none
 | .nilptr,.nilptr=>match P.underlying t,op with
  | some (.pointer _),.eql=>some (.bool true)
  | some (.pointer _),.neq=>some (.bool false)
  | _,_=>none
 | x,y=>k0 op x y
theorem aS5{P:Program}{h:bJ}{st:aB}{w:World}{op:BinOp}{t:TypeId}{p q r:AV}{u v:Value}(e:d6 P op t p q=some r)(hp:aQ h st p u)(hq:aQ h st q v) :
 ∃z,(binOp op t u v).run P w=.ok z w∧aQ h st r z∧∀x y,(eqGuard op t x y u v).run P w=.ok () w:=by
 unfold d6 at e
 split at e
 · rename_i a b
   rw[hp.BN,hq.BN]
   have hg:∀x y,(eqGuard op t x y (.bool a) (.bool b)).run P w=.ok () w:=fun x y=>by rw[eqGuard_at_bool];try rfl
   split at e
   · rename_i hu;cases e;exact⟨_,run_eql_bool w t a b hu,aQ.lR,hg⟩
   · rename_i hu;cases e;exact⟨_,run_neq_bool w t a b hu,aQ.lR,hg⟩
   · cases e
 · rename_i a k n b k' m
   split at e
   case isFalse=>cases e
   rename_i hk
   obtain⟨rfl,hk⟩:=hk
   obtain⟨vs,rfl,h1⟩:=hp.HG
   obtain⟨us,rfl,h2⟩:=hq.HG
   simp only[a8,VC] at h1 h2
   obtain⟨v1,r1,rfl,h3,v2,r2,rfl,h4,rfl⟩:=h1
   obtain⟨u1,s1,rfl,h5,u2,s2,rfl,h6,rfl⟩:=h2
   obtain rfl:v1=.string a:=by simpa using h3.1
   obtain rfl:u1=.string b:=by simpa using h5.1
   obtain rfl:v2=.int k n:=by simpa using h4
   obtain rfl:u2=.int k m:=by simpa using h6
   obtain⟨q1,q2⟩:=a0B (P:=P) hk a b k n m w
   split at e
   · cases e
     exact⟨_,by rw[run_eql_struct,q1];try rfl,aQ.lR,fun x y=>q2 _ x y⟩
   · cases e
     exact⟨_,by rw[run_neq_struct,q1];try rfl,aQ.lR,fun x y=>q2 _ x y⟩
   · cases e
 · obtain⟨b,off,rfl,_⟩:=hp.NN
   obtain rfl:=hq.TZ
   split at e
   · rename_i pe hu
     cases e
     exact⟨_,run_eql_pointer_nil w t _ (by unfold Program.pointee;rw[hu]),aQ.lR,fun x y=>by rw[eqGuard_at_pointer];try rfl⟩
   · rename_i pe hu
     cases e
     exact⟨_,run_neq_pointer_nil w t _ (by unfold Program.pointee;rw[hu]),aQ.lR,fun x y=>by rw[eqGuard_at_pointer];try rfl⟩
   · cases e
 · obtain rfl:=hp.TZ
   obtain rfl:=hq.TZ
   split at e
   · rename_i pe hu
     cases e
     exact⟨_,run_eql_pointer_nil w t _ (by unfold Program.pointee;rw[hu]),aQ.lR,fun x y=>by rw[eqGuard_at_pointer];try rfl⟩
   · rename_i pe hu
     cases e
     exact⟨_,run_neq_pointer_nil w t _ (by unfold Program.pointee;rw[hu]),aQ.lR,fun x y=>by rw[eqGuard_at_pointer];try rfl⟩
   · cases e
 · exact aS6 e hp hq
def yY:AV→AV→Option AV
 | .int k x,.int k' y=>if k=k' then some (.int k (if x<y then y else x)) else none
 | _,_=>none
theorem a7N{P:Program}{st:aB}{w:World}{a:Act}{φ:AF}{ts:Array TypeId}{x y:Operand}{r:AV}{o:Oper}(ho:o.op=.call { callee:=.builtin .max,args:=#[x,y],argTypes:=ts })(F:eL w.heap st a.tmps φ)(e:yY (φ.eval x) (φ.eval y)=some r):jP st w r ((execOp a.eval o).run P w):=by
 have y1:=aQ.eval F x
 have y2:=aQ.eval F y
 unfold yY at e
 split at e
 case h_2=>cases e
 rename_i k n k' m h1 h2
 split at e
 case isFalse=>cases e
 rename_i hk
 subst hk
 cases e
 rw[h1] at y1
 rw[h2] at y2
 refine .same (v:=.int k (if n<m then m else n)) ?_ aQ.rM
 simp only[execOp,ho,resolve,Sem.run_bind,Sem.run_pure,Result.andThen_ok,invoke,builtin]
 have:=run_max_int2 (P:=P) w ts o.type k k n m
 simp only[gt_iff_lt] at this
 simp [y1.kM,y2.kM,this]
def yZ:AV→AV→Option AV
 | .int k x,.int k' y=>if k=k' then some (.int k (if y<x then y else x)) else none
 | _,_=>none
theorem a7R{P:Program}{st:aB}{w:World}{a:Act}{φ:AF}{ts:Array TypeId}{x y:Operand}{r:AV}{o:Oper}(ho:o.op=.call { callee:=.builtin .min,args:=#[x,y],argTypes:=ts })(F:eL w.heap st a.tmps φ)(e:yZ (φ.eval x) (φ.eval y)=some r):jP st w r ((execOp a.eval o).run P w):=by
 have y1:=aQ.eval F x
 have y2:=aQ.eval F y
 unfold yZ at e
 split at e
 case h_2=>cases e
 rename_i k n k' m h1 h2
 split at e
 case isFalse=>cases e
 rename_i hk
 subst hk
 cases e
 rw[h1] at y1
 rw[h2] at y2
 refine .same (v:=.int k (if m<n then m else n)) ?_ aQ.rM
 simp only[execOp,ho,resolve,Sem.run_bind,Sem.run_pure,Result.andThen_ok,invoke,builtin]
 have:=run_min_int2 (P:=P) w ts o.type k k n m
 simp [y1.kM,y2.kM,this]
def lQ(P:Program)(φ:AF)(st:aB)(o:Oper):Option AV:=
 match o.op with
 | .move x=>some (φ.eval x)
 | .assign x=>some (φ.eval x)
 | .pick c x y=>match φ.eval c with | .bool b=>some (if b then φ.eval x else φ.eval y) | _=>none
 | .binOp op t x y _=>d6 P op t (φ.eval x) (φ.eval y)
 | .unOp op _ x=>HB op (φ.eval x)
 | .nilCheck x=>match φ.eval x with | .ptr b q=>some (.ptr b q) | .pptr e=>some (.pptr e) | _=>none
 | .fieldAddr t x f=>tG P t f (φ.eval x)
 | .load t x=>g9 P st t (φ.eval x)
 | .field t x f=>match fI P t f,φ.eval x with | some (off,ag,sz),.agg cs=>sub ag cs off sz | _,_=>none
 | .indexAddr t x i=>c8 P t (φ.eval x) (φ.eval i)
 | .index t x i=>DT P t (φ.eval x) (φ.eval i)
 | .slice t x lo hi mx=>eV P φ t (φ.eval x) lo hi mx
 | .extract x i=>match φ.eval x with | .tup vs=>vs[i]? | _=>none
 | .makeFunc (.func g) first dD=>if first.size=0∧lI (dD.toList.map φ.eval)=true then some (.func g (dD.toList.map φ.eval)) else none
 | .build t parts=>A0 P φ t parts
 | .buildSlice t len parts=>C9 P φ t len parts
 | .convert src dst x=>tQ P src dst (φ.eval x)
 | .box t x=>yH P t (φ.eval x)
 | .lookup t x i ok=>pU P st t ok (φ.eval x) (φ.eval i)
 | .call { callee:=.builtin .len,args,argTypes }=>match args.toList,argTypes.toList with | [x],[t]=>lP P t (φ.eval x) | _,_=>none
 | .call { callee:=.builtin .max,args,argTypes }=>match args.toList with | [x,y]=>yY (φ.eval x) (φ.eval y) | _=>none
 | .call { callee:=.builtin .min,args,argTypes }=>match args.toList with | [x,y]=>yZ (φ.eval x) (φ.eval y) | _=>none
 | _=>none
theorem aTK{P:Program}{st:aB}{w:World}{a:Act}{φ:AF}{o:Oper}{r:AV}(F:eL w.heap st a.tmps φ)(S:cS w.heap st)(e:lQ P φ st o=some r):jP st w r ((execOp a.eval o).run P w):=by
 unfold lQ at e
 split at e
 case h_1 x ho=>cases e;exact .same (v:=a.eval x) (by simp [execOp,ho]) (aQ.eval F x)
 case h_2 x ho=>cases e;exact .same (v:=a.eval x) (by simp [execOp,ho]) (aQ.eval F x)
 case h_3 c x y ho=>
  split at e
  · rename_i b hc
    cases e
    have yc:=aQ.eval F c
    rw[hc] at yc
    refine .same (v:=if b then a.eval x else a.eval y) (by simp [execOp,ho,yc.BN,asBool]) ?_
    cases b
    · exact aQ.eval F y
    · exact aQ.eval F x
  · cases e
 case h_4 op t x y t' ho=>
  obtain⟨z,z1,z2,z3⟩:=aS5 (P:=P) (w:=w) (t:=t) e (aQ.eval F x) (aQ.eval F y)
  exact .same (v:=z) (by simp [execOp,ho,z1,z3]) z2
 case h_5 op t x ho=>
  have y:=aQ.eval F x
  unfold HB at e
  split at e
  · rename_i b hx
    rw[hx] at y
    cases op<;>simp only[] at e<;>cases e
    exact .same (v:=.bool (!b)) (by simp [execOp,ho,y.BN,Op.unary]) aQ.lR
  · rename_i k n hx
    rw[hx] at y
    cases op<;>simp only[] at e<;>cases e
    exact .same (v:=.int k (k.wrap (0 - n))) (by simp [execOp,ho,y.kM,Op.unary,Op.intArith]) aQ.rM
  · cases e
 case h_6 x ho=>
  have y:=aQ.eval F x
  split at e
  · rename_i b q hx
    rw[hx] at y
    cases e
    exact .same (v:=.pointer (some ⟨b,q,none⟩)) (by simp [execOp,ho,y.CL]) ⟨rfl,rfl⟩
  · rename_i e' hx
    rw[hx] at y
    cases e
    obtain⟨b,q,hv,_⟩:=y.NN
    exact .same (v:=.pointer (some ⟨b,q,none⟩)) (by simp [execOp,ho,hv]) (by rw[←hv];exact y)
  · cases e
 case h_7 t x f ho=>exact a2Y ho F e
 case h_8 t x ho=>exact a69 ho F S e
 case h_9 t x f ho=>
  split at e
  · rename_i off ag sz cs hI hx;exact a2Z ho F hI hx e
  · cases e
 case h_10 t x i ho=>exact a6I ho F e
 case h_11 t x i ho=>exact a6J ho F e
 case h_12 t x lo hi mx ho=>exact bAE ho F e
 case h_13 x i ho=>
  split at e
  · rename_i vs hx;exact a0V ho F hx e
  · cases e
 case h_14 g first dD ho=>
  split at e
  · rename_i hc
    cases e
    have:first= #[]:=PC hc.1
    subst this
    exact a7G ho F hc.2
  · cases e
 case h_15 t parts ho=>exact aU5 ho F e
 case h_16 t len parts ho=>exact aU4 ho F S e
 case h_17 src dst x ho=>exact aZO ho F e
 case h_18 t x ho=>exact Y8 ho F S e
 case h_19 t x i ok ho=>exact a7E ho F S e
 case h_20 args ats ho=>
  split at e
  · rename_i x t hx ht
    obtain rfl:args= #[x]:=by rw[←vA (xs:=args),hx]
    obtain rfl:ats= #[t]:=by rw[←vA (xs:=ats),ht]
    exact a61 ho F e
  · cases e
 case h_21 args ats ho=>
  split at e
  · rename_i x y hx
    obtain rfl:args= #[x,y]:=by rw[←vA (xs:=args),hx]
    exact a7N ho F e
  · cases e
 case h_22 args ats ho=>
  split at e
  · rename_i x y hx
    obtain rfl:args= #[x,y]:=by rw[←vA (xs:=args),hx]
    exact a7R ho F e
  · cases e
 case h_23=>cases e
end Go.AW
