/- The abstract values and the relation between them and a heap: no function of the program is mentioned here. -/
import Derived.WalkKit
set_option linter.unusedSimpArgs false
set_option linter.unusedVariables false
set_option maxRecDepth 100000
namespace Go.AW
theorem aE:type_of% @if_neg.{1}:=@if_neg
theorem aF:type_of% @List.length_map.{0,0}:=@List.length_map
theorem aH:type_of% @if_pos.{1}:=@if_pos
theorem aS:type_of% @List.length_cons.{0}:=@List.length_cons
theorem aW:type_of% @List.map_nil.{0,0}:=@List.map_nil
theorem aZ:type_of% @List.length_nil.{0}:=@List.length_nil
theorem bA:type_of% @List.map_cons.{0,0}:=@List.map_cons
theorem bJ:type_of% @decide_eq_true_eq:=@decide_eq_true_eq
theorem bU:type_of% @decide_true:=@decide_true
theorem bZ:type_of% @decide_false:=@decide_false
theorem cA:type_of% @Bool.and_eq_true:=@Bool.and_eq_true
theorem cH:type_of% @eq_false:=@eq_false
theorem cP:type_of% @List.mem_of_getElem?.{0}:=@List.mem_of_getElem?
theorem cS:type_of% @List.mem_map.{0,0}:=@List.mem_map
theorem cX:type_of% @List.mem_cons.{0}:=@List.mem_cons
theorem c7:type_of% @Nat.le_refl:=@Nat.le_refl
theorem dB:type_of% @eq_true:=@eq_true
theorem dD:type_of% @Ne.symm.{1}:=@Ne.symm
theorem dJ:type_of% @decide_eq_false_iff_not:=@decide_eq_false_iff_not
theorem dM:type_of% @List.length_append.{0}:=@List.length_append
theorem dN:type_of% @List.not_mem_nil.{0}:=@List.not_mem_nil
theorem dS:type_of% @List.length_take.{0}:=@List.length_take
theorem dV:type_of% @or_false:=@or_false
theorem dW:type_of% @List.all_eq_true.{0}:=@List.all_eq_true
theorem dY:type_of% @if_false.{1}:=@if_false
theorem eE:type_of% @List.getElem?_eq_getElem.{0}:=@List.getElem?_eq_getElem
theorem eF:type_of% @and_true:=@and_true
theorem eR:type_of% @List.nil_append.{0}:=@List.nil_append
theorem eS:type_of% @List.take_length.{0}:=@List.take_length
theorem eV:type_of% @Bool.true_and:=@Bool.true_and
theorem fF:type_of% @List.mem_append.{0}:=@List.mem_append
theorem fG:type_of% @List.take_add_one.{0}:=@List.take_add_one
theorem fL:type_of% @List.cons_append.{0}:=@List.cons_append
theorem fR:type_of% @beq_self_eq_true.{0}:=@beq_self_eq_true
theorem fS:type_of% @decide_eq_false:=@decide_eq_false
theorem gA:type_of% @if_true.{1}:=@if_true
theorem gK:type_of% @Bool.false_and:=@Bool.false_and
theorem gM:type_of% @decide_eq_true:=@decide_eq_true
theorem gP:type_of% @List.getElem?_eq_some_iff.{0}:=@List.getElem?_eq_some_iff
theorem gV:type_of% @congrArg.{1,1}:=@congrArg
theorem g9:type_of% @List.append_nil.{0}:=@List.append_nil
theorem hH:type_of% @Nat.zero_add:=@Nat.zero_add
theorem iL:type_of% @Bool.false_eq_true:=@Bool.false_eq_true
theorem jD:type_of% @Nat.zero_le:=@Nat.zero_le
theorem kI:type_of% @Bool.not_true:=@Bool.not_true
theorem kJ:type_of% @List.all_cons.{0}:=@List.all_cons
theorem kK:type_of% @List.drop_length.{0}:=@List.drop_length
theorem kQ:type_of% @Bool.not_eq_true':=@Bool.not_eq_true'
theorem kR:type_of% @Int.toNat_natCast:=@Int.toNat_natCast
theorem kS:type_of% @List.take_zero.{0}:=@List.take_zero
theorem lA:type_of% @Nat.le_trans:=@Nat.le_trans
theorem lB:type_of% @Nat.lt_or_ge:=@Nat.lt_or_ge
theorem lN:type_of% @Bool.not_false:=@Bool.not_false
theorem lO:type_of% @List.take_of_length_le.{0}:=@List.take_of_length_le
theorem lP:type_of% @Nat.min_eq_left:=@Nat.min_eq_left
theorem mC:type_of% @List.mem_of_mem_take.{0}:=@List.mem_of_mem_take
theorem mV:type_of% @Int.ofNat_lt:=@Int.ofNat_lt
theorem mW:type_of% @List.getElem?_map.{0,0}:=@List.getElem?_map
theorem mX:type_of% @List.length_drop.{0}:=@List.length_drop
theorem nJ:type_of% @List.append_assoc.{0}:=@List.append_assoc
theorem nK:type_of% @Option.some.inj.{0}:=@Option.some.inj
theorem nZ:type_of% @Array.mem_toList_iff.{0}:=@Array.mem_toList_iff
theorem n0:type_of% @Option.map_some.{0,0}:=@Option.map_some
theorem oV:type_of% @Bool.false_or:=@Bool.false_or
theorem oW:type_of% @List.nodup_nil.{0}:=@List.nodup_nil
theorem pS:type_of% @Bool.or_eq_true:=@Bool.or_eq_true
theorem pT:type_of% @List.eq_nil_of_length_eq_zero.{0}:=@List.eq_nil_of_length_eq_zero
theorem qR:type_of% @Bool.not_eq_false':=@Bool.not_eq_false'
theorem qS:type_of% @List.drop_eq_getElem_cons.{0}:=@List.drop_eq_getElem_cons
theorem qT:type_of% @List.drop_zero.{0}:=@List.drop_zero
theorem qU:type_of% @List.map_congr_left.{0,0}:=@List.map_congr_left
theorem qV:type_of% @Nat.succ_mul:=@Nat.succ_mul
theorem rW:type_of% @List.flatMap_cons.{0,0}:=@List.flatMap_cons
theorem rX:type_of% @List.mem_range:=@List.mem_range
theorem rY:type_of% @List.take_append_drop.{0}:=@List.take_append_drop
theorem rZ:type_of% @Nat.mul_le_mul_right:=@Nat.mul_le_mul_right
theorem tD:type_of% @true_and:=@true_and
theorem tH:type_of% @Array.toArray_toList.{0}:=@Array.toArray_toList
theorem tJ:type_of% @Bool.and_false:=@Bool.and_false
theorem tL:type_of% @Int.eq_ofNat_of_zero_le:=@Int.eq_ofNat_of_zero_le
theorem tM:type_of% @List.map_append.{0,0}:=@List.map_append
theorem tN:type_of% @List.map_map.{0,0,0}:=@List.map_map
theorem tO:type_of% @List.nodup_append.{0}:=@List.nodup_append
theorem tP:type_of% @Nat.lt_of_lt_of_le:=@Nat.lt_of_lt_of_le
theorem uQ:type_of% @Bool.eq_iff_iff:=@Bool.eq_iff_iff
theorem uR:type_of% @Bool.true_or:=@Bool.true_or
theorem uT:type_of% @List.take_succ_cons.{0}:=@List.take_succ_cons
theorem uV:type_of% @Nat.mul_one:=@Nat.mul_one
theorem wY:type_of% @List.getElem?_eq_none.{0}:=@List.getElem?_eq_none
theorem wZ:type_of% @List.take_take.{0}:=@List.take_take
theorem w4:type_of% @Nat.add_mul:=@Nat.add_mul
theorem yR:type_of% @Bool.and_true:=@Bool.and_true
theorem yS:type_of% @Bool.or_true:=@Bool.or_true
theorem yU:type_of% @Classical.byContradiction:=@Classical.byContradiction
theorem yV:type_of% @List.flatMap_append.{0,0}:=@List.flatMap_append
theorem yW:type_of% @List.foldl_cons.{0,0}:=@List.foldl_cons
theorem yX:type_of% @List.getElem?_toArray.{0}:=@List.getElem?_toArray
theorem yY:type_of% @Nat.add_assoc:=@Nat.add_assoc
theorem yZ:type_of% @Nat.mod_lt:=@Nat.mod_lt
theorem zO:type_of% @cond_false.{1}:=@cond_false
theorem zQ:type_of% @decide_eq_decide:=@decide_eq_decide
theorem BN:type_of% @Array.mem_of_getElem?.{0}:=@Array.mem_of_getElem?
theorem BO:type_of% @Array.setIfInBounds_comm.{0}:=@Array.setIfInBounds_comm
theorem BP:type_of% @List.all_append.{0}:=@List.all_append
theorem BQ:type_of% @List.any_cons.{0}:=@List.any_cons
theorem BR:type_of% @List.drop_eq_nil_of_le.{0}:=@List.drop_eq_nil_of_le
theorem BS:type_of% @List.getElem?_of_mem.{0}:=@List.getElem?_of_mem
theorem BT:type_of% @List.take_append_of_le_length.{0}:=@List.take_append_of_le_length
theorem BU:type_of% @Nat.add_zero:=@Nat.add_zero
theorem BW:type_of% @Option.getD_some.{0}:=@Option.getD_some
theorem BX:type_of% @Option.toList_some.{0}:=@Option.toList_some
theorem EU:type_of% @Bool.or_false:=@Bool.or_false
theorem EV:type_of% @Function.comp_apply.{1,1,1}:=@Function.comp_apply
theorem EW:type_of% @List.all_map.{0,0}:=@List.all_map
theorem EX:type_of% @List.drop_drop.{0}:=@List.drop_drop
theorem EY:type_of% @List.drop_left.{0}:=@List.drop_left
theorem EZ:type_of% @List.map_drop.{0,0}:=@List.map_drop
theorem E0:type_of% @List.map_take.{0,0}:=@List.map_take
theorem E2:type_of% @List.mem_filter.{0}:=@List.mem_filter
theorem E3:type_of% @List.takeWhile_cons.{0}:=@List.takeWhile_cons
theorem E4:type_of% @List.take_left.{0}:=@List.take_left
theorem E6:type_of% @Option.map_none.{0,0}:=@Option.map_none
theorem HC:type_of% @not_false_eq_true:=@not_false_eq_true
theorem IU:type_of% @Array.getElem?_eq_some_iff.{0}:=@Array.getElem?_eq_some_iff
theorem IV:type_of% @Array.getElem?_modify.{0}:=@Array.getElem?_modify
theorem IW:type_of% @Int.cast_ofNat_Int:=@Int.cast_ofNat_Int
theorem IY:type_of% @List.dropLast_concat.{0}:=@List.dropLast_concat
theorem IZ:type_of% @List.ext_getElem?.{0}:=@List.ext_getElem?
theorem I0:type_of% @List.getElem?_cons_succ.{0}:=@List.getElem?_cons_succ
theorem I1:type_of% @List.getElem?_cons_zero.{0}:=@List.getElem?_cons_zero
theorem I2:type_of% @List.getLast?_singleton.{0}:=@List.getLast?_singleton
theorem I3:type_of% @List.length_range:=@List.length_range
theorem I4:type_of% @List.mem_singleton.{0}:=@List.mem_singleton
theorem I5:type_of% @Nat.lt_succ_self:=@Nat.lt_succ_self
theorem LI:type_of% @not_true_eq_false:=@not_true_eq_false
theorem NA:type_of% @Array.eq_empty_of_size_eq_zero.{0}:=@Array.eq_empty_of_size_eq_zero
theorem NB:type_of% @Array.mem_iff_getElem?.{0}:=@Array.mem_iff_getElem?
theorem NE:type_of% @Int.tmod_lt_of_pos:=@Int.tmod_lt_of_pos
theorem NF:type_of% @List.dropLast_subset.{0}:=@List.dropLast_subset
theorem NH:type_of% @List.getElem?_drop.{0}:=@List.getElem?_drop
theorem NI:type_of% @List.getLast?_append.{0}:=@List.getLast?_append
theorem NJ:type_of% @List.length_singleton.{0}:=@List.length_singleton
theorem NK:type_of% @List.mem_of_getLast?.{0}:=@List.mem_of_getLast?
theorem NL:type_of% @Nat.eq_zero_or_pos:=@Nat.eq_zero_or_pos
theorem NM:type_of% @Nat.pow_le_pow_right:=@Nat.pow_le_pow_right
theorem NN:type_of% @Option.isSome_some.{0}:=@Option.isSome_some
theorem TW:type_of% @Array.getElem?_setIfInBounds_ne.{0}:=@Array.getElem?_setIfInBounds_ne
theorem T0:type_of% @List.getD_eq_getElem?_getD.{0}:=@List.getD_eq_getElem?_getD
theorem T6:type_of% @List.getElem?_append_left.{0}:=@List.getElem?_append_left
theorem T7:type_of% @List.getElem?_append_right.{0}:=@List.getElem?_append_right
theorem T8:type_of% @List.getLast?_eq_getElem?.{0}:=@List.getLast?_eq_getElem?
inductive AV where
 | junk
 | undef
 | int (k:IntKind) (n:Int)
 | bool (b:Bool)
 | str (s:ByteArray)
 | agg (cs:List AV)
 | tup (vs:List AV)
 | slice (es:List AV)
 | fslice (es:List AV)
 | mslice (b off len st:Nat)
 | nilptr
 | ptr (b off:Nat)
 | pptr (e:AV)
 | nilmap
 | map (b:Nat)
 | func (f:FuncId) (dP:List AV)
 | raw (v:Value)
 | eslice
 deriving Inhabited
def AV.isAgg:AV→Bool
 | .agg _=>true
 | _=>false
def AV.width:AV→Nat
 | .agg cs=>cs.length
 | _=>1
def AV.cells:AV→List AV
 | .agg cs=>cs
 | a=>[a]
def gZ(es:List AV):Prop:=∃n,∀e∈es,e.width=n
def mB:Value→Bool
 | .agg _=>true
 | _=>false
inductive AO where
 | cells (cs:List AV)
 | map (f:Int→Option AV)
 | tab (cs:Array Value)
abbrev aB:=Nat→Option AO
def aB.aC(st:aB)(b:Nat)(o:AO):aB:=fun x=>if x=b then some o else st x
def aB.erase(st:aB)(b:Nat):aB:=fun x=>if x=b then none else st x
theorem aB.aP(st:aB)(b:Nat)(o:AO):st.aC b o b=some o:=by simp [aB.aC]
theorem aB.aL(st:aB){b x:Nat}(o:AO)(h:x≠b):st.aC b o x=st x:=by simp [aB.aC,h]
theorem dC(st:aB)(b:Nat)(o o':AO):(st.aC b o).aC b o'=st.aC b o':=by
 funext x;simp only[aB.aC];split<;>rfl
theorem aB.vO(st:aB)(b:Nat)(o:AO)(h:st b=none):(st.aC b o).erase b=st:=by
 funext x;simp only[aB.aC,aB.erase];split
 · rename_i e;rw[e,h]
 · rfl
theorem aB.YE(st:aB)(b:Nat):st.erase b b=none:=by simp [aB.erase]
theorem aB.aVJ(st:aB){b x:Nat}(h:st x=none):st.erase b x=none:=by simp [aB.erase,h]
theorem aB.oU(st:aB){b c:Nat}(o p:AO)(h:b≠c):(st.aC b o).aC c p=(st.aC c p).aC b o:=by
 funext x;simp only[aB.aC];split<;>split<;>simp_all
abbrev bK:=Array Obj
def cellAt(h:bK)(b off:Nat):Option Value:=
 match h[b]? with
 | some (.cells c _ _)=>c[off]?
 | _=>none
def eY(h:bK)(b:Nat):Nat→List Value→Prop
 | _,[]=>True
 | off,v::vs=>cellAt h b off=some v∧eY h b (off+1) vs
mutual
def VC(h:bK)(st:aB):AV→List Value→Prop
 | .junk,cs=>cs.length=1
 | .undef,cs=>cs= [undef]
 | .int k n,cs=>cs= [.int k n]
 | .bool b,cs=>cs= [.bool b]
 | .str s,cs=>cs= [.string s]∧s.size≤maxLen
 | .agg as,cs=>aY h st as cs
 | .tup as,cs=>∃vs:List Value,cs= [.tuple vs.toArray]∧dU h st as vs
 | .slice es,cs=>((∃p,cs= [.slice p 0 0])∧es= [])∨∃b off cap,cs= [.slice (some ⟨b,off,none⟩) es.length cap]∧es.length≤cap∧cap≤maxLen∧st b=none∧b<h.size∧gZ es∧c9 h st b off es
 | .fslice es,cs=>((∃p,cs= [.slice p 0 0])∧es= [])∨∃b off,cs= [.slice (some ⟨b,off,none⟩) es.length es.length]∧es.length≤maxLen∧st b=none∧b<h.size∧gZ es∧c9 h st b off es
 | .mslice b off len n,cs=>∃cap,cs= [.slice (some ⟨b,off,none⟩) len cap]∧len≤cap∧cap≤maxLen∧∃c t,h[b]?=some (.cells c t (0,0))∧off+cap*n≤c.size
 | .nilptr,cs=>cs= [.pointer none]
 | .ptr b off,cs=>cs= [.pointer (some ⟨b,off,none⟩)]
 | .pptr e,cs=>∃b off,cs= [.pointer (some ⟨b,off,none⟩)]∧st b=none∧b<h.size∧∃vs,eY h b off vs∧vs.length=e.width∧VC h st e vs
 | .nilmap,cs=>cs= [.map none]
 | .map b,cs=>cs= [.map (some b)]
 | .func f as,cs=>∃vs:List Value,cs= [.func (.func f) #[] vs.toArray]∧dU h st as vs
 | .raw v,cs=>cs= [v]∧mB v=false
 | .eslice,cs=>∃p c,cs= [.slice p 0 c]
def aY(h:bK)(st:aB):List AV→List Value→Prop
 | [],cs=>cs= []
 | a::as,cs=>∃c r,cs=c::r∧VC h st a [c]∧aY h st as r
def dU(h:bK)(st:aB):List AV→List Value→Prop
 | [],vs=>vs= []
 | a::as,vs=>∃v r,vs=v::r∧(a.isAgg=mB v∧VC h st a v.cells.toList)∧dU h st as r
def c9(h:bK)(st:aB)(b:Nat):Nat→List AV→Prop
 | _,[]=>True
 | off,a::as=>(∃cs,eY h b off cs∧cs.length=a.width∧VC h st a cs)∧c9 h st b (off+a.width) as
end
def VE(h:bK)(st:aB)(b off:Nat)(a:AV):Prop:=∃cs,eY h b off cs∧cs.length=a.width∧VC h st a cs
def aR(h:bK)(st:aB):AV→Value→Prop
 | .junk,_=>True
 | a,v=>a.isAgg=mB v∧VC h st a v.cells.toList
structure cB (h:bK) (st:aB) (h':bK) (st':aB):Prop where
 size:h.size≤h'.size
 a8:∀b,b<h.size→st b=none→h'[b]?=h[b]?∧st' b=none
 shape:∀(b:Nat) c t fr,h[b]?=some (.cells c t fr)→∃c',h'[b]?=some (.cells c' t fr)∧c'.size=c.size
theorem cB.refl(h:bK)(st:aB):cB h st h st:=⟨c7 _,fun _ _ e=>⟨rfl,e⟩,fun _ c _ _ e=>⟨c,e,rfl⟩⟩
theorem cB.trans{h h' h'':bK}{st st' yF:aB}(x:cB h st h' st')(y:cB h' st' h'' yF):cB h st h'' yF:=
 ⟨lA x.size y.size,
  fun b hb e=>let ⟨e1,e2⟩:=x.a8 b hb e;let ⟨e3,e4⟩:=y.a8 b (tP hb x.size) e2;⟨e3.trans e1,e4⟩,
  fun b c t fr e=>let ⟨c1,e1,s1⟩:=x.shape b c t fr e;let ⟨c2,e2,s2⟩:=y.shape b c1 t fr e1;⟨c2,e2,s2.trans s1⟩⟩
theorem aUF{h h':bK}{b:Nat}(e:h'[b]?=h[b]?)(off:Nat):cellAt h' b off=cellAt h b off:=by simp [cellAt,e]
theorem J2{h h':bK}{b:Nat}(e:h'[b]?=h[b]?):∀(vs:List Value) (off:Nat),eY h b off vs→eY h' b off vs
 | [],_,_=>trivial
 | _::vs,off,x=>⟨(aUF e off).trans x.1,J2 e vs (off+1) x.2⟩
section
variable {h h':bK} {st st':aB}
mutual
theorem VC.mono(S:cB h st h' st'):∀(a:AV) (cs:List Value),VC h st a cs→VC h' st' a cs
 | .junk,_,x=>x
 | .undef,_,x=>x
 | .int _ _,_,x=>x
 | .bool _,_,x=>x
 | .str _,_,x=>x
 | .agg as,cs,x=>by simp only[VC] at x ⊢;exact aY.mono S as cs x
 | .tup as,cs,x=>by
  simp only[VC] at x ⊢
  obtain⟨vs,e,r⟩:=x
  exact⟨vs,e,dU.mono S as vs r⟩
 | .slice es,cs,x=>by
  simp only[VC] at x ⊢
  rcases x with x | ⟨b,off,cap,e,l1,l2,n,l3,ev,r⟩
  · exact .inl x
  · obtain⟨k1,k2⟩:=S.a8 b l3 n
    exact .inr ⟨b,off,cap,e,l1,l2,k2,tP l3 S.size,ev,c9.mono S b k1 es off r⟩
 | .fslice es,cs,x=>by
  simp only[VC] at x ⊢
  rcases x with x | ⟨b,off,e,l1,n,l3,ev,r⟩
  · exact .inl x
  · obtain⟨k1,k2⟩:=S.a8 b l3 n
    exact .inr ⟨b,off,e,l1,k2,tP l3 S.size,ev,c9.mono S b k1 es off r⟩
 | .mslice b off len n,cs,x=>by
  simp only[VC] at x ⊢
  obtain⟨cap,e,l1,l2,c,t,hb,l3⟩:=x
  obtain⟨c',e',s'⟩:=S.shape b c t _ hb
  exact⟨cap,e,l1,l2,c',t,e',by omega⟩
 | .nilptr,_,x=>x
 | .ptr _ _,_,x=>x
 | .pptr e,cs,x=>by
  simp only[VC] at x ⊢
  obtain⟨b,off,e1,n,l,vs,r1,r2,r3⟩:=x
  obtain⟨k1,k2⟩:=S.a8 b l n
  exact⟨b,off,e1,k2,tP l S.size,vs,J2 k1 vs off r1,r2,VC.mono S e vs r3⟩
 | .nilmap,_,x=>x
 | .map _,_,x=>x
 | .func _ as,cs,x=>by
  simp only[VC] at x ⊢
  obtain⟨vs,e,r⟩:=x
  exact⟨vs,e,dU.mono S as vs r⟩
 | .raw _,_,x=>x
 | .eslice,_,x=>x
theorem aY.mono(S:cB h st h' st'):∀(as:List AV) (cs:List Value),aY h st as cs→aY h' st' as cs
 | [],_,x=>x
 | a::as,cs,x=>by
  simp only[aY] at x ⊢
  obtain⟨c,r,e,x1,x2⟩:=x
  exact⟨c,r,e,VC.mono S a [c] x1,aY.mono S as r x2⟩
theorem dU.mono(S:cB h st h' st'):∀(as:List AV) (cs:List Value),dU h st as cs→dU h' st' as cs
 | [],_,x=>x
 | a::as,cs,x=>by
  simp only[dU] at x ⊢
  obtain⟨c,r,e,x1,x2⟩:=x
  exact⟨c,r,e,⟨x1.1,VC.mono S a _ x1.2⟩,dU.mono S as r x2⟩
theorem c9.mono(S:cB h st h' st')(b:Nat)(k:h'[b]?=h[b]?):∀(es:List AV) (off:Nat),c9 h st b off es→c9 h' st' b off es
 | [],_,x=>x
 | a::as,off,x=>by
  simp only[c9] at x ⊢
  obtain⟨⟨cs,x1,x2,x3⟩,x4⟩:=x
  exact⟨⟨cs,J2 k cs off x1,x2,VC.mono S a cs x3⟩,c9.mono S b k as (off+a.width) x4⟩
end
end
theorem aR.mono{h h':bK}{st st':aB}(S:cB h st h' st'){a:AV}{v:Value}(x:aR h st a v):aR h' st' a v:=by
 cases a<;>first | trivial | exact⟨x.1,VC.mono S _ _ x.2⟩
def kT(h:bK)(st:aB)(b:Nat):AO→Prop
 | .cells as=>∃c t,h[b]?=some (.cells c t (0,0))∧as.length≤c.size∧∃vs,eY h b 0 vs∧aY h st as vs
 | .map f=>∃es clock,h[b]?=some (.map es clock)∧(∀e∈es.toList,∃n,e.key=.int .i64 n)∧(es.toList.map (·.key)).Nodup ∧
  ∀n,(match f n with
   | some a=>∃e∈es.toList,e.key=.int .i64 n∧aR h st a e.val
   | none=>∀e∈es.toList,e.key≠.int .i64 n)
 | .tab cs=>∃t,h[b]?=some (.cells cs t (0,0))
def cY(h:bK)(st:aB):Prop:=∀b o,st b=some o→b<h.size∧kT h st b o
abbrev AF:=Nat→AV
def AF.bot:AF:=fun _=>.junk
def AF.aC(f:AF)(d:Nat)(v:AV):AF:=fun x=>if x=d then v else f x
theorem AF.aP(f:AF)(d:Nat)(v:AV):f.aC d v d=v:=by simp [AF.aC]
theorem AF.aL(f:AF){d x:Nat}(v:AV)(h:x≠d):f.aC d v x=f x:=by simp [AF.aC,h]
theorem AF.oU(f:AF){d e:Nat}(v u:AV)(h:d≠e):(f.aC d v).aC e u=(f.aC e u).aC d v:=by
 funext x;simp only[AF.aC];split<;>split<;>simp_all
def AF.put(f:AF)(dst:Option Tmp)(v:AV):AF:=match dst with | some d=>f.aC d v | none=>f
def ofConst:Value→AV
 | .int k n=>.int k n
 | .bool b=>.bool b
 | .string s=>if s.size≤maxLen then .str s else .junk
 | .slice none 0 0=>.fslice []
 | .pointer none=>.nilptr
 | .map none=>.nilmap
 | .nilIface=>.raw .nilIface
 | .nilFunc=>.raw .nilFunc
 | .iface t v=>.raw (.iface t v)
 | _=>.junk
def AF.eval(f:AF):Operand→AV
 | .tmp t=>f t
 | .const v=>ofConst v
 | .global g=>.raw (.pointer (some ⟨g,0,none⟩))
 | .func g=>.func g []
def eQ(h:bK)(st:aB)(tmps:Array Value)(f:AF):Prop:=∀d,aR h st (f d) (tmps.getD d undef)
theorem eQ.mono{h h':bK}{st st':aB}{tmps:Array Value}{f:AF}(S:cB h st h' st')(x:eQ h st tmps f):eQ h' st' tmps f:=fun d=>(x d).mono S
theorem eQ.set{h:bK}{st:aB}{tmps:Array Value}{f:AF}(x:eQ h st tmps f){d:Nat}(hd:d<tmps.size){a:AV}{v:Value}(y:aR h st a v):eQ h st (tmps.setIfInBounds d v) (f.aC d a):=by
 intro e
 simp only[AF.aC]
 split
 · rename_i e1;subst e1;simpa [hd] using y
 · rename_i e1
   have:=x e
   simpa [TW (dD e1)] using this
theorem aR.const(h:bK)(st:aB)(v:Value):aR h st (ofConst v) v:=by
 unfold ofConst
 split<;>try trivial
 case h_3=>split<;>first | trivial | exact⟨rfl,rfl,by assumption⟩
 all_goals first | exact⟨rfl,rfl⟩ | exact⟨rfl,.inl ⟨⟨_,rfl⟩,rfl⟩⟩ | exact⟨rfl,rfl,rfl⟩
theorem aR.eval{h:bK}{st:aB}{a:Act}{f:AF}(x:eQ h st a.tmps f)(o:Operand):aR h st (f.eval o) (a.eval o):=by
 cases o with
 | tmp t=>exact x t
 | const v=>exact aR.const h st v
 | global g=>exact⟨rfl,rfl,rfl⟩
 | func g=>exact⟨rfl,[],rfl,rfl⟩
theorem aR.aLF{h:bK}{st:aB}{e:AV}{c:Value}(ha:e.isAgg=false)(x:VC h st e [c]):aR h st e c:=by
 have key:∀ {e:AV},e.isAgg=mB c→VC h st e [c]→mB c=false→aR h st e c:=by
  intro e h1 h2 h3
  have hc:c.cells.toList= [c]:=by cases c<;>first | rfl | (simp [mB] at h3)
  cases e<;>first | trivial | exact⟨h1,by rw[hc];exact h2⟩
 cases e<;>simp only[VC] at x
 case junk=>trivial
 case undef=>cases x;exact key rfl (by simp [VC]) rfl
 case int=>cases x;exact key rfl (by simp [VC]) rfl
 case bool=>cases x;exact key rfl (by simp [VC]) rfl
 case str=>obtain⟨x1,x2⟩:=x;cases x1;exact key rfl (by simp [VC,x2]) rfl
 case agg=>simp [AV.isAgg] at ha
 case tup=>obtain⟨vs,x1,x2⟩:=x;cases x1;exact key rfl (by simp only[VC];exact⟨vs,rfl,x2⟩) rfl
 case slice es=>
  have x':=x
  rcases x with ⟨⟨p,x1⟩,x2⟩ | ⟨b,off,cap,x1,x2⟩<;>cases x1<;>exact key rfl (by unfold VC;exact x') rfl
 case fslice es=>
  have x':=x
  rcases x with ⟨⟨p,x1⟩,x2⟩ | ⟨b,off,x1,x2⟩<;>cases x1<;>exact key rfl (by unfold VC;exact x') rfl
 case mslice=>have x':=x;obtain⟨cap,x1,x2⟩:=x;cases x1;exact key rfl (by unfold VC;exact x') rfl
 case nilptr=>cases x;exact key rfl (by simp [VC]) rfl
 case ptr=>cases x;exact key rfl (by simp [VC]) rfl
 case pptr=>have x':=x;obtain⟨b,off,x1,x2⟩:=x;cases x1;exact key rfl (by unfold VC;exact x') rfl
 case nilmap=>cases x;exact key rfl (by simp [VC]) rfl
 case map=>cases x;exact key rfl (by simp [VC]) rfl
 case func=>have x':=x;obtain⟨vs,x1,x2⟩:=x;cases x1;exact key rfl (by unfold VC;exact x') rfl
 case raw=>obtain⟨x1,x2⟩:=x;cases x1;exact key (by simp [AV.isAgg,x2]) (by simp [VC,x2]) x2
 case eslice=>have x':=x;obtain⟨p,c,x1⟩:=x;cases x1;exact key rfl (by unfold VC;exact x') rfl
theorem VC.one{h:bK}{st:aB}{e:AV}{cs:List Value}(ha:e.isAgg=false)(x:VC h st e cs):∃c,cs= [c]:=by
 cases e<;>simp only[VC] at x
 case junk=>match cs,x with | [c],_=>exact⟨c,rfl⟩
 case undef=>exact⟨_,x⟩
 case int=>exact⟨_,x⟩
 case bool=>exact⟨_,x⟩
 case str=>exact⟨_,x.1⟩
 case agg=>simp [AV.isAgg] at ha
 case tup=>obtain⟨vs,x1,_⟩:=x;exact⟨_,x1⟩
 case slice=>rcases x with ⟨⟨p,x1⟩,_⟩ | ⟨b,off,cap,x1,_⟩<;>exact⟨_,x1⟩
 case fslice=>rcases x with ⟨⟨p,x1⟩,_⟩ | ⟨b,off,x1,_⟩<;>exact⟨_,x1⟩
 case mslice=>obtain⟨cap,x1,_⟩:=x;exact⟨_,x1⟩
 case nilptr=>exact⟨_,x⟩
 case ptr=>exact⟨_,x⟩
 case pptr=>obtain⟨b,off,x1,_⟩:=x;exact⟨_,x1⟩
 case nilmap=>exact⟨_,x⟩
 case map=>exact⟨_,x⟩
 case func=>obtain⟨vs,x1,_⟩:=x;exact⟨_,x1⟩
 case raw=>exact⟨_,x.1⟩
 case eslice=>obtain⟨p,c,x1⟩:=x;exact⟨_,x1⟩
theorem XP{v:Value}(h:mB v=false):v.cells.toList= [v]:=by cases v<;>first | rfl | (simp [mB] at h)
theorem aR.single{h:bK}{st:aB}{a:AV}{v:Value}(x:aR h st a v)(ha:a.isAgg=false)(hj:a≠.junk):VC h st a [v]:=by
 have key:a.isAgg=mB v∧VC h st a v.cells.toList:=by cases a<;>first | exact absurd rfl hj | exact x
 rw[XP (key.1.symm.trans ha)] at key
 exact key.2
theorem aR.jZ{h:bK}{st:aB}{k:IntKind}{n:Int}{v:Value}(x:aR h st (.int k n) v):v=.int k n:=by
 have:=x.single rfl (by simp);simpa [VC] using this
theorem aR.zH{h:bK}{st:aB}{b:Bool}{v:Value}(x:aR h st (.bool b) v):v=.bool b:=by
 have:=x.single rfl (by simp);simpa [VC] using this
theorem aR.D8{h:bK}{st:aB}{s:ByteArray}{v:Value}(x:aR h st (.str s) v):v=.string s∧s.size≤maxLen:=by
 have:=x.single rfl (by simp);simpa [VC] using this
theorem aR.a4P{h:bK}{st:aB}{v:Value}(x:aR h st .undef v):v=Go.undef:=by
 have:=x.single rfl (by simp);simpa [VC] using this
theorem aR.A1{h:bK}{st:aB}{b off:Nat}{v:Value}(x:aR h st (.ptr b off) v):v=.pointer (some ⟨b,off,none⟩):=by
 have:=x.single rfl (by simp);simpa [VC] using this
theorem aR.RD{h:bK}{st:aB}{v:Value}(x:aR h st .nilptr v):v=.pointer none:=by
 have:=x.single rfl (by simp);simpa [VC] using this
theorem aR.DQ{h:bK}{st:aB}{b:Nat}{v:Value}(x:aR h st (.map b) v):v=.map (some b):=by
 have:=x.single rfl (by simp);simpa [VC] using this
theorem aR.LR{h:bK}{st:aB}{e:AV}{v:Value}(x:aR h st (.pptr e) v) :
 ∃b off,v=.pointer (some ⟨b,off,none⟩)∧st b=none∧b<h.size∧∃vs,eY h b off vs∧vs.length=e.width∧VC h st e vs:=by
 have:=x.single rfl (by simp);simpa [VC] using this
theorem aR.HS{h:bK}{st:aB}{es:List AV}{v:Value}(x:aR h st (.slice es) v) :
 ((∃p,v=.slice p 0 0)∧es= [])∨∃b off cap,v=.slice (some ⟨b,off,none⟩) es.length cap∧es.length≤cap∧cap≤maxLen∧st b=none∧b<h.size∧gZ es∧c9 h st b off es:=by
 have:=x.single rfl (by simp);simpa [VC] using this
theorem aR.zY{h:bK}{st:aB}{es:List AV}{v:Value}(x:aR h st (.fslice es) v) :
 ((∃p,v=.slice p 0 0)∧es= [])∨∃b off,v=.slice (some ⟨b,off,none⟩) es.length es.length∧es.length≤maxLen∧st b=none∧b<h.size∧gZ es∧c9 h st b off es:=by
 have:=x.single rfl (by simp);simpa [VC] using this
theorem aR.GN{h:bK}{st:aB}{es:List AV}{v:Value}(x:aR h st (.fslice es) v):aR h st (.slice es) v:=by
 rcases x.zY with ⟨⟨p,rfl⟩,rfl⟩ | ⟨b,off,rfl,r1,r2⟩
 · exact⟨rfl,.inl ⟨⟨p,rfl⟩,rfl⟩⟩
 · exact⟨rfl,.inr ⟨b,off,es.length,rfl,c7 _,r1,r2⟩⟩
theorem aR.AP{h:bK}{st:aB}{b off len n:Nat}{v:Value}(x:aR h st (.mslice b off len n) v) :
 ∃cap,v=.slice (some ⟨b,off,none⟩) len cap∧len≤cap∧cap≤maxLen∧∃c t,h[b]?=some (.cells c t (0,0))∧off+cap*n≤c.size:=by
 have:=x.single rfl (by simp);simpa [VC] using this
theorem aR.PK{h:bK}{st:aB}{v:Value}(x:aR h st .eslice v):∃p c,v=.slice p 0 c:=by
 have:=x.single rfl (by simp);simpa [VC] using this
theorem aR.a4E{h:bK}{st:aB}{as:List AV}{v:Value}(x:aR h st (.tup as) v):∃vs:List Value,v=.tuple vs.toArray∧dU h st as vs:=by
 have:=x.single rfl (by simp);simpa [VC] using this
theorem aR.aWR{h:bK}{st:aB}{g:FuncId}{as:List AV}{v:Value}(x:aR h st (.func g as) v):∃vs:List Value,v=.func (.func g) #[] vs.toArray∧dU h st as vs:=by
 have:=x.single rfl (by simp);simpa [VC] using this
theorem aR.U6{h:bK}{st:aB}{as:List AV}{vs:List Value}(x:aY h st as vs):aR h st (.agg as) (.agg vs.toArray):=
 ⟨rfl,by simpa [Value.cells,VC] using x⟩
theorem aR.FK{h:bK}{st:aB}{as:List AV}{v:Value}(x:aR h st (.agg as) v):∃vs:List Value,v=.agg vs.toArray∧aY h st as vs:=by
 obtain⟨x1,x2⟩:=x
 cases v<;>simp [AV.isAgg,mB] at x1
 case agg cs=>exact⟨cs.toList,by simp,by simpa [Value.cells,VC] using x2⟩
theorem aY.length{h:bK}{st:aB}:∀ {as:List AV} {vs:List Value},aY h st as vs→vs.length=as.length
 | [],vs,x=>by simp only[aY] at x;simp [x]
 | a::as,vs,x=>by
  simp only[aY] at x
  obtain⟨c,r,rfl,_,x2⟩:=x
  simp [aY.length x2]
theorem aY.drop{h:bK}{st:aB}:∀ {as:List AV} {vs:List Value} (n:Nat),aY h st as vs→aY h st (as.drop n) (vs.drop n)
 | as,vs,0,x=>by simpa using x
 | [],vs,n+1,x=>by simp only[aY] at x;simp [x,aY]
 | a::as,vs,n+1,x=>by
  simp only[aY] at x
  obtain⟨c,r,rfl,_,x2⟩:=x
  simpa using aY.drop n x2
theorem aY.take{h:bK}{st:aB}:∀ {as:List AV} {vs:List Value} (n:Nat),aY h st as vs→aY h st (as.take n) (vs.take n)
 | as,vs,0,x=>by simp [aY]
 | [],vs,n+1,x=>by simp only[aY] at x;simp [x,aY]
 | a::as,vs,n+1,x=>by
  simp only[aY] at x
  obtain⟨c,r,rfl,x1,x2⟩:=x
  simp only[uT,aY]
  exact⟨c,r.take n,rfl,x1,aY.take n x2⟩
theorem aY.get{h:bK}{st:aB}:∀ {as:List AV} {vs:List Value} (n:Nat) {a:AV},aY h st as vs→as[n]?=some a→∃v,vs[n]?=some v∧VC h st a [v]
 | [],_,n,a,_,e=>by simp at e
 | a'::as,vs,0,a,x,e=>by
  simp only[aY] at x
  obtain⟨c,r,rfl,x1,x2⟩:=x
  simp at e;subst e
  exact⟨c,rfl,x1⟩
 | a'::as,vs,n+1,a,x,e=>by
  simp only[aY] at x
  obtain⟨c,r,rfl,x1,x2⟩:=x
  simpa using aY.get n x2 (by simpa using e)
theorem eY.drop{h:bK}{b:Nat}:∀ {vs:List Value} {off:Nat} (n:Nat),eY h b off vs→eY h b (off+n) (vs.drop n)
 | vs,off,0,x=>by simpa using x
 | [],off,n+1,x=>by simp [eY]
 | v::vs,off,n+1,x=>by
  have:=eY.drop n x.2
  simpa [yY,Nat.add_comm 1 n] using this
theorem eY.take{h:bK}{b:Nat}:∀ {vs:List Value} {off:Nat} (n:Nat),eY h b off vs→eY h b off (vs.take n)
 | vs,off,0,x=>by simp [eY]
 | [],off,n+1,x=>by simp [eY]
 | v::vs,off,n+1,x=>⟨x.1,eY.take n x.2⟩
theorem eY.get{h:bK}{b:Nat}:∀ {vs:List Value} {off:Nat} (n:Nat) {v:Value},eY h b off vs→vs[n]?=some v→cellAt h b (off+n)=some v
 | [],off,n,v,_,e=>by simp at e
 | w::vs,off,0,v,x,e=>by simp at e;subst e;exact x.1
 | w::vs,off,n+1,v,x,e=>by
  have:=eY.get n x.2 (by simpa using e)
  simpa [yY,Nat.add_comm 1 n] using this
theorem c9.get{h:bK}{st:aB}{b:Nat}{n:Nat}:∀ {es:List AV} {off:Nat} (i:Nat) {e:AV},(∀x∈es,x.width=n)→c9 h st b off es→es[i]?=some e→VE h st b (off+i*n) e
 | [],off,i,e,_,_,g=>by simp at g
 | a::as,off,0,e,_,x,g=>by simp only[c9] at x;simp at g;subst g;simpa [VE] using x.1
 | a::as,off,i+1,e,u,x,g=>by
  simp only[c9] at x
  have:=c9.get (n:=n) i (fun x hx=>u x (by simp [hx])) x.2 (by simpa using g)
  rw[u a (by simp)] at this
  rwa [show off+(i+1)*n=off+n+i*n by rw[qV];omega]
theorem c9.drop{h:bK}{st:aB}{b:Nat}{n:Nat}:∀ {es:List AV} {off:Nat} (i:Nat),(∀x∈es,x.width=n)→c9 h st b off es→c9 h st b (off+i*n) (es.drop i)
 | es,off,0,_,x=>by simpa using x
 | [],off,i+1,_,_=>by simp [c9]
 | a::as,off,i+1,u,x=>by
  simp only[c9] at x
  have:=c9.drop (n:=n) i (fun x hx=>u x (by simp [hx])) x.2
  rw[u a (by simp)] at this
  rw[show off+(i+1)*n=off+n+i*n by rw[qV];omega]
  simpa using this
theorem c9.take{h:bK}{st:aB}{b:Nat}:∀ {es:List AV} {off:Nat} (i:Nat),c9 h st b off es→c9 h st b off (es.take i)
 | es,off,0,x=>by simp [c9]
 | [],off,i+1,_=>by simp [c9]
 | a::as,off,i+1,x=>by
  simp only[c9] at x
  simp only[uT,c9]
  exact⟨x.1,c9.take i x.2⟩
def sub(ag:Bool)(cs:List AV)(off sz:Nat):Option AV:=
 if ag then(if off+sz≤cs.length then some (.agg ((cs.drop off).take sz)) else none)
 else match cs[off]? with
  | some a=>if a.isAgg then none else some a
  | none=>none
def fP(w w':World):Prop:=w'.os=w.os∧w'.tape=w.tape∧w'.output=w.output
theorem fP.refl(w:World):fP w w:=⟨rfl,rfl,rfl⟩
theorem fP.trans{a b c:World}(x:fP a b)(y:fP b c):fP a c:=⟨y.1.trans x.1,y.2.1.trans x.2.1,y.2.2.trans x.2.2⟩
structure Ext (h h':bK):Prop where
 size:h.size≤h'.size
 a8:∀b,b<h.size→h'[b]?=h[b]?
theorem Ext.refl(h:bK):Ext h h:=⟨c7 _,fun _ _=>rfl⟩
theorem Ext.push(h:bK)(o:Obj):Ext h (h.push o):=⟨by simp,fun b hb=>by rw[Array.getElem?_push,aE (by omega)]⟩
theorem Ext.step{h h':bK}(x:Ext h h')(st:aB):cB h st h' st:=
 ⟨x.size,fun b hb e=>⟨x.a8 b hb,e⟩,fun b c t fr e=>⟨c,by
  have hb:b<h.size:=by
   rcases lB b h.size with h' | h'
   · exact h'
   · simp [Array.getElem?_eq_none h'] at e
  rw[x.a8 b hb];exact e,rfl⟩⟩
theorem kT.mono{h h':bK}{st st':aB}(S:cB h st h' st'){b:Nat}(k:h'[b]?=h[b]?):∀ {o:AO},kT h st b o→kT h' st' b o
 | .cells as,x=>by
  obtain⟨c,t,e,l,vs,x1,x2⟩:=x
  exact⟨c,t,k.trans e,l,vs,J2 k vs 0 x1,aY.mono S as vs x2⟩
 | .map f,x=>by
  obtain⟨es,cl,e,x1,x2,x3⟩:=x
  refine⟨es,cl,k.trans e,x1,x2,fun n=>?_⟩
  have:=x3 n
  split
  · rename_i a ha
    rw[ha] at this
    obtain⟨e,he,hk,hv⟩:=this
    exact⟨e,he,hk,hv.mono S⟩
  · rename_i ha
    rw[ha] at this
    exact this
 | .tab cs,x=>by
  obtain⟨t,e⟩:=x
  exact⟨t,k.trans e⟩
theorem cY.ext{h h':bK}{st:aB}(x:Ext h h')(s:cY h st):cY h' st:=fun b o e=>
 let ⟨l,r⟩:=s b o e
 ⟨tP l x.size,kT.mono (x.step st) (x.a8 b l) r⟩
def jE(st:aB)(w:World)(r:AV)(x:Result Next):Prop:=
 ∃v w',x=.ok (.value v) w'∧aR w'.heap st r v∧Ext w.heap w'.heap∧fP w w'
theorem jE.same{st:aB}{w:World}{r:AV}{x:Result Next}{v:Value}(e:x=.ok (.value v) w)(y:aR w.heap st r v):jE st w r x:=
 ⟨v,w,e,y,Ext.refl _,fP.refl _⟩
def XY:TypeDesc→Bool
 | .struct _=>true
 | .array _ _=>true
 | _=>false
def tI(P:Program)(t:TypeId):Option (Bool×Nat):=
 match P.underlying t,P.info? t with
 | some d,some i=>some (XY d,i.size)
 | _,_=>none
def fI(P:Program)(t:TypeId)(f:Nat):Option (Nat×Bool×Nat):=
 match P.underlying t with
 | some (.struct fs)=>
  match fs[f]? with
  | some fd=>match tI P fd.type with
   | some (ag,sz)=>if sz=0 then none else some (fd.offset,ag,sz)
   | none=>none
  | none=>none
 | _=>none
def eI(P:Program)(t:TypeId):Option (Bool×Nat):=
 match P.underlying t with
 | some (.slice e)=>tI P e
 | _=>none
def aI(P:Program)(t:TypeId):Option (Nat×Bool×Nat):=
 match P.underlying t with
 | some (.array n e)=>(tI P e).map fun x=>(n,x)
 | _=>none
theorem tI_run{P:Program}{t:TypeId}{ag:Bool}{sz:Nat}(e:tI P t=some (ag,sz))(w:World) :
 (isAgg t).run P w=.ok ag w∧(sizeOf t).run P w=.ok sz w∧∃d i,P.underlying t=some d∧P.info? t=some i∧i.size=sz∧XY d=ag:=by
 unfold tI at e
 split at e
 · rename_i d i hu hi
   cases e
   refine⟨?_,by simp [sizeOf,typeInfo,hi],_,_,hu,hi,rfl,rfl⟩
   simp only[isAgg,underlying,Sem.run_bind,run_program,Result.andThen_ok,hu]
   cases d<;>rfl
 · cases e
theorem CM(w:World)(b off:Nat):w.cell? ⟨b,off,none⟩=cellAt w.heap b off:=by
 unfold World.cell? cellAt
 split<;>simp_all
theorem Addr.o7(b off n:Nat):Addr.add ⟨b,off,none⟩ n=⟨b,off+n,none⟩:=by
 unfold Addr.add
 split
 · rename_i h;rw[h];try rfl
 · rfl
theorem aL9{P:Program}{w:World}{b off:Nat}{vs:List Value}(x:eY w.heap b off vs):(loadCells ⟨b,off,none⟩ vs.length).run P w=.ok vs.toArray w:=
 run_loadCells_list (P:=P) w ⟨b,off,none⟩ vs fun j v hj=>by rw[Addr.o7,CM];exact x.get j hj
theorem aMA{P:Program}{w:World}{b off:Nat}{t:TypeId}{ag:Bool}{sz:Nat}{vs:List Value}{st:aB}{e:AV}(hI:tI P t=some (ag,sz))
 (x:eY w.heap b off vs) (hl:vs.length=sz) (ha:e.isAgg=ag) (y:VC w.heap st e vs) :
 ∃v,(loadVar t ⟨b,off,none⟩).run P w=.ok v w∧aR w.heap st e v:=by
 obtain⟨r1,r2,_⟩:=tI_run hI w
 cases ag with
 | true=>
  refine⟨.agg vs.toArray,?_,?_⟩
  · simp only[loadVar,Sem.run_bind,r1,Result.andThen_ok,gA,r2,←hl,aL9 x,Sem.run_pure]
  · cases e<;>simp [AV.isAgg] at ha
    exact aR.U6 (by simpa [VC] using y)
 | false=>
  obtain⟨c,rfl⟩:=VC.one ha y
  refine⟨c,?_,aR.aLF ha y⟩
  simp only[loadVar,Sem.run_bind,r1,Result.andThen_ok,iL,dY,run_load,CM,x.1]
def FI(k:IntKind)(a b:Int):Int:=k.wrap ((BitVec.ofInt k.bits a ^^^ BitVec.ofInt k.bits b).toNat)
def NU(k:IntKind)(a b:Int):Int:=k.wrap ((BitVec.ofInt k.bits a &&& BitVec.ofInt k.bits b).toNat)
def N1(k:IntKind)(a b:Int):Int:=k.wrap ((BitVec.ofInt k.bits a ||| BitVec.ofInt k.bits b).toNat)
def kL(op:BinOp):AV→AV→Option AV
 | .int k a,.int k' b=>
  if k≠k' then none else match op with
  | .add=>some (.int k (k.wrap (a+b)))
  | .sub=>some (.int k (k.wrap (a - b)))
  | .mul=>some (.int k (k.wrap (a*b)))
  | .quo=>if b=0 then none else some (.int k (k.wrap (a.tdiv b)))
  | .rem=>if b=0 then none else some (.int k (a.tmod b))
  | .eql=>some (.bool (decide (a=b)))
  | .neq=>some (.bool (!decide (a=b)))
  | .lss=>some (.bool (decide (a<b)))
  | .leq=>some (.bool (decide (a≤b)))
  | .gtr=>some (.bool (decide (b<a)))
  | .geq=>some (.bool (decide (b≤a)))
  | .xor=>some (.int k (FI k a b))
  | .and=>some (.int k (NU k a b))
  | .or=>some (.int k (N1 k a b))
  | _=>none
 | .str a,.str b=>match op with
  | .eql=>some (.bool (decide (a=b)))
  | .neq=>some (.bool (!decide (a=b)))
  | .lss=>some (.bool (Op.bytesLess a.toList b.toList))
  | .gtr=>some (.bool (!(Op.bytesLess a.toList b.toList||decide (a=b))))
  | .add=>if a.size+b.size≤maxLen then some (.str (a++b)) else none
  | _=>none
 | _,_=>none
def FH(op:UnOp):AV→Option AV
 | .bool b=>match op with | .not=>some (.bool (!b)) | _=>none
 | .int k n=>match op with | .neg=>some (.int k (k.wrap (0 - n))) | _=>none
 | _=>none
theorem TG(a b:ByteArray):(a.toList == b.toList)=decide (a=b):=by
 have h:a.toList=b.toList↔a=b:=⟨fun h=>by
  rw[ByteArray.toList_eq,ByteArray.toList_eq] at h
  cases a;cases b;simp_all,fun h=>by rw[h]⟩
 rw[uQ]
 simp [h]
theorem aVF(op:BinOp)(t:TypeId)(x y:Operand)(k:IntKind)(n:Int)(v:Value):eqGuard op t x y (.int k n) v=pure ():=eqGuard_at_int ..
theorem aVG(op:BinOp)(t:TypeId)(x y:Operand)(s:ByteArray)(v:Value):eqGuard op t x y (.string s) v=pure ():=eqGuard_at_string ..
theorem aR.qF{h:bK}{st:aB}{k:IntKind}{n:Int}:aR h st (.int k n) (.int k n):=⟨rfl,rfl⟩
theorem aR.lQ{h:bK}{st:aB}{b:Bool}:aR h st (.bool b) (.bool b):=⟨rfl,rfl⟩
theorem aPQ{P:Program}{h:bK}{st:aB}{w:World}{op:BinOp}{t:TypeId}{p q r:AV}{u v:Value}(e:kL op p q=some r)(hp:aR h st p u)(hq:aR h st q v) :
 ∃z,(binOp op t u v).run P w=.ok z w∧aR h st r z∧∀x y,(eqGuard op t x y u v).run P w=.ok () w:=by
 unfold kL at e
 split at e
 · rename_i k a k' b
   rw[hp.jZ,hq.jZ]
   have hg:∀x y,(eqGuard op t x y (.int k a) (.int k' b)).run P w=.ok () w:=fun x y=>by rw[aVF];try rfl
   split at e
   · cases e
   · rename_i hk
     have hk':k=k':=yU hk
     subst hk'
     cases op<;>simp only[] at e
     case add=>cases e;exact⟨_,by simp only[binOp,ne_eq,not_true,dY,Op.intArith,Sem.run_pure],aR.qF,hg⟩
     case sub=>cases e;exact⟨_,by simp only[binOp,ne_eq,not_true,dY,Op.intArith,Sem.run_pure],aR.qF,hg⟩
     case mul=>cases e;exact⟨_,by simp only[binOp,ne_eq,not_true,dY,Op.intArith,Sem.run_pure],aR.qF,hg⟩
     case quo=>
      split at e
      · cases e
      · rename_i hb;cases e;exact⟨_,by simp only[binOp,ne_eq,not_true,dY,Op.intDiv,hb,Sem.run_pure],aR.qF,hg⟩
     case rem=>
      split at e
      · cases e
      · rename_i hb;cases e;exact⟨_,by simp only[binOp,ne_eq,not_true,dY,Op.intDiv,hb,Sem.run_pure],aR.qF,hg⟩
     case eql=>cases e;exact⟨.bool (decide (a=b)),by simp [binOp,Op.intCmp,BEq.beq],aR.lQ,hg⟩
     case neq=>cases e;exact⟨.bool (!decide (a=b)),by simp [binOp,Op.intCmp,bne,BEq.beq],aR.lQ,hg⟩
     case lss=>cases e;exact⟨.bool (decide (a<b)),by simp [binOp,Op.intCmp],aR.lQ,hg⟩
     case leq=>cases e;exact⟨.bool (decide (a≤b)),by simp [binOp,Op.intCmp],aR.lQ,hg⟩
     case gtr=>cases e;exact⟨.bool (decide (b<a)),by simp [binOp,Op.intCmp],aR.lQ,hg⟩
     case xor=>cases e;exact⟨_,by simp only[binOp,ne_eq,not_true,dY,Op.intBits,Sem.run_pure,FI],aR.qF,hg⟩
     case and=>cases e;exact⟨_,by simp only[binOp,ne_eq,not_true,dY,Op.intBits,Sem.run_pure,NU],aR.qF,hg⟩
     case or=>cases e;exact⟨_,by simp only[binOp,ne_eq,not_true,dY,Op.intBits,Sem.run_pure,N1],aR.qF,hg⟩
     case geq=>cases e;exact⟨.bool (decide (b≤a)),by simp [binOp,Op.intCmp],aR.lQ,hg⟩
     all_goals cases e
 · rename_i a b
   rw[hp.D8.1,hq.D8.1]
   have hg:∀x y,(eqGuard op t x y (.string a) (.string b)).run P w=.ok () w:=fun x y=>by rw[aVG];try rfl
   cases op<;>simp only[] at e
   case eql=>cases e;exact⟨.bool (decide (a=b)),by simp [binOp,Op.stringOp,TG],aR.lQ,hg⟩
   case neq=>cases e;exact⟨.bool (!decide (a=b)),by simp [binOp,Op.stringOp,TG],aR.lQ,hg⟩
   case lss=>cases e;exact⟨.bool (Op.bytesLess a.toList b.toList),by simp [binOp,Op.stringOp],aR.lQ,hg⟩
   case gtr=>cases e;exact⟨.bool (!(Op.bytesLess a.toList b.toList||decide (a=b))),by simp [binOp,Op.stringOp,TG],aR.lQ,hg⟩
   case add=>
    split at e
    · rename_i hs
      cases e
      refine⟨.string (a++b),?_,⟨rfl,rfl,by rw[ByteArray.size_append];exact hs⟩,hg⟩
      unfold maxLen at hs
      have:¬((a.size+b.size:Nat):Int)>IntKind.i64.max:=by simp [IntKind.max,IntKind.signed,IntKind.bits];omega
      simp only[binOp,Op.stringOp,this,dY,Sem.run_pure]
    · cases e
   all_goals cases e
 · cases e
theorem aIX{P:Program}{t:TypeId}{f off sz:Nat}{ag:Bool}(e:fI P t f=some (off,ag,sz)) :
 ∃fs fd,P.underlying t=some (.struct fs)∧fs[f]?=some fd∧fd.offset=off∧tI P fd.type=some (ag,sz)∧sz≠0:=by
 unfold fI at e
 split at e
 · rename_i fs hu
   split at e
   · rename_i fd hfd
     split at e
     · rename_i ag' sz' hI
       split at e
       · cases e
       · rename_i hz;cases e;exact⟨fs,fd,hu,hfd,rfl,hI,hz⟩
     · cases e
   · cases e
 · cases e
theorem rB{P:Program}{t:TypeId}{sz:Nat}{ag:Bool}(e:eI P t=some (ag,sz)):∃e',P.underlying t=some (.slice e')∧tI P e'=some (ag,sz):=by
 unfold eI at e
 split at e
 · rename_i e' hu;exact⟨e',hu,e⟩
 · cases e
theorem UR{P:Program}{t:TypeId}{n sz:Nat}{ag:Bool}(e:aI P t=some (n,ag,sz)):∃e',P.underlying t=some (.array n e')∧tI P e'=some (ag,sz):=by
 unfold aI at e
 split at e
 · rename_i n' e' hu
   cases h:tI P e' with
   | none=>rw[h] at e;cases e
   | some x=>rw[h] at e;cases e;exact⟨e',hu,h⟩
 · cases e
theorem eJ{P:Program}{t:TypeId}{d:TypeDesc}(e:P.underlying t=some d)(w:World):(underlying t).run P w=.ok d w:=by
 simp [underlying,e]
theorem aM0{P:Program}{h:bK}{st:aB}{w:World}{t:TypeId}{ag:Bool}{off sz:Nat}{as:List AV}{vs:List Value}{r:AV}(hI:tI P t=some (ag,sz))
 (e:sub ag as off sz=some r) (x:aY h st as vs):∃v,(part t vs.toArray off).run P w=.ok v w∧aR h st r v:=by
 obtain⟨r1,r2,_⟩:=tI_run hI w
 unfold sub at e
 cases ag with
 | true=>
  simp only[gA] at e
  split at e
  · rename_i hl
    cases e
    refine⟨.agg ((vs.drop off).take sz).toArray,?_,aR.U6 ((x.drop off).take sz)⟩
    simp only[part,Sem.run_bind,r1,Result.andThen_ok,gA,r2,Sem.run_pure]
    congr 2
    simp [List.take_drop]
  · cases e
 | false=>
  simp only[iL,dY] at e
  split at e
  · rename_i a ha
    split at e
    · cases e
    · rename_i hag
      cases e
      obtain⟨v,hv,y⟩:=x.get off ha
      refine⟨v,?_,aR.aLF (by simpa using hag) y⟩
      simp [part,r1,hv]
  · cases e
theorem aMZ{h:bK}{st:aB}{b o off sz:Nat}{ag:Bool}{as:List AV}{vs:List Value}{r:AV}(e:sub ag as off sz=some r)(x:eY h b o vs)(y:aY h st as vs) :
 ∃us,eY h b (o+off) us∧us.length=r.width∧VC h st r us∧r.isAgg=ag∧(ag=true→r.width=sz):=by
 unfold sub at e
 cases ag with
 | true=>
  simp only[gA] at e
  split at e
  · rename_i hl
    cases e
    have l:=y.length
    refine⟨(vs.drop off).take sz,(x.drop off).take sz,by simp [AV.width,l],by simpa [VC] using (y.drop off).take sz,rfl,fun _=>by simp [AV.width];omega⟩
  · cases e
 | false=>
  simp only[iL,dY] at e
  split at e
  · rename_i a ha
    split at e
    · cases e
    · rename_i hag
      cases e
      have aJK:r.isAgg=false:=by simpa using hag
      obtain⟨v,hv,y'⟩:=y.get off ha
      exact⟨[v],⟨x.get off hv,trivial⟩,by cases r<;>first | rfl | (simp [AV.isAgg] at aJK),y',aJK,by simp⟩
  · cases e
def rU(P:Program)(t f:Nat):AV→Option AV
 | .ptr b o=>(fI P t f).map fun x=>.ptr b (o+x.1)
 | .pptr (.agg cs)=>match fI P t f with
  | some (off,ag,sz)=>(sub ag cs off sz).map .pptr
  | none=>none
 | _=>none
def g8(P:Program)(st:aB)(t:TypeId):AV→Option AV
 | .pptr e=>match tI P t with
  | some (ag,sz)=>if e.isAgg=ag∧e.width=sz then some e else none
  | none=>none
 | .ptr b o=>match tI P t,st b with
  | some (ag,sz),some (.cells cs)=>if ag=false∧sz≠1 then none else sub ag cs o sz
  | _,_=>none
 | _=>none
def dF(P:Program)(t:TypeId):AV→AV→Option AV
 | .slice es,.int _ n | .fslice es,.int _ n=>match eI P t with
  | some (_,sz)=>if 0≤n then(match es[n.toNat]? with
   | some e=>if e.width=sz then some (.pptr e) else none
   | none=>none) else none
  | none=>none
 | .mslice b off len m,.int _ n=>match eI P t with
  | some (_,sz)=>if 0≤n∧n<len∧m=sz then some (.ptr b (off+n.toNat*sz)) else none
  | none=>none
 | .ptr b off,.int _ n=>match aI P t with
  | some (len,_,sz)=>if 0≤n∧n<len then some (.ptr b (off+n.toNat*sz)) else none
  | none=>none
 | _,_=>none
def B3(P:Program)(t:TypeId):AV→AV→Option AV
 | .str s,.int _ n=>match P.underlying t with
  | some .string=>if 0≤n then(match s[n.toNat]? with | some b=>some (.int .u8 b.toNat) | none=>none) else none
  | _=>none
 | .agg cs,.int _ n=>match aI P t with
  | some (len,ag,sz)=>if 0≤n∧n<len then sub ag cs (n.toNat*sz) sz else none
  | none=>none
 | _,_=>none
section
variable {P:Program} {st:aB} {w:World} {a:Act} {φ:AF}
theorem aWE{t:TypeId}{x:Operand}{f:Nat}{r:AV}{o:Oper}(ho:o.op=.fieldAddr t x f)(F:eQ w.heap st a.tmps φ)(e:rU P t f (φ.eval x)=some r):jE st w r ((execOp a.eval o).run P w):=by
 have y:=aR.eval F x
 have run:∀ {off sz:Nat} {ag:Bool} {b q:Nat},fI P t f=some (off,ag,sz)→a.eval x=.pointer (some ⟨b,q,none⟩) →
  (execOp a.eval o).run P w=.ok (.value (.pointer (some ⟨b,q+off,none⟩))) w:=by
  intro off sz ag b q hI hv
  obtain⟨fs,fd,hu,hfd,QP,hT,hz⟩:=aIX hI
  obtain⟨_,r2,_⟩:=tI_run hT w
  simp only[execOp,ho,hv,Instr.fieldAt,Sem.run_bind,eJ hu,Result.andThen_ok,hfd,Instr.sureAddr,Sem.run_pure,fieldPlace,r2,hz,dY,Addr.o7,QP]
 unfold rU at e
 split at e
 · rename_i b q hx
   rw[hx] at y
   cases hI:fI P t f with
   | none=>rw[hI] at e;cases e
   | some z=>
    obtain⟨off,ag,sz⟩:=z
    rw[hI] at e;cases e
    exact .same (run hI y.A1) ⟨rfl,rfl⟩
 · rename_i cs hx
   rw[hx] at y
   split at e
   · rename_i off ag sz hI
     cases hs:sub ag cs off sz with
     | none=>rw[hs] at e;cases e
     | some r'=>
      rw[hs] at e;cases e
      obtain⟨b,q,hv,e2,e3,vs,e4,e5,e6⟩:=y.LR
      obtain⟨us,u1,u2,u3,_⟩:=aMZ hs e4 (by simpa [VC] using e6)
      exact .same (run hI hv) ⟨rfl,b,q+off,rfl,e2,e3,us,u1,u2,u3⟩
   · cases e
 · cases e
theorem US{t:TypeId}{x r:AV}{v:Value}(y:aR w.heap st x v)(S:cY w.heap st)(e:g8 P st t x=some r) :
 ∃b off u,v=.pointer (some ⟨b,off,none⟩)∧(loadVar t ⟨b,off,none⟩).run P w=.ok u w∧aR w.heap st r u:=by
 unfold g8 at e
 split at e
 · rename_i e'
   split at e
   · rename_i ag sz hI
     split at e
     · rename_i hc
       cases e
       obtain⟨b,off,hv,e2,e3,vs,e4,e5,e6⟩:=y.LR
       obtain⟨u,r1,rv⟩:=aMA hI e4 (by rw[e5,hc.2]) hc.1 e6
       exact⟨b,off,u,hv,r1,rv⟩
     · cases e
   · cases e
 · rename_i b q
   split at e
   · rename_i ag sz cs hI hs
     split at e
     · cases e
     · rename_i hsz
       obtain⟨_,c,t',hb,hl,vs,x1,x2⟩:=S b _ hs
       obtain⟨us,u1,u2,u3,u4,u5⟩:=aMZ e x1 x2
       rw[hH] at u1
       have hw:us.length=sz:=by
        cases ag with
        | true=>rw[u2];exact u5 rfl
        | false=>rw[u2];simp at hsz;rw[hsz];cases r<;>first | rfl | (simp [AV.isAgg] at u4)
       obtain⟨u,r1,rv⟩:=aMA hI u1 hw u4 u3
       exact⟨b,q,u,y.A1,r1,rv⟩
   · cases e
 · cases e
theorem aZ6{t:TypeId}{x:Operand}{r:AV}{o:Oper}(ho:o.op=.load t x)(F:eQ w.heap st a.tmps φ)(S:cY w.heap st)(e:g8 P st t (φ.eval x)=some r):jE st w r ((execOp a.eval o).run P w):=by
 obtain⟨b,off,u,hv,r1,rv⟩:=US (aR.eval F x) S e
 exact .same (v:=u) (by simp [execOp,ho,Instr.loadAt,Instr.sureAddr,hv,r1]) rv
theorem aWF{t:TypeId}{x:Operand}{f:Nat}{r:AV}{o:Oper}{off sz:Nat}{ag:Bool}{cs:List AV}(ho:o.op=.field t x f)(F:eQ w.heap st a.tmps φ)(hI:fI P t f=some (off,ag,sz))(hx:φ.eval x=.agg cs)
 (e:sub ag cs off sz=some r):jE st w r ((execOp a.eval o).run P w):=by
 have y:=aR.eval F x
 rw[hx] at y
 obtain⟨vs,hv,hc⟩:=y.FK
 obtain⟨fs,fd,hu,hfd,QP,hT,hz⟩:=aIX hI
 obtain⟨v,r1,rv⟩:=aM0 (P:=P) (w:=w) hT e hc
 exact .same (v:=v) (by simp only[execOp,ho,hv,Instr.field,Sem.run_bind,eJ hu,Result.andThen_ok,hfd,asAgg,Sem.run_pure,QP,r1]) rv
theorem aZH{t:TypeId}{x i:Operand}{r:AV}{o:Oper}(ho:o.op=.indexAddr t x i)(F:eQ w.heap st a.tmps φ)(e:dF P t (φ.eval x) (φ.eval i)=some r):jE st w r ((execOp a.eval o).run P w):=by
 have y:=aR.eval F x
 have yi:=aR.eval F i
 have aL6:∀ {b off len cap sz:Nat} {ag:Bool} {k:IntKind} {n:Int},eI P t=some (ag,sz)→a.eval x=.slice (some ⟨b,off,none⟩) len cap→a.eval i=.int k n→0≤n→n<len →
  (execOp a.eval o).run P w=.ok (.value (.pointer (some ⟨b,off+n.toNat*sz,none⟩))) w:=by
  intro b off len cap sz ag k n hI hv hi h0 h1
  obtain⟨e',hu,hT⟩:=rB hI
  obtain⟨_,r2,_⟩:=tI_run hT w
  simp only[execOp,ho,hv,hi,Instr.indexAt,asIntOf,Sem.run_bind,eJ hu,Result.andThen_ok,Sem.run_pure,h0,h1,and_self,gA,r2,Addr.o7]
 have imm:∀ {es:List AV} {k:IntKind} {n:Int} {b off cap:Nat},φ.eval i=.int k n→a.eval x=.slice (some ⟨b,off,none⟩) es.length cap→st b=none→b<w.heap.size→gZ es→c9 w.heap st b off es →
  (match eI P t with
   | some (_,sz)=>if 0≤n then(match es[n.toNat]? with
    | some e=>if e.width=sz then some (.pptr e) else none
    | none=>none) else none
   | none=>none)=some r→jE st w r ((execOp a.eval o).run P w):=by
  intro es k n b off cap hi hv e2 e3 ev e4 e
  rw[hi] at yi
  split at e
  · rename_i ag sz hI
    split at e
    · rename_i h0
      split at e
      · rename_i e' he'
        split at e
        · rename_i hw
          cases e
          obtain⟨m,hm⟩:=ev
          have hlt:n.toNat<es.length:=(gP.1 he').1
          have hms:m=sz:=by rw[←hw];exact(hm e' (cP he')).symm
          obtain⟨us,u1,u2,u3⟩:=c9.get n.toNat hm e4 he'
          rw[hms] at u1
          exact .same (aL6 hI hv yi.jZ h0 (by omega)) ⟨rfl,b,_,rfl,e2,e3,us,u1,u2,u3⟩
        · cases e
      · cases e
    · cases e
  · cases e
 unfold dF at e
 split at e
 · rename_i es k n hx hi
   rw[hx] at y
   rcases y.HS with ⟨⟨p0,hv⟩,rfl⟩ | ⟨b,off,cap,hv,l1,l2,e2,e3,ev,e4⟩
   · split at e<;>simp at e
   · exact imm hi hv e2 e3 ev e4 e
 · rename_i es k n hx hi
   rw[hx] at y
   rcases y.zY with ⟨⟨p0,hv⟩,rfl⟩ | ⟨b,off,hv,l1,e2,e3,ev,e4⟩
   · split at e<;>simp at e
   · exact imm hi hv e2 e3 ev e4 e
 · rename_i b off len m k n hx hi
   rw[hx] at y
   rw[hi] at yi
   obtain⟨cap,hv,l1,l2,c,t',hb,l3⟩:=y.AP
   split at e
   · rename_i ag sz hI
     split at e
     · rename_i hc
       cases e
       exact .same (aL6 hI hv yi.jZ hc.1 hc.2.1) ⟨rfl,rfl⟩
     · cases e
   · cases e
 · rename_i b off k n hx hi
   rw[hx] at y
   rw[hi] at yi
   split at e
   · rename_i len ag sz hI
     split at e
     · rename_i hc
       cases e
       obtain⟨e',hu,hT⟩:=UR hI
       obtain⟨_,r2,_⟩:=tI_run hT w
       refine .same (v:=.pointer (some ⟨b,off+n.toNat*sz,none⟩)) ?_ ⟨rfl,rfl⟩
       simp only[execOp,ho,y.A1,yi.jZ,Instr.indexAt,asIntOf,Sem.run_bind,eJ hu,Result.andThen_ok,Sem.run_pure,Instr.sureAddr,hc.1,hc.2,and_self,gA,r2,Addr.o7]
     · cases e
   · cases e
 · cases e
theorem aZI{t:TypeId}{x i:Operand}{r:AV}{o:Oper}(ho:o.op=.index t x i)(F:eQ w.heap st a.tmps φ)(e:B3 P t (φ.eval x) (φ.eval i)=some r):jE st w r ((execOp a.eval o).run P w):=by
 have y:=aR.eval F x
 have yi:=aR.eval F i
 unfold B3 at e
 split at e
 · rename_i s k n hx hi
   rw[hx] at y
   rw[hi] at yi
   split at e
   · rename_i hu
     split at e
     · rename_i h0
       split at e
       · rename_i b hb
         cases e
         refine .same (v:=.int .u8 b.toNat) ?_ ⟨rfl,rfl⟩
         simp only[execOp,ho,y.D8.1,yi.jZ,Instr.index,asIntOf,Sem.run_bind,eJ hu,Result.andThen_ok,Sem.run_pure,h0,gA,hb]
       · cases e
     · cases e
   · cases e
 · rename_i cs k n hx hi
   rw[hx] at y
   rw[hi] at yi
   obtain⟨vs,hv,hc⟩:=y.FK
   split at e
   · rename_i len ag sz hI
     split at e
     · rename_i hn
       obtain⟨e',hu,hT⟩:=UR hI
       obtain⟨_,r2,_⟩:=tI_run hT w
       obtain⟨v,r1,rv⟩:=aM0 (P:=P) (w:=w) hT e hc
       refine .same (v:=v) ?_ rv
       simp only[execOp,ho,hv,yi.jZ,Instr.index,asIntOf,Sem.run_bind,eJ hu,Result.andThen_ok,Sem.run_pure,hn.1,hn.2,and_self,gA,r2,r1]
     · cases e
   · cases e
 · cases e
end
def dZ(φ:AF)(x:Option Operand)(O8 most:Nat):Option Nat:=
 match x with
 | none=>some O8
 | some y=>match φ.eval y with
  | .int _ n=>if 0≤n∧n≤most then some n.toNat else none
  | _=>none
def BJ(es:List AV)(l sz:Nat):Bool:=match es[l]? with | some e=>e.width == sz | none=>true
def qG:AV→Bool
 | .fslice []=>true
 | _=>false
def oA(P:Program)(φ:AF)(t:TypeId)(x:AV)(lo hi mx:Option Operand):Option AV:=
 match x with
 | .str s=>match P.underlying t,mx with
  | some .string,none=>match dZ φ hi s.size s.size with
   | some h=>match dZ φ lo 0 h with
    | some l=>some (.str (s.extract l h))
    | none=>none
   | none=>none
  | _,_=>none
 | .slice es | .fslice es=>match eI P t with
  | some (_,sz)=>if mx.isSome∧hi.isNone then none else match dZ φ mx es.length es.length with
   | some m=>match dZ φ hi es.length m with
    | some h=>match dZ φ lo 0 h with
     | some l=>if l=0∨BJ es l sz=true then
      some (if mx.isSome∧m=h then .fslice ((es.take h).drop l) else .slice ((es.take h).drop l)) else none
     | none=>none
    | none=>none
   | none=>none
  | none=>none
 | .mslice b off len n=>match eI P t,mx with
  | some (_,sz),none=>match dZ φ hi len len with
   | some h=>match dZ φ lo 0 h with
    | some l=>if n=sz then(if l=0 then some (.mslice b off h n) else if l<h then some (.mslice b (off+l*n) (h - l) n) else some .eslice) else none
    | none=>none
   | none=>none
  | some (_,sz),some z=>match lo,hi with
   | none,some y=>match dZ φ (some z) len len with
    | some m=>match dZ φ (some y) len m with
     | some h=>if n=sz then some (.mslice b off h n) else none
     | none=>none
    | none=>none
   | _,_=>none
  | _,_=>none
 | .eslice=>match eI P t,mx with
  | some _,some z=>match lo,hi with
   | none,some y=>match dZ φ (some z) 0 0 with
    | some m=>match dZ φ (some y) 0 m with
     | some _=>some (.fslice [])
     | none=>none
    | none=>none
   | _,_=>none
  | _,_=>none
 | _=>none
def g7(P:Program)(φ:AF)(t:TypeId)(x:AV)(lo hi mx:Option Operand):Option AV:=
 if qG x=true∧mx.isNone=true then match eI P t with
  | some _=>match dZ φ hi 0 0 with
   | some h=>match dZ φ lo 0 h with
    | some _=>some (.fslice [])
    | none=>none
   | none=>none
  | none=>none
 else oA P φ t x lo hi mx
section
variable {P:Program} {st:aB} {w:World} {a:Act} {φ:AF}
theorem vD(F:eQ w.heap st a.tmps φ){y:Operand}{O8 most RA r:Nat}(code:BoundsCode)(e:dZ φ (some y) O8 most=some r)(hm:most≤RA) :
 (Instr.sliceBound (a.eval y) RA code).run P w=.ok r w∧r≤most:=by
 simp only[dZ] at e
 have z:=aR.eval F y
 split at e
 · rename_i k n hn
   rw[hn] at z
   split at e
   · rename_i h
     cases e
     rw[z.jZ]
     have h2:n≤(RA:Int):=by omega
     refine⟨?_,by omega⟩
     simp [Instr.sliceBound,asIntOf,h.1,h2]
   · cases e
 · cases e
theorem JO(F:eQ w.heap st a.tmps φ){lo hi:Option Operand}{isS:Bool}{len G9 cap h l:Nat}(eh:dZ φ hi len G9=some h)(el:dZ φ lo 0 h=some l)(hl:len≤G9)(hc:G9≤cap) :
 (Instr.sliceBounds isS len cap (lo.map a.eval) (hi.map a.eval) none).run P w=.ok (l,h,cap) w∧l≤h∧h≤G9:=by
 have hh:h≤G9:=by
  cases hi with
  | none=>cases eh;exact hl
  | some y=>exact(vD (P:=P) F .index eh (c7 _)).2
 have hll:l≤h:=by
  cases lo with
  | none=>cases el;exact jD _
  | some y=>exact(vD (P:=P) F .index el (c7 _)).2
 refine⟨?_,hll,hh⟩
 cases hi with
 | none=>
  cases eh
  cases lo with
  | none=>cases el;simp [Instr.sliceBounds]
  | some y=>
   have:=(vD (P:=P) F .sliceB el (c7 _)).1
   simp [Instr.sliceBounds,this]
 | some z=>
  have h1:=(vD (P:=P) F (if isS then .sliceAcap else .sliceAlen) eh hc).1
  cases lo with
  | none=>cases el;simp [Instr.sliceBounds,h1]
  | some y=>
   have:=(vD (P:=P) F .sliceB el (c7 _)).1
   simp [Instr.sliceBounds,h1,this]
theorem OD(F:eQ w.heap st a.tmps φ){lo hi:Option Operand}{x y:Operand}{len cap h l m:Nat}(he:hi=some y)(em:dZ φ (some x) len len=some m)(eh:dZ φ hi len m=some h)(el:dZ φ lo 0 h=some l)(hc:len≤cap) :
 (Instr.sliceBounds true len cap (lo.map a.eval) (hi.map a.eval) (some (a.eval x))).run P w=.ok (l,h,m) w∧l≤h∧h≤m∧m≤len:=by
 subst he
 have h0:=vD (P:=P) F .slice3Acap em hc
 have h1:=vD (P:=P) F .slice3B eh (c7 _)
 have hll:l≤h:=by
  cases lo with
  | none=>cases el;exact jD _
  | some y=>exact(vD (P:=P) F .index el (c7 _)).2
 refine⟨?_,hll,h1.2,h0.2⟩
 cases lo with
 | none=>cases el;simp [Instr.sliceBounds,h0.1,h1.1]
 | some y=>
  have:=(vD (P:=P) F .slice3C el (c7 _)).1
  simp [Instr.sliceBounds,h0.1,h1.1,this]
theorem a2M{t:TypeId}{x:Operand}{lo hi mx:Option Operand}{r:AV}{o:Oper}(ho:o.op=.slice t x lo hi mx)(F:eQ w.heap st a.tmps φ)(e:oA P φ t (φ.eval x) lo hi mx=some r):jE st w r ((execOp a.eval o).run P w):=by
 have y:=aR.eval F x
 have imm:∀ {es:List AV},aR w.heap st (.slice es) (a.eval x) →
  (match eI P t with
   | some (_,sz)=>if mx.isSome∧hi.isNone then none else match dZ φ mx es.length es.length with
    | some m=>match dZ φ hi es.length m with
     | some h=>match dZ φ lo 0 h with
      | some l=>if l=0∨BJ es l sz=true then
       some (if mx.isSome∧m=h then .fslice ((es.take h).drop l) else .slice ((es.take h).drop l)) else none
      | none=>none
     | none=>none
    | none=>none
   | none=>none)=some r→jE st w r ((execOp a.eval o).run P w):=by
  intro es y e
  split at e
  case h_2=>cases e
  rename_i ag sz hI
  obtain⟨e',hu,hT⟩:=rB hI
  obtain⟨_,r2,_⟩:=tI_run hT w
  split at e
  case isTrue=>cases e
  rename_i hno
  split at e
  case h_2=>cases e
  rename_i m hm
  split at e
  case h_2=>cases e
  rename_i h hh
  split at e
  case h_2=>cases e
  rename_i l hl
  split at e
  case isFalse=>cases e
  rename_i hw
  cases e
  -- the bounds
  have key:∀base cap,a.eval x=.slice base es.length cap→es.length≤cap→∃M,(execOp a.eval o).run P w=.ok (.value (.slice (if M=l then base else base.map (·.add (l*sz))) (h - l) (M - l))) w∧l≤h∧h≤es.length∧h≤M∧M≤cap∧(mx.isSome∧m=h→M=h):=by
   intro base cap hv hc
   cases mx with
   | none=>
    cases hm
    obtain⟨b1,b2,b3⟩:=JO (P:=P) (isS:=true) F hh hl (c7 _) hc
    refine⟨cap,?_,b2,b3,by omega,c7 _,by simp⟩
    simp only[execOp,ho,Instr.sliceAt,Sem.run_bind,eJ hu,Result.andThen_ok,Instr.slice,hv,E6,b1,r2,Sem.run_pure]
   | some z=>
    cases hi with
    | none=>
     exact absurd ⟨rfl,rfl⟩ hno
    | some y'=>
     obtain⟨b1,b2,b3,b4⟩:=OD (P:=P) F rfl hm hh hl hc
     refine⟨m,?_,b2,by omega,b3,by omega,fun q=>q.2⟩
     simp only[execOp,ho,Instr.sliceAt,Sem.run_bind,eJ hu,Result.andThen_ok,Instr.slice,hv]
     rw[show(some z).map a.eval=some (a.eval z) from rfl,b1]
     simp only[Result.andThen_ok,r2,Sem.run_pure]
  rcases y.HS with ⟨⟨p0,hv⟩,rfl⟩ | ⟨b,off,cap,hv,l1,l2,e2,e3,ev,e4⟩
  · obtain⟨M,r1,b1,b2,b3,b4,b5⟩:=key p0 0 hv (by simp)
    have hM:M=0:=by omega
    have hh0:h=0:=by omega
    have hl0:l=0:=by omega
    subst hM hh0 hl0
    refine .same (v:=.slice p0 0 0) (by rw[r1];simp) ?_
    split
    · exact⟨rfl,.inl ⟨⟨p0,rfl⟩,by simp⟩⟩
    · exact⟨rfl,.inl ⟨⟨p0,rfl⟩,by simp⟩⟩
  · obtain⟨M,r1,b1,b2,b3,b4,b5⟩:=key _ cap hv l1
    have hlen:((es.take h).drop l).length=h - l:=by simp;omega
    obtain⟨n,hn⟩:=ev
    have hE:∃DV,c9 w.heap st b DV ((es.take h).drop l)∧(if M=l then some (⟨b,off,none⟩:Addr) else(some (⟨b,off,none⟩:Addr)).map (·.add (l*sz)))=some ⟨b,DV,none⟩:=by
     by_cases hMl:M=l
     · have:(es.take h).drop l= []:=by apply pT;omega
       refine⟨off,by rw[this];simp [c9],by rw[aH hMl]⟩
     · refine⟨off+l*sz,?_,by rw[aE hMl];simp [Addr.o7]⟩
       have base:c9 w.heap st b (off+l*n) ((es.take h).drop l):=c9.drop l (fun x hx=>hn x (mC hx)) (c9.take h e4)
       rcases hw with hw | hw
       · subst hw;simpa using base
       · unfold BJ at hw
         split at hw
         · rename_i e'' aXO
           have h1:e''.width=sz:=by simpa using hw
           have h2:=hn e'' (cP aXO)
           rw[←h1,h2];exact base
         · rename_i qD
           have h3:es.length≤l:=by simpa using qD
           have:(es.take h).drop l= []:=by apply pT;omega
           rw[this];simp [c9]
    obtain⟨DV,hE1,hE2⟩:=hE
    have hEv:gZ ((es.take h).drop l):=⟨n,fun x hx=>hn x (mC (List.mem_of_mem_drop hx))⟩
    refine .same (v:=.slice (some ⟨b,DV,none⟩) (h - l) (M - l)) (by rw[r1,hE2]) ?_
    split
    · rename_i hc
      have:=b5 hc
      subst this
      exact⟨rfl,.inr ⟨b,DV,by rw[hlen];try rfl,by omega,e2,e3,hEv,hE1⟩⟩
    · exact⟨rfl,.inr ⟨b,DV,M - l,by rw[hlen];try rfl,by omega,by omega,e2,e3,hEv,hE1⟩⟩
 unfold oA at e
 split at e
 · rename_i s hx
   rw[hx] at y
   split at e
   case h_2=>cases e
   rename_i hu
   split at e
   case h_2=>cases e
   rename_i h hh
   split at e
   case h_2=>cases e
   rename_i l hl
   cases e
   obtain⟨b1,b2,b3⟩:=JO (P:=P) (isS:=false) F hh hl (c7 _) (c7 s.size)
   refine .same (v:=.string (s.extract l h)) ?_ ⟨rfl,rfl,by have h1:=y.D8.2;rw[ByteArray.size_extract];omega⟩
   simp only[execOp,ho,Instr.sliceAt,Sem.run_bind,eJ hu,Result.andThen_ok,Instr.slice,y.D8.1,E6,Option.isSome_none,iL,dY,b1,Sem.run_pure]
 · rename_i es hx
   rw[hx] at y
   exact imm y e
 · rename_i es hx
   rw[hx] at y
   exact imm y.GN e
 · rename_i b off len n hx
   rw[hx] at y
   obtain⟨cap,hv,l1,l2,c,t',hb,l3⟩:=y.AP
   split at e
   case h_3=>cases e
   case h_2=>
    rename_i mx' ag sz z hI
    obtain⟨e',hu,hT⟩:=rB hI
    obtain⟨_,r2,_⟩:=tI_run hT w
    split at e
    case h_2=>cases e
    rename_i lo' hi' y'
    split at e
    case h_2=>cases e
    rename_i m hm
    split at e
    case h_2=>cases e
    rename_i h hh
    split at e
    case isFalse=>cases e
    rename_i hc1
    subst hc1
    cases e
    obtain⟨b1,b2,b3,b4⟩:=OD (P:=P) (lo:=none) F rfl hm hh rfl l1
    refine .same (v:=.slice (some ⟨b,off,none⟩) h m) ?_ ⟨rfl,m,rfl,by omega,by omega,c,t',hb,?_⟩
    · simp only[execOp,ho,Instr.sliceAt,Sem.run_bind,eJ hu,Result.andThen_ok,Instr.slice,hv]
      rw[show(some z).map a.eval=some (a.eval z) from rfl,b1]
      simp only[Result.andThen_ok,r2,Sem.run_pure]
      simp [Addr.add]
    · have:m*n≤cap*n:=rZ n (by omega)
      omega
   rename_i ag sz hI
   obtain⟨e',hu,hT⟩:=rB hI
   obtain⟨_,r2,_⟩:=tI_run hT w
   split at e
   case h_2=>cases e
   rename_i h hh
   split at e
   case h_2=>cases e
   rename_i l hl
   split at e
   case isFalse=>cases e
   rename_i hc1
   subst hc1
   obtain⟨b1,b2,b3⟩:=JO (P:=P) (isS:=true) F hh hl (c7 _) l1
   have run:(execOp a.eval o).run P w=.ok (.value (.slice (if cap=l then some ⟨b,off,none⟩ else(some ⟨b,off,none⟩:Option Addr).map (·.add (l*n))) (h - l) (cap - l))) w:=by
    simp only[execOp,ho,Instr.sliceAt,Sem.run_bind,eJ hu,Result.andThen_ok,Instr.slice,hv,E6,b1,r2,Sem.run_pure]
   split at e
   · rename_i hc2
     cases e
     subst hc2
     refine .same (v:=.slice (some ⟨b,off,none⟩) h cap) ?_ ⟨rfl,cap,rfl,by omega,l2,c,t',hb,l3⟩
     rw[run]
     simp [Addr.add]
   · rename_i hc2
     split at e
     · rename_i hc3
       cases e
       have hne:¬cap=l:=by omega
       refine .same (v:=.slice (some ⟨b,off+l*n,none⟩) (h - l) (cap - l)) ?_ ⟨rfl,cap - l,rfl,by omega,by omega,c,t',hb,?_⟩
       · rw[run,aE hne]
         simp [Addr.o7]
       · have:l*n+(cap - l)*n=cap*n:=by rw[←w4];congr 1;omega
         omega
     · rename_i hc3
       cases e
       have hz:h - l=0:=by omega
       rw[hz] at run
       exact .same run ⟨rfl,_,_,rfl⟩
 · rename_i hx
   rw[hx] at y
   obtain⟨p0,cap,hv⟩:=y.PK
   split at e
   case h_2=>cases e
   rename_i mx' ag z hI
   obtain⟨ag,sz⟩:=ag
   obtain⟨e',hu,hT⟩:=rB hI
   obtain⟨_,r2,_⟩:=tI_run hT w
   split at e
   case h_2=>cases e
   rename_i lo' hi' y'
   split at e
   case h_2=>cases e
   rename_i m hm
   split at e
   case h_2=>cases e
   rename_i h hh
   cases e
   obtain⟨b1,b2,b3,b4⟩:=OD (P:=P) (lo:=none) F rfl hm hh rfl (jD cap)
   have h0:h=0:=by omega
   have m0:m=0:=by omega
   subst h0 m0
   refine .same (v:=.slice p0 0 0) ?_ ⟨rfl,.inl ⟨⟨p0,rfl⟩,rfl⟩⟩
   simp only[execOp,ho,Instr.sliceAt,Sem.run_bind,eJ hu,Result.andThen_ok,Instr.slice,hv]
   rw[show(some z).map a.eval=some (a.eval z) from rfl,b1]
   simp only[Result.andThen_ok,r2,Sem.run_pure]
   simp
 · cases e
theorem a2R{t:TypeId}{x:Operand}{lo hi mx:Option Operand}{r:AV}{o:Oper}(ho:o.op=.slice t x lo hi mx)(F:eQ w.heap st a.tmps φ)(e:g7 P φ t (φ.eval x) lo hi mx=some r):jE st w r ((execOp a.eval o).run P w):=by
 unfold g7 at e
 split at e
 case isFalse=>exact a2M ho F e
 rename_i hc
 have y:=aR.eval F x
 have hx:φ.eval x=.fslice []:=by
  have:=hc.1
  generalize φ.eval x=v at *
  unfold qG at this
  split at this
  · rfl
  · cases this
 have hm:mx=none:=by cases mx with | none=>rfl | some _=>simp at hc
 subst hm
 rw[hx] at y
 split at e
 case h_2=>cases e
 rename_i sz hI
 obtain⟨ag,sz⟩:=sz
 obtain⟨e',hu,hT⟩:=rB hI
 obtain⟨_,r2,_⟩:=tI_run hT w
 split at e
 case h_2=>cases e
 rename_i h hh
 split at e
 case h_2=>cases e
 rename_i l hl
 cases e
 have hv:∃p,a.eval x=.slice p 0 0:=by
  rcases y.zY with ⟨⟨p0,hv⟩,_⟩ | ⟨b,off,hv,_⟩
  · exact⟨p0,hv⟩
  · exact⟨_,hv⟩
 obtain⟨p,hv⟩:=hv
 obtain⟨b1,b2,b3⟩:=JO (P:=P) (isS:=true) F hh hl (c7 _) (c7 0)
 have h0:h=0:=by omega
 have l0:l=0:=by omega
 subst h0 l0
 refine .same (v:=.slice p 0 0) ?_ ⟨rfl,.inl ⟨⟨p,rfl⟩,rfl⟩⟩
 simp only[execOp,ho,Instr.sliceAt,Sem.run_bind,eJ hu,Result.andThen_ok,Instr.slice,hv,E6,b1,r2,Sem.run_pure]
 simp
end
def bI(P:Program)(t:TypeId):Option (List (Nat×Nat)):=
 match P.underlying t with
 | some (.struct fs)=>fs.toList.mapM fun f=>(P.info? f.type).map fun i=>(f.offset,i.size)
 | _=>none
def zI(P:Program)(t:TypeId):Option (List AV):=
 match P.info? t with
 | some i=>match i.zero with
  | some z=>some (z.cells.toList.map ofConst)
  | none=>none
 | none=>none
def AV.cF:AV→Bool
 | .junk=>true
 | _=>false
def r0(h:bK)(st:aB):List (Nat×AV)→List (Nat×Value)→Prop
 | [],qs=>qs= []
 | p::ps,qs=>∃q r,qs=q::r∧(p.1=q.1∧aR h st p.2 q.2)∧r0 h st ps r
def pR(place:Nat→Option (Nat×Nat))(cells:List AV):List (Nat×AV)→Option (List AV)
 | []=>some cells
 | (i,v)::rest=>
  match place i with
  | none=>none
  | some (off,size)=>
   if v.cells.length≠size∨off+size>cells.length∨v.cF=true then none
   else pR place (cells.take off++v.cells++cells.drop (off+size)) rest
theorem aY.append{h:bK}{st:aB}:∀ {as bs:List AV} {vs us:List Value},aY h st as vs→aY h st bs us→aY h st (as++bs) (vs++us)
 | [],_,vs,us,x,y=>by simp only[aY] at x;subst x;simpa using y
 | a::as,_,vs,us,x,y=>by
  simp only[aY] at x
  obtain⟨c,r,rfl,x1,x2⟩:=x
  simp only[fL,aY]
  exact⟨c,r++us,rfl,x1,aY.append x2 y⟩
theorem aR.cells{h:bK}{st:aB}{a:AV}{v:Value}(x:aR h st a v)(hj:a≠.junk):aY h st a.cells v.cells.toList:=by
 by_cases ha:a.isAgg=true
 · cases a<;>simp [AV.isAgg] at ha
   obtain⟨vs,rfl,hc⟩:=x.FK
   simpa [AV.cells,Value.cells] using hc
 · have ha':a.isAgg=false:=by simpa using ha
   have h1:=x.single ha' hj
   have h2:a.isAgg=mB v:=by cases a<;>first | exact absurd rfl hj | exact x.1
   rw[XP (h2.symm.trans ha')]
   have h3:a.cells= [a]:=by cases a<;>first | rfl | (simp [AV.isAgg] at ha')
   rw[h3]
   simp only[aY]
   exact⟨v,[],rfl,h1,rfl⟩
theorem aI5(off:Nat):∀(vs:List Value) (k:Nat) (cs:Array Value),off+k+vs.length≤cs.size →
 ((vs.zipIdx k).foldl (fun cs (x:Value×Nat)=>cs.setIfInBounds (off+x.2) x.1) cs).toList=cs.toList.take (off+k)++vs++cs.toList.drop (off+k+vs.length)
 | [],k,cs,_=>by simp
 | v::vs,k,cs,hl=>by
  simp only[List.zipIdx_cons,yW]
  rw[aI5 off vs (k+1) (cs.setIfInBounds (off+k) v) (by simp at hl ⊢;omega)]
  have hlt:off+k<cs.toList.length:=by simp at hl ⊢;omega
  simp only[Array.toList_setIfInBounds]
  have e1:(cs.toList.set (off+k) v).take (off+(k+1))=cs.toList.take (off+k)++ [v]:=by
   rw[show off+(k+1)=off+k+1 by omega,List.take_succ_eq_append_getElem (by simpa using hlt)]
   simp [List.take_set_of_le]
  have e2:(cs.toList.set (off+k) v).drop (off+(k+1)+vs.length)=cs.toList.drop (off+k+(v::vs).length):=by
   rw[List.drop_set_of_lt (by omega)]
   congr 1
   simp;omega
  rw[e1,e2]
  simp
theorem PS{h:bK}{st:aB}{place:Nat→Option (Nat×Nat)}:∀ {parts:List (Nat×AV)} {M7:List (Nat×Value)} {as r:List AV} {cs:Array Value},
 r0 h st parts M7→aY h st as cs.toList→pR place as parts=some r→∃cs',Instr.fill place cs M7=some cs'∧aY h st r cs'.toList
 | [],M7,as,r,cs,y,x,e=>by simp only[pR] at e;cases e;simp only[r0] at y;subst y;exact⟨cs,rfl,x⟩
 | (i,p)::parts,M7,as,r,cs,y,x,e=>by
  simp only[r0] at y
  obtain⟨⟨j,q⟩,rest,rfl,⟨y1,y2⟩,y3⟩:=y
  simp only at y1 y2
  subst y1
  simp only[pR] at e
  split at e
  · cases e
  · rename_i off size hp
    split at e
    · cases e
    · rename_i hc
      have hj:p≠.junk:=by intro hj;subst hj;simp [AV.cF] at hc
      have K3:=y2.cells hj
      have hl1:=K3.length
      have hl2:=x.length
      simp only[not_or,Decidable.not_not] at hc
      obtain⟨hc1,hc2,_⟩:=hc
      have hq:q.cells.size=size:=by rw[←hc1,←hl1];simp
      have aXT:off+q.cells.size≤cs.size:=by
       have:cs.size=as.length:=by rw[←hl2];simp
       omega
      have uH:=aI5 off q.cells.toList 0 cs (by simpa using aXT)
      have hx:aY h st (as.take off++p.cells++as.drop (off+size)) ((q.cells.toList.zipIdx 0).foldl (fun cs (x:Value×Nat)=>cs.setIfInBounds (off+x.2) x.1) cs).toList:=by
       rw[uH]
       have:=((x.take off).append K3).append (x.drop (off+size))
       simpa [hq] using this
      obtain⟨cs',f1,f2⟩:=PS (place:=place) y3 hx e
      refine⟨cs',?_,f2⟩
      have aXU:q.cells.zipIdx.foldl (fun cs (x:Value×Nat)=>cs.setIfInBounds (off+x.2) x.1) cs=(q.cells.toList.zipIdx 0).foldl (fun cs (x:Value×Nat)=>cs.setIfInBounds (off+x.2) x.1) cs:=by
       rw[←Array.foldl_toList];simp
      simp only[Instr.fill,hp,hq,ne_eq,LI,bZ,oV]
      rw[aE (by simp;omega)]
      rw[←f1,←aXU]
theorem VC.const(h:bK)(st:aB)(c:Value):VC h st (ofConst c) [c]:=by
 have x:=aR.const h st c
 have ha:(ofConst c).isAgg=false:=by unfold ofConst;split<;>first | rfl | (split<;>rfl)
 by_cases hj:ofConst c=.junk
 · rw[hj];simp [VC]
 · exact x.single ha hj
theorem aY.consts(h:bK)(st:aB):∀(cs:List Value),aY h st (cs.map ofConst) cs
 | []=>by simp [aY]
 | c::cs=>by simp only[bA,aY];exact⟨c,cs,rfl,VC.const h st c,aY.consts h st cs⟩
theorem zI_run{P:Program}{t:TypeId}{as:List AV}(e:zI P t=some as)(h:bK)(st:aB)(w:World):∃z,(zeroValue t).run P w=.ok z w∧aY h st as z.cells.toList:=by
 unfold zI at e
 split at e
 · rename_i i hi
   split at e
   · rename_i z hz
     cases e
     exact⟨z,by simp [zeroValue,typeInfo,hi,hz],aY.consts h st _⟩
   · cases e
 · cases e
theorem aMB{P:Program}{w:World}{α β:Type}(f:α→Sem β)(g:α→Option β)(hfg:∀x y,g x=some y→(f x).run P w=.ok y w):∀(l:List α) (r:List β),l.mapM g=some r→(l.mapM f).run P w=.ok r w
 | [],r,e=>by simp at e;subst e;rfl
 | x::l,r,e=>by
  rw[List.mapM_cons] at e
  cases hx:g x with
  | none=>rw[hx] at e;cases e
  | some y=>
   rw[hx] at e
   cases hl:l.mapM g with
   | none=>rw[hl] at e;cases e
   | some ys=>
    rw[hl] at e
    cases e
    simp only[List.mapM_cons,Sem.run_bind,hfg x y hx,Result.andThen_ok,aMB f g hfg l ys hl,Sem.run_pure]
def qQ(φ:AF)(parts:Array (Nat×Operand)):List (Nat×AV):=parts.toList.map fun p=>(p.1,φ.eval p.2)
theorem r0.parts{h:bK}{st:aB}{a:Act}{φ:AF}(F:eQ h st a.tmps φ):∀(l:List (Nat×Operand)),r0 h st (l.map fun p=>(p.1,φ.eval p.2)) (l.map fun p=>(p.1,a.eval p.2))
 | []=>by simp [r0]
 | p::l=>by simp only[bA,r0];exact⟨_,_,rfl,⟨rfl,aR.eval F p.2⟩,r0.parts F l⟩
def yP(P:Program)(φ:AF)(t:TypeId)(parts:Array (Nat×Operand)):Option AV:=
 match bI P t,zI P t with
 | some places,some zs=>(pR (fun i=>places[i]?) zs (qQ φ parts)).map .agg
 | _,_=>none
theorem aQ1{P:Program}{st:aB}{w:World}{a:Act}{φ:AF}{t:TypeId}{parts:Array (Nat×Operand)}{r:AV}{o:Oper}(ho:o.op=.build t parts)(F:eQ w.heap st a.tmps φ)(e:yP P φ t parts=some r) :
 jE st w r ((execOp a.eval o).run P w):=by
 unfold yP at e
 split at e
 case h_2=>cases e
 rename_i places zs hb hz
 cases hf:pR (fun i=>places[i]?) zs (qQ φ parts) with
 | none=>rw[hf] at e;cases e
 | some cs=>
  rw[hf] at e;cases e
  obtain⟨z,z1,z2⟩:=zI_run hz w.heap st w
  have hps:=r0.parts F parts.toList
  obtain⟨cs',f1,f2⟩:=PS (place:=fun i=>places[i]?) hps z2 hf
  unfold bI at hb
  split at hb
  case h_2=>cases hb
  rename_i fs hu
  have hm:(fs.mapM fun f=>(do pure (f.offset,←sizeOf f.type):Sem (Nat×Nat))).run P w=.ok places.toArray w:=by
   rw[Array.mapM_eq_mapM_toList]
   have:=aMB (P:=P) (w:=w) (fun f:Field=>(do pure (f.offset,←sizeOf f.type):Sem (Nat×Nat))) (fun f=>(P.info? f.type).map fun i=>(f.offset,i.size))
    (fun x y hy=>by
     cases hi:P.info? x.type with
     | none=>rw[hi] at hy;cases hy
     | some i=>rw[hi] at hy;cases hy;simp [sizeOf,typeInfo,hi]) fs.toList places hb
   simp only[Sem.run_map,this,Result.andThen_ok]
  have K6:((parts.map fun(i,x)=>(i,a.eval x)).toList:List (Nat×Value))=parts.toList.map fun p=>(p.1,a.eval p.2):=by simp
  refine .same (v:=.agg cs') ?_ ⟨rfl,by simpa [Value.cells,VC] using f2⟩
  simp only[execOp,ho,Instr.build,Sem.run_bind,z1,Result.andThen_ok,eJ hu,hm,K6]
  have:(fun i:Nat=>places.toArray[i]?)=fun i:Nat=>places[i]?:=by funext i;simp
  rw[this,f1]
  try rfl
theorem UP{n:Nat}:∀(ps:List AV) (k:Nat) (pre:List AV),pre.length=k*n→(∀p∈ps,p.width=n∧p.cF=false) →
 pR (fun i=>some (i*n,n)) (pre++List.replicate (ps.length*n) .junk) ((List.range' k ps.length).zip ps)=some (pre++ps.flatMap AV.cells)
 | [],k,pre,_,_=>by simp [pR]
 | p::ps,k,pre,hp,h=>by
  have hw:=(h p (by simp)).1
  have hj:=(h p (by simp)).2
  have hc:p.cells.length=n:=by rw[←hw];cases p<;>rfl
  simp only[aS,List.range'_succ,List.zip_cons_cons,pR,hc,hj]
  have hl:(pre++List.replicate ((ps.length+1)*n) AV.junk).length=k*n+(ps.length+1)*n:=by simp [hp]
  have hs:(ps.length+1)*n=ps.length*n+n:=qV _ _
  rw[aE (by rw[hl];simp;omega)]
  have e1:(pre++List.replicate ((ps.length+1)*n) AV.junk).take (k*n)=pre:=by rw[←hp];simp
  have e2:(pre++List.replicate ((ps.length+1)*n) AV.junk).drop (k*n+n)=List.replicate (ps.length*n) AV.junk:=by
   rw[List.drop_append,hp,BR (by rw[hp];omega)]
   simp;rw[hs];omega
  rw[e1,e2]
  have:=UP (n:=n) ps (k+1) (pre++p.cells) (by simp [hp,hc,qV]) (fun q hq=>h q (by simp [hq]))
  rw[this]
  simp
theorem I9{h:bK}{st:aB}{b:Nat}:∀ {es:List AV} {off:Nat} {vs:List Value},(∀e∈es,e.cF=false)→eY h b off vs→aY h st (es.flatMap AV.cells) vs→c9 h st b off es
 | [],_,_,_,_,_=>by simp [c9]
 | e::es,off,vs,hj,x,y=>by
  have hl:=y.length
  have hc:e.cells.length=e.width:=by cases e<;>rfl
  have y1:=y.take e.width
  have y2:=y.drop e.width
  rw[rW,BT (by omega),lO (by omega)] at y1
  rw[rW,List.drop_append_of_le_length (by omega),BR (by omega),eR] at y2
  simp only[c9]
  refine⟨⟨vs.take e.width,x.take e.width,?_,?_⟩,I9 (fun q hq=>hj q (by simp [hq])) (x.drop e.width) y2⟩
  · rw[y1.length,hc]
  · cases e
    case agg cs=>simpa [VC,AV.cells] using y1
    case junk=>have:=hj .junk (by simp);simp [AV.cF] at this
    all_goals
     simp only[AV.cells,aY] at y1
     obtain⟨c,r,e1,e2,e3⟩:=y1
     rw[e1,e3]
     exact e2
theorem aY.junk(h:bK)(st:aB):∀(vs:List Value),aY h st (List.replicate vs.length .junk) vs
 | []=>by simp [aY]
 | v::vs=>by simp only[aS,List.replicate_succ,aY];exact⟨v,vs,rfl,by simp [VC],aY.junk h st vs⟩
theorem FZ(h:bK)(c:Array Value)(t:TypeId)(fr:Nat×Nat):∀(vs:List Value) (off:Nat),c.toList.drop off=vs→eY (h.push (.cells c t fr)) h.size off vs
 | [],_,_=>trivial
 | v::vs,off,e=>by
  refine⟨?_,FZ h c t fr vs (off+1) ?_⟩
  · have:c.toList[off]?=some v:=by
     have:=gV (fun l=>l[0]?) e
     simpa using this
    simp only[cellAt,Array.getElem?_push,gA]
    simpa using this
  · rw[show off+1=off+1 from rfl,←EX,e]
    try rfl
def M9(ps:List (Nat×AV)):Bool:=ps.map (·.1) == List.range' 0 ps.length
def TU(ps:List AV)(ag:Bool)(sz:Nat):Bool:=ps.all fun p=>p.width == sz&&p.isAgg == ag&& !p.cF
def eZ(P:Program)(t:TypeId):Option (List AV):=
 match P.underlying t with
 | some (.slice e)=>zI P e
 | _=>none
theorem aO3{α β:Type}:∀(l:List (α×β)),(l.map (·.1)).zip (l.map (·.2))=l
 | []=>rfl
 | x::l=>by simp [aO3 l]
def BK(P:Program)(φ:AF)(t:TypeId)(len:Nat)(parts:Array (Nat×Operand)):Option AV:=
 match eI P t with
 | some (ag,sz)=>
  if M9 (qQ φ parts)=true∧TU ((qQ φ parts).map (·.2)) ag sz=true∧len=parts.size∧len*sz≤16777216∧len≤16777216∧(eZ P t).isSome=true then some (.fslice ((qQ φ parts).map (·.2))) else none
 | none=>none
theorem aQ0{P:Program}{st:aB}{w:World}{a:Act}{φ:AF}{t:TypeId}{len:Nat}{parts:Array (Nat×Operand)}{r:AV}{o:Oper}(ho:o.op=.buildSlice t len parts)(F:eQ w.heap st a.tmps φ)(S:cY w.heap st)
 (e:BK P φ t len parts=some r):jE st w r ((execOp a.eval o).run P w):=by
 unfold BK at e
 split at e
 case h_2=>cases e
 rename_i ag sz hI
 split at e
 case isFalse=>cases e
 rename_i hc
 cases e
 obtain⟨hs,hf,hlen,a6U,a6V,hZ⟩:=hc
 obtain⟨e',hu,hT⟩:=rB hI
 obtain⟨_,r2,_⟩:=tI_run hT w
 obtain⟨z,hz1⟩:∃z,(zeroValue e').run P w=.ok z w:=by
  obtain⟨zs,hzs⟩:=Option.isSome_iff_exists.1 hZ
  simp only[eZ,hu] at hzs
  obtain⟨z,h1,_⟩:=zI_run hzs w.heap st w
  exact⟨z,h1⟩
 generalize hps:qQ φ parts=ps at *
 have cZ:ps.length=len:=by rw[←hps,hlen];simp [qQ]
 have aKA:=r0.parts F parts.toList
 rw[show(parts.toList.map fun p=>(p.1,φ.eval p.2))=ps from hps] at aKA
 have K6:((parts.map fun(i,x)=>(i,a.eval x)).toList:List (Nat×Value))=parts.toList.map fun p=>(p.1,a.eval p.2):=by simp
 have dX:∀p∈ps.map (·.2),p.width=sz∧p.cF=false∧p.isAgg=ag:=by
  intro p hp
  have:=dW.1 hf p hp
  simp at this
  exact⟨this.1.1,this.2,this.1.2⟩
 have aY5:(List.range' 0 (ps.map (·.2)).length).zip (ps.map (·.2))=ps:=by
  have:ps.map (·.1)=List.range' 0 ps.length:=by simpa [M9] using hs
  rw[aF,←this]
  exact aO3 ps
 -- whatever the row holds at first
 have step:∀(cs:Array Value),cs.size=len*sz→∃cs',Instr.fill (fun i=>some (i*sz,sz)) cs (parts.toList.map fun p=>(p.1,a.eval p.2))=some cs'∧aY w.heap st ((ps.map (·.2)).flatMap AV.cells) cs'.toList:=by
  intro cs hcs
  have h0:aY w.heap st (List.replicate ((ps.map (·.2)).length*sz) .junk) cs.toList:=by
   have:=aY.junk w.heap st cs.toList
   rwa [show cs.toList.length=(ps.map (·.2)).length*sz by simp [hcs,cZ]] at this
  have h1:=UP (n:=sz) (ps.map (·.2)) 0 [] (by simp) (fun p hp=>⟨(dX p hp).1,(dX p hp).2.1⟩)
  rw[eR,eR,aY5] at h1
  exact PS (place:=fun i=>some (i*sz,sz)) aKA h0 h1
 have fin:∀cs':Array Value,aY w.heap st ((ps.map (·.2)).flatMap AV.cells) cs'.toList →
  aR (w.heap.push (.cells cs' e')) st (.fslice (ps.map (·.2))) (.slice (some ⟨w.heap.size,0,none⟩) len len):=by
  intro cs' hv
  have S':=(Ext.push w.heap (.cells cs' e')).step st
  refine⟨rfl,.inr ⟨w.heap.size,0,by simp [Value.cells,cZ],by simp only[aF,cZ];unfold maxLen;omega,?_,by simp,⟨sz,fun p hp=>(dX p hp).1⟩,?_⟩⟩
  · cases hst:st w.heap.size with
    | none=>rfl
    | some o=>exact absurd (S _ _ hst).1 (Nat.lt_irrefl _)
  · exact I9 (fun p hp=>(dX p hp).2.1) (FZ w.heap cs' e' (0,0) cs'.toList 0 rfl) (aY.mono S' _ _ hv)
 by_cases h0:len*sz=0
 · obtain⟨cs',f1,f2⟩:=step ((Array.range (len*sz)).map fun x=>(#[]:Array Value)[x % (#[]:Array Value).size]!) (by simp)
   refine⟨.slice (some ⟨w.heap.size,0,none⟩) len len,w.alloc (.cells cs' e'),?_,fin cs' f2,Ext.push _ _,⟨rfl,rfl,rfl⟩⟩
   simp only[execOp,ho,Instr.buildSlice,Sem.run_bind,eJ hu,Result.andThen_ok,r2]
   rw[aE (by omega),aH h0]
   simp only[Sem.run_bind,Sem.run_pure,Result.andThen_ok,K6]
   rw[f1]
   simp [newRow]
 · obtain⟨cs',f1,f2⟩:=step ((Array.range (len*sz)).map fun x=>z.cells[x % z.cells.size]!) (by simp)
   refine⟨.slice (some ⟨w.heap.size,0,none⟩) len len,w.alloc (.cells cs' e'),?_,fin cs' f2,Ext.push _ _,⟨rfl,rfl,rfl⟩⟩
   simp only[execOp,ho,Instr.buildSlice,Sem.run_bind,eJ hu,Result.andThen_ok,r2]
   rw[aE (by omega),aE h0]
   simp only[Sem.run_bind,hz1,Result.andThen_ok,Sem.run_pure,K6]
   rw[f1]
   simp [newRow]
def KE(P:Program)(t:TypeId):Bool:=match P.underlying t with
 | some (.struct fs)=>match fs.toList with
  | [f,g]=>f.name != "_" && g.name != "_" && f.offset == 0&&g.offset == 1&&(match P.underlying f.type with | some .string=>true | _=>false)&&(match P.underlying g.type with | some (.int _)=>true | _=>false)
   && (tI P f.type == some (false,1))&&(tI P g.type == some (false,1))&& !P.stoodInHeld t&& !P.eqGuardType P.depth t
  | _=>false
 | _=>false
theorem LP{P:Program}{t:TypeId}(h:tI P t=some (false,1))(cs:Array Value)(off:Nat)(v:Value)(hv:cs[off]?=some v)(w:World):(part t cs off).run P w=.ok v w:=by
 obtain⟨r1,r2,_⟩:=tI_run h w
 simp only[part,Sem.run_bind,r1,Result.andThen_ok,iL,dY,hv,Sem.run_pure]
theorem aVI{P:Program}{t:TypeId}(h:KE P t=true)(a b:ByteArray)(k:IntKind)(n m:Int)(w:World) :
 (Op.equalIn 10000 t (.agg #[.string a,.int k n]) (.agg #[.string b,.int k m])).run P w=.ok (decide (a=b)&&decide (n=m)) w ∧
 ∀op x y,(eqGuard op t x y (.agg #[.string a,.int k n]) (.agg #[.string b,.int k m])).run P w=.ok () w:=by
 unfold KE at h
 split at h
 case h_2=>cases h
 rename_i fs hu
 split at h
 case h_2=>cases h
 rename_i f g hfs
 simp only[cA,beq_iff_eq,bne_iff_ne,kQ] at h
 obtain⟨⟨⟨⟨⟨⟨⟨⟨⟨n1,n2⟩,o1⟩,o2⟩,u1⟩,u2⟩,t1⟩,t2⟩,hs⟩,hg⟩:=h
 have hf:P.fieldsOf t=fs:=by unfold Program.fieldsOf;rw[hu]
 refine⟨?_,fun op x y=>run_eqGuard_agg w op t x y _ _ hg⟩
 have hu1:P.underlying f.type=some .string:=by
  split at u1
  · assumption
  · cases u1
 obtain⟨k',hu2⟩:∃k',P.underlying g.type=some (.int k'):=by
  split at u2
  · exact⟨_,by assumption⟩
  · cases u2
 suffices key:∀d,(Op.equalIn (d+1+1) t (.agg #[.string a,.int k n]) (.agg #[.string b,.int k m])).run P w=.ok (decide (a=b)&&decide (n=m)) w from key 9998
 intro d
 rw[run_equalIn_struct w (d+1) t _ _ (by rw[hf];exact hu) hs,hf,hfs]
 have p1:=LP (P:=P) t1 #[.string a,.int k n] 0 (.string a) rfl
 have p2:=LP (P:=P) t1 #[.string b,.int k m] 0 (.string b) rfl
 have p3:=LP (P:=P) t2 #[.string a,.int k n] 1 (.int k n) rfl
 have p4:=LP (P:=P) t2 #[.string b,.int k m] 1 (.int k m) rfl
 have q1:=run_equalIn_string (P:=P) w d f.type a b hu1
 have q2:=run_equalIn_int (P:=P) w d g.type k k' n m hu2
 have hab:(a.toList == b.toList)=decide (a=b):=by
  by_cases h:a=b
  · subst h;simp
  · have h2:a.toList≠b.toList:=fun e=>h (by
     rw[ByteArray.toList_eq,ByteArray.toList_eq] at e
     exact ByteArray.ext (Array.ext' e))
    simp [h,h2]
 rw[hab] at q1
 have hnm:(n == m)=decide (n=m):=by by_cases h:n=m<;>simp [h]
 rw[hnm] at q2
 simp only[Op.eqFields,n1,n2,o1,o2,ne_eq,HC,gA,Sem.run_bind,p1,p2,p3,p4,q1,q2,Result.andThen_ok,Sem.run_ite,Sem.run_pure]
 generalize decide (a=b)=x
 generalize decide (n=m)=y
 cases x<;>cases y<;>rfl
theorem aR.aLE{h:bK}{st:aB}{a:AV}{v:Value}(x:a.isAgg=mB v∧VC h st a v.cells.toList):aR h st a v:=by
 cases a<;>first | trivial | exact x
theorem dU.get{h:bK}{st:aB}:∀ {as:List AV} {vs:List Value} (n:Nat) {a:AV},dU h st as vs→as[n]?=some a→∃v,vs[n]?=some v∧aR h st a v
 | [],_,n,a,_,e=>by simp at e
 | a'::as,vs,0,a,x,e=>by
  simp only[dU] at x
  obtain⟨c,r,rfl,x1,x2⟩:=x
  simp at e;subst e
  exact⟨c,rfl,aR.aLE x1⟩
 | a'::as,vs,n+1,a,x,e=>by
  simp only[dU] at x
  obtain⟨c,r,rfl,x1,x2⟩:=x
  simpa using dU.get n x2 (by simpa using e)
theorem aR.pair{h:bK}{st:aB}{a:AV}{v:Value}(x:aR h st a v)(hj:a.cF=false):a.isAgg=mB v∧VC h st a v.cells.toList:=by
 cases a<;>first | exact x | (simp [AV.cF] at hj)
def kP(as:List AV):Bool:=as.all fun a=> !a.cF
theorem dU.mk{h:bK}{st:aB}{a:Act}{φ:AF}(F:eQ h st a.tmps φ):∀(l:List Operand),kP (l.map φ.eval)=true→dU h st (l.map φ.eval) (l.map a.eval)
 | [],_=>by simp [dU]
 | o::l,hj=>by
  simp [kP] at hj
  simp only[bA,dU]
  exact⟨_,_,rfl,(aR.eval F o).pair hj.1,dU.mk F l (by simp [kP];exact hj.2)⟩
def wS(P:Program)(t:TypeId)(x:AV):Option AV:=
 match tI P t with
 | some (_,_)=>if x.cF then none else some (.pptr x)
 | none=>none
def n9(P:Program)(t:TypeId):AV→Option AV
 | .str s=>match P.underlying t with | some .string=>some (.int .i64 s.size) | _=>none
 | .slice es | .fslice es=>match P.underlying t with | some (.slice _)=>some (.int .i64 es.length) | _=>none
 | .mslice _ _ len _=>match P.underlying t with | some (.slice _)=>some (.int .i64 len) | _=>none
 | .eslice=>match P.underlying t with | some (.slice _)=>some (.int .i64 ((0:Nat):Int)) | _=>none
 | _=>none
def bytesOf:List AV→Option (List UInt8)
 | []=>some []
 | .int .u8 n::r=>(bytesOf r).map (UInt8.ofNat n.toNat:: ·)
 | _=>none
def tR(P:Program)(src dst:TypeId):AV→Option AV
 | .int _ n=>match P.underlying src,P.underlying dst with
  | some _,some (.int k)=>some (.int k (k.wrap n))
  | _,_=>none
 | .slice es | .fslice es=>match P.underlying src,P.underlying dst with
  | some (.slice e),some .string=>match P.underlying e with
   | some (.int .u8)=>match bytesOf es with
    | some bs=>some (.str ⟨bs.toArray⟩)
    | none=>none
   | _=>none
  | _,_=>none
 | _=>none
def RK:Value→AV
 | .agg cs=>.agg (cs.toList.map ofConst)
 | v=>ofConst v
def zV(P:Program)(t:TypeId):Option AV:=
 match P.info? t with
 | some i=>i.zero.map RK
 | none=>none
theorem aR.aU0(h:bK)(st:aB)(v:Value):aR h st (RK v) v:=by
 unfold RK
 split
 · rename_i cs
   exact⟨rfl,by simpa [Value.cells,VC] using aY.consts h st cs.toList⟩
 · exact aR.const h st v
theorem a5A{P:Program}{t:TypeId}{z:AV}(e:zV P t=some z)(h:bK)(st:aB)(w:World):∃v,(zeroValue t).run P w=.ok v w∧aR h st z v:=by
 unfold zV at e
 split at e
 · rename_i i hi
   cases hz:i.zero with
   | none=>rw[hz] at e;cases e
   | some v=>rw[hz] at e;cases e;exact⟨v,by simp [zeroValue,typeInfo,hi,hz],aR.aU0 h st v⟩
 · cases e
def oX(P:Program)(st:aB)(t:TypeId)(ok:Bool):AV→AV→Option AV
 | .map b,.int .i64 n=>match st b,P.underlying t with
  | some (.map f),some (.map k e)=>match P.underlying k,f n with
   | some (.int .i64),some v=>if v.cF then none else some (if ok then .tup [v,.bool true] else v)
   | some (.int .i64),none=>match zV P e with
    | some z=>if z.cF then none else some (if ok then .tup [z,.bool false] else z)
    | none=>none
   | _,_=>none
  | _,_=>none
 | _,_=>none
section
variable {P:Program} {st:aB} {w:World} {a:Act} {φ:AF}
theorem VV{t:TypeId}{x:Operand}{r:AV}{o:Oper}(ho:o.op=.box t x)(F:eQ w.heap st a.tmps φ)(S:cY w.heap st)(e:wS P t (φ.eval x)=some r):jE st w r ((execOp a.eval o).run P w):=by
 have y:=aR.eval F x
 unfold wS at e
 split at e
 case h_2=>cases e
 split at e
 · cases e
 rename_i hj
 cases e
 have hj':(φ.eval x).cF=false:=by simpa using hj
 have yp:=y.pair hj'
 refine⟨.pointer (some ⟨w.heap.size,0,none⟩),w.alloc (.cells (a.eval x).cells t),by simp [execOp,ho,Instr.box,newVar,newRow],?_,Ext.push _ _,⟨rfl,rfl,rfl⟩⟩
 have S':=(Ext.push w.heap (.cells (a.eval x).cells t)).step st
 refine⟨rfl,w.heap.size,0,rfl,?_,by simp,(a.eval x).cells.toList,FZ w.heap _ t (0,0) _ 0 rfl,?_,VC.mono S' _ _ yp.2⟩
 · cases hst:st w.heap.size with
   | none=>rfl
   | some o=>exact absurd (S _ _ hst).1 (Nat.lt_irrefl _)
 · have:=(y.cells (by intro h;rw[h] at hj';simp [AV.cF] at hj')).length
   rw[this]
   generalize φ.eval x=z
   cases z<;>rfl
theorem aZZ{t:TypeId}{x:Operand}{r:AV}{o:Oper}(ho:o.op=.call { callee:=.builtin .len,args:=#[x],argTypes:=#[t] })(F:eQ w.heap st a.tmps φ)(e:n9 P t (φ.eval x)=some r):jE st w r ((execOp a.eval o).run P w):=by
 have y:=aR.eval F x
 have run:∀ {n:Nat},(Builtin.len_ #[t] o.type #[a.eval x]).run P w=.ok (.int .i64 n) w→jE st w (.int .i64 n) ((execOp a.eval o).run P w):=by
  intro n h
  refine .same (v:=.int .i64 n) ?_ aR.qF
  simp only[execOp,ho,resolve,Sem.run_bind,Sem.run_pure,Result.andThen_ok,invoke,builtin]
  simp [h]
 unfold n9 at e
 split at e
 · rename_i s hx
   rw[hx] at y
   split at e
   · rename_i hu
     cases e
     exact run (by simp [Builtin.len_,eJ hu,y.D8.1,goInt])
   · cases e
 · rename_i es hx
   rw[hx] at y
   split at e
   · rename_i hu
     cases e
     rcases y.HS with ⟨⟨p0,hv⟩,rfl⟩ | ⟨b,off,cap,hv,_⟩
     · exact run (by simp [Builtin.len_,eJ hu,hv,goInt])
     · exact run (by simp [Builtin.len_,eJ hu,hv,goInt])
   · cases e
 · rename_i es hx
   rw[hx] at y
   split at e
   · rename_i hu
     cases e
     rcases y.zY with ⟨⟨p0,hv⟩,rfl⟩ | ⟨b,off,hv,_⟩
     · exact run (by simp [Builtin.len_,eJ hu,hv,goInt])
     · exact run (by simp [Builtin.len_,eJ hu,hv,goInt])
   · cases e
 · rename_i b off len n hx
   rw[hx] at y
   split at e
   · rename_i hu
     cases e
     obtain⟨cap,hv,_⟩:=y.AP
     exact run (by simp [Builtin.len_,eJ hu,hv,goInt])
   · cases e
 · rename_i hx
   rw[hx] at y
   split at e
   · rename_i hu
     cases e
     obtain⟨p,c,hv⟩:=y.PK
     exact run (by simp [Builtin.len_,eJ hu,hv,goInt])
   · cases e
 · cases e
theorem aV1{x:Operand}{i:Nat}{r:AV}{vs:List AV}{o:Oper}(ho:o.op=.extract x i)(F:eQ w.heap st a.tmps φ)(hx:φ.eval x=.tup vs)(e:vs[i]?=some r):jE st w r ((execOp a.eval o).run P w):=by
 have y:=aR.eval F x
 rw[hx] at y
 obtain⟨us,hv,hus⟩:=y.a4E
 obtain⟨v,hv',rv⟩:=hus.get i e
 exact .same (v:=v) (by simp [execOp,ho,Instr.extract,hv,hv']) rv
theorem a0D{g:FuncId}{dP:Array Operand}{o:Oper}(ho:o.op=.makeFunc (.func g) #[] dP)(F:eQ w.heap st a.tmps φ)(hj:kP (dP.toList.map φ.eval)=true) :
 jE st w (.func g (dP.toList.map φ.eval)) ((execOp a.eval o).run P w):=by
 refine .same (v:=.func (.func g) #[] (dP.map a.eval)) (by simp [execOp,ho,Instr.makeFunc]) ⟨rfl,dP.toList.map a.eval,?_,dU.mk F dP.toList hj⟩
 have:dP.map a.eval=(dP.toList.map a.eval).toArray:=by apply Array.ext';simp
 simp [Value.cells,this]
theorem VW{h:bK}{b:Nat}:∀ {es:List AV} {bs:List UInt8} {off:Nat},bytesOf es=some bs→c9 h st b off es →
 ∃vs,eY h b off vs∧vs.length=es.length∧∃ns:List Int,vs=ns.map (Value.int .u8)∧bs=ns.map fun n=>UInt8.ofNat n.toNat
 | [],bs,off,e,_=>by simp only[bytesOf] at e;cases e;exact⟨[],trivial,rfl,[],rfl,rfl⟩
 | x::es,bs,off,e,y=>by
  unfold bytesOf at e
  split at e
  · rename_i h;cases h
  · rename_i n r h
    cases h
    cases hb:bytesOf es with
    | none=>rw[hb] at e;cases e
    | some bs'=>
     rw[hb] at e;cases e
     simp only[c9] at y
     obtain⟨⟨cs,c1,c2,c3⟩,y2⟩:=y
     simp only[VC] at c3
     subst c3
     obtain⟨vs,v1,v2,ns,n1,n2⟩:=VW hb y2
     exact⟨.int .u8 n::vs,⟨c1.1,v1⟩,by simp [v2],n::ns,by simp [n1],by simp [n2]⟩
  · cases e
theorem aPE(es:List AV)(bs:List UInt8)(e:bytesOf es=some bs):bs.length=es.length:=by
 induction es generalizing bs with
 | nil=>simp only[bytesOf] at e;cases e;rfl
 | cons x es ih=>
  unfold bytesOf at e
  split at e
  · rename_i h;cases h
  · rename_i n r h
    cases h
    cases hb:bytesOf es with
    | none=>rw[hb] at e;cases e
    | some bs'=>rw[hb] at e;cases e;simp [ih _ hb]
  · cases e
theorem aU1{src dst:TypeId}{x:Operand}{r:AV}{o:Oper}(ho:o.op=.convert src dst x)(F:eQ w.heap st a.tmps φ)(e:tR P src dst (φ.eval x)=some r):jE st w r ((execOp a.eval o).run P w):=by
 have y:=aR.eval F x
 have bytes:∀ {es:List AV},aR w.heap st (.slice es) (a.eval x)→(match P.underlying src,P.underlying dst with
  | some (.slice e),some .string=>match P.underlying e with
   | some (.int .u8)=>match bytesOf es with
    | some bs=>some (AV.str ⟨bs.toArray⟩)
    | none=>none
   | _=>none
  | _,_=>none)=some r→jE st w r ((execOp a.eval o).run P w):=by
  intro es y e
  split at e
  case h_2=>cases e
  rename_i el hs hd
  split at e
  case h_2=>cases e
  rename_i he
  split at e
  case h_2=>cases e
  rename_i bs hb
  cases e
  have hlen:=aPE es bs hb
  rcases y.HS with ⟨⟨p0,hv⟩,rfl⟩ | ⟨b,off,cap,hv,l1,l2,e2,e3,ev,e4⟩
  · simp only[bytesOf] at hb;cases hb
    refine .same (v:=.string ByteArray.empty) ?_ ⟨rfl,rfl,jD _⟩
    simp only[execOp,ho,convert,Sem.run_bind,eJ hs,eJ hd,Result.andThen_ok,hv,eJ he]
    cases p0 with
    | none=>rfl
    | some a0=>
     have hk:=Go.run_bytesToString (P:=P) w a0 0 0 [] (by simp [loadCells,loadCellsFrom])
     rw[hk]
     try rfl
  · obtain⟨vs,v1,v2,ns,n1,n2⟩:=VW hb e4
    subst n1
    have hl:=aL9 (P:=P) v1
    rw[aF] at hl
    have hns:ns.length=es.length:=by simpa using v2
    refine .same (v:=.string ⟨bs.toArray⟩) ?_ ⟨rfl,rfl,by simp [ByteArray.size,hlen];unfold maxLen at *;omega⟩
    simp only[execOp,ho,convert,Sem.run_bind,eJ hs,eJ hd,Result.andThen_ok,hv,eJ he]
    have hk:=Go.run_bytesToString (P:=P) w ⟨b,off,none⟩ es.length cap ns (by rw[←hns];exact hl)
    rw[hk]
    simp only[Result.andThen_ok,Sem.run_pure]
    rw[foldl_push_bytes ns ByteArray.empty,n2]
    simp [ByteArray.empty,ByteArray.emptyWithCapacity]
    rfl
 unfold tR at e
 split at e
 · rename_i k n hx
   rw[hx] at y
   split at e
   · rename_i d k' hs hd
     cases e
     refine .same (v:=.int k' (k'.wrap n)) ?_ aR.qF
     simp only[execOp,ho,convert,Sem.run_bind,eJ hs,eJ hd,Result.andThen_ok,y.jZ]
     cases d<;>simp [Conv.intToInt]
   · cases e
 · rename_i es hx
   rw[hx] at y
   exact bytes y e
 · rename_i es hx
   rw[hx] at y
   exact bytes y.GN e
 · cases e
theorem GK(n:Int):∀(es:List MapEntry) (i:Nat),(∀e∈es,∃m,e.key=.int .i64 m) →
 (∃j e,es[j]?=some e∧e.key=.int .i64 n∧Instr.findNow (.int .i64) (.int .i64 n) es i=some (some (i+j,e.val))) ∨
 ((∀e∈es,e.key≠.int .i64 n)∧Instr.findNow (.int .i64) (.int .i64 n) es i=some none)
 | [],i,_=>.inr ⟨by simp,rfl⟩
 | e::es,i,h=>by
  obtain⟨m,hm⟩:=h e (by simp)
  by_cases hmn:m=n
  · subst hmn
    exact .inl ⟨0,e,rfl,hm,by simp [Instr.findNow,Instr.sameNow,hm]⟩
  · have hne:(n == m)=false:=by simpa using fun q=>hmn q.symm
    have step:Instr.findNow (.int .i64) (.int .i64 n) (e::es) i=Instr.findNow (.int .i64) (.int .i64 n) es (i+1):=by
     simp [Instr.findNow,Instr.sameNow,hm,hne]
    rw[step]
    rcases GK n es (i+1) (fun e he=>h e (by simp [he])) with ⟨j,e',h1,h2,h3⟩ | ⟨h1,h2⟩
    · exact .inl ⟨j+1,e',by simpa using h1,h2,by rw[h3];congr 3;omega⟩
    · refine .inr ⟨fun e' he'=>?_,h2⟩
      rcases cX.1 he' with rfl | he'
      · rw[hm];simpa using hmn
      · exact h1 e' he'
theorem aUL{kt:TypeId}(hk:P.underlying kt=some (.int .i64))(b:Bool)(n:Int)(m:Nat):(Instr.checkKey b (m+1) kt (.int .i64 n)).run P w=.ok () w:=by
 simp only[Instr.checkKey,Sem.run_bind,eJ hk,Result.andThen_ok]
 rfl
theorem CO{kt:TypeId}(hk:P.underlying kt=some (.int .i64))(b:Bool)(n:Int):(Instr.checkKey b 10000 kt (.int .i64 n)).run P w=.ok () w:=aUL hk b n 9999
theorem CY{b:Nat}{es:Array MapEntry}{cl:Nat}(h:w.heap[b]?=some (.map es cl)):(getObj b).run P w=.ok (.map es cl) w:=by
 simp only[getObj,Sem.run,h]
theorem a0B{t:TypeId}{x i:Operand}{ok:Bool}{r:AV}{o:Oper}(ho:o.op=.lookup t x i ok)(F:eQ w.heap st a.tmps φ)(S:cY w.heap st)(e:oX P st t ok (φ.eval x) (φ.eval i)=some r):jE st w r ((execOp a.eval o).run P w):=by
 have y:=aR.eval F x
 have yi:=aR.eval F i
 unfold oX at e
 split at e
 case h_2=>cases e
 rename_i b n hx hi
 rw[hx] at y
 rw[hi] at yi
 split at e
 case h_2=>cases e
 rename_i f k el hs hu
 obtain⟨_,es,cl,hb,hk1,hk2,hk3⟩:=S b _ hs
 have hn:=hk3 n
 have fin:∀ {v:Value} {z:AV} {q:Bool},z.cF=false→aR w.heap st z v→(execOp a.eval o).run P w=.ok (.value (if ok then .tuple #[v,.bool q] else v)) w→jE st w (if ok then .tup [z,.bool q] else z) ((execOp a.eval o).run P w):=by
  intro v z q hz hv hr
  refine .same hr ?_
  cases ok with
  | true=>exact⟨rfl,[v,.bool q],by simp [Value.cells],by simp only[dU];exact⟨v,_,rfl,hv.pair hz,_,_,rfl,⟨rfl,by simp [VC,Value.cells]⟩,rfl⟩⟩
  | false=>exact hv
 split at e
 · rename_i v hk hf
   rw[hf] at hn
   obtain⟨en,hen,aJZ,hv⟩:=hn
   split at e
   · cases e
   rename_i hvj
   cases e
   have aYZ:v.cF=false:=by simpa using hvj
   rcases GK n es.toList 0 hk1 with ⟨j,e',h1,h2,h3⟩ | ⟨h1,_⟩
   · have hee:e'=en:=by
      obtain⟨j',hj'⟩:=BS hen
      have hjj:j=j':=by
       have a1:(es.toList.map (·.key))[j]?=some (.int .i64 n):=by simp [h1,h2]
       have a2:(es.toList.map (·.key))[j']?=some (.int .i64 n):=by simp [hj',aJZ]
       exact(List.getElem?_inj (by have:=(gP.1 a1).1;simpa using this) hk2).1 (a1.trans a2.symm)
      subst hjj
      rw[h1] at hj';exact nK hj'
     subst hee
     refine fin aYZ hv ?_
     simp only[execOp,ho,Instr.lookup,Sem.run_bind,eJ hu,Result.andThen_ok,y.DQ,yi.jZ,CY hb,Sem.run_pure,CO hk,Instr.findKey,eJ hk,h3]
   · exact absurd aJZ (h1 en hen)
 · rename_i hk hf
   rw[hf] at hn
   rcases GK n es.toList 0 hk1 with ⟨j,e',h1,h2,h3⟩ | ⟨_,h3⟩
   · exact absurd h2 (hn e' (cP h1))
   · split at e
     case h_2=>cases e
     rename_i z hz
     split at e
     · cases e
     rename_i hzj
     cases e
     obtain⟨v,z1,z2⟩:=a5A hz w.heap st w
     refine fin (by simpa using hzj) z2 ?_
     simp only[execOp,ho,Instr.lookup,Sem.run_bind,eJ hu,Result.andThen_ok,y.DQ,yi.jZ,CY hb,Sem.run_pure,CO hk,Instr.findKey,eJ hk,h3,z1]
 · cases e
end
def d9(P:Program)(op:BinOp)(t:TypeId)(x y:AV):Option AV:=
 match x,y with
 | .bool a,.bool b=>match P.underlying t,op with
  | some .bool,.eql=>some (.bool (a == b))
  | some .bool,.neq=>some (.bool (!(a == b)))
  | _,_=>none
 | .agg [.str a,.int k n],.agg [.str b,.int k' m]=>if k=k'∧KE P t=true then match op with
  | .eql=>some (.bool (decide (a=b)&&decide (n=m)))
  | .neq=>some (.bool (!(decide (a=b)&&decide (n=m))))
  | _=>none
  else none
 | .pptr _,.nilptr=>match P.underlying t,op with
  | some (.pointer _),.eql=>some (.bool false)
  | some (.pointer _),.neq=>some (.bool true)
  | _,_=>none
 | .nilptr,.nilptr=>match P.underlying t,op with
  | some (.pointer _),.eql=>some (.bool true)
  | some (.pointer _),.neq=>some (.bool false)
  | _,_=>none
 | x,y=>kL op x y
theorem aPP{P:Program}{h:bK}{st:aB}{w:World}{op:BinOp}{t:TypeId}{p q r:AV}{u v:Value}(e:d9 P op t p q=some r)(hp:aR h st p u)(hq:aR h st q v) :
 ∃z,(binOp op t u v).run P w=.ok z w∧aR h st r z∧∀x y,(eqGuard op t x y u v).run P w=.ok () w:=by
 unfold d9 at e
 split at e
 · rename_i a b
   rw[hp.zH,hq.zH]
   have hg:∀x y,(eqGuard op t x y (.bool a) (.bool b)).run P w=.ok () w:=fun x y=>by rw[eqGuard_at_bool];try rfl
   split at e
   · rename_i hu;cases e;exact⟨_,run_eql_bool w t a b hu,aR.lQ,hg⟩
   · rename_i hu;cases e;exact⟨_,run_neq_bool w t a b hu,aR.lQ,hg⟩
   · cases e
 · rename_i a k n b k' m
   split at e
   case isFalse=>cases e
   rename_i hk
   obtain⟨rfl,hk⟩:=hk
   obtain⟨vs,rfl,h1⟩:=hp.FK
   obtain⟨us,rfl,h2⟩:=hq.FK
   simp only[aY,VC] at h1 h2
   obtain⟨v1,r1,rfl,h3,v2,r2,rfl,h4,rfl⟩:=h1
   obtain⟨u1,s1,rfl,h5,u2,s2,rfl,h6,rfl⟩:=h2
   obtain rfl:v1=.string a:=by simpa using h3.1
   obtain rfl:u1=.string b:=by simpa using h5.1
   obtain rfl:v2=.int k n:=by simpa using h4
   obtain rfl:u2=.int k m:=by simpa using h6
   obtain⟨q1,q2⟩:=aVI (P:=P) hk a b k n m w
   split at e
   · cases e
     exact⟨_,by rw[run_eql_struct,q1];try rfl,aR.lQ,fun x y=>q2 _ x y⟩
   · cases e
     exact⟨_,by rw[run_neq_struct,q1];try rfl,aR.lQ,fun x y=>q2 _ x y⟩
   · cases e
 · obtain⟨b,off,rfl,_⟩:=hp.LR
   obtain rfl:=hq.RD
   split at e
   · rename_i pe hu
     cases e
     exact⟨_,run_eql_pointer_nil w t _ (by unfold Program.pointee;rw[hu]),aR.lQ,fun x y=>by rw[eqGuard_at_pointer];try rfl⟩
   · rename_i pe hu
     cases e
     exact⟨_,run_neq_pointer_nil w t _ (by unfold Program.pointee;rw[hu]),aR.lQ,fun x y=>by rw[eqGuard_at_pointer];try rfl⟩
   · cases e
 · obtain rfl:=hp.RD
   obtain rfl:=hq.RD
   split at e
   · rename_i pe hu
     cases e
     exact⟨_,run_eql_pointer_nil w t _ (by unfold Program.pointee;rw[hu]),aR.lQ,fun x y=>by rw[eqGuard_at_pointer];try rfl⟩
   · rename_i pe hu
     cases e
     exact⟨_,run_neq_pointer_nil w t _ (by unfold Program.pointee;rw[hu]),aR.lQ,fun x y=>by rw[eqGuard_at_pointer];try rfl⟩
   · cases e
 · exact aPQ e hp hq
def xC:AV→AV→Option AV
 | .int k x,.int k' y=>if k=k' then some (.int k (if x<y then y else x)) else none
 | _,_=>none
theorem a0K{P:Program}{st:aB}{w:World}{a:Act}{φ:AF}{ts:Array TypeId}{x y:Operand}{r:AV}{o:Oper}(ho:o.op=.call { callee:=.builtin .max,args:=#[x,y],argTypes:=ts })(F:eQ w.heap st a.tmps φ)(e:xC (φ.eval x) (φ.eval y)=some r):jE st w r ((execOp a.eval o).run P w):=by
 have y1:=aR.eval F x
 have y2:=aR.eval F y
 unfold xC at e
 split at e
 case h_2=>cases e
 rename_i k n k' m h1 h2
 split at e
 case isFalse=>cases e
 rename_i hk
 subst hk
 cases e
 rw[h1] at y1
 rw[h2] at y2
 refine .same (v:=.int k (if n<m then m else n)) ?_ aR.qF
 simp only[execOp,ho,resolve,Sem.run_bind,Sem.run_pure,Result.andThen_ok,invoke,builtin]
 have:=run_max_int2 (P:=P) w ts o.type k k n m
 simp only[gt_iff_lt] at this
 simp [y1.jZ,y2.jZ,this]
def B4:AV→AV→Option AV
 | .int k x,.int k' y=>if k=k' then some (.int k (if y<x then y else x)) else none
 | _,_=>none
theorem a0M{P:Program}{st:aB}{w:World}{a:Act}{φ:AF}{ts:Array TypeId}{x y:Operand}{r:AV}{o:Oper}(ho:o.op=.call { callee:=.builtin .min,args:=#[x,y],argTypes:=ts })(F:eQ w.heap st a.tmps φ)(e:B4 (φ.eval x) (φ.eval y)=some r):jE st w r ((execOp a.eval o).run P w):=by
 have y1:=aR.eval F x
 have y2:=aR.eval F y
 unfold B4 at e
 split at e
 case h_2=>cases e
 rename_i k n k' m h1 h2
 split at e
 case isFalse=>cases e
 rename_i hk
 subst hk
 cases e
 rw[h1] at y1
 rw[h2] at y2
 refine .same (v:=.int k (if m<n then m else n)) ?_ aR.qF
 simp only[execOp,ho,resolve,Sem.run_bind,Sem.run_pure,Result.andThen_ok,invoke,builtin]
 have:=run_min_int2 (P:=P) w ts o.type k k n m
 simp [y1.jZ,y2.jZ,this]
def lD(P:Program)(φ:AF)(st:aB)(o:Oper):Option AV:=
 match o.op with
 | .move x=>some (φ.eval x)
 | .assign x=>some (φ.eval x)
 | .pick c x y=>match φ.eval c with | .bool b=>some (if b then φ.eval x else φ.eval y) | _=>none
 | .binOp op t x y _=>d9 P op t (φ.eval x) (φ.eval y)
 | .unOp op _ x=>FH op (φ.eval x)
 | .nilCheck x=>match φ.eval x with | .ptr b q=>some (.ptr b q) | .pptr e=>some (.pptr e) | _=>none
 | .fieldAddr t x f=>rU P t f (φ.eval x)
 | .load t x=>g8 P st t (φ.eval x)
 | .field t x f=>match fI P t f,φ.eval x with | some (off,ag,sz),.agg cs=>sub ag cs off sz | _,_=>none
 | .indexAddr t x i=>dF P t (φ.eval x) (φ.eval i)
 | .index t x i=>B3 P t (φ.eval x) (φ.eval i)
 | .slice t x lo hi mx=>g7 P φ t (φ.eval x) lo hi mx
 | .extract x i=>match φ.eval x with | .tup vs=>vs[i]? | _=>none
 | .makeFunc (.func g) first dP=>if first.size=0∧kP (dP.toList.map φ.eval)=true then some (.func g (dP.toList.map φ.eval)) else none
 | .build t parts=>yP P φ t parts
 | .buildSlice t len parts=>BK P φ t len parts
 | .convert src dst x=>tR P src dst (φ.eval x)
 | .box t x=>wS P t (φ.eval x)
 | .lookup t x i ok=>oX P st t ok (φ.eval x) (φ.eval i)
 | .call { callee:=.builtin .len,args,argTypes }=>match args.toList,argTypes.toList with | [x],[t]=>n9 P t (φ.eval x) | _,_=>none
 | .call { callee:=.builtin .max,args,argTypes }=>match args.toList with | [x,y]=>xC (φ.eval x) (φ.eval y) | _=>none
 | .call { callee:=.builtin .min,args,argTypes }=>match args.toList with | [x,y]=>B4 (φ.eval x) (φ.eval y) | _=>none
 | _=>none
theorem aPY{P:Program}{st:aB}{w:World}{a:Act}{φ:AF}{o:Oper}{r:AV}(F:eQ w.heap st a.tmps φ)(S:cY w.heap st)(e:lD P φ st o=some r):jE st w r ((execOp a.eval o).run P w):=by
 unfold lD at e
 split at e
 case h_1 x ho=>cases e;exact .same (v:=a.eval x) (by simp [execOp,ho]) (aR.eval F x)
 case h_2 x ho=>cases e;exact .same (v:=a.eval x) (by simp [execOp,ho]) (aR.eval F x)
 case h_3 c x y ho=>
  split at e
  · rename_i b hc
    cases e
    have yc:=aR.eval F c
    rw[hc] at yc
    refine .same (v:=if b then a.eval x else a.eval y) (by simp [execOp,ho,yc.zH,asBool]) ?_
    cases b
    · exact aR.eval F y
    · exact aR.eval F x
  · cases e
 case h_4 op t x y t' ho=>
  obtain⟨z,z1,z2,z3⟩:=aPP (P:=P) (w:=w) (t:=t) e (aR.eval F x) (aR.eval F y)
  exact .same (v:=z) (by simp [execOp,ho,z1,z3]) z2
 case h_5 op t x ho=>
  have y:=aR.eval F x
  unfold FH at e
  split at e
  · rename_i b hx
    rw[hx] at y
    cases op<;>simp only[] at e<;>cases e
    exact .same (v:=.bool (!b)) (by simp [execOp,ho,y.zH,Op.unary]) aR.lQ
  · rename_i k n hx
    rw[hx] at y
    cases op<;>simp only[] at e<;>cases e
    exact .same (v:=.int k (k.wrap (0 - n))) (by simp [execOp,ho,y.jZ,Op.unary,Op.intArith]) aR.qF
  · cases e
 case h_6 x ho=>
  have y:=aR.eval F x
  split at e
  · rename_i b q hx
    rw[hx] at y
    cases e
    exact .same (v:=.pointer (some ⟨b,q,none⟩)) (by simp [execOp,ho,y.A1]) ⟨rfl,rfl⟩
  · rename_i e' hx
    rw[hx] at y
    cases e
    obtain⟨b,q,hv,_⟩:=y.LR
    exact .same (v:=.pointer (some ⟨b,q,none⟩)) (by simp [execOp,ho,hv]) (by rw[←hv];exact y)
  · cases e
 case h_7 t x f ho=>exact aWE ho F e
 case h_8 t x ho=>exact aZ6 ho F S e
 case h_9 t x f ho=>
  split at e
  · rename_i off ag sz cs hI hx;exact aWF ho F hI hx e
  · cases e
 case h_10 t x i ho=>exact aZH ho F e
 case h_11 t x i ho=>exact aZI ho F e
 case h_12 t x lo hi mx ho=>exact a2R ho F e
 case h_13 x i ho=>
  split at e
  · rename_i vs hx;exact aV1 ho F hx e
  · cases e
 case h_14 g first dP ho=>
  split at e
  · rename_i hc
    cases e
    have:first= #[]:=NA hc.1
    subst this
    exact a0D ho F hc.2
  · cases e
 case h_15 t parts ho=>exact aQ1 ho F e
 case h_16 t len parts ho=>exact aQ0 ho F S e
 case h_17 src dst x ho=>exact aU1 ho F e
 case h_18 t x ho=>exact VV ho F S e
 case h_19 t x i ok ho=>exact a0B ho F S e
 case h_20 args ats ho=>
  split at e
  · rename_i x t hx ht
    obtain rfl:args= #[x]:=by rw[←tH (xs:=args),hx]
    obtain rfl:ats= #[t]:=by rw[←tH (xs:=ats),ht]
    exact aZZ ho F e
  · cases e
 case h_21 args ats ho=>
  split at e
  · rename_i x y hx
    obtain rfl:args= #[x,y]:=by rw[←tH (xs:=args),hx]
    exact a0K ho F e
  · cases e
 case h_22 args ats ho=>
  split at e
  · rename_i x y hx
    obtain rfl:args= #[x,y]:=by rw[←tH (xs:=args),hx]
    exact a0M ho F e
  · cases e
 case h_23=>cases e
end Go.AW
