/- Loops whose frame is kept, lists that are walked, lists that grow. -/
import Derived.Test.YtepkgoabhlnkbaaGreatDoorSese
set_option linter.unusedSimpArgs false
set_option linter.unusedVariables false
set_option maxRecDepth 100000
namespace Go.AW
def keepL (φ : AF) : List Nat → List (Nat × AV) → List (Nat × AV)
 | [], l => l
 | d :: ds, l => (d, φ d) :: keepL φ ds l
theorem ev_keepL0 {φ : AF} {l : List (Nat × AV)} : keepL φ [] l = l := rfl
theorem ev_keepL1 {φ : AF} {d : Nat} {ds : List Nat} {l : List (Nat × AV)} : keepL φ (d :: ds) l = (d, φ d) :: keepL φ ds l := rfl
theorem zy5 {P : Program} {N : Nat} {c : Code} {Q : Exit → AF → zy7 → Prop} {φ : AF} {st : zy7} {α σ : Type} (mt : List Nat) (keep : List Nat) (l : List α) (inv : Nat → σ → Prop) (ch : Nat → σ → List (Nat × AV)) (so : Nat → σ → zy7)
 (hok : codeOk N c = true)
 (h0 : ∃ s, inv 0 s ∧ zx7 φ st (keepL φ keep (ch 0 s)) (so 0 s))
 (h1 : ∀ i x s, l[i]? = some x → i < l.length → ((i : Int) < (l.length : Int)) → l.drop i = x :: l.drop (i + 1) → inv i s → aCode P N mt c (loopQ (fun φ' st' => ∃ s', inv (i + 1) s' ∧ zx7 φ' st' (keepL φ keep (ch (i + 1) s')) (so (i + 1) s')) Q) (frU (keepL φ keep (ch i s))) (so i s))
 (h2 : ∀ s, ¬ ((l.length : Int) < (l.length : Int)) → inv l.length s → aCode P N mt c (loopQ (fun _ _ => False) Q) (frU (keepL φ keep (ch l.length s))) (so l.length s)) : ARun P N (.loop c) Q φ st := by
 have weak : ∀ (k : AF → zy7 → Prop) (i : Nat) (s : σ), (∀ φ' st', (∃ s', inv (i + 1) s' ∧ zx7 φ' st' (keepL φ keep (ch (i + 1) s')) (so (i + 1) s')) → k φ' st') →
  ARun P N c (loopQ (fun φ' st' => ∃ s', inv (i + 1) s' ∧ zx7 φ' st' (keepL φ keep (ch (i + 1) s')) (so (i + 1) s')) Q) (frL (keepL φ keep (ch i s))) (so i s) →
  ARun P N c (loopQ k Q) (frL (keepL φ keep (ch i s))) (so i s) := by
  intro k i s hk hr a w R
  refine wp_mono (hr a w R) ?_
  rintro e a' w' ⟨φ', st', R', T, sm, q⟩
  refine ⟨φ', st', R', T, sm, ?_⟩
  cases e with
  | normal => exact hk _ _ q
  | _ => exact q
 refine arun_loop (α := Nat × σ) (fun p => p.1 ≤ l.length ∧ inv p.1 p.2) (fun p => frL (keepL φ keep (ch p.1 p.2))) (fun p => so p.1 p.2) (fun p => l.length - p.1) ?_ ?_
 · obtain ⟨s, hs, hl⟩ := h0
   exact ⟨(0, s), ⟨Nat.zero_le _, hs⟩, hl⟩
 · rintro ⟨i, s⟩ ⟨hi, hs⟩
   simp only at hi hs ⊢
   rcases Nat.lt_or_ge i l.length with hlt | hge
   · refine weak _ i s ?_ (arun_code mt hok (h1 i l[i] s (List.getElem?_eq_getElem hlt) hlt (by omega) (List.drop_eq_getElem_cons hlt) hs))
     rintro φ' st' ⟨s', h1', h2'⟩
     exact ⟨(i + 1, s'), by simp only; omega, ⟨by simp only; omega, h1'⟩, h2'⟩
   · obtain rfl : i = l.length := by omega
     intro a w R
     refine wp_mono (arun_code mt hok (h2 s (by omega) hs) a w R) ?_
     rintro e a' w' ⟨φ', st', R', T, sm, q⟩
     refine ⟨φ', st', R', T, sm, ?_⟩
     cases e with
     | normal => exact q.elim
     | _ => exact q
theorem zw5 {P : Program} {N : Nat} {c : Code} {Q : Exit → AF → zy7 → Prop} {φ : AF} {st : zy7} {σ : Type} (mt : List Nat) (keep : List Nat) (inv : σ → Prop) (ch : σ → List (Nat × AV)) (so : σ → zy7) (μ : σ → Nat)
 (hok : codeOk N c = true)
 (h0 : ∃ s, inv s ∧ zx7 φ st (keepL φ keep (ch s)) (so s))
 (h1 : ∀ s, inv s → aCode P N mt c (loopQ (fun φ' st' => ∃ s', μ s' < μ s ∧ inv s' ∧ zx7 φ' st' (keepL φ keep (ch s')) (so s')) Q) (frU (keepL φ keep (ch s))) (so s)) : ARun P N (.loop c) Q φ st :=
 zy6 mt inv (fun s => keepL φ keep (ch s)) so μ hok h0 h1
theorem zq4 {b : Bool} {p q : Prop} (h1 : b = true → p) (h2 : b = false → q) : (b = true → p) ∧ (b = false → q) := ⟨h1, h2⟩
theorem ev_lenT {P : Program} {t : TypeId} {s : ByteArray} : aLen P t (.str s) = match P.underlying t with | some .string => some (.int .i64 s.size) | _ => none := rfl
theorem ev_lenS {P : Program} {t : TypeId} {es : List AV} : aLen P t (.slice es) = match P.underlying t with | some (.slice _) => some (.int .i64 es.length) | _ => none := rfl
theorem ev_lenF {P : Program} {t : TypeId} {es : List AV} : aLen P t (.fslice es) = match P.underlying t with | some (.slice _) => some (.int .i64 es.length) | _ => none := rfl
theorem ev_lenM {P : Program} {t : TypeId} {b o n w : Nat} : aLen P t (.mslice b o n w) = match P.underlying t with | some (.slice _) => some (.int .i64 n) | _ => none := rfl
def accV (w b : Nat) : List AV → AV
 | [] => .fslice []
 | x :: l => .mslice b 0 (x :: l).length w
def accS (st : zy7) (b : Nat) : List AV → zy7
 | [] => st
 | x :: l => st.upd b (.cells ((x :: l).flatMap AV.cells))
theorem accV_nil {w b : Nat} : accV w b [] = .fslice [] := rfl
theorem accS_nil {st : zy7} {b : Nat} : accS st b [] = st := rfl
theorem accV_cons {w b : Nat} {l : List AV} (h : l ≠ []) : accV w b l = .mslice b 0 l.length w := by cases l <;> first | exact absurd rfl h | rfl
theorem accS_cons {st : zy7} {b : Nat} {l : List AV} (h : l ≠ []) : accS st b l = st.upd b (.cells (l.flatMap AV.cells)) := by cases l <;> first | exact absurd rfl h | rfl
theorem accS_ne {st : zy7} {b x : Nat} {l : List AV} (h : x ≠ b) : accS st b l x = st x := by cases l <;> first | rfl | exact zy7.upd_ne _ _ h
theorem accS_none {st : zy7} {b x : Nat} {l : List AV} (h : accS st b l x = none) : st x = none ∧ (l ≠ [] → x ≠ b) := by
 cases l with
 | nil => exact ⟨h, fun h => absurd rfl h⟩
 | cons y l =>
  simp only [accS, zy7.upd] at h
  split at h
  · cases h
  · rename_i hn; exact ⟨h, fun _ => hn⟩
theorem accV_junk {w b : Nat} {l : List AV} : (accV w b l).isJunk = false := by cases l <;> rfl
theorem accV_agg {w b : Nat} {l : List AV} : (accV w b l).isAgg = false := by cases l <;> rfl
theorem accV_width {w b : Nat} {l : List AV} : (accV w b l).width = 1 := by cases l <;> rfl
theorem accV_cells {w b : Nat} {l : List AV} : (accV w b l).cells = [accV w b l] := by cases l <;> rfl
theorem accV_store {w b : Nat} {l : List AV} : (accV w b l).storable = true := by cases l <;> rfl
theorem accV_len {P : Program} {t e : TypeId} {w b : Nat} {l : List AV} (h : P.underlying t = some (.slice e)) : aLen P t (accV w b l) = some (.int .i64 (l.length : Int)) := by
 cases l <;> simp [accV, aLen, h]
theorem Drops.accS {st st' : zy7} (x : Drops st st') {b : Nat} {l : List AV} (h : l ≠ [] → st' b = none) : Drops (accS st b l) st' := by
 cases l with
 | nil => exact x
 | cons y l => exact x.upd (h (by simp))
theorem acc_append {P : Program} {t : TypeId} {ag : Bool} {w bytes : Nat} {zs : List AV} {st : zy7} {b : Nat} {l xs : List AV} {x : AV} {K : AV → zy7 → Prop}
 (hI : eI P t = some (ag, w)) (hB : eB P t = some bytes) (hZ : eZ P t = some zs) (hz : zs.length = w) (hx : aElems x = some xs) (hfit : appFit w xs) (hw : ∀ e ∈ l, e.width = w) (hb : l ≠ [] → st b = none)
 (h1 : (l.length + xs.length) * bytes ≤ 140737488355328) (h2 : l.length + xs.length ≤ 9223372036854775807)
 (hK : ∀ b', (l ++ xs ≠ [] → st b' = none) → K (accV w b' (l ++ xs)) (accS st b' (l ++ xs))) : aAppend P t (accS st b l) (accV w b l) x K := by
 unfold aAppend
 rw [hI, hB, hZ, hx]
 refine ⟨hz, hfit, ?_⟩
 cases l with
 | nil =>
  show _ ∧ _ ∧ _ ∧ _ ∧ _
  refine ⟨by simpa using h1, by simpa using h2, by simp, ?_, ?_⟩
  · rintro rfl
    have := hK b (by simp)
    simpa [accV, accS] using this
  · intro hne b' hb'
    have := hK b' (fun _ => hb')
    rw [List.nil_append, accV_cons hne, accS_cons hne] at this
    simpa [accS] using this
 | cons y l =>
  have hb := hb (by simp)
  show w = w ∧ _ ∧ _ ∧ _
  refine ⟨rfl, h1, h2, ?_⟩
  have hfl : ((y :: l).flatMap AV.cells).length = (y :: l).length * w := flat_length hw
  simp only [accS, zy7.upd_same]
  refine ⟨by rw [hfl]; exact Nat.le_refl _, ?_, ?_⟩
  · have := hK b (fun _ => hb)
    rw [accV_cons (by simp), accS_cons (by simp), List.flatMap_append, List.length_append] at this
    rw [zy7.upd_upd, ← hfl, List.take_length]
    exact this
  · intro b' hb'
    have hne : b' ≠ b := by rintro rfl; rw [zy7.upd_same] at hb'; cases hb'
    rw [zy7.upd_ne _ _ hne] at hb'
    have := hK b' (fun _ => hb')
    rw [accV_cons (by simp), accS_cons (by simp), List.flatMap_append, List.length_append] at this
    rw [zy7.erase_upd _ _ _ hb, ← hfl, List.take_length]
    exact this
def AV.fin (b : Nat) (l : List AV) (r : AV) : AV := if l.isEmpty = true then r.soft else (r.fz b l).soft
theorem accV_fin {w b : Nat} {l : List AV} : (accV w b l).fin b l = .slice l := by cases l <;> simp [accV, AV.fin, AV.fz, AV.soft]
theorem softL_map : ∀ cs : List AV, softL cs = cs.map AV.soft
 | [] => rfl
 | c :: cs => by simp [softL, softL_map cs]
theorem fzL_map {b : Nat} {l : List AV} : ∀ cs : List AV, fzL b l cs = cs.map (AV.fz b l)
 | [] => rfl
 | c :: cs => by simp [fzL, fzL_map cs]
theorem fin_agg {b : Nat} {l : List AV} {cs : List AV} : (AV.agg cs).fin b l = .agg (cs.map (AV.fin b l)) := by
 unfold AV.fin
 split
 · simp [AV.soft, softL_map]
 · simp [AV.fz, AV.soft, softL_map, fzL_map]
theorem fin_tup {b : Nat} {l : List AV} {cs : List AV} : (AV.tup cs).fin b l = .tup (cs.map (AV.fin b l)) := by
 unfold AV.fin
 split
 · simp [AV.soft, softL_map]
 · simp [AV.fz, AV.soft, softL_map, fzL_map]
theorem fin_int {b : Nat} {l : List AV} {k : IntKind} {n : Int} : (AV.int k n).fin b l = .int k n := by unfold AV.fin; split <;> rfl
theorem fin_bool {b : Nat} {l : List AV} {n : Bool} : (AV.bool n).fin b l = .bool n := by unfold AV.fin; split <;> rfl
theorem fin_str {b : Nat} {l : List AV} {s : ByteArray} : (AV.str s).fin b l = .str s := by unfold AV.fin; split <;> rfl
theorem fin_slice {b : Nat} {l : List AV} {s : List AV} : (AV.slice s).fin b l = .slice s := by unfold AV.fin; split <;> rfl
theorem fin_fslice {b : Nat} {l : List AV} {s : List AV} : (AV.fslice s).fin b l = .slice s := by unfold AV.fin; split <;> rfl
theorem fin_pptr {b : Nat} {l : List AV} {e : AV} : (AV.pptr e).fin b l = .pptr e := by unfold AV.fin; split <;> rfl
theorem fin_ptr {b c o : Nat} {l : List AV} : (AV.ptr c o).fin b l = .ptr c o := by unfold AV.fin; split <;> rfl
theorem fin_func {b : Nat} {l : List AV} {g : FuncId} {cs : List AV} : (AV.func g cs).fin b l = .func g cs := by unfold AV.fin; split <;> rfl
theorem fin_map {b c : Nat} {l : List AV} : (AV.map c).fin b l = .map c := by unfold AV.fin; split <;> rfl
theorem fin_undef {b : Nat} {l : List AV} : AV.undef.fin b l = .undef := by unfold AV.fin; split <;> rfl
theorem zq7.fin {P : Program} {g : FuncId} {args : List AV} {st : zy7} {Q : AV → zy7 → Prop}
 (x : zq7 P g args st (fun r st' => ∃ b l s0, st' = accS s0 b l ∧ (l ≠ [] → s0 b = none) ∧ (∀ e ∈ l, e.isJunk = false) ∧ Even l ∧ Q (r.fin b l) s0)) : zq7 P g args st Q :=
 x.weak fun r st' ⟨b, l, s0, h1, h0, h2, h3, h4⟩ => by
  cases l with
  | nil =>
   exact ⟨r.fin b [], st', (Drops.refl _).weakS, fun h v S y => y.soft, by have e : st' = s0 := h1; rw [e]; exact h4⟩
  | cons e l =>
   have hb := h0 (by simp)
   subst h1
   have h1 : accS s0 b (e :: l) b = some (.cells ((e :: l).flatMap AV.cells)) := by simp only [accS, zy7.upd_same]
   have e1 : (accS s0 b (e :: l)).erase b = s0 := by simp only [accS]; exact zy7.erase_upd _ _ _ hb
   refine ⟨r.fin b (e :: l), s0, ?_, fun h v S y => ?_, h4⟩
   · have := (Drops.erase' (accS s0 b (e :: l)) b).weakS
     rwa [e1] at this
   · have := y.fz S h1 h2 h3
     rw [e1] at this
     exact this.soft
mutual
def AV.solid : AV → Bool
 | .slice _ => false
 | .fslice es => es.isEmpty
 | .pptr _ => false
 | .agg cs => solidL cs
 | .tup vs => solidL vs
 | .func _ cs => solidL cs
 | _ => true
def solidL : List AV → Bool
 | [] => true
 | a :: as => a.solid && solidL as
end
def AO.solid : AO → Prop
 | .cells cs => solidL cs = true
 | .map f => ∀ n a, f n = some a → a.solid = true
section
variable {h : Heap} {st st' : zy7}
mutual
theorem VC.anyS : ∀ (a : AV) (cs : List Value), a.solid = true → VC h st a cs → VC h st' a cs
 | .junk, _, _, x => x
 | .undef, _, _, x => x
 | .int _ _, _, _, x => x
 | .bool _, _, _, x => x
 | .str _, _, _, x => x
 | .agg as, cs, s, x => by simp only [VC] at x ⊢; exact VCs.anyS as cs (by simpa [AV.solid] using s) x
 | .tup as, cs, s, x => by
  simp only [VC] at x ⊢
  obtain ⟨vs, e, r⟩ := x
  exact ⟨vs, e, VTs.anyS as vs (by simpa [AV.solid] using s) r⟩
 | .slice es, _, s, _ => by simp [AV.solid] at s
 | .fslice es, cs, s, x => by
  have he : es = [] := by simpa [AV.solid] using s
  subst he
  unfold VC at x ⊢
  rcases x with x | ⟨b, off, e, _⟩
  · exact .inl x
  · exact .inl ⟨⟨_, e⟩, rfl⟩
 | .mslice b off len n, _, _, x => x
 | .nilptr, _, _, x => x
 | .ptr _ _, _, _, x => x
 | .pptr e, _, s, _ => by simp [AV.solid] at s
 | .nilmap, _, _, x => x
 | .map _, _, _, x => x
 | .func _ as, cs, s, x => by
  simp only [VC] at x ⊢
  obtain ⟨vs, e, r⟩ := x
  exact ⟨vs, e, VTs.anyS as vs (by simpa [AV.solid] using s) r⟩
 | .raw _, _, _, x => x
 | .eslice, _, _, x => x
theorem VCs.anyS : ∀ (as : List AV) (cs : List Value), solidL as = true → VCs h st as cs → VCs h st' as cs
 | [], _, _, x => x
 | a :: as, cs, s, x => by
  simp only [VCs] at x ⊢
  simp only [solidL, Bool.and_eq_true] at s
  obtain ⟨c, r, e, x1, x2⟩ := x
  exact ⟨c, r, e, VC.anyS a [c] s.1 x1, VCs.anyS as r s.2 x2⟩
theorem VTs.anyS : ∀ (as : List AV) (cs : List Value), solidL as = true → VTs h st as cs → VTs h st' as cs
 | [], _, _, x => x
 | a :: as, cs, s, x => by
  simp only [VTs] at x ⊢
  simp only [solidL, Bool.and_eq_true] at s
  obtain ⟨v, r, e, x1, x2⟩ := x
  exact ⟨v, r, e, ⟨x1.1, VC.anyS a _ s.1 x1.2⟩, VTs.anyS as r s.2 x2⟩
end
theorem VRel.anyS {a : AV} {v : Value} (s : a.solid = true) (x : VRel h st a v) : VRel h st' a v := by
 cases a <;> first | trivial | exact ⟨x.1, VC.anyS _ _ s x.2⟩
theorem ORel.anyS {b : Nat} : ∀ {o : AO}, o.solid → ORel h st b o → ORel h st' b o
 | .cells as, s, x => by
  obtain ⟨c, t, e, l, vs, x1, x2⟩ := x
  exact ⟨c, t, e, l, vs, x1, VCs.anyS as vs s x2⟩
 | .map f, s, x => by
  obtain ⟨es, cl, e, x1, x2, x3⟩ := x
  refine ⟨es, cl, e, x1, x2, fun n => ?_⟩
  have := x3 n
  split
  · rename_i a ha
    rw [ha] at this
    obtain ⟨e, he, hk, hv⟩ := this
    exact ⟨e, he, hk, hv.anyS (s n a ha)⟩
  · rename_i ha
    rw [ha] at this
    exact this
end
def zy7.frame (st s0 s1 : zy7) : zy7 := fun b => match s0 b, st b with
 | none, some o => some o
 | _, _ => s1 b
theorem zq7.frame {P : Program} {g : FuncId} {args args' : List AV} {st s0 : zy7} {Q : AV → zy7 → Prop} (D : Drops st s0)
 (x : zq7 P g args s0 (fun r s1 => (∀ b, s0 b = none → s1 b ≠ none → st b = none) → r.solid = true ∧ (∀ b o, s1 b = some o → o.solid) ∧ Q r (st.frame s0 s1)))
 (hv : ∀ h vs, SRel h st → VRelL h st args' vs → VRelL h s0 args vs) : zq7 P g args' st Q := by
 refine ⟨x.1, fun w vs S V => (x.2 w vs (D.srel S) (hv _ _ S V)).mono ?_⟩
 rintro _ w' ⟨v, r, s1, rfl, hr, S1, T, sm, q⟩
 have hfr : ∀ b, s0 b = none → s1 b ≠ none → st b = none := fun b h0 h1 => by
  cases hb : st b with
  | none => rfl
  | some o => exact absurd (T.keep b (S b o hb).1 h0).2 h1
 obtain ⟨hs, ho, hq⟩ := q hfr
 have T' : StepH w.heap st w'.heap (st.frame s0 s1) := by
  refine ⟨T.size, fun b hb e => ?_, T.shape⟩
  obtain ⟨k1, k2⟩ := T.keep b hb ((D b).1 e)
  exact ⟨k1, by simp only [zy7.frame, e, k2]; split <;> first | rfl | (rename_i h; cases h)⟩
 refine ⟨v, r, st.frame s0 s1, rfl, hr.anyS hs, fun b o hb => ?_, T', sm, hq⟩
 simp only [zy7.frame] at hb
 split at hb
 · rename_i o' h0 h1
   cases hb
   obtain ⟨l, y⟩ := S b _ h1
   exact ⟨Nat.lt_of_lt_of_le l T.size, ORel.mono T' (T.keep b l h0).1 y⟩
 · obtain ⟨l, y⟩ := S1 b o hb
   exact ⟨l, y.anyS (ho b o hb)⟩
def none0' : zy7 := fun _ => none
theorem Drops.none0' (st : zy7) : Drops st none0' := fun _ => ⟨fun _ => rfl, fun _ h => by cases h⟩
theorem frame_none (st : zy7) : st.frame none0' none0' = st := by
 funext b; simp only [zy7.frame, none0']; split
 · rename_i h; exact h.symm
 · rename_i h; cases hb : st b with
   | none => rfl
   | some o => exact absurd hb (h o rfl)
theorem zq7.frame0 {P : Program} {g : FuncId} {args args' : List AV} {st : zy7} {r : AV} (hs : r.solid = true)
 (x : zq7 P g args none0' (fun r' s1 => r' = r ∧ s1 = none0'))
 (hv : ∀ h vs, SRel h st → VRelL h st args' vs → VRelL h none0' args vs) : zq7 P g args' st (fun r' st' => r' = r ∧ st' = st) :=
 zq7.frame (Drops.none0' st) (x.mono fun r' s1 ⟨e1, e2⟩ _ => ⟨by rw [e1]; exact hs, (by rw [e2]; intro b o h; cases h), e1, by rw [e2, frame_none]⟩) hv
mutual
def Own (st : zy7) : AV → AV → List Nat → Prop
 | .int k n, o, bs => o = .int k n ∧ bs = []
 | .bool b, o, bs => o = .bool b ∧ bs = []
 | .str s, o, bs => o = .str s ∧ bs = []
 | .agg cs, o, bs => ∃ os, o = .agg os ∧ OwnL st cs os bs
 | .slice es, o, bs => (es = [] ∧ o = .fslice [] ∧ bs = []) ∨ ∃ b bs' os w, o = .mslice b 0 es.length w ∧ bs = b :: bs' ∧ st b = some (.cells (os.flatMap AV.cells)) ∧ OwnL st es os bs' ∧ (∀ e ∈ es, e.width = w)
 | _, _, _ => False
def OwnL (st : zy7) : List AV → List AV → List Nat → Prop
 | [], os, bs => os = [] ∧ bs = []
 | a :: as, os, bs => ∃ o os' b1 b2, os = o :: os' ∧ bs = b1 ++ b2 ∧ Own st a o b1 ∧ OwnL st as os' b2
end
theorem OwnL.length {st : zy7} : ∀ {as os : List AV} {bs : List Nat}, OwnL st as os bs → os.length = as.length
 | [], os, bs, x => by simp only [OwnL] at x; simp [x.1]
 | a :: as, os, bs, x => by
  simp only [OwnL] at x
  obtain ⟨o, os', b1, b2, rfl, rfl, _, x2⟩ := x
  simp [OwnL.length x2]
theorem Own.shape {st : zy7} : ∀ {a o : AV} {bs : List Nat}, Own st a o bs → o.isAgg = a.isAgg ∧ o.width = a.width ∧ o.isJunk = false ∧ (∀ cs, a = .agg cs → ∃ os, o = .agg os)
 | .int k n, o, bs, x => by simp only [Own] at x; rw [x.1]; exact ⟨rfl, rfl, rfl, by simp⟩
 | .bool b, o, bs, x => by simp only [Own] at x; rw [x.1]; exact ⟨rfl, rfl, rfl, by simp⟩
 | .str s, o, bs, x => by simp only [Own] at x; rw [x.1]; exact ⟨rfl, rfl, rfl, by simp⟩
 | .agg cs, o, bs, x => by
  simp only [Own] at x
  obtain ⟨os, rfl, x⟩ := x
  exact ⟨rfl, x.length, rfl, fun _ _ => ⟨os, rfl⟩⟩
 | .slice es, o, bs, x => by
  simp only [Own] at x
  rcases x with ⟨_, rfl, _⟩ | ⟨b, bs', os, w, rfl, _⟩ <;> exact ⟨rfl, rfl, rfl, by simp⟩
 | .junk, _, _, x => x.elim
 | .undef, _, _, x => x.elim
 | .tup _, _, _, x => x.elim
 | .fslice _, _, _, x => x.elim
 | .mslice _ _ _ _, _, _, x => x.elim
 | .nilptr, _, _, x => x.elim
 | .ptr _ _, _, _, x => x.elim
 | .pptr _, _, _, x => x.elim
 | .nilmap, _, _, x => x.elim
 | .map _, _, _, x => x.elim
 | .func _ _, _, _, x => x.elim
 | .raw _, _, _, x => x.elim
 | .eslice, _, _, x => x.elim
section
variable {st st' : zy7}
mutual
theorem Own.keep : ∀ (a o : AV) (bs : List Nat), (∀ b ∈ bs, st' b = st b) → Own st a o bs → Own st' a o bs
 | .int k n, o, bs, _, x => x
 | .bool b, o, bs, _, x => x
 | .str s, o, bs, _, x => x
 | .agg cs, o, bs, h, x => by
  simp only [Own] at x ⊢
  obtain ⟨os, e, x⟩ := x
  exact ⟨os, e, OwnL.keep cs os bs h x⟩
 | .slice es, o, bs, h, x => by
  simp only [Own] at x ⊢
  rcases x with x | ⟨b, bs', os, w, e1, rfl, e2, x, e3⟩
  · exact .inl x
  · exact .inr ⟨b, bs', os, w, e1, rfl, (h b (by simp)).trans e2, OwnL.keep es os bs' (fun q hq => h q (by simp [hq])) x, e3⟩
 | .junk, _, _, _, x => x
 | .undef, _, _, _, x => x
 | .tup _, _, _, _, x => x
 | .fslice _, _, _, _, x => x
 | .mslice _ _ _ _, _, _, _, x => x
 | .nilptr, _, _, _, x => x
 | .ptr _ _, _, _, _, x => x
 | .pptr _, _, _, _, x => x
 | .nilmap, _, _, _, x => x
 | .map _, _, _, _, x => x
 | .func _ _, _, _, _, x => x
 | .raw _, _, _, _, x => x
 | .eslice, _, _, _, x => x
theorem OwnL.keep : ∀ (as os : List AV) (bs : List Nat), (∀ b ∈ bs, st' b = st b) → OwnL st as os bs → OwnL st' as os bs
 | [], os, bs, _, x => x
 | a :: as, os, bs, h, x => by
  simp only [OwnL] at x ⊢
  obtain ⟨o, os', b1, b2, e1, rfl, x1, x2⟩ := x
  exact ⟨o, os', b1, b2, e1, rfl, Own.keep a o b1 (fun q hq => h q (by simp [hq])) x1, OwnL.keep as os' b2 (fun q hq => h q (by simp [hq])) x2⟩
end
mutual
theorem Own.solid : ∀ (a o : AV) (bs : List Nat), Own st a o bs → o.solid = true ∧ o.cells.all AV.storable = o.cells.all AV.storable ∧ ∀ b ∈ bs, ∃ cs, st b = some (.cells cs) ∧ solidL cs = true
 | .int k n, o, bs, x => by simp only [Own] at x; rw [x.1, x.2]; exact ⟨rfl, rfl, by simp⟩
 | .bool b, o, bs, x => by simp only [Own] at x; rw [x.1, x.2]; exact ⟨rfl, rfl, by simp⟩
 | .str s, o, bs, x => by simp only [Own] at x; rw [x.1, x.2]; exact ⟨rfl, rfl, by simp⟩
 | .agg cs, o, bs, x => by
  simp only [Own] at x
  obtain ⟨os, rfl, x⟩ := x
  obtain ⟨h1, h2⟩ := OwnL.solid cs os bs x
  exact ⟨by simpa [AV.solid] using h1.1, rfl, h2⟩
 | .slice es, o, bs, x => by
  simp only [Own] at x
  rcases x with ⟨_, rfl, rfl⟩ | ⟨b, bs', os, w, rfl, rfl, e2, x, e3⟩
  · exact ⟨rfl, rfl, by simp⟩
  · obtain ⟨h1, h2⟩ := OwnL.solid es os bs' x
    refine ⟨rfl, rfl, fun q hq => ?_⟩
    rcases List.mem_cons.1 hq with rfl | hq
    · exact ⟨_, e2, h1.2⟩
    · exact h2 q hq
 | .junk, _, _, x => x.elim
 | .undef, _, _, x => x.elim
 | .tup _, _, _, x => x.elim
 | .fslice _, _, _, x => x.elim
 | .mslice _ _ _ _, _, _, x => x.elim
 | .nilptr, _, _, x => x.elim
 | .ptr _ _, _, _, x => x.elim
 | .pptr _, _, _, x => x.elim
 | .nilmap, _, _, x => x.elim
 | .map _, _, _, x => x.elim
 | .func _ _, _, _, x => x.elim
 | .raw _, _, _, x => x.elim
 | .eslice, _, _, x => x.elim
theorem OwnL.solid : ∀ (as os : List AV) (bs : List Nat), OwnL st as os bs → (solidL os = true ∧ solidL (os.flatMap AV.cells) = true) ∧ ∀ b ∈ bs, ∃ cs, st b = some (.cells cs) ∧ solidL cs = true
 | [], os, bs, x => by simp only [OwnL] at x; rw [x.1, x.2]; exact ⟨⟨rfl, rfl⟩, by simp⟩
 | a :: as, os, bs, x => by
  simp only [OwnL] at x
  obtain ⟨o, os', b1, b2, rfl, rfl, x1, x2⟩ := x
  obtain ⟨h1, _, h2⟩ := Own.solid a o b1 x1
  obtain ⟨⟨h3, h4⟩, h5⟩ := OwnL.solid as os' b2 x2
  have happ : ∀ (p q : List AV), solidL p = true → solidL q = true → solidL (p ++ q) = true := by
   intro p q hp hq
   induction p with
   | nil => exact hq
   | cons c p ih => simp only [solidL, Bool.and_eq_true, List.cons_append] at hp ⊢; exact ⟨hp.1, ih hp.2⟩
  have hc : solidL o.cells = true := by cases o <;> first | (simpa [AV.cells, solidL] using h1) | (simpa [AV.cells, AV.solid] using h1)
  refine ⟨⟨by simp [solidL, h1, h3], by rw [List.flatMap_cons]; exact happ _ _ hc h4⟩, fun q hq => ?_⟩
  rcases List.mem_append.1 hq with hq | hq
  · exact h2 q hq
  · exact h5 q hq
end
end
section
variable {h : Heap} {st s0 : zy7}
mutual
theorem Own.view (S : SRel h st) (D : Drops st s0) : ∀ (a o : AV) (bs : List Nat) (cs : List Value), Own st a o bs → (∀ b ∈ bs, s0 b = none) → VC h st o cs → VC h s0 a cs
 | .int k n, o, bs, cs, x, _, y => by simp only [Own] at x; rw [x.1] at y; exact y
 | .bool b, o, bs, cs, x, _, y => by simp only [Own] at x; rw [x.1] at y; exact y
 | .str s, o, bs, cs, x, _, y => by simp only [Own] at x; rw [x.1] at y; exact y
 | .agg as, o, bs, cs, x, hb, y => by
  simp only [Own] at x
  obtain ⟨os, rfl, x⟩ := x
  simp only [VC] at y ⊢
  exact OwnL.viewC S D as os bs cs x hb y
 | .slice es, o, bs, cs, x, hb, y => by
  simp only [Own] at x
  rcases x with ⟨rfl, rfl, rfl⟩ | ⟨b, bs', os, w, rfl, rfl, e2, x, e3⟩
  · unfold VC at y ⊢
    rcases y with y | ⟨b, off, e, _⟩
    · exact .inl y
    · exact .inl ⟨⟨_, e⟩, rfl⟩
  · simp only [VC] at y
    obtain ⟨cap, e, l1, l2, _⟩ := y
    obtain ⟨hlt, c, t, q1, q2, vs, q3, q4⟩ := S b _ e2
    have hsh := OwnL.shapes x
    unfold VC
    refine .inr ⟨b, 0, cap, e, l1, l2, hb b (by simp), hlt, ⟨w, e3⟩, OwnL.viewE S D b es os bs' 0 x (fun q hq => hb q (by simp [hq])) (VEs_of_flat (fun q hq => hsh q hq) q3 q4)⟩
 | .junk, _, _, _, x, _, _ => x.elim
 | .undef, _, _, _, x, _, _ => x.elim
 | .tup _, _, _, _, x, _, _ => x.elim
 | .fslice _, _, _, _, x, _, _ => x.elim
 | .mslice _ _ _ _, _, _, _, x, _, _ => x.elim
 | .nilptr, _, _, _, x, _, _ => x.elim
 | .ptr _ _, _, _, _, x, _, _ => x.elim
 | .pptr _, _, _, _, x, _, _ => x.elim
 | .nilmap, _, _, _, x, _, _ => x.elim
 | .map _, _, _, _, x, _, _ => x.elim
 | .func _ _, _, _, _, x, _, _ => x.elim
 | .raw _, _, _, _, x, _, _ => x.elim
 | .eslice, _, _, _, x, _, _ => x.elim
theorem OwnL.viewC (S : SRel h st) (D : Drops st s0) : ∀ (as os : List AV) (bs : List Nat) (cs : List Value), OwnL st as os bs → (∀ b ∈ bs, s0 b = none) → VCs h st os cs → VCs h s0 as cs
 | [], os, bs, cs, x, _, y => by simp only [OwnL] at x; rw [x.1] at y; exact y
 | a :: as, os, bs, cs, x, hb, y => by
  simp only [OwnL] at x
  obtain ⟨o, os', b1, b2, rfl, rfl, x1, x2⟩ := x
  simp only [VCs] at y ⊢
  obtain ⟨c, r, e, y1, y2⟩ := y
  exact ⟨c, r, e, Own.view S D a o b1 [c] x1 (fun q hq => hb q (by simp [hq])) y1, OwnL.viewC S D as os' b2 r x2 (fun q hq => hb q (by simp [hq])) y2⟩
theorem OwnL.viewE (S : SRel h st) (D : Drops st s0) (b : Nat) : ∀ (as os : List AV) (bs : List Nat) (off : Nat), OwnL st as os bs → (∀ b ∈ bs, s0 b = none) → VEs h st b off os → VEs h s0 b off as
 | [], os, bs, off, x, _, y => by simp only [VEs]
 | a :: as, os, bs, off, x, hb, y => by
  simp only [OwnL] at x
  obtain ⟨o, os', b1, b2, rfl, rfl, x1, x2⟩ := x
  simp only [VEs] at y ⊢
  obtain ⟨⟨cs, y1, y2, y3⟩, y4⟩ := y
  have hw := (Own.shape x1).2.1
  rw [hw] at y2 y4
  exact ⟨⟨cs, y1, y2, Own.view S D a o b1 cs x1 (fun q hq => hb q (by simp [hq])) y3⟩, OwnL.viewE S D b as os' b2 _ x2 (fun q hq => hb q (by simp [hq])) y4⟩
theorem OwnL.shapes : ∀ {as os : List AV} {bs : List Nat}, OwnL st as os bs → ∀ o ∈ os, o.isJunk = false
 | [], os, bs, x => by simp only [OwnL] at x; rw [x.1]; simp
 | a :: as, os, bs, x => by
  simp only [OwnL] at x
  obtain ⟨o, os', b1, b2, rfl, rfl, x1, x2⟩ := x
  intro q hq
  rcases List.mem_cons.1 hq with rfl | hq
  · exact (Own.shape x1).2.2.1
  · exact OwnL.shapes x2 q hq
end
theorem Own.viewV (S : SRel h st) (D : Drops st s0) {a o : AV} {bs : List Nat} {v : Value} (x : Own st a o bs) (hb : ∀ b ∈ bs, s0 b = none) (y : VRel h st o v) : VRel h s0 a v := by
 have hs := x.shape
 have key : o.isAgg = vIsAgg v ∧ VC h st o v.cells.toList := by
  cases o <;> first | exact y | simp [AV.isJunk] at hs
 have z : a.isAgg = vIsAgg v ∧ VC h s0 a v.cells.toList := ⟨hs.1.symm.trans key.1, Own.view S D _ _ _ _ x hb key.2⟩
 cases ha : a <;> rw [ha] at z <;> first | trivial | exact z
end
def Seen (st s0 : zy7) : List AV → List AV → Prop
 | [], as => as = []
 | o :: os, as => ∃ a as', as = a :: as' ∧ (o = a ∨ ∃ bs, Own st a o bs ∧ ∀ b ∈ bs, s0 b = none) ∧ Seen st s0 os as'
theorem Seen.rel {st s0 : zy7} (D : Drops st s0) : ∀ {os as : List AV}, Seen st s0 os as → ∀ h vs, SRel h st → VRelL h st os vs → VRelL h s0 as vs
 | [], as, x, h, vs, _, y => by simp only [Seen] at x; rw [x]; exact y
 | o :: os, as, x, h, vs, S, y => by
  simp only [Seen] at x
  obtain ⟨a, as', rfl, x1, x2⟩ := x
  simp only [VRelL] at y ⊢
  obtain ⟨v, r, rfl, y1, y2⟩ := y
  refine ⟨v, r, rfl, ?_, Seen.rel D x2 h r S y2⟩
  rcases x1 with rfl | ⟨bs, x1, hb⟩
  · exact y1.mono (D.step h)
  · exact x1.viewV S D hb y1
def Made (st : zy7) (a r : AV) (st' : zy7) : Prop := ∃ bs : List Nat, bs.Nodup ∧ (∀ b ∈ bs, st b = none) ∧ Own st' a r bs ∧ ∀ b, b ∉ bs → st' b = st b
theorem zq7.made {P : Program} {g : FuncId} {args : List AV} {st : zy7} {a : AV} (x : zq7 P g args st (Made st a)) : zq7 P g args st (fun r st' => r = a ∧ st' = st) :=
 x.weak fun r st' ⟨bs, _, h2, h3, h4⟩ => by
  have D : Drops st' st := fun b => ⟨fun e => by
   by_cases hb : b ∈ bs
   · exact h2 b hb
   · rw [← h4 b hb]; exact e, fun o e => by
   by_cases hb : b ∈ bs
   · rw [h2 b hb] at e; cases e
   · rw [h4 b hb]; exact e⟩
  exact ⟨a, st, D.weakS, fun h v S y => h3.viewV S D h2 y, rfl, rfl⟩
theorem OwnL.flatLen {st : zy7} {w : Nat} : ∀ {as os : List AV} {bs : List Nat}, OwnL st as os bs → (∀ e ∈ as, e.width = w) → (os.flatMap AV.cells).length = as.length * w
 | [], os, bs, x, _ => by simp only [OwnL] at x; rw [x.1]; simp
 | a :: as, os, bs, x, h => by
  simp only [OwnL] at x
  obtain ⟨o, os', b1, b2, rfl, rfl, x1, x2⟩ := x
  have := OwnL.flatLen x2 (fun e he => h e (by simp [he]))
  rw [List.flatMap_cons, List.length_append, this, cells_width, (Own.shape x1).2.1, h a (by simp), List.length_cons, Nat.succ_mul]
  omega
theorem setCells_mid {A C B x : List AV} {n j : Nat} (hA : A.length = n) (hj : j + x.length ≤ C.length) : zy4 (A ++ C ++ B) (n + j) x = A ++ zy4 C j x ++ B := by
 subst hA
 unfold zy4
 have h1 : (A ++ C ++ B).take (A.length + j) = A ++ C.take j := by
  rw [List.append_assoc, List.take_length_add_append, List.take_append_of_le_length (by omega)]
 have h2 : (A ++ C ++ B).drop (A.length + j + x.length) = C.drop (j + x.length) ++ B := by
  rw [List.append_assoc, Nat.add_assoc, List.drop_length_add_append, List.drop_append_of_le_length (by omega)]
 rw [h1, h2]
 simp
theorem midE {A B : List AV} {n : Nat} (hA : A.length = n) : (∀ (C : List AV) (v : AV) (j : Nat), j < C.length → zy4 (A ++ C ++ B) (n + j) [v] = A ++ C.set j v ++ B) ∧ (∀ (C : List AV) (c : Nat), c < C.length → n + c + 1 ≤ (A ++ C ++ B).length) ∧
 (∀ (C : List AV) (c : Nat), c < C.length → (A ++ C ++ B)[n + c]? = C[c]?) ∧ (∀ (C : List AV) (v : AV), 0 < C.length → zy4 (A ++ C ++ B) n [v] = A ++ C.set 0 v ++ B) ∧ (∀ (C : List AV), 0 < C.length → n + 1 ≤ (A ++ C ++ B).length) ∧
 ∀ (C : List AV), 0 < C.length → (A ++ C ++ B)[n]? = C[0]? := by
 have k1 : (∀ (C : List AV) (v : AV) (j : Nat), j < C.length → zy4 (A ++ C ++ B) (n + j) [v] = A ++ C.set j v ++ B) ∧ (∀ (C : List AV) (c : Nat), c < C.length → n + c + 1 ≤ (A ++ C ++ B).length) ∧ ∀ (C : List AV) (c : Nat), c < C.length → (A ++ C ++ B)[n + c]? = C[c]? := ?_
 · exact ⟨k1.1, k1.2.1, k1.2.2, fun C v h => k1.1 C v 0 h, fun C h => k1.2.1 C 0 h, fun C h => k1.2.2 C 0 h⟩
 refine ⟨fun C v j h => ?_, fun C c h => ?_, fun C c h => ?_⟩
 · rw [setCells_mid hA (by simp; omega), List.set_eq_take_append_cons_drop, if_pos h]
   unfold zy4
   simp
 · simp only [List.length_append]; omega
 · subst hA
   rw [List.append_assoc, List.getElem?_append_right (by omega), Nat.add_sub_cancel_left, List.getElem?_append_left h]
theorem partE {A B C x : List AV} {n w : Nat} (hA : A.length = n) (hC : C.length = w) (hx : x.length = w) : zy4 (A ++ C ++ B) n x = A ++ x ++ B ∧ n + w ≤ (A ++ C ++ B).length := by
 have h := setCells_mid (A := A) (C := C) (B := B) (x := x) (n := n) (j := 0) hA (by omega)
 rw [Nat.add_zero] at h
 refine ⟨?_, by simp only [List.length_append]; omega⟩
 rw [h]
 unfold zy4
 simp [hC, hx]
theorem held_at {P : Program} {t : TypeId} {ag : Bool} {b len w i : Nat} (hI : eI P t = some (ag, w)) (hi : i < len) : aIndexAddr P t (.mslice b 0 len w) (.int .i64 (i : Int)) = some (.ptr b (i * w)) := by
 simp only [aIndexAddr, hI, Int.toNat_natCast, Nat.zero_add]
 rw [if_pos ⟨by omega, by omega, trivial⟩]
theorem Own.agg_storable {st : zy7} : ∀ {cs os : List AV} {bs : List Nat}, OwnL st cs os bs → (∀ c ∈ cs, c.isAgg = false) → os.all AV.storable = true ∧ os.flatMap AV.cells = os
 | [], os, bs, x, _ => by simp only [OwnL] at x; rw [x.1]; simp
 | a :: as, os, bs, x, h => by
  simp only [OwnL] at x
  obtain ⟨o, os', b1, b2, rfl, rfl, x1, x2⟩ := x
  have ih := Own.agg_storable x2 (fun c hc => h c (by simp [hc]))
  have ha := h a (by simp)
  have ho : o.storable = true ∧ o.cells = [o] := by
   cases a <;> simp only [Own] at x1 <;> try exact x1.elim
   case int => rw [x1.1]; exact ⟨rfl, rfl⟩
   case bool => rw [x1.1]; exact ⟨rfl, rfl⟩
   case str => rw [x1.1]; exact ⟨rfl, rfl⟩
   case agg => simp [AV.isAgg] at ha
   case slice => rcases x1 with ⟨_, rfl, _⟩ | ⟨b, bs', os, w, rfl, _⟩ <;> exact ⟨rfl, rfl⟩
  rw [List.all_cons, ho.1, ih.1, List.flatMap_cons, ih.2, ho.2]
  exact ⟨rfl, rfl⟩
theorem OwnL.snoc {st st' : zy7} {a o : AV} {b2 : List Nat} : ∀ {as os : List AV} {b1 : List Nat}, OwnL st as os b1 → (∀ b ∈ b1, st' b = st b) → Own st' a o b2 → OwnL st' (as ++ [a]) (os ++ [o]) (b1 ++ b2)
 | [], os, b1, x, _, y => by
  simp only [OwnL] at x
  rw [x.1, x.2]
  simp only [List.nil_append, OwnL]
  exact ⟨o, [], b2, [], rfl, by simp, y, rfl, rfl⟩
 | c :: as, os, b1, x, h, y => by
  simp only [OwnL] at x
  obtain ⟨o1, os', b3, b4, rfl, rfl, x1, x2⟩ := x
  simp only [List.cons_append, OwnL]
  exact ⟨o1, os' ++ [o], b3, b4 ++ b2, rfl, by simp, Own.keep _ _ _ (fun q hq => h q (by simp [hq])) x1, OwnL.snoc x2 (fun q hq => h q (by simp [hq])) y⟩
def OwnTo (es : List AV) (zs : List AV) (b : Nat) (st : zy7) (i : Nat) (p : List AV × List Nat × zy7) : Prop :=
 p.1.length = i ∧ OwnL p.2.2 (es.take i) p.1 p.2.1 ∧ p.2.1.Nodup ∧ b ∉ p.2.1 ∧ (∀ q ∈ p.2.1, st q = none) ∧ st b = none ∧ p.2.2 b = some (.cells (p.1.flatMap AV.cells ++ (List.replicate (es.length - i) zs).flatten)) ∧ ∀ q, q ≠ b → q ∉ p.2.1 → p.2.2 q = st q
theorem OwnTo.start {es zs : List AV} {b n : Nat} {st : zy7} (hn : st b = none) (hl : n = es.length) : OwnTo es zs b st 0 ([], [], st.upd b (.cells (List.replicate n zs).flatten)) :=
 ⟨rfl, by simp [OwnL], List.nodup_nil, by simp, by simp, hn, by simp [zy7.upd_same, hl], fun q h _ => zy7.upd_ne _ _ h⟩
theorem OwnTo.done {es zs : List AV} {b n w : Nat} {st : zy7} {os : List AV} {bs : List Nat} {s : zy7} (h : OwnTo es zs b st n (os, bs, s)) (hl : es.length = n) (hw : ∀ e ∈ es, e.width = w) : Made st (.slice es) (.mslice b 0 n w) s := by
 obtain ⟨h1, h2, h3, h4, h5, h6, h7, h8⟩ := h
 simp only at h1 h2 h3 h4 h5 h7 h8
 rw [List.take_of_length_le (by omega)] at h2
 refine ⟨b :: bs, List.nodup_cons.2 ⟨h4, h3⟩, fun q hq => ?_, ?_, fun q hq => h8 q (fun e => hq (by simp [e])) (fun e => hq (by simp [e]))⟩
 · rcases List.mem_cons.1 hq with rfl | hq
   · exact h6
   · exact h5 q hq
 · simp only [Own]
   refine .inr ⟨b, bs, os, w, by rw [hl], rfl, ?_, h2, hw⟩
   rw [h7, hl]
   simp
theorem OwnTo.step {es zs : List AV} {b i w : Nat} {st : zy7} {os : List AV} {bs : List Nat} {s s2 : zy7} {e r : AV} (h : OwnTo es zs b st i (os, bs, s)) (hm : Made s e r s2) (he : es[i]? = some e) (hwe : e.width = w) (hw : ∀ e ∈ es, e.width = w) (hz : zs.length = w)
 (hst : e.cells.all AV.storable = true) (hag : e.isAgg = true ∨ e.cells = [e]) :
 ∃ A B, s2 b = some (.cells (A ++ zs ++ B)) ∧ A.length = i * w ∧ r.cells.length = w ∧ r.cells.all AV.storable = true ∧ OwnTo es zs b st (i + 1) (os ++ [r], bs ++ hm.choose, s2.upd b (.cells (A ++ r.cells ++ B))) := by
 obtain ⟨h1, h2, h3, h4, h5, h6, h7, h8⟩ := h
 simp only at h1 h2 h3 h4 h5 h7 h8
 obtain ⟨m1, m2, m3, m4⟩ := hm.choose_spec
 generalize hm.choose = bx at *
 have hi : i < es.length := (List.getElem?_eq_some_iff.1 he).1
 have hbx : b ∉ bx := fun hb => by have := m2 b hb; rw [h7] at this; cases this
 have hs2 : s2 b = s b := m4 b hbx
 have hlt : (os.flatMap AV.cells).length = i * w := by rw [h2.flatLen (fun q hq => hw q (List.mem_of_mem_take hq)), List.length_take, Nat.min_eq_left (by omega)]
 have hsol := OwnL.solid _ _ _ h2
 have hdis : ∀ q ∈ bs, q ∉ bx := fun q hq hx => by
  obtain ⟨cs, e1, _⟩ := hsol.2 q hq
  rw [m2 q hx] at e1; cases e1
 have hrep : (List.replicate (es.length - i) zs).flatten = zs ++ (List.replicate (es.length - (i + 1)) zs).flatten := by
  rw [show es.length - i = (es.length - (i + 1)) + 1 by omega, List.replicate_succ, List.flatten_cons]
 have hb2 : s2 b = some (.cells (os.flatMap AV.cells ++ zs ++ (List.replicate (es.length - (i + 1)) zs).flatten)) := by rw [hs2, h7, hrep, List.append_assoc]
 have hrl : r.cells.length = w := by rw [cells_width, (Own.shape m3).2.1, hwe]
 have hrs : r.cells.all AV.storable = true := by
  cases e <;> simp only [Own] at m3 <;> try exact m3.elim
  case int => rw [m3.1]; rfl
  case bool => rw [m3.1]; rfl
  case str => rw [m3.1]; rfl
  case slice => rcases m3 with ⟨_, rfl, _⟩ | ⟨_, _, _, _, rfl, _⟩ <;> rfl
  case agg cs =>
   obtain ⟨q, rfl, m3⟩ := m3
   refine (Own.agg_storable m3 fun c hc => ?_).1
   have hst : cs.all AV.storable = true := hst
   have := List.all_eq_true.1 hst c hc
   cases c <;> first | rfl | (simp [AV.storable] at this)
 refine ⟨os.flatMap AV.cells, _, hb2, hlt, hrl, hrs, by simp [h1], ?_, ?_, ?_, ?_, h6, ?_, ?_⟩
 · rw [List.take_add_one, he]
   have hne : ∀ q, q ≠ b → (s2.upd b (.cells (os.flatMap AV.cells ++ r.cells ++ (List.replicate (es.length - (i + 1)) zs).flatten))) q = s2 q := fun q hq => zy7.upd_ne _ _ hq
   exact OwnL.snoc h2 (fun q hq => (hne q (fun e => h4 (e ▸ hq))).trans (m4 q (hdis q hq))) (Own.keep _ _ _ (fun q hq => hne q (fun e => hbx (e ▸ hq))) m3)
 · exact List.nodup_append.2 ⟨h3, m1, fun a ha c hc e => hdis a ha (e ▸ hc)⟩
 · intro hb
   rcases List.mem_append.1 hb with hb | hb
   · exact h4 hb
   · exact hbx hb
 · intro q hq
   rcases List.mem_append.1 hq with hq | hq
   · exact h5 q hq
   · by_cases hqb : q = b
     · rw [hqb]; exact h6
     · by_cases hqs : q ∈ bs
       · exact h5 q hqs
       · rw [← h8 q hqb hqs]; exact m2 q hq
 · simp only [zy7.upd_same]
   simp
 · intro q hq hn
   simp only [List.mem_append, not_or] at hn
   exact (zy7.upd_ne _ _ hq).trans ((m4 q hn.2).trans (h8 q hq hn.1))
def MadeJ (st : zy7) (ds : List Nat) (a r : AV) (st' : zy7) : Prop := ∃ bs : List Nat, bs.Nodup ∧ (∀ b ∈ bs, st b = none) ∧ (∀ d ∈ ds, st d = none ∧ d ∉ bs) ∧ Own st' a r bs ∧ ∀ b, b ∉ bs → b ∉ ds → st' b = st b
theorem zq7.madeJ {P : Program} {g : FuncId} {args : List AV} {st : zy7} {a : AV} (x : zq7 P g args st (fun r st' => ∃ ds, MadeJ st ds a r st')) : zq7 P g args st (Made st a) :=
 x.weak fun r st' ⟨ds, bs, h1, h2, hd, h3, h4⟩ => by
  refine ⟨r, fun q => if q ∈ ds then none else st' q, ?_, ?_, bs, h1, h2, ?_, fun b hb => ?_⟩
  · have D : Drops st' (fun q => if q ∈ ds then none else st' q) := fun q => by
     by_cases hq : q ∈ ds
     · simp only [hq, if_true]; exact ⟨fun _ => trivial, fun o h => by cases h⟩
     · simp only [hq, if_false]; exact ⟨id, fun o h => h⟩
    exact D.weakS
  · have D : Drops st' (fun q => if q ∈ ds then none else st' q) := fun q => by
     by_cases hq : q ∈ ds
     · simp only [hq, if_true]; exact ⟨fun _ => trivial, fun o h => by cases h⟩
     · simp only [hq, if_false]; exact ⟨id, fun o h => h⟩
    exact D.weak r
  · exact Own.keep _ _ _ (fun q hq => if_neg fun h => (hd q h).2 hq) h3
  · by_cases hq : b ∈ ds
    · simp only [hq, if_true]; exact (hd b hq).1.symm
    · simp only [hq, if_false]; exact h4 b hb hq
def accB (b : Nat) : List AV → List Nat
 | [] => []
 | _ :: _ => [b]
theorem own_acc {s : zy7} {b w : Nat} {es os : List AV} {bs : List Nat} (x : OwnL (accS s b os) es os bs) (hw : ∀ e ∈ es, e.width = w) : Own (accS s b os) (.slice es) (accV w b os) (accB b os ++ bs) := by
 have hl := x.length
 cases os with
 | nil =>
  have : es = [] := List.eq_nil_of_length_eq_zero (by simpa using hl.symm)
  subst this
  simp only [OwnL] at x
  simp only [Own, accV, accB, x.2]
  exact .inl ⟨trivial, trivial, rfl⟩
 | cons o os =>
  simp only [Own, accV, accB]
  refine .inr ⟨b, bs, o :: os, w, by rw [hl], rfl, ?_, x, hw⟩
  simp only [accS, zy7.upd_same]
def AV.flat : AV → Bool
 | .int _ _ | .bool _ | .str _ => true
 | _ => false
theorem OwnL.flat {s : zy7} : ∀ {es : List AV}, es.all AV.flat = true → OwnL s es es []
 | [], _ => ⟨rfl, rfl⟩
 | e :: es, h => by
  simp only [List.all_cons, Bool.and_eq_true] at h
  simp only [OwnL]
  refine ⟨e, es, [], [], rfl, rfl, ?_, OwnL.flat h.2⟩
  cases e <;> simp [AV.flat] at h <;> simp [Own]
theorem Seen.nil {st s0 : zy7} : Seen st s0 [] [] := rfl
theorem Seen.same {st s0 : zy7} {x : AV} {os as : List AV} (h : Seen st s0 os as) : Seen st s0 (x :: os) (x :: as) := ⟨x, as, rfl, .inl rfl, h⟩
theorem Seen.own {st : zy7} {a o : AV} {bs : List Nat} {os as : List AV} (hO : Own st a o bs) (h : Seen st none0' os as) : Seen st none0' (o :: os) (a :: as) := ⟨a, as, rfl, .inr ⟨bs, hO, fun _ _ => rfl⟩, h⟩
theorem zq7.see {P : Program} {g : FuncId} {args args' : List AV} {st : zy7} {r : AV} (x : ∀ s, zq7 P g args s (fun r' s' => r' = r ∧ s' = s)) (hv : Seen st none0' args' args) (hs : r.solid = true) : zq7 P g args' st (fun r' s' => r' = r ∧ s' = st) :=
 zq7.frame0 hs (x none0') (Seen.rel (Drops.none0' st) hv)
theorem zq7.drop2 {P : Program} {g : FuncId} {args : List AV} {st : zy7} {r : AV} (x : zq7 P g args st (fun r' st' => r' = r ∧ Drops st' st)) : zq7 P g args st (fun r' st' => r' = r ∧ st' = st) :=
 (x.mono fun _ _ h => ⟨h.2, h.1⟩).drop
theorem aAppend_mono {P : Program} {t : TypeId} {st : zy7} {s x : AV} {K K' : AV → zy7 → Prop} (h : ∀ r s, K r s → K' r s) (e : aAppend P t st s x K) : aAppend P t st s x K' := by
 unfold aAppend at *
 split at e
 case h_2 => exact e.elim
 refine ⟨e.1, e.2.1, ?_⟩
 have e := e.2.2
 split at e
 · exact ⟨e.1, e.2.1, e.2.2.1, fun q => h _ _ (e.2.2.2.1 q), fun q b hb => h _ _ (e.2.2.2.2 q b hb)⟩
 · refine ⟨e.1, e.2.1, e.2.2.1, ?_⟩
   have e := e.2.2.2
   split at e
   · exact ⟨e.1, h _ _ e.2.1, fun b hb => h _ _ (e.2.2 b hb)⟩
   · exact e.elim
 · exact e.elim
theorem aAppendZ_mono {P : Program} {t t' : TypeId} {st : zy7} {s x : AV} {K K' : AV → zy7 → Prop} (h : ∀ r s, K r s → K' r s) (e : aAppendZ P t t' st s x K) : aAppendZ P t t' st s x K' := by
 unfold aAppendZ at *
 split at e
 case h_2 => exact e.elim
 refine ⟨e.1, e.2.1, e.2.2.1, e.2.2.2.1, ?_⟩
 have e := e.2.2.2.2
 split at e
 · exact ⟨e.1, e.2.1, e.2.2.1, fun q => h _ _ (e.2.2.2.1 q), fun q b hb => h _ _ (e.2.2.2.2 q b hb)⟩
 · refine ⟨e.1, e.2.1, e.2.2.1, ?_⟩
   have e := e.2.2.2
   split at e
   · exact ⟨e.1, h _ _ e.2.1, fun b hb => h _ _ (e.2.2 b hb)⟩
   · exact e.elim
 · exact e.elim
theorem aStep_mono {P : Program} {mt : List Nat} {φ : AF} {st : zy7} {o : Oper} {K K' : AV → zy7 → Prop} (h : ∀ r s, K r s → K' r s) (e : aStep P mt φ st o K) : aStep P mt φ st o K' := by
 unfold aStep at *
 split at e
 · split at e
   · exact e.mono h
   · exact e.elim
 · split at e
   · split at e
     · rename_i ht; rw [if_pos ht]; exact aAppend_mono h e
     · rename_i ht; rw [if_neg ht]; exact aAppendZ_mono h e
   · exact e.elim
 · split at e
   · unfold aDelete at *
     split at e
     · split at e
       · exact h _ _ e
       · exact e.elim
     · exact e.elim
   · exact e.elim
 · split at e
   · rename_i hm
     rw [if_pos hm]
     exact ⟨e.1, fun b hb => h _ _ (e.2 b hb)⟩
   · rename_i hm
     rw [if_neg hm]
     split at e
     · exact h _ _ e
     · exact e.elim
 · split at e
   · exact fun b hb => h _ _ (e b hb)
   · exact e.elim
 · split at e
   · split at e
     · exact ⟨e.1, e.2.1, e.2.2.1, h _ _ e.2.2.2⟩
     · exact e.elim
   · exact e.elim
 · exact fun b hb => h _ _ (e b hb)
 · unfold aMakeSlice at *
   split at e
   · exact ⟨e.1, e.2.1, e.2.2.1, e.2.2.2.1, e.2.2.2.2.1, e.2.2.2.2.2.1, fun b hb => h _ _ (e.2.2.2.2.2.2 b hb)⟩
   · exact e.elim
 · unfold aMapUpdate at *
   split at e
   · split at e
     · exact ⟨e.1, h _ _ e.2⟩
     · exact e.elim
   · exact e.elim
 · split at e
   · exact h _ _ e
   · exact e.elim
def aStepG (P : Program) (ops : Array Oper) (o : Oper) (φ : AF) (st : zy7) (K : AV → zy7 → Prop) : Prop := match aGuard ops φ o with
 | some true => aStep P [] φ st o K
 | some false => K .undef st
 | none => False
theorem aStepG_mono {P : Program} {ops : Array Oper} {o : Oper} {φ : AF} {st : zy7} {K K' : AV → zy7 → Prop} (h : ∀ r s, K r s → K' r s) (e : aStepG P ops o φ st K) : aStepG P ops o φ st K' := by
 unfold aStepG at *
 split at e
 · exact aStep_mono h e
 · exact h _ _ e
 · exact e.elim
section
variable {P : Program}
theorem aGuard_put {ops : Array Oper} {oi oj : Oper} (φ : AF) (v : AV) (h : ∀ d, oj.dst = some d → d ∉ oi.looksAt ops) : aGuard ops (φ.put oj.dst v) oi = aGuard ops φ oi := by
 unfold aGuard
 cases hg : oi.guard with
 | none => rfl
 | some gw =>
  obtain ⟨g, want⟩ := gw
  cases ht : (ops[g]?).bind (·.dst) with
  | none => simp only [ht]
  | some t =>
   simp only [ht]
   have : (φ.put oj.dst v) t = φ t := by
    have := put_eval (φ := φ) (dst := oj.dst) (v := v) (x := .tmp t) (fun d hd hxd => h d hd (by
     cases hxd
     simp [Oper.looksAt, hg, ht]))
    exact this
   rw [this]
theorem aStepG_put {ops : Array Oper} {oi oj : Oper} (φ : AF) (v : AV) {st : zy7} {K : AV → zy7 → Prop} (h : ∀ d, oj.dst = some d → d ∉ oi.looksAt ops) : aStepG P ops oi (φ.put oj.dst v) st K ↔ aStepG P ops oi φ st K := by
 have h1 : aStep P [] (φ.put oj.dst v) st oi K = aStep P [] φ st oi K :=
  aStep_congr fun x hx => put_eval fun d hd hxd => h d hd (by
   subst hxd
   exact List.mem_append_left _ (List.mem_filterMap.2 ⟨.tmp d, by simpa using hx, rfl⟩))
 unfold aStepG
 rw [h1, aGuard_put φ v h]
theorem getD_replicate_false' (n j : Nat) : (Array.replicate n false).getD j false = false := by
 rcases Nat.lt_or_ge j n with h | h <;> simp [h]
def aAnyG (P : Program) (ops : Array Oper) (K : AF → zy7 → Prop) : Nat → Array Bool → AF → zy7 → Prop
 | 0, listed, φ, st => Region.ready .any ops listed = [] ∧ K φ st
 | f + 1, listed, φ, st => (Region.ready .any ops listed = [] → K φ st) ∧ ∀ i ∈ Region.ready .any ops listed, ∃ o, ops[i]? = some o ∧ aStepG P ops o φ st (fun r st' => aAnyG P ops K f (listed.setIfInBounds i true) (φ.put o.dst r) st')
theorem aStepG_ok {N : Nat} {ops : Array Oper} (hN : ∀ (j d : Nat), (ops[j]?).bind (·.dst) = some d → d < N) {o : Oper} {i : Nat} {a : Act} {w : World} {φ : AF} {st : zy7} {G : AV → zy7 → Prop} {K : Act → World → Prop} {Q : Exit → Act → World → Prop} (hi : ops[i]? = some o)
 (R : Rel N a w φ st) (hd : dstOk N o = true) (y : aStepG P ops o φ st G) (h : ∀ a' w' r st', Rel N a' w' (φ.put o.dst r) st' → StepH w.heap st w'.heap st' → Same w w' → G r st' → K a' w') : wpOp P ops Q i K a w := by
 unfold aStepG at y
 unfold wpOp
 simp only [hi]
 split at y
 · rename_i hg
   rw [if_pos (aGuard_ok R hN hg)]
   refine .inl (aStep_ok R.frame R.store y fun v w' ⟨r', st', x1, x2, x3, x4, x5⟩ => ?_)
   exact h _ _ r' st' (R.put hd x3 x2 x1) x3 x4 x5
 · rename_i hg
   rw [if_neg (by rw [aGuard_ok R hN hg]; simp)]
   exact h _ _ .undef st (R.put (r := .undef) hd (StepH.refl _ _) R.store ⟨rfl, rfl⟩) (StepH.refl _ _) (Same.refl _) y
 · exact y.elim
theorem aAnyG_ok {N : Nat} {ops : Array Oper} (hN : ∀ (j d : Nat), (ops[j]?).bind (·.dst) = some d → d < N) (hD : ∀ o ∈ ops.toList, dstOk N o = true) {K : AF → zy7 → Prop} {Q : Exit → Act → World → Prop} {w0 : World} {st0 : zy7}
 (hK : ∀ φ st a w, K φ st → Rel N a w φ st → StepH w0.heap st0 w.heap st → Same w0 w → Q .normal a w) :
 ∀ (f : Nat) (listed : Array Bool) (φ : AF) (st : zy7) (a : Act) (w : World), aAnyG P ops K f listed φ st → Rel N a w φ st → StepH w0.heap st0 w.heap st → Same w0 w → wpAny P .any ops Q f listed a w
 | 0, listed, φ, st, a, w, h, R, T, s => ⟨h.1, hK φ st a w h.2 R T s⟩
 | f + 1, listed, φ, st, a, w, h, R, T, s => by
  refine ⟨fun h0 => hK φ st a w (h.1 h0) R T s, fun i hi => ?_⟩
  obtain ⟨o, ho, y⟩ := h.2 i hi
  exact aStepG_ok hN ho R (hD o (Array.mem_toList_iff.2 (Array.mem_of_getElem? ho))) y fun a' w' r st' R' T' s' g => aAnyG_ok hN hD hK f _ _ _ a' w' g R' (T.trans T') (s.trans s')
def aFree (P : Program) (ops : Array Oper) (o : Oper) (r : AV) (φ : AF) : Prop := ∀ st, aYield P st ops o r φ
theorem aFree_stepG {ops : Array Oper} {o : Oper} {r : AV} {φ : AF} (h : aFree P ops o r φ) {st : zy7} {K : AV → zy7 → Prop} (k : K r st) : aStepG P ops o φ st K := by
 unfold aStepG
 rcases h st with ⟨hg, hs⟩ | ⟨hg, rfl⟩
 · rw [hg]; exact aStep_mono (fun r' s' ⟨e1, e2⟩ => by rw [e1, e2]; exact k) hs
 · rw [hg]; exact k
theorem aYield_stepG {ops : Array Oper} {o : Oper} {r : AV} {φ : AF} {st : zy7} (h : aYield P st ops o r φ) {K : AV → zy7 → Prop} (k : K r st) : aStepG P ops o φ st K := by
 unfold aStepG
 rcases h with ⟨hg, hs⟩ | ⟨hg, rfl⟩
 · rw [hg]; exact aStep_mono (fun r' s' ⟨e1, e2⟩ => by rw [e1, e2]; exact k) hs
 · rw [hg]; exact k
def aAnyS (P : Program) (ops : Array Oper) (S : List Nat) (K : AF → zy7 → Prop) : Nat → Array Bool → AF → zy7 → Prop
 | 0, listed, φ, st => Region.ready .any ops listed = [] ∧ K φ st
 | f + 1, listed, φ, st => (Region.ready .any ops listed = [] → K φ st) ∧ ∀ i ∈ Region.ready .any ops listed, ∃ o, ops[i]? = some o ∧
  ((S.contains i = true ∧ ∃ r, aYield P st ops o r φ ∧ aAnyS P ops S K f (listed.setIfInBounds i true) (φ.put o.dst r) st) ∨
   (S.contains i = false ∧ aStepG P ops o φ st (fun r st' => aAnyS P ops S K f (listed.setIfInBounds i true) (φ.put o.dst r) st')))
theorem aAnyS_G {ops : Array Oper} {S : List Nat} {K : AF → zy7 → Prop} : ∀ (f : Nat) (listed : Array Bool) (φ : AF) (st : zy7), aAnyS P ops S K f listed φ st → aAnyG P ops K f listed φ st
 | 0, _, _, _, h => h
 | f + 1, listed, φ, st, h => by
  refine ⟨h.1, fun i hi => ?_⟩
  obtain ⟨o, ho, h2⟩ := h.2 i hi
  refine ⟨o, ho, ?_⟩
  rcases h2 with ⟨_, r, y, k⟩ | ⟨_, k⟩
  · exact aYield_stepG y (aAnyS_G f _ _ _ k)
  · exact aStepG_mono (fun r s q => aAnyS_G f _ _ _ q) k
def ClosedL (ops : Array Oper) (listed : Array Bool) : Prop := ∀ j o, ops[j]? = some o → listed.getD j false = true → ∀ e ∈ o.after, Region.binds .any e = true → listed.getD e.on false = true
theorem ClosedL.set {ops : Array Oper} {listed : Array Bool} {i : Nat} (h : ClosedL ops listed) (hr : i ∈ Region.ready .any ops listed) : ClosedL ops (listed.setIfInBounds i true) := by
 intro j o ho hl e he hb
 by_cases hji : i = j
 · subst hji
   obtain ⟨_, o', ho', hall⟩ := mem_ready.1 hr
   rw [ho'] at ho; cases ho
   exact getD_set_true (hall e he hb)
 · rw [getD_set_ne false hji] at hl
   exact getD_set_true (h j o ho hl e he hb)
def depB (ops : Array Oper) : Nat → Nat → Nat → Bool
 | 0, _, _ => false
 | f + 1, j, i => match ops[j]? with
  | some o => o.after.any fun e => Region.binds .any e && (e.on == i || depB ops f e.on i)
  | none => false
theorem depB_no {ops : Array Oper} {listed : Array Bool} {i : Nat} (h : ClosedL ops listed) (hi : listed.getD i false = false) : ∀ (f j : Nat) (o : Oper), ops[j]? = some o → depB ops f j i = true → ¬ ∀ e ∈ o.after, Region.binds .any e = true → listed.getD e.on false = true
 | 0, j, o, _, hd => by simp [depB] at hd
 | f + 1, j, o, ho, hd => by
  intro hall
  simp only [depB, ho] at hd
  obtain ⟨e, he, h2⟩ := Array.any_eq_true'.1 hd
  simp only [Bool.and_eq_true, Bool.or_eq_true, beq_iff_eq] at h2
  obtain ⟨hb, h3⟩ := h2
  have hl := hall e he hb
  rcases h3 with h3 | h3
  · rw [h3, hi] at hl; cases hl
  · cases hk : ops[e.on]? with
    | none => cases f <;> simp [depB, hk] at h3
    | some o2 => exact depB_no h hi f e.on o2 hk h3 (h e.on o2 hk hl)
def ExtS (st s : zy7) : Prop := ∀ b o, st b = some o → s b = some o
theorem ExtS.refl (st : zy7) : ExtS st st := fun _ _ h => h
theorem ExtS.trans {a b c : zy7} (x : ExtS a b) (y : ExtS b c) : ExtS a c := fun q o h => y q o (x q o h)
def allocO (o : Oper) : Bool := match o.op with
 | .alloc _ => true
 | _ => false
theorem aStepG_alloc {ops : Array Oper} {o : Oper} {φ : AF} {st : zy7} {K : AV → zy7 → Prop} (ho : allocO o = true) (e : aStepG P ops o φ st K) : aStepG P ops o φ st (fun r st' => ExtS st st' ∧ K r st') := by
 obtain ⟨dst, op, type, pos, after, guard⟩ := o
 cases op <;> simp only [allocO, Bool.false_eq_true] at ho
 unfold aStepG at e ⊢
 split at e
 · simp only [aStep] at e ⊢
   split at e
   · intro b hb
     refine ⟨fun q o hq => ?_, e b hb⟩
     rw [zy7.upd_ne _ _ (by rintro rfl; rw [hb] at hq; cases hq)]
     exact hq
   · cases e
 · exact ⟨ExtS.refl _, e⟩
 · cases e
theorem aAnyS_first {ops : Array Oper} {S : List Nat} {i : Nat} {oi : Oper} {v : AV} {K : AF → zy7 → Prop} (hi : ops[i]? = some oi) (hS : S.contains i = true) :
 ∀ (f : Nat) (listed : Array Bool) (φ : AF) (st : zy7), ClosedL ops listed →
  (∀ j oj, ops[j]? = some oj → j ≠ i → listed.getD j true = false → (∀ e ∈ oj.after, Region.binds .any e = true → e.on ≠ i) → oi.apart ops oj = true) →
  i ∈ Region.ready .any ops listed → ((∀ s, aYield P s ops oi v φ) ∨ (aYield P st ops oi v φ ∧ ∀ j oj, ops[j]? = some oj → listed.getD j true = false → S.contains j = false → ∃ g, depB ops g j i = true) ∨ ((∀ s, ExtS st s → aYield P s ops oi v φ) ∧ ∀ j oj, ops[j]? = some oj → listed.getD j true = false → S.contains j = false → (∃ g, depB ops g j i = true) ∨ allocO oj = true)) →
  aAnyS P ops S K f (listed.setIfInBounds i true) (φ.put oi.dst v) st → aAnyS P ops S K (f + 1) listed φ st := by
 intro f
 induction f with
 | zero =>
  intro listed φ st hcl _ hr hy H
  have hy0 : aYield P st ops oi v φ := by
   rcases hy with h | h | h
   · exact h st
   · exact h.1
   · exact h.1 st (ExtS.refl st)
  refine ⟨fun h => (by rw [h] at hr; cases hr), fun j hj => ?_⟩
  by_cases hji : j = i
  · subst hji; exact ⟨oi, hi, .inl ⟨hS, v, hy0, H⟩⟩
  · have := ready_mono hj hji
    rw [H.1] at this
    cases this
 | succ f ih =>
  intro listed φ st hcl hfree hr hy H
  have hy0 : aYield P st ops oi v φ := by
   rcases hy with h | h | h
   · exact h st
   · exact h.1
   · exact h.1 st (ExtS.refl st)
  refine ⟨fun h => (by rw [h] at hr; cases hr), fun j hj => ?_⟩
  by_cases hji : j = i
  · subst hji; exact ⟨oi, hi, .inl ⟨hS, v, hy0, H⟩⟩
  · obtain ⟨oj, hoj, h1⟩ := H.2 j (ready_mono hj hji)
    obtain ⟨hjun, oj', hoj', hall⟩ := mem_ready.1 hj
    have : oj' = oj := Option.some.inj (hoj'.symm.trans hoj)
    subst this
    have hun := (mem_ready.1 hr).1
    have hnot : ∀ e ∈ oj'.after, Region.binds .any e = true → e.on ≠ i := fun e he hb heq => by
     have h1 := hall e he hb
     rw [heq, getD_both hun] at h1
     cases h1
    obtain ⟨a1, a2, a3⟩ := Oper.apart_spec (hfree j oj' hoj hji hjun hnot)
    have hfree' : ∀ k ok, ops[k]? = some ok → k ≠ i → (listed.setIfInBounds j true).getD k true = false →
     (∀ e ∈ ok.after, Region.binds .any e = true → e.on ≠ i) → oi.apart ops ok = true := fun k ok hk hki hun hno => by
     refine hfree k ok hk hki ?_ hno
     by_cases hjk : j = k
     · subst hjk; exact hjun
     · rw [getD_set_ne true hjk] at hun; exact hun
    have hun' : ∀ k, (listed.setIfInBounds j true).getD k true = false → listed.getD k true = false := fun k hk => by
     by_cases hjk : j = k
     · subst hjk; exact hjun
     · rw [getD_set_ne true hjk] at hk; exact hk
    refine ⟨oj', hoj, ?_⟩
    rcases h1 with ⟨hSj, r, yj, h2⟩ | ⟨hSj, h2⟩
    · refine .inl ⟨hSj, r, (aYield_put φ v a1).1 yj, ih (listed.setIfInBounds j true) (φ.put oj'.dst r) st (hcl.set hj) hfree' (ready_mono hr (Ne.symm hji)) ?_ ?_⟩
      · rcases hy with h | h | h
        · exact .inl fun s => (aYield_put φ r a3).2 (h s)
        · exact .inr (.inl ⟨(aYield_put φ r a3).2 h.1, fun k ok hk hl hs => h.2 k ok hk (hun' k hl) hs⟩)
        · exact .inr (.inr ⟨fun s hs => (aYield_put φ r a3).2 (h.1 s hs), fun k ok hk hl hs => h.2 k ok hk (hun' k hl) hs⟩)
      · rw [Array.setIfInBounds_comm _ _ hji, ← put_comm φ v r a2]
        exact h2
    · rcases hy with hf | ⟨_, hd⟩ | ⟨hx, hd⟩
      · refine .inr ⟨hSj, aStepG_mono (fun r st' h3 => ?_) ((aStepG_put φ v a1).1 h2)⟩
        refine ih (listed.setIfInBounds j true) (φ.put oj'.dst r) st' (hcl.set hj) hfree' (ready_mono hr (Ne.symm hji)) (.inl fun s => (aYield_put φ r a3).2 (hf s)) ?_
        rw [Array.setIfInBounds_comm _ _ hji, ← put_comm φ v r a2]
        exact h3
      · obtain ⟨g, hg⟩ := hd j oj' hoj hjun hSj
        exact absurd hall (depB_no hcl (getD_both hun) g j oj' hoj hg)
      · rcases hd j oj' hoj hjun hSj with ⟨g, hg⟩ | hal
        · exact absurd hall (depB_no hcl (getD_both hun) g j oj' hoj hg)
        · refine .inr ⟨hSj, aStepG_mono (fun r st' h3 => ?_) (aStepG_alloc hal ((aStepG_put φ v a1).1 h2))⟩
          refine ih (listed.setIfInBounds j true) (φ.put oj'.dst r) st' (hcl.set hj) hfree' (ready_mono hr (Ne.symm hji)) (.inr (.inr ⟨fun s hs => (aYield_put φ r a3).2 (hx s (h3.1.trans hs)), fun k ok hk hl hs => hd k ok hk (hun' k hl) hs⟩)) ?_
          rw [Array.setIfInBounds_comm _ _ hji, ← put_comm φ v r a2]
          exact h3.2
def stillB (ops : Array Oper) (S : List Nat) (listed : Array Bool) (i : Nat) : Bool := (List.range ops.size).all fun j => listed.getD j true || S.contains j || depB ops ops.size j i
def stillA (ops : Array Oper) (S : List Nat) (listed : Array Bool) (i : Nat) : Bool := (List.range ops.size).all fun j => listed.getD j true || S.contains j || depB ops ops.size j i || ((ops[j]?).map allocO).getD false
def plainAt (ops : Array Oper) (i : Nat) : Bool := ((ops[i]?).map zw0).getD false
def planB (ops : Array Oper) (S : List Nat) : List (Nat × Nat) → Array Bool → Bool
 | [], listed => (Region.ready .any ops listed).isEmpty
 | (i, 0) :: r, listed => decide (Region.ready .any ops listed = [i]) && !S.contains i && planB ops S r (listed.setIfInBounds i true)
 | (i, 1) :: r, listed => (Region.ready .any ops listed).contains i && Region.free .any ops listed i && S.contains i && planB ops S r (listed.setIfInBounds i true)
 | (i, _) :: r, listed => (Region.ready .any ops listed).contains i && Region.free .any ops listed i && S.contains i && (stillB ops S listed i || (plainAt ops i && stillA ops S listed i)) && planB ops S r (listed.setIfInBounds i true)
def aPlan (P : Program) (ops : Array Oper) (K : AF → zy7 → Prop) : List (Nat × Nat) → AF → zy7 → Prop
 | [], φ, st => K φ st
 | (i, 0) :: r, φ, st => ∃ o, ops[i]? = some o ∧ aStepG P ops o φ st (fun v st' => aPlan P ops K r (φ.put o.dst v) st')
 | (i, 1) :: r, φ, st => ∃ o, ops[i]? = some o ∧ ∃ v, aFree P ops o v φ ∧ aPlan P ops K r (φ.put o.dst v) st
 | (i, _) :: r, φ, st => ∃ o, ops[i]? = some o ∧ ∃ v, aYield P st ops o v φ ∧ aPlan P ops K r (φ.put o.dst v) st
theorem lookup_ext {t : TypeId} {ok : Bool} {x i r : AV} {st s : zy7} (hs : ExtS st s) (h : aLookup P st t ok x i = some r) : aLookup P s t ok x i = some r := by
 unfold aLookup at *
 split at h
 · rename_i b n
   cases hb : st b with
   | none => rw [hb] at h; cases h
   | some o => rw [hs b o hb, ← hb]; exact h
 · cases h
theorem load_ext {t : TypeId} {x r : AV} {st s : zy7} (hs : ExtS st s) (h : zq2 P st t x = some r) : zq2 P s t x = some r := by
 unfold zq2 at *
 split at h
 · exact h
 · rename_i b o
   cases hb : st b with
   | none => rw [hb] at h; split at h <;> simp_all
   | some o => rw [hs b o hb, ← hb]; exact h
 · cases h
theorem aVal_ext {φ : AF} {o : Oper} {r : AV} {st s : zy7} (hs : ExtS st s) (h : aVal P φ st o = some r) : aVal P φ s o = some r := by
 obtain ⟨dst, op, type, pos, after, guard⟩ := o
 cases op
 case makeFunc fn a b => cases fn <;> exact h
 case call c =>
  obtain ⟨callee, args, ats⟩ := c
  cases callee
  case builtin b => cases b <;> exact h
  all_goals exact h
 case load => exact load_ext hs h
 case lookup => exact lookup_ext hs h
 all_goals exact h
theorem aYield_ext {ops : Array Oper} {o : Oper} {v : AV} {φ : AF} {st s : zy7} (hp : zw0 o = true) (hs : ExtS st s) (h : aYield P st ops o v φ) : aYield P s ops o v φ := by
 rcases h with ⟨h1, h2⟩ | h
 · refine .inl ⟨h1, ?_⟩
   rw [aStep_plain hp] at h2 ⊢
   cases hv : aVal P φ st o with
   | none => rw [hv] at h2; cases h2
   | some r =>
    rw [hv] at h2
    rw [aVal_ext hs hv]
    exact ⟨h2.1, rfl⟩
 · exact .inr h
theorem aPlan_any {ops : Array Oper} {S : List Nat} {K : AF → zy7 → Prop} : ∀ (p : List (Nat × Nat)) (listed : Array Bool) (φ : AF) (st : zy7), ClosedL ops listed → planB ops S p listed = true → aPlan P ops K p φ st → aAnyS P ops S K p.length listed φ st
 | [], listed, φ, st, _, hB, h => ⟨by simpa [planB] using hB, h⟩
 | (i, 0) :: r, listed, φ, st, hcl, hB, h => by
  simp only [planB, Bool.and_eq_true, decide_eq_true_eq, Bool.not_eq_true'] at hB
  obtain ⟨o, ho, h'⟩ := h
  have hr : i ∈ Region.ready .any ops listed := by rw [hB.1.1]; simp
  refine ⟨fun h0 => (by rw [hB.1.1] at h0; cases h0), fun j hj => ?_⟩
  rw [hB.1.1] at hj
  obtain rfl : j = i := by simpa using hj
  exact ⟨o, ho, .inr ⟨hB.1.2, aStepG_mono (fun v st' q => aPlan_any r _ _ _ (hcl.set hr) hB.2 q) h'⟩⟩
 | (i, 1) :: r, listed, φ, st, hcl, hB, h => by
  simp only [planB, Bool.and_eq_true] at hB
  obtain ⟨⟨⟨hr, hf⟩, hS⟩, hB'⟩ := hB
  obtain ⟨o, ho, v, hv, h'⟩ := h
  have hr' : i ∈ Region.ready .any ops listed := by simpa using hr
  exact aAnyS_first ho hS _ listed φ st hcl (Region.free_spec ho hf) hr' (.inl hv) (aPlan_any r _ _ _ (hcl.set hr') hB' h')
 | (i, k + 2) :: r, listed, φ, st, hcl, hB, h => by
  simp only [planB, Bool.and_eq_true] at hB
  obtain ⟨⟨⟨⟨hr, hf⟩, hS⟩, hd⟩, hB'⟩ := hB
  obtain ⟨o, ho, v, hv, h'⟩ := h
  have hr' : i ∈ Region.ready .any ops listed := by simpa using hr
  rw [Bool.or_eq_true] at hd
  rcases hd with hd | hd
  · refine aAnyS_first ho hS _ listed φ st hcl (Region.free_spec ho hf) hr' (.inr (.inl ⟨hv, fun j oj hj hl hs => ⟨ops.size, ?_⟩⟩)) (aPlan_any r _ _ _ (hcl.set hr') hB' h')
    simp only [stillB, List.all_eq_true, List.mem_range] at hd
    have := hd j (Array.getElem?_eq_some_iff.1 hj).1
    simpa only [hl, hs, Bool.false_or] using this
  · rw [Bool.and_eq_true] at hd
    obtain ⟨hp, hd⟩ := hd
    simp only [plainAt, ho, Option.map_some, Option.getD_some] at hp
    refine aAnyS_first ho hS _ listed φ st hcl (Region.free_spec ho hf) hr' (.inr (.inr ⟨fun s hs => aYield_ext hp hs hv, fun j oj hj hl hs => ?_⟩)) (aPlan_any r _ _ _ (hcl.set hr') hB' h')
    simp only [stillA, List.all_eq_true, List.mem_range] at hd
    have := hd j (Array.getElem?_eq_some_iff.1 hj).1
    simp only [hl, hs, Bool.false_or, hj, Option.map_some, Option.getD_some, Bool.or_eq_true] at this
    exact this.imp (fun h => ⟨ops.size, h⟩) id
theorem arun_planR {N : Nat} {id : Nat} {ops : Array Oper} {Q : Exit → AF → zy7 → Prop} {φ : AF} {st : zy7} (p : List (Nat × Nat)) (S : List Nat) (hm : P.follows .mixedOrders = true) (hok : opsOk N ops = true) (hl : p.length = ops.size) (hB : planB ops S p (Array.replicate ops.size false) = true)
 (h : aPlan P ops (Q .normal) p φ st) : ARun P N (.region id ops true) Q φ st := by
 intro a w R
 refine wp_region_any hm ?_
 have R0 : Rel N a { w with drawn := w.drawn + 1 } φ st := ⟨R.size, R.defers, R.frame, R.store⟩
 have := aAnyS_G _ _ _ _ (aPlan_any p _ φ st (fun j o _ hl => (by rw [getD_replicate_false'] at hl; cases hl)) hB h)
 rw [hl] at this
 exact aAnyG_ok (opsOk_at hok) (opsOk_dst hok) (w0 := w) (st0 := st) (fun φ' st' a' w' k R' T s => ⟨φ', st', R', T, s, k⟩) _ _ _ _ _ _ this R0 (StepH.refl _ _) ⟨rfl, rfl, rfl⟩
theorem lookup_any {t : TypeId} {ok : Bool} {x i r : AV} (h : aLookup P none0' t ok x i = some r) (st : zy7) : aLookup P st t ok x i = some r := by
 unfold aLookup at *
 split at h
 · simp only [none0'] at h; cases h
 · cases h
theorem load_any {t : TypeId} {x r : AV} (h : zq2 P none0' t x = some r) (st : zy7) : zq2 P st t x = some r := by
 unfold zq2 at *
 split at h
 · exact h
 · split at h
   · rename_i h1; simp only [none0'] at h1; cases h1
   · cases h
 · cases h
theorem aVal_any {φ : AF} {o : Oper} {r : AV} (h : aVal P φ none0' o = some r) (st : zy7) : aVal P φ st o = some r := by
 obtain ⟨dst, op, type, pos, after, guard⟩ := o
 cases op
 case makeFunc fn a b => cases fn <;> exact h
 case call c =>
  obtain ⟨callee, args, ats⟩ := c
  cases callee
  case builtin b => cases b <;> exact h
  all_goals exact h
 case load => exact load_any h st
 case lookup => exact lookup_any h st
 all_goals exact h
def aPlanE (P : Program) (ops : Array Oper) (K : AF → zy7 → Prop) : List (Nat × Nat) → AF → zy7 → Prop
 | [], φ, st => K φ st
 | (i, 0) :: r, φ, st => match ops[i]? with
  | none => False
  | some o => aOps P [] ops [o] (fun φ' st' => aPlanE P ops K r φ' st') φ st
 | (i, 1) :: r, φ, st => match ops[i]? with
  | none => False
  | some o => if zw0 o = true then aOps P [] ops [o] (fun φ' _ => aPlanE P ops K r φ' st) φ none0' else
   match o.guard, o.op with
   | none, .call { callee := .value f, args, .. } => ∃ v, (∀ s, callV P (φ.eval f) (args.toList.map φ.eval) s (fun r' s' => r' = v ∧ s' = s)) ∧ aPlanE P ops K r (φ.put o.dst v) st
   | _, _ => False
 | (i, _) :: r, φ, st => match ops[i]? with
  | none => False
  | some o => if zw0 o = true then aOps P [] ops [o] (fun φ' _ => aPlanE P ops K r φ' st) φ st else
   match o.guard, o.op with
   | none, .call { callee := .value f, args, .. } => ∃ v, callV P (φ.eval f) (args.toList.map φ.eval) st (fun r' s' => r' = v ∧ s' = st) ∧ aPlanE P ops K r (φ.put o.dst v) st
   | _, _ => False
theorem aPlanE_ok {ops : Array Oper} {K : AF → zy7 → Prop} : ∀ (p : List (Nat × Nat)) (φ : AF) (st : zy7), aPlanE P ops K p φ st → aPlan P ops K p φ st
 | [], _, _, h => h
 | (i, 0) :: r, φ, st, h => by
  simp only [aPlanE] at h
  split at h
  · exact h.elim
  · rename_i o ho
    refine ⟨o, ho, ?_⟩
    simp only [aOps] at h
    unfold aStepG
    split at h
    · rename_i hg
      rw [hg]
      exact aStep_mono (fun v s q => aPlanE_ok r _ _ q) h
    · rename_i hg
      rw [hg]
      exact aPlanE_ok r _ _ h
    · exact h.elim
 | (i, 1) :: r, φ, st, h => by
  simp only [aPlanE] at h
  split at h
  · exact h.elim
  · rename_i o ho
    split at h
    · rename_i hp
      simp only [aOps] at h
      split at h
      · rename_i hg
        rw [aStep_plain hp] at h
        split at h
        · rename_i v hv
          exact ⟨o, ho, v, fun s => .inl ⟨hg, by rw [aStep_plain hp, aVal_any hv s]; exact ⟨rfl, rfl⟩⟩, aPlanE_ok r _ _ h⟩
        · exact h.elim
      · rename_i hg
        exact ⟨o, ho, .undef, fun s => .inr ⟨hg, rfl⟩, aPlanE_ok r _ _ h⟩
      · exact h.elim
    · split at h
      · rename_i f args ats hg hop
        obtain ⟨v, h1, h2⟩ := h
        refine ⟨o, ho, v, fun s => .inl ⟨by simp only [aGuard, hg], ?_⟩, aPlanE_ok r _ _ h2⟩
        simp only [aStep, hop]
        exact h1 s
      · exact h.elim
 | (i, k + 2) :: r, φ, st, h => by
  simp only [aPlanE] at h
  split at h
  · exact h.elim
  · rename_i o ho
    split at h
    · rename_i hp
      simp only [aOps] at h
      split at h
      · rename_i hg
        rw [aStep_plain hp] at h
        split at h
        · rename_i v hv
          exact ⟨o, ho, v, .inl ⟨hg, by rw [aStep_plain hp, hv]; exact ⟨rfl, rfl⟩⟩, aPlanE_ok r _ _ h⟩
        · exact h.elim
      · rename_i hg
        exact ⟨o, ho, .undef, .inr ⟨hg, rfl⟩, aPlanE_ok r _ _ h⟩
      · exact h.elim
    · split at h
      · rename_i f args ats hg hop
        obtain ⟨v, h1, h2⟩ := h
        refine ⟨o, ho, v, .inl ⟨by simp only [aGuard, hg], ?_⟩, aPlanE_ok r _ _ h2⟩
        simp only [aStep, hop]
        exact h1
      · exact h.elim
end
def planK (P : Program) (ops : Array Oper) (K : AF → zy7 → Prop) (r : List (Nat × Nat)) (φ : AF) (st : zy7) : Prop := aPlanE P ops K r φ st
def planF (P : Program) (ops : Array Oper) (K : AF → zy7 → Prop) (r : List (Nat × Nat)) (st : zy7) (φ : AF) (_ : zy7) : Prop := aPlanE P ops K r φ st
def planC (P : Program) (ops : Array Oper) (K : AF → zy7 → Prop) (r : List (Nat × Nat)) (φ : AF) (dst : Option Tmp) (st : zy7) (v : AV) : Prop := aPlanE P ops K r (φ.put dst v) st
def callF (P : Program) (f : AV) (args : List AV) (K : AV → Prop) : Prop := ∃ v, (∀ s, callV P f args s (fun r' s' => r' = v ∧ s' = s)) ∧ K v
def planO (P : Program) (ops : Array Oper) (K : AF → zy7 → Prop) (r : List (Nat × Nat)) (φ : AF) (st : zy7) : Nat → Option Oper → Prop
 | 0, some o => aOps P [] ops [o] (planK P ops K r) φ st
 | 1, some o => if zw0 o = true then aOps P [] ops [o] (planF P ops K r st) φ none0' else
  match o.guard, o.op with
  | none, .call { callee := .value f, args, .. } => callF P (φ.eval f) (args.toList.map φ.eval) (planC P ops K r φ o.dst st)
  | _, _ => False
 | _, some o => if zw0 o = true then aOps P [] ops [o] (planF P ops K r st) φ st else
  match o.guard, o.op with
  | none, .call { callee := .value f, args, .. } => callH P (φ.eval f) (args.toList.map φ.eval) st (planC P ops K r φ o.dst st)
  | _, _ => False
 | _, none => False
theorem ev_plan0 {P : Program} {ops : Array Oper} {K : AF → zy7 → Prop} {φ : AF} {st : zy7} : aPlanE P ops K [] φ st = K φ st := rfl
theorem ev_plan1 {P : Program} {l : List Oper} {K : AF → zy7 → Prop} {φ : AF} {st : zy7} {i b : Nat} {r : List (Nat × Nat)} : aPlanE P l.toArray K ((i, b) :: r) φ st = planO P l.toArray K r φ st b l[i]? := by
 match b with
 | 0 => simp only [aPlanE, List.getElem?_toArray]; cases l[i]? <;> rfl
 | 1 => simp only [aPlanE, List.getElem?_toArray]; cases l[i]? <;> rfl
 | b + 2 => simp only [aPlanE, List.getElem?_toArray]; cases l[i]? <;> rfl
theorem ev_planO {P : Program} {ops : Array Oper} {K : AF → zy7 → Prop} {φ : AF} {st : zy7} {r : List (Nat × Nat)} {o : Oper} : planO P ops K r φ st 0 (some o) = aOps P [] ops [o] (planK P ops K r) φ st := rfl
theorem ev_planT {P : Program} {ops : Array Oper} {K : AF → zy7 → Prop} {φ : AF} {st : zy7} {r : List (Nat × Nat)} {o : Oper} : planO P ops K r φ st 1 (some o) = if zw0 o = true then aOps P [] ops [o] (planF P ops K r st) φ none0' else
      match o.guard, o.op with
      | none, .call { callee := .value f, args, .. } => callF P (φ.eval f) (args.toList.map φ.eval) (planC P ops K r φ o.dst st)
      | _, _ => False := rfl
theorem ev_planU {P : Program} {ops : Array Oper} {K : AF → zy7 → Prop} {φ : AF} {st : zy7} {r : List (Nat × Nat)} {o : Oper} : planO P ops K r φ st 2 (some o) = if zw0 o = true then aOps P [] ops [o] (planF P ops K r st) φ st else
      match o.guard, o.op with
      | none, .call { callee := .value f, args, .. } => callH P (φ.eval f) (args.toList.map φ.eval) st (planC P ops K r φ o.dst st)
      | _, _ => False := rfl
theorem ev_planK {P : Program} {ops : Array Oper} {K : AF → zy7 → Prop} {φ : AF} {st : zy7} {r : List (Nat × Nat)} : planK P ops K r φ st = aPlanE P ops K r φ st := rfl
theorem ev_planF {P : Program} {ops : Array Oper} {K : AF → zy7 → Prop} {φ : AF} {st s : zy7} {r : List (Nat × Nat)} : planF P ops K r st φ s = aPlanE P ops K r φ st := rfl
theorem ev_planC {P : Program} {ops : Array Oper} {K : AF → zy7 → Prop} {φ : AF} {st : zy7} {r : List (Nat × Nat)} {dst : Option Tmp} {v : AV} : planC P ops K r φ dst st v = aPlanE P ops K r (φ.put dst v) st := rfl
theorem callF_mk {P : Program} {g : FuncId} {args : List AV} {r : AV} {K : AV → Prop} (x : ∀ st, zq7 P g args st (fun r' st' => r' = r ∧ st' = st)) (h : K r) : callF P (.func g []) args K := ⟨r, fun st => by show zq7 P g (args ++ []) st _; rw [List.append_nil]; exact x st, h⟩
@[congr] theorem cg_aPlanE {P : Program} {ops : Array Oper} {K : AF → zy7 → Prop} {p : List (Nat × Nat)} {φ φ' : AF} {st st' : zy7} (h1 : φ = φ') (h2 : st = st') : aPlanE P ops K p φ st = aPlanE P ops K p φ' st' := by rw [h1, h2]
@[congr] theorem cg_planO {P : Program} {ops : Array Oper} {K : AF → zy7 → Prop} {p : List (Nat × Nat)} {φ φ' : AF} {st st' : zy7} {b : Nat} {o o' : Option Oper} (h1 : φ = φ') (h2 : st = st') (h3 : o = o') : planO P ops K p φ st b o = planO P ops K p φ' st' b o' := by rw [h1, h2, h3]
@[congr] theorem cg_planC {P : Program} {ops : Array Oper} {K : AF → zy7 → Prop} {p : List (Nat × Nat)} {φ φ' : AF} {dst : Option Tmp} {st st' : zy7} {v v' : AV} (h1 : φ = φ') (h2 : st = st') (h3 : v = v') : planC P ops K p φ dst st v = planC P ops K p φ' dst st' v' := by rw [h1, h2, h3]
@[congr] theorem cg_callF {P : Program} {f f' : AV} {args args' : List AV} {K : AV → Prop} (h0 : f = f') (h1 : args = args') : callF P f args K = callF P f' args' K := by rw [h0, h1]
theorem zx5 {P : Program} {N : Nat} {id : Nat} {l : List Oper} {Q : Exit → AF → zy7 → Prop} {φ : AF} {st : zy7} (p : List (Nat × Nat)) (S : List Nat) (hm : P.follows .mixedOrders = true) (hok : opsOk N l.toArray = true) (hl : p.length = l.length) (hB : planB l.toArray S p (Array.replicate l.length false) = true)
 (h : aPlanE P l.toArray (Q .normal) p φ st) : ARun P N (.region id l.toArray true) Q φ st :=
 arun_planR p S hm hok (by simpa using hl) (by simpa using hB) (aPlanE_ok p φ st h)
theorem acc_appendG {P : Program} {t : TypeId} {ag : Bool} {w bytes : Nat} {zs : List AV} {s : zy7} {b : Nat} {l xs : List AV} {x : AV} {K : AV → zy7 → Prop}
 (hI : eI P t = some (ag, w)) (hB : eB P t = some bytes) (hZ : eZ P t = some zs) (hz : zs.length = w) (hx : aElems x = some xs) (hfit : appFit w xs) (hw : ∀ e ∈ l, e.width = w) (hb : l ≠ [] → s b = some (.cells (l.flatMap AV.cells)))
 (h1 : (l.length + xs.length) * bytes ≤ 140737488355328) (h2 : l.length + xs.length ≤ 9223372036854775807)
 (hK : ∀ b' s', (l ++ xs ≠ [] → s' b' = some (.cells ((l ++ xs).flatMap AV.cells))) → (l ++ xs ≠ [] → b' = b ∧ l ≠ [] ∨ s b' = none) → (∀ q, (l ++ xs ≠ [] → q ≠ b') → (l ≠ [] → q ≠ b) → s' q = s q) → (l ≠ [] → b' ≠ b → s' b = none) → K (accV w b' (l ++ xs)) s') : aAppend P t s (accV w b l) x K := by
 unfold aAppend
 rw [hI, hB, hZ, hx]
 refine ⟨hz, hfit, ?_⟩
 cases l with
 | nil =>
  show _ ∧ _ ∧ _ ∧ _ ∧ _
  refine ⟨by simpa using h1, by simpa using h2, by simp, ?_, ?_⟩
  · rintro rfl
    have := hK b s (by simp) (by simp) (fun _ _ _ => rfl) (by simp)
    simpa [accV] using this
  · intro hne b' hb'
    have := hK b' (s.upd b' (.cells (xs.flatMap AV.cells))) (fun _ => by rw [zy7.upd_same]; simp) (fun _ => .inr hb') (fun q h _ => zy7.upd_ne _ _ (h (by simpa using hne))) (by simp)
    rw [List.nil_append, accV_cons hne] at this
    simpa using this
 | cons y l =>
  have hb := hb (by simp)
  show w = w ∧ _ ∧ _ ∧ _
  refine ⟨rfl, h1, h2, ?_⟩
  have hfl : ((y :: l).flatMap AV.cells).length = (y :: l).length * w := flat_length hw
  rw [hb]
  refine ⟨by rw [hfl]; exact Nat.le_refl _, ?_, ?_⟩
  · have := hK b (s.upd b (.cells ((y :: l ++ xs).flatMap AV.cells))) (fun _ => zy7.upd_same _ _ _) (fun _ => .inl ⟨rfl, by simp⟩) (fun q h _ => zy7.upd_ne _ _ (h (by simp))) (fun _ h => absurd rfl h)
    rw [accV_cons (by simp), List.flatMap_append, List.length_append] at this
    rw [← hfl, List.take_length]
    exact this
  · intro b' hb'
    have hne : b' ≠ b := by rintro rfl; rw [hb] at hb'; cases hb'
    have := hK b' ((s.erase b).upd b' (.cells ((y :: l ++ xs).flatMap AV.cells))) (fun _ => zy7.upd_same _ _ _) (fun _ => .inr hb') (fun q h h' => by
     rw [zy7.upd_ne _ _ (h (by simp))]
     simp only [zy7.erase, h' (by simp), if_false]) (fun _ _ => by rw [zy7.upd_ne _ _ (Ne.symm hne)]; exact zy7.erase_same _ _)
    rw [accV_cons (by simp), List.flatMap_append, List.length_append] at this
    rw [← hfl, List.take_length]
    exact this
def GrowTo (es : List AV) (st : zy7) (i : Nat) (os : List AV) (bs : List Nat) (b : Nat) (s : zy7) : Prop :=
 os.length = i ∧ OwnL s (es.take i) os bs ∧ bs.Nodup ∧ (∀ q ∈ bs, st q = none) ∧ (os ≠ [] → st b = none ∧ b ∉ bs ∧ s b = some (.cells (os.flatMap AV.cells))) ∧ ∀ q, q ∉ bs → (os ≠ [] → q ≠ b) → s q = st q
theorem GrowTo.start {es : List AV} {st : zy7} {b : Nat} : GrowTo es st 0 [] [] b st := ⟨rfl, by simp [OwnL], List.nodup_nil, by simp, by simp, fun _ _ _ => rfl⟩
theorem mem_accB {b x : Nat} {l : List AV} : x ∈ accB b l ↔ x = b ∧ l ≠ [] := by cases l <;> simp [accB]
theorem GrowTo.done {es : List AV} {st : zy7} {n w : Nat} {os : List AV} {bs : List Nat} {b : Nat} {s : zy7} (h : GrowTo es st n os bs b s) (hl : es.length = n) (hw : ∀ e ∈ es, e.width = w) : Made st (.slice es) (accV w b os) s := by
 obtain ⟨h1, h2, h3, h4, h5, h6⟩ := h
 rw [List.take_of_length_le (by omega)] at h2
 refine ⟨accB b os ++ bs, ?_, fun q hq => ?_, ?_, fun q hq => ?_⟩
 · rw [List.nodup_append]
   refine ⟨by cases os <;> simp [accB], h3, fun x hx y hy e => ?_⟩
   obtain ⟨rfl, hne⟩ := mem_accB.1 hx
   exact (h5 hne).2.1 (e ▸ hy)
 · rcases List.mem_append.1 hq with hq | hq
   · obtain ⟨rfl, hne⟩ := mem_accB.1 hq
     exact (h5 hne).1
   · exact h4 q hq
 · cases os with
   | nil =>
    have : es = [] := by simpa using h2.length.symm
    subst this
    simp only [OwnL] at h2
    simp only [Own, accV, accB, h2.2]
    exact .inl ⟨trivial, trivial, rfl⟩
   | cons o os =>
    simp only [Own, accV, accB]
    refine .inr ⟨b, bs, o :: os, w, by rw [h2.length], rfl, (h5 (by simp)).2.2, h2, hw⟩
 · simp only [List.mem_append, mem_accB, not_or, not_and] at hq
   exact h6 q hq.2 (fun hne e => hq.1 e hne)
theorem OwnL.widths {st : zy7} {w : Nat} : ∀ {as os : List AV} {bs : List Nat}, OwnL st as os bs → (∀ e ∈ as, e.width = w) → ∀ o ∈ os, o.width = w
 | [], os, bs, x, _ => by simp only [OwnL] at x; rw [x.1]; simp
 | a :: as, os, bs, x, h => by
  simp only [OwnL] at x
  obtain ⟨o, os', b1, b2, rfl, rfl, x1, x2⟩ := x
  intro q hq
  rcases List.mem_cons.1 hq with rfl | hq
  · rw [(Own.shape x1).2.1, h a (by simp)]
  · exact OwnL.widths x2 (fun e he => h e (by simp [he])) q hq
theorem Own.cellsFit {st : zy7} {e r : AV} {bs : List Nat} {w : Nat} (m3 : Own st e r bs) (hwe : e.width = w) (hst : e.cells.all AV.storable = true) : r.width = w ∧ r.cells.length = w ∧ r.cells.all AV.storable = true := by
 refine ⟨(Own.shape m3).2.1.trans hwe, by rw [cells_width, (Own.shape m3).2.1, hwe], ?_⟩
 cases e <;> simp only [Own] at m3 <;> try exact m3.elim
 case int => rw [m3.1]; rfl
 case bool => rw [m3.1]; rfl
 case str => rw [m3.1]; rfl
 case slice => rcases m3 with ⟨_, rfl, _⟩ | ⟨_, _, _, _, rfl, _⟩ <;> rfl
 case agg cs =>
  obtain ⟨q, rfl, m3⟩ := m3
  refine (Own.agg_storable m3 fun c hc => ?_).1
  have hst : cs.all AV.storable = true := hst
  have := List.all_eq_true.1 hst c hc
  cases c <;> first | rfl | (simp [AV.storable] at this)
theorem GrowTo.step {es : List AV} {st : zy7} {i : Nat} {os : List AV} {bs bx : List Nat} {b x b' : Nat} {s s2 s' : zy7} {o : AO} {e r : AV} (h : GrowTo es st i os bs b s) (hx : s x = none) (he : es[i]? = some e)
 (m1 : bx.Nodup) (m2 : ∀ q ∈ bx, (s.upd x o) q = none) (m3 : Own s2 e r bx) (m4 : ∀ q, q ∉ bx → s2 q = (s.upd x o) q)
 (k1 : s' b' = some (.cells ((os ++ [r]).flatMap AV.cells))) (k2 : b' = b ∧ os ≠ [] ∨ s2 b' = none) (k3 : ∀ q, q ≠ b' → (os ≠ [] → q ≠ b) → s' q = s2 q) (k4 : os ≠ [] → b' ≠ b → s' b = none) :
 GrowTo es st (i + 1) (os ++ [r]) (bs ++ bx) b' (s'.erase x) := by
 obtain ⟨h1, h2, h3, h4, h5, h6⟩ := h
 have hsol := OwnL.solid _ _ _ h2
 have hi : i < es.length := (List.getElem?_eq_some_iff.1 he).1
 have hsome : ∀ q ∈ bs, s q ≠ none := fun q hq => by obtain ⟨cs, e1, _⟩ := hsol.2 q hq; rw [e1]; simp
 have hxbs : x ∉ bs := fun hq => hsome x hq hx
 have hxb : os ≠ [] → x ≠ b := fun hne e => by have := (h5 hne).2.2; rw [← e, hx] at this; cases this
 have hxbx : x ∉ bx := fun hq => by have := m2 x hq; rw [zy7.upd_same] at this; cases this
 have hbx : ∀ q ∈ bx, s q = none := fun q hq => by
  have := m2 q hq
  have hne : q ≠ x := fun e => hxbx (e ▸ hq)
  rwa [zy7.upd_ne _ _ hne] at this
 have hdis : ∀ q ∈ bs, q ∉ bx := fun q hq hq' => hsome q hq (hbx q hq')
 have hbbx : os ≠ [] → b ∉ bx := fun hne hq => by have := hbx b hq; rw [(h5 hne).2.2] at this; cases this
 have hs2x : s2 x = some o := by rw [m4 x hxbx, zy7.upd_same]
 have hs2 : ∀ q, q ∉ bx → q ≠ x → s2 q = s q := fun q h1 h2 => by rw [m4 q h1, zy7.upd_ne _ _ h2]
 have hb'x : b' ≠ x := by
  rcases k2 with ⟨rfl, hne⟩ | hn
  · exact Ne.symm (hxb hne)
  · rintro rfl; rw [hs2x] at hn; cases hn
 have hb'bx : b' ∉ bx := by
  rcases k2 with ⟨rfl, hne⟩ | hn
  · exact hbbx hne
  · intro hq
    obtain ⟨cs, e1, _⟩ := (Own.solid _ _ _ m3).2.2 b' hq
    rw [e1] at hn; cases hn
 have hb'bs : b' ∉ bs := by
  rcases k2 with ⟨rfl, hne⟩ | hn
  · exact (h5 hne).2.1
  · intro hq
    rw [hs2 b' hb'bx hb'x] at hn
    exact hsome b' hq hn
 have hst' : st b' = none := by
  rcases k2 with ⟨rfl, hne⟩ | hn
  · exact (h5 hne).1
  · rw [hs2 b' hb'bx hb'x] at hn
    by_cases hbb : os ≠ [] ∧ b' = b
    · rw [hbb.2]; exact (h5 hbb.1).1
    · rw [← h6 b' hb'bs (fun hne e => hbb ⟨hne, e⟩)]; exact hn
 have hb_bs : os ≠ [] → ∀ q ∈ bs, q ≠ b := fun hne q hq e => (h5 hne).2.1 (e ▸ hq)
 have hkeep : ∀ q ∈ bs, (s'.erase x) q = s q := fun q hq => by
  have hqx : q ≠ x := fun e => hxbs (e ▸ hq)
  simp only [zy7.erase, hqx, if_false]
  rw [k3 q (fun e => hb'bs (e ▸ hq)) (fun hne => hb_bs hne q hq), hs2 q (hdis q hq) hqx]
 have hkeepx : ∀ q ∈ bx, (s'.erase x) q = s2 q := fun q hq => by
  have hqx : q ≠ x := fun e => hxbx (e ▸ hq)
  simp only [zy7.erase, hqx, if_false]
  exact k3 q (fun e => hb'bx (e ▸ hq)) (fun hne e => hbbx hne (e ▸ hq))
 refine ⟨by simp [h1], ?_, List.nodup_append.2 ⟨h3, m1, fun a ha c hc e => hdis a ha (e ▸ hc)⟩, fun q hq => ?_, fun _ => ⟨hst', ?_, ?_⟩, fun q hq hqb => ?_⟩
 · rw [List.take_add_one, he]
   exact OwnL.snoc h2 hkeep (Own.keep _ _ _ hkeepx m3)
 · rcases List.mem_append.1 hq with hq | hq
   · exact h4 q hq
   · by_cases hbb : os ≠ [] ∧ q = b
     · rw [hbb.2]; exact (h5 hbb.1).1
     · by_cases hqs : q ∈ bs
       · exact h4 q hqs
       · rw [← h6 q hqs (fun hne e => hbb ⟨hne, e⟩)]; exact hbx q hq
 · intro hq
   rcases List.mem_append.1 hq with hq | hq
   · exact hb'bs hq
   · exact hb'bx hq
 · simp only [zy7.erase, hb'x, if_false]
   exact k1
 · simp only [List.mem_append, not_or] at hq
   have hqb' := hqb (by simp)
   by_cases hqx : q = x
   · subst hqx
     simp only [zy7.erase, if_true]
     rw [← h6 q hq.1 hxb, hx]
   · simp only [zy7.erase, hqx, if_false]
     by_cases hbb : os ≠ [] ∧ q = b
     · rw [hbb.2, k4 hbb.1 (fun e => hqb' (hbb.2.trans e.symm)), (h5 hbb.1).1]
     · rw [k3 q hqb' (fun hne e => hbb ⟨hne, e⟩), hs2 q hq.2 hqx]
       exact h6 q hq.1 (fun hne e => hbb ⟨hne, e⟩)
theorem zq7.done {P : Program} {g : FuncId} {args : List AV} {st : zy7} {r : AV} (x : zq7 P g args st (fun r' st' => r'.soft = r ∧ Drops st' st)) : zq7 P g args st (fun r' st' => r' = r ∧ st' = st) :=
 zq7.drop2 (zq7.soft x)
theorem zq7.dropS {P : Program} {g : FuncId} {args : List AV} {st : zy7} {Q : AV → zy7 → Prop} (x : zq7 P g args st (fun r st' => ∃ s2, Drops st' s2 ∧ Q r s2)) : zq7 P g args st Q :=
 x.weak fun r _ ⟨s2, D, q⟩ => ⟨r, s2, D.weakS, D.weak r, q⟩
theorem soft_agg {cs : List AV} : (AV.agg cs).soft = .agg (cs.map AV.soft) := by simp only [AV.soft, softL_map]
theorem soft_tup {cs : List AV} : (AV.tup cs).soft = .tup (cs.map AV.soft) := by simp only [AV.soft, softL_map]
theorem soft_int {k : IntKind} {n : Int} : (AV.int k n).soft = .int k n := rfl
theorem soft_bool {b : Bool} : (AV.bool b).soft = .bool b := rfl
theorem soft_str {s : ByteArray} : (AV.str s).soft = .str s := rfl
theorem soft_slice {es : List AV} : (AV.slice es).soft = .slice es := rfl
theorem soft_fslice {es : List AV} : (AV.fslice es).soft = .slice es := rfl
theorem soft_ptr {b o : Nat} : (AV.ptr b o).soft = .ptr b o := rfl
theorem soft_pptr {e : AV} : (AV.pptr e).soft = .pptr e := rfl
theorem soft_map {b : Nat} : (AV.map b).soft = .map b := rfl
theorem soft_mslice {b o n w : Nat} : (AV.mslice b o n w).soft = .mslice b o n w := rfl
def finL (b : Nat) (l : List AV) : List (Nat × AV) → List (Nat × AV)
 | [] => []
 | p :: r => (p.1, p.2.fin b l) :: finL b l r
theorem ev_finL0 {b : Nat} {l : List AV} : finL b l [] = [] := rfl
theorem ev_finL1 {b d : Nat} {l : List AV} {v : AV} {r : List (Nat × AV)} : finL b l ((d, v) :: r) = (d, v.fin b l) :: finL b l r := rfl
theorem fin_junk {b : Nat} {l : List AV} : AV.junk.fin b l = .junk := by unfold AV.fin; split <;> rfl
theorem fin_accV {w b : Nat} {l : List AV} : (accV w b l).fin b l = .slice l := accV_fin
theorem less_finL {st : zy7} (b : Nat) (l : List AV) (hb : l ≠ [] → st b = none) (hj : ∀ e ∈ l, e.isJunk = false) (hE : Even l) (L : List (Nat × AV)) : Less (frL L) (accS st b l) (frL (finL b l L)) st := by
 have key : ∀ L d, frL (finL b l L) d = (frL L d).fin b l := by
  intro L
  induction L with
  | nil => intro d; exact fin_junk.symm
  | cons p r ih =>
   obtain ⟨e, v⟩ := p
   intro d
   show ((frL (finL b l r)).upd e (v.fin b l)) d = (((frL r).upd e v) d).fin b l
   simp only [AF.upd]
   split
   · rfl
   · exact ih d
 intro h tmps S F
 cases l with
 | nil => exact ⟨S, StepH.refl _ _, fun d => by rw [key]; exact (F d).soft⟩
 | cons y l =>
  have hst : (accS st b (y :: l)) b = some (.cells ((y :: l).flatMap AV.cells)) := zy7.upd_same _ _ _
  have he : (accS st b (y :: l)).erase b = st := zy7.erase_upd st b _ (hb (by simp))
  have L1 : Less (frL L) (accS st b (y :: l)) (fun d => (frL L d).fz b (y :: l)) st := by
   have := Less.freeze (φ := frL L) hst hj hE
   rwa [he] at this
  obtain ⟨a1, a2, a3⟩ := L1 h tmps S F
  exact ⟨a1, a2, fun d => by rw [key]; exact (a3 d).soft⟩
theorem zq6 {P : Program} {N : Nat} {c : Code} {Q : Exit → AF → zy7 → Prop} {φ : AF} {st : zy7} {α σ : Type} (mt : List Nat) (keep : List Nat) (l : List α) (w d : Nat) (acc : Nat → σ → List AV) (inv : Nat → σ → Prop) (ch : Nat → σ → List (Nat × AV)) (so : Nat → σ → zy7)
 (hw : ∀ i s, inv i s → ∀ e ∈ acc i s, e.isJunk = false ∧ e.width = w)
 (hok : codeOk N c = true)
 (h0 : ∃ s b, inv 0 s ∧ (acc 0 s ≠ [] → so 0 s b = none) ∧ zx7 φ st (keepL φ keep ((d, accV w b (acc 0 s)) :: ch 0 s)) (accS (so 0 s) b (acc 0 s)))
 (h1 : ∀ i x s b, l[i]? = some x → i < l.length → ((i : Int) < (l.length : Int)) → l.drop i = x :: l.drop (i + 1) → inv i s → (acc i s ≠ [] → so i s b = none) →
  aCode P N mt c (loopQ (fun φ' st' => ∃ s' b', inv (i + 1) s' ∧ (acc (i + 1) s' ≠ [] → so (i + 1) s' b' = none) ∧ zx7 φ' st' (keepL φ keep ((d, accV w b' (acc (i + 1) s')) :: ch (i + 1) s')) (accS (so (i + 1) s') b' (acc (i + 1) s'))) Q) (frU (keepL φ keep ((d, accV w b (acc i s)) :: ch i s))) (accS (so i s) b (acc i s)))
 (h2 : ∀ s b, ¬ ((l.length : Int) < (l.length : Int)) → inv l.length s → aCode P N mt c (loopQ (fun _ _ => False) Q) (frU (finL b (acc l.length s) (keepL φ keep ((d, accV w b (acc l.length s)) :: ch l.length s)))) (so l.length s)) : ARun P N (.loop c) Q φ st := by
 have weak : ∀ (k : AF → zy7 → Prop) (φ0 : AF) (st0 : zy7) (k' : AF → zy7 → Prop), (∀ φ' st', k' φ' st' → k φ' st') →
  ARun P N c (loopQ k' Q) φ0 st0 → ARun P N c (loopQ k Q) φ0 st0 := by
  intro k φ0 st0 k' hk hr a w R
  refine wp_mono (hr a w R) ?_
  rintro e a' w' ⟨φ', st', R', T, sm, q⟩
  refine ⟨φ', st', R', T, sm, ?_⟩
  cases e with
  | normal => exact hk _ _ q
  | _ => exact q
 refine arun_loop (α := Nat × σ × Nat) (fun p => p.1 ≤ l.length ∧ inv p.1 p.2.1 ∧ (acc p.1 p.2.1 ≠ [] → so p.1 p.2.1 p.2.2 = none)) (fun p => frL (keepL φ keep ((d, accV w p.2.2 (acc p.1 p.2.1)) :: ch p.1 p.2.1))) (fun p => accS (so p.1 p.2.1) p.2.2 (acc p.1 p.2.1)) (fun p => l.length - p.1) ?_ ?_
 · obtain ⟨s, b, hs, hb, hl⟩ := h0
   exact ⟨(0, s, b), ⟨Nat.zero_le _, hs, hb⟩, hl⟩
 · rintro ⟨i, s, b⟩ ⟨hi, hs, hb⟩
   simp only at hi hs hb ⊢
   rcases Nat.lt_or_ge i l.length with hlt | hge
   · refine weak _ _ _ _ ?_ (arun_code mt hok (h1 i l[i] s b (List.getElem?_eq_getElem hlt) hlt (by omega) (List.drop_eq_getElem_cons hlt) hs hb))
     rintro φ' st' ⟨s', b', h1', h2', h3'⟩
     exact ⟨(i + 1, s', b'), by simp only; omega, ⟨by simp only; omega, h1', h2'⟩, h3'⟩
   · obtain rfl : i = l.length := by omega
     refine ARun.less (less_finL b (acc l.length s) hb (fun e he => (hw _ s hs e he).1) ⟨w, fun e he => (hw _ s hs e he).2⟩ _) ?_
     refine weak _ _ _ _ ?_ (arun_code mt hok (h2 s b (by omega) hs))
     exact fun _ _ h => h.elim
section
variable {P : Program}
def exemptB (ops : Array Oper) (S : List Nat) (j : Nat) : Bool := S.all fun i => depB ops ops.size j i
def aAnyX (P : Program) (ops : Array Oper) (S : List Nat) (s0 : zy7) (K : AF → zy7 → Prop) : Nat → Array Bool → AF → zy7 → Prop
 | 0, listed, φ, st => Region.ready .any ops listed = [] ∧ K φ st
 | f + 1, listed, φ, st => (Region.ready .any ops listed = [] → K φ st) ∧ ∀ i ∈ Region.ready .any ops listed, ∃ o, ops[i]? = some o ∧
  ((S.contains i = true ∧ ∃ r, aYield P st ops o r φ ∧ aAnyX P ops S s0 K f (listed.setIfInBounds i true) (φ.put o.dst r) st) ∨
   (S.contains i = false ∧ aStepG P ops o φ st (fun r st' => (exemptB ops S i = true ∨ ExtS s0 st') ∧ aAnyX P ops S s0 K f (listed.setIfInBounds i true) (φ.put o.dst r) st')))
theorem aAnyX_G {ops : Array Oper} {S : List Nat} {s0 : zy7} {K : AF → zy7 → Prop} : ∀ (f : Nat) (listed : Array Bool) (φ : AF) (st : zy7), aAnyX P ops S s0 K f listed φ st → aAnyG P ops K f listed φ st
 | 0, _, _, _, h => h
 | f + 1, listed, φ, st, h => by
  refine ⟨h.1, fun i hi => ?_⟩
  obtain ⟨o, ho, h2⟩ := h.2 i hi
  refine ⟨o, ho, ?_⟩
  rcases h2 with ⟨_, r, y, k⟩ | ⟨_, k⟩
  · exact aYield_stepG y (aAnyX_G f _ _ _ k)
  · exact aStepG_mono (fun r s q => aAnyX_G f _ _ _ q.2) k
theorem aAnyX_first {ops : Array Oper} {S : List Nat} {s0 : zy7} {i : Nat} {oi : Oper} {v : AV} {K : AF → zy7 → Prop} (hi : ops[i]? = some oi) (hS : S.contains i = true) :
 ∀ (f : Nat) (listed : Array Bool) (φ : AF) (st : zy7), ClosedL ops listed →
  (∀ j oj, ops[j]? = some oj → j ≠ i → listed.getD j true = false → (∀ e ∈ oj.after, Region.binds .any e = true → e.on ≠ i) → oi.apart ops oj = true) →
  i ∈ Region.ready .any ops listed → (∀ s, ExtS s0 s → aYield P s ops oi v φ) → ExtS s0 st →
  aAnyX P ops S s0 K f (listed.setIfInBounds i true) (φ.put oi.dst v) st → aAnyX P ops S s0 K (f + 1) listed φ st := by
 intro f
 induction f with
 | zero =>
  intro listed φ st hcl _ hr hy hx H
  refine ⟨fun h => (by rw [h] at hr; cases hr), fun j hj => ?_⟩
  by_cases hji : j = i
  · subst hji; exact ⟨oi, hi, .inl ⟨hS, v, hy st hx, H⟩⟩
  · have := ready_mono hj hji
    rw [H.1] at this
    cases this
 | succ f ih =>
  intro listed φ st hcl hfree hr hy hx H
  refine ⟨fun h => (by rw [h] at hr; cases hr), fun j hj => ?_⟩
  by_cases hji : j = i
  · subst hji; exact ⟨oi, hi, .inl ⟨hS, v, hy st hx, H⟩⟩
  · obtain ⟨oj, hoj, h1⟩ := H.2 j (ready_mono hj hji)
    obtain ⟨hjun, oj', hoj', hall⟩ := mem_ready.1 hj
    have : oj' = oj := Option.some.inj (hoj'.symm.trans hoj)
    subst this
    have hun := (mem_ready.1 hr).1
    have hnot : ∀ e ∈ oj'.after, Region.binds .any e = true → e.on ≠ i := fun e he hb heq => by
     have h1 := hall e he hb
     rw [heq, getD_both hun] at h1
     cases h1
    obtain ⟨a1, a2, a3⟩ := Oper.apart_spec (hfree j oj' hoj hji hjun hnot)
    have hfree' : ∀ k ok, ops[k]? = some ok → k ≠ i → (listed.setIfInBounds j true).getD k true = false →
     (∀ e ∈ ok.after, Region.binds .any e = true → e.on ≠ i) → oi.apart ops ok = true := fun k ok hk hki hun hno => by
     refine hfree k ok hk hki ?_ hno
     by_cases hjk : j = k
     · subst hjk; exact hjun
     · rw [getD_set_ne true hjk] at hun; exact hun
    refine ⟨oj', hoj, ?_⟩
    rcases h1 with ⟨hSj, r, yj, h2⟩ | ⟨hSj, h2⟩
    · refine .inl ⟨hSj, r, (aYield_put φ v a1).1 yj, ih (listed.setIfInBounds j true) (φ.put oj'.dst r) st (hcl.set hj) hfree' (ready_mono hr (Ne.symm hji)) (fun s hs => (aYield_put φ r a3).2 (hy s hs)) hx ?_⟩
      rw [Array.setIfInBounds_comm _ _ hji, ← put_comm φ v r a2]
      exact h2
    · refine .inr ⟨hSj, aStepG_mono (fun r st' h3 => ?_) ((aStepG_put φ v a1).1 h2)⟩
      refine ⟨h3.1, ?_⟩
      have hx' : ExtS s0 st' := by
       rcases h3.1 with he | he
       · exfalso
         unfold exemptB at he
         have hd := List.all_eq_true.1 he i (by simpa using hS)
         exact depB_no hcl (getD_both hun) _ j oj' hoj hd hall
       · exact he
      refine ih (listed.setIfInBounds j true) (φ.put oj'.dst r) st' (hcl.set hj) hfree' (ready_mono hr (Ne.symm hji)) (fun s hs => (aYield_put φ r a3).2 (hy s hs)) hx' ?_
      rw [Array.setIfInBounds_comm _ _ hji, ← put_comm φ v r a2]
      exact h3.2
def planBX (ops : Array Oper) (S : List Nat) : List (Nat × Nat) → Array Bool → Bool
 | [], listed => (Region.ready .any ops listed).isEmpty
 | (i, 0) :: r, listed => decide (Region.ready .any ops listed = [i]) && !S.contains i && planBX ops S r (listed.setIfInBounds i true)
 | (i, 1) :: r, listed => (Region.ready .any ops listed).contains i && Region.free .any ops listed i && S.contains i && planBX ops S r (listed.setIfInBounds i true)
 | (i, _) :: r, listed => decide (Region.ready .any ops listed = [i]) && !S.contains i && exemptB ops S i && planBX ops S r (listed.setIfInBounds i true)
def aPlanX (P : Program) (ops : Array Oper) (s0 : zy7) (K : AF → zy7 → Prop) : List (Nat × Nat) → AF → zy7 → Prop
 | [], φ, st => K φ st
 | (i, 0) :: r, φ, st => ∃ o, ops[i]? = some o ∧ aStepG P ops o φ st (fun v st' => ExtS s0 st' ∧ aPlanX P ops s0 K r (φ.put o.dst v) st')
 | (i, 1) :: r, φ, st => ∃ o, ops[i]? = some o ∧ ∃ v, (∀ s, ExtS s0 s → aYield P s ops o v φ) ∧ aPlanX P ops s0 K r (φ.put o.dst v) st
 | (i, _) :: r, φ, st => ∃ o, ops[i]? = some o ∧ aStepG P ops o φ st (fun v st' => aPlanX P ops s0 K r (φ.put o.dst v) st')
def looksFirst : List (Nat × Nat) → Bool
 | [] => true
 | (_, 0) :: r => looksFirst r
 | (_, 1) :: r => looksFirst r
 | (_, _) :: r => r.all fun p => p.2 != 1
theorem aPlanX_any {ops : Array Oper} {S : List Nat} {s0 : zy7} {K : AF → zy7 → Prop} : ∀ (p : List (Nat × Nat)) (listed : Array Bool) (φ : AF) (st : zy7), ClosedL ops listed → planBX ops S p listed = true → (looksFirst p = true ∧ ExtS s0 st ∨ (p.all fun q => q.2 != 1) = true) → aPlanX P ops s0 K p φ st → aAnyX P ops S s0 K p.length listed φ st
 | [], listed, φ, st, _, hB, hx, h => ⟨by simpa [planBX] using hB, h⟩
 | (i, 0) :: r, listed, φ, st, hcl, hB, hx, h => by
  simp only [planBX, Bool.and_eq_true, decide_eq_true_eq, Bool.not_eq_true'] at hB
  obtain ⟨o, ho, h'⟩ := h
  have hr : i ∈ Region.ready .any ops listed := by rw [hB.1.1]; simp
  refine ⟨fun h0 => (by rw [hB.1.1] at h0; cases h0), fun j hj => ?_⟩
  rw [hB.1.1] at hj
  obtain rfl : j = i := by simpa using hj
  refine ⟨o, ho, .inr ⟨hB.1.2, aStepG_mono (fun v st' q => ⟨.inr q.1, aPlanX_any r _ _ _ (hcl.set hr) hB.2 ?_ q.2⟩) h'⟩⟩
  rcases hx with hx | hx
  · exact .inl ⟨hx.1, q.1⟩
  · refine .inr ?_
    simp only [List.all_cons, Bool.and_eq_true] at hx
    exact hx.2
 | (i, 1) :: r, listed, φ, st, hcl, hB, hx, h => by
  simp only [planBX, Bool.and_eq_true] at hB
  obtain ⟨⟨⟨hr, hf⟩, hS⟩, hB'⟩ := hB
  obtain ⟨o, ho, v, hv, h'⟩ := h
  have hr' : i ∈ Region.ready .any ops listed := by simpa using hr
  rcases hx with hx | hx
  · exact aAnyX_first ho hS _ listed φ st hcl (Region.free_spec ho hf) hr' hv hx.2 (aPlanX_any r _ _ _ (hcl.set hr') hB' (.inl hx) h')
  · simp at hx
 | (i, k + 2) :: r, listed, φ, st, hcl, hB, hx, h => by
  simp only [planBX, Bool.and_eq_true, decide_eq_true_eq, Bool.not_eq_true'] at hB
  obtain ⟨o, ho, h'⟩ := h
  have hr : i ∈ Region.ready .any ops listed := by rw [hB.1.1.1]; simp
  refine ⟨fun h0 => (by rw [hB.1.1.1] at h0; cases h0), fun j hj => ?_⟩
  rw [hB.1.1.1] at hj
  obtain rfl : j = i := by simpa using hj
  refine ⟨o, ho, .inr ⟨hB.1.1.2, aStepG_mono (fun v st' q => ⟨.inl hB.1.2, aPlanX_any r _ _ _ (hcl.set hr) hB.2 (.inr ?_) q⟩) h'⟩⟩
  rcases hx with hx | hx
  · exact hx.1
  · simp only [List.all_cons, Bool.and_eq_true] at hx
    exact hx.2
theorem arun_planRX {N : Nat} {id : Nat} {ops : Array Oper} {Q : Exit → AF → zy7 → Prop} {φ : AF} {st : zy7} (p : List (Nat × Nat)) (S : List Nat) (s0 : zy7) (hm : P.follows .mixedOrders = true) (hok : opsOk N ops = true) (hl : p.length = ops.size) (hB : planBX ops S p (Array.replicate ops.size false) = true) (hf : looksFirst p = true) (hs : ExtS s0 st)
 (h : aPlanX P ops s0 (Q .normal) p φ st) : ARun P N (.region id ops true) Q φ st := by
 intro a w R
 refine wp_region_any hm ?_
 have R0 : Rel N a { w with drawn := w.drawn + 1 } φ st := ⟨R.size, R.defers, R.frame, R.store⟩
 have := aAnyX_G _ _ _ _ (aPlanX_any p _ φ st (fun j o _ hl => (by rw [getD_replicate_false'] at hl; cases hl)) hB (.inl ⟨hf, hs⟩) h)
 rw [hl] at this
 exact aAnyG_ok (opsOk_at hok) (opsOk_dst hok) (w0 := w) (st0 := st) (fun φ' st' a' w' k R' T s => ⟨φ', st', R', T, s, k⟩) _ _ _ _ _ _ this R0 (StepH.refl _ _) ⟨rfl, rfl, rfl⟩
def aPlanXE (P : Program) (ops : Array Oper) (s0 : zy7) (K : AF → zy7 → Prop) : List (Nat × Nat) → AF → zy7 → Prop
 | [], φ, st => K φ st
 | (i, 0) :: r, φ, st => match ops[i]? with
  | none => False
  | some o => aOps P [] ops [o] (fun φ' st' => ExtS s0 st' ∧ aPlanXE P ops s0 K r φ' st') φ st
 | (i, 1) :: r, φ, st => match ops[i]? with
  | none => False
  | some o => if zw0 o = true then aOps P [] ops [o] (fun φ' _ => aPlanXE P ops s0 K r φ' st) φ s0 else
   match o.guard, o.op with
   | none, .call { callee := .value f, args, .. } => ∃ v, (∀ s, ExtS s0 s → callV P (φ.eval f) (args.toList.map φ.eval) s (fun r' s' => r' = v ∧ s' = s)) ∧ aPlanXE P ops s0 K r (φ.put o.dst v) st
   | _, _ => False
 | (i, _) :: r, φ, st => match ops[i]? with
  | none => False
  | some o => aOps P [] ops [o] (fun φ' st' => aPlanXE P ops s0 K r φ' st') φ st
theorem aPlanXE_ok {ops : Array Oper} {s0 : zy7} {K : AF → zy7 → Prop} : ∀ (p : List (Nat × Nat)) (φ : AF) (st : zy7), aPlanXE P ops s0 K p φ st → aPlanX P ops s0 K p φ st
 | [], _, _, h => h
 | (i, 0) :: r, φ, st, h => by
  simp only [aPlanXE] at h
  split at h
  · exact h.elim
  · rename_i o ho
    refine ⟨o, ho, ?_⟩
    simp only [aOps] at h
    unfold aStepG
    split at h
    · rename_i hg
      rw [hg]
      exact aStep_mono (fun v s q => ⟨q.1, aPlanXE_ok r _ _ q.2⟩) h
    · rename_i hg
      rw [hg]
      exact ⟨h.1, aPlanXE_ok r _ _ h.2⟩
    · exact h.elim
 | (i, 1) :: r, φ, st, h => by
  simp only [aPlanXE] at h
  split at h
  · exact h.elim
  · rename_i o ho
    split at h
    · rename_i hp
      simp only [aOps] at h
      split at h
      · rename_i hg
        rw [aStep_plain hp] at h
        split at h
        · rename_i v hv
          refine ⟨o, ho, v, fun s hs => .inl ⟨hg, ?_⟩, aPlanXE_ok r _ _ h⟩
          rw [aStep_plain hp, aVal_ext hs hv]
          exact ⟨rfl, rfl⟩
        · exact h.elim
      · rename_i hg
        exact ⟨o, ho, .undef, fun s _ => .inr ⟨hg, rfl⟩, aPlanXE_ok r _ _ h⟩
      · exact h.elim
    · split at h
      · rename_i f args ats hg hop
        obtain ⟨v, h1, h2⟩ := h
        refine ⟨o, ho, v, fun s hs => .inl ⟨by simp only [aGuard, hg], ?_⟩, aPlanXE_ok r _ _ h2⟩
        simp only [aStep, hop]
        exact h1 s hs
      · exact h.elim
 | (i, k + 2) :: r, φ, st, h => by
  simp only [aPlanXE] at h
  split at h
  · exact h.elim
  · rename_i o ho
    refine ⟨o, ho, ?_⟩
    simp only [aOps] at h
    unfold aStepG
    split at h
    · rename_i hg
      rw [hg]
      exact aStep_mono (fun v s q => aPlanXE_ok r _ _ q) h
    · rename_i hg
      rw [hg]
      exact aPlanXE_ok r _ _ h
    · exact h.elim
end
def planKX (P : Program) (ops : Array Oper) (s0 : zy7) (K : AF → zy7 → Prop) (r : List (Nat × Nat)) (φ : AF) (st : zy7) : Prop := ExtS s0 st ∧ aPlanXE P ops s0 K r φ st
def planJX (P : Program) (ops : Array Oper) (s0 : zy7) (K : AF → zy7 → Prop) (r : List (Nat × Nat)) (φ : AF) (st : zy7) : Prop := aPlanXE P ops s0 K r φ st
def planFX (P : Program) (ops : Array Oper) (s0 : zy7) (K : AF → zy7 → Prop) (r : List (Nat × Nat)) (st : zy7) (φ : AF) (_ : zy7) : Prop := aPlanXE P ops s0 K r φ st
def planCX (P : Program) (ops : Array Oper) (s0 : zy7) (K : AF → zy7 → Prop) (r : List (Nat × Nat)) (φ : AF) (dst : Option Tmp) (st : zy7) (v : AV) : Prop := aPlanXE P ops s0 K r (φ.put dst v) st
def callFX (P : Program) (s0 : zy7) (f : AV) (args : List AV) (K : AV → Prop) : Prop := ∃ v, (∀ s, ExtS s0 s → callV P f args s (fun r' s' => r' = v ∧ s' = s)) ∧ K v
theorem callFX_mk {P : Program} {s0 : zy7} {g : FuncId} {args : List AV} {r : AV} {K : AV → Prop} (x : ∀ st, ExtS s0 st → zq7 P g args st (fun r' st' => r' = r ∧ st' = st)) (h : K r) : callFX P s0 (.func g []) args K := ⟨r, fun st hs => by show zq7 P g (args ++ []) st _; rw [List.append_nil]; exact x st hs, h⟩
@[congr] theorem cg_callFX {P : Program} {s0 : zy7} {f f' : AV} {args args' : List AV} {K : AV → Prop} (h0 : f = f') (h1 : args = args') : callFX P s0 f args K = callFX P s0 f' args' K := by rw [h0, h1]
def planOX (P : Program) (ops : Array Oper) (s0 : zy7) (K : AF → zy7 → Prop) (r : List (Nat × Nat)) (φ : AF) (st : zy7) : Nat → Option Oper → Prop
 | 0, some o => aOps P [] ops [o] (planKX P ops s0 K r) φ st
 | 1, some o => if zw0 o = true then aOps P [] ops [o] (planFX P ops s0 K r st) φ s0 else
  match o.guard, o.op with
  | none, .call { callee := .value f, args, .. } => callFX P s0 (φ.eval f) (args.toList.map φ.eval) (planCX P ops s0 K r φ o.dst st)
  | _, _ => False
 | _, some o => aOps P [] ops [o] (planJX P ops s0 K r) φ st
 | _, none => False
theorem ev_planX0 {P : Program} {ops : Array Oper} {s0 : zy7} {K : AF → zy7 → Prop} {φ : AF} {st : zy7} : aPlanXE P ops s0 K [] φ st = K φ st := rfl
theorem ev_planX1 {P : Program} {l : List Oper} {s0 : zy7} {K : AF → zy7 → Prop} {φ : AF} {st : zy7} {i b : Nat} {r : List (Nat × Nat)} : aPlanXE P l.toArray s0 K ((i, b) :: r) φ st = planOX P l.toArray s0 K r φ st b l[i]? := by
 match b with
 | 0 => simp only [aPlanXE, List.getElem?_toArray]; cases l[i]? <;> rfl
 | 1 => simp only [aPlanXE, List.getElem?_toArray]; cases l[i]? <;> rfl
 | b + 2 => simp only [aPlanXE, List.getElem?_toArray]; cases l[i]? <;> rfl
theorem ev_planXO {P : Program} {ops : Array Oper} {s0 : zy7} {K : AF → zy7 → Prop} {φ : AF} {st : zy7} {r : List (Nat × Nat)} {o : Oper} : planOX P ops s0 K r φ st 0 (some o) = aOps P [] ops [o] (planKX P ops s0 K r) φ st := rfl
theorem ev_planXT {P : Program} {ops : Array Oper} {s0 : zy7} {K : AF → zy7 → Prop} {φ : AF} {st : zy7} {r : List (Nat × Nat)} {o : Oper} : planOX P ops s0 K r φ st 1 (some o) = if zw0 o = true then aOps P [] ops [o] (planFX P ops s0 K r st) φ s0 else
      match o.guard, o.op with
      | none, .call { callee := .value f, args, .. } => callFX P s0 (φ.eval f) (args.toList.map φ.eval) (planCX P ops s0 K r φ o.dst st)
      | _, _ => False := rfl
theorem ev_planXU {P : Program} {ops : Array Oper} {s0 : zy7} {K : AF → zy7 → Prop} {φ : AF} {st : zy7} {r : List (Nat × Nat)} {o : Oper} : planOX P ops s0 K r φ st 2 (some o) = aOps P [] ops [o] (planJX P ops s0 K r) φ st := rfl
theorem ev_planXK {P : Program} {ops : Array Oper} {s0 : zy7} {K : AF → zy7 → Prop} {φ : AF} {st : zy7} {r : List (Nat × Nat)} : planKX P ops s0 K r φ st = (ExtS s0 st ∧ aPlanXE P ops s0 K r φ st) := rfl
theorem ev_planXJ {P : Program} {ops : Array Oper} {s0 : zy7} {K : AF → zy7 → Prop} {φ : AF} {st : zy7} {r : List (Nat × Nat)} : planJX P ops s0 K r φ st = aPlanXE P ops s0 K r φ st := rfl
theorem ev_planXF {P : Program} {ops : Array Oper} {s0 : zy7} {K : AF → zy7 → Prop} {φ : AF} {st s : zy7} {r : List (Nat × Nat)} : planFX P ops s0 K r st φ s = aPlanXE P ops s0 K r φ st := rfl
theorem ev_planXC {P : Program} {ops : Array Oper} {s0 : zy7} {K : AF → zy7 → Prop} {φ : AF} {st : zy7} {r : List (Nat × Nat)} {dst : Option Tmp} {v : AV} : planCX P ops s0 K r φ dst st v = aPlanXE P ops s0 K r (φ.put dst v) st := rfl
@[congr] theorem cg_aPlanXE {P : Program} {ops : Array Oper} {s0 : zy7} {K : AF → zy7 → Prop} {p : List (Nat × Nat)} {φ φ' : AF} {st st' : zy7} (h1 : φ = φ') (h2 : st = st') : aPlanXE P ops s0 K p φ st = aPlanXE P ops s0 K p φ' st' := by rw [h1, h2]
@[congr] theorem cg_planOX {P : Program} {ops : Array Oper} {s0 : zy7} {K : AF → zy7 → Prop} {p : List (Nat × Nat)} {φ φ' : AF} {st st' : zy7} {b : Nat} {o o' : Option Oper} (h1 : φ = φ') (h2 : st = st') (h3 : o = o') : planOX P ops s0 K p φ st b o = planOX P ops s0 K p φ' st' b o' := by rw [h1, h2, h3]
theorem zq5 {P : Program} {N : Nat} {id : Nat} {l : List Oper} {Q : Exit → AF → zy7 → Prop} {φ : AF} {st : zy7} (p : List (Nat × Nat)) (S : List Nat) (s0 : zy7) (hm : P.follows .mixedOrders = true) (hok : opsOk N l.toArray = true) (hl : p.length = l.length) (hB : planBX l.toArray S p (Array.replicate l.length false) = true) (hf : looksFirst p = true) (hs : ExtS s0 st)
 (h : aPlanXE P l.toArray s0 (Q .normal) p φ st) : ARun P N (.region id l.toArray true) Q φ st :=
 arun_planRX p S s0 hm hok (by simpa using hl) (by simpa using hB) hf hs (aPlanXE_ok p φ st h)
def retCC (K : AV → zy7 → Prop) (st : zy7) : Option AV → Option AV → Prop
 | some r, some s => zq1 [r, s] = true ∧ K (.tup [r, s]) st
 | _, _ => False
theorem ev_retCC {P : Program} {φ : AF} {st : zy7} {p q : Tmp} {t u : TypeId} {K : AV → zy7 → Prop} : retL P [.cell p t, .cell q u] K φ st = retCC K st (zq2 P st t (φ p)) (zq2 P st u (φ q)) := by
 simp only [retL, aResults, aRes]
 cases zq2 P st t (φ p) <;> cases zq2 P st u (φ q) <;> rfl
theorem ev_retCCs {st : zy7} {K : AV → zy7 → Prop} {r s : AV} : retCC K st (some r) (some s) = (zq1 [r, s] = true ∧ K (.tup [r, s]) st) := rfl
def one (b : Nat) (o : AO) : zy7 := none0'.upd b o
theorem one_same {b : Nat} {o : AO} : one b o b = some o := zy7.upd_same _ _ _
theorem ext_one {b : Nat} {o : AO} {st : zy7} (h : st b = some o) : ExtS (one b o) st := fun x p hx => by
 simp only [one, zy7.upd] at hx
 split at hx
 · rename_i e; cases hx; rw [e]; exact h
 · cases hx
theorem ext_none {st : zy7} : ExtS none0' st := fun x p hx => by cases hx
section
variable {α : Type}
def eqL (f : α → α → Bool) : List α → List α → Bool
 | [], [] => true
 | x :: xs, y :: ys => f x y && eqL f xs ys
 | _, _ => false
theorem eqL_len (f : α → α → Bool) : ∀ {a b : List α}, a.length ≠ b.length → eqL f a b = false
 | [], [], h => absurd rfl h
 | [], _ :: _, _ => rfl
 | _ :: _, [], _ => rfl
 | x :: xs, y :: ys, h => by simp only [eqL, eqL_len f (a := xs) (b := ys) (by simpa using h), Bool.and_false]
theorem eqL_at (f : α → α → Bool) : ∀ {a b : List α} (i : Nat) (x y : α), a[i]? = some x → b[i]? = some y → f x y = false → eqL f a b = false
 | [], _, i, x, y, h, _, _ => by simp at h
 | _ :: _, [], i, x, y, _, h, _ => by simp at h
 | t :: ts, t' :: ts', 0, x, y, h1, h2, h => by
  simp at h1 h2; subst h1; subst h2
  simp only [eqL, h, Bool.false_and]
 | t :: ts, t' :: ts', i + 1, x, y, h1, h2, h => by
  simp only [eqL, eqL_at f (a := ts) (b := ts') i x y (by simpa using h1) (by simpa using h2) h, Bool.and_false]
theorem eqL_all (f : α → α → Bool) : ∀ {a b : List α}, a.length = b.length → (∀ (i : Nat) (x y : α), a[i]? = some x → b[i]? = some y → f x y = true) → eqL f a b = true
 | [], [], _, _ => rfl
 | t :: ts, t' :: ts', h, g => by
  simp only [eqL, Bool.and_eq_true]
  exact ⟨g 0 t t' rfl rfl, eqL_all f (by simpa using h) fun i x y h1 h2 => g (i + 1) x y (by simpa using h1) (by simpa using h2)⟩
theorem eqL_eq {f : α → α → Bool} : ∀ {a b : List α}, (∀ x ∈ a, ∀ y, f x y = true ↔ x = y) → (eqL f a b = true ↔ a = b)
 | [], [], _ => by simp [eqL]
 | [], _ :: _, _ => by simp [eqL]
 | _ :: _, [], _ => by simp [eqL]
 | x :: xs, y :: ys, h => by
  simp only [eqL, Bool.and_eq_true, List.cons.injEq, h x (by simp) y, eqL_eq (a := xs) (b := ys) fun z hz => h z (by simp [hz])]
def sumL (f : α → Nat) : List α → Nat
 | [] => 0
 | x :: xs => f x + sumL f xs
theorem sumL_take (f : α → Nat) : ∀ {l : List α} {i : Nat} {x : α}, l[i]? = some x → sumL f (l.take (i + 1)) = sumL f (l.take i) + f x ∧ sumL f (l.take (i + 1)) ≤ sumL f l
 | [], i, x, h => by simp at h
 | y :: ys, 0, x, h => by simp at h; subst h; simp [sumL]
 | y :: ys, i + 1, x, h => by
  have := sumL_take f (l := ys) (i := i) (x := x) (by simpa using h)
  simp only [List.take_succ_cons, sumL] at this ⊢
  omega
theorem sumL_mem {f : α → Nat} : ∀ {l : List α} {x : α}, x ∈ l → f x ≤ sumL f l
 | y :: ys, x, h => by
  simp only [List.mem_cons] at h
  simp only [sumL]
  rcases h with rfl | h
  · omega
  · have := sumL_mem (f := f) h; omega
theorem ev_at {P : Program} {t : TypeId} {ag : Bool} {w : Nat} {av : α → AV} {l : List α} {i : Nat} {x : α} (hI : eI P t = some (ag, w)) (h : l[i]? = some x) (hw : (av x).width = w) : aIndexAddr P t (.slice (l.map av)) (.int .i64 (i : Int)) = some (.pptr (av x)) := by
 simp only [aIndexAddr, hI, Int.toNat_natCast, List.getElem?_map, h, Option.map_some, hw]
 simp
theorem even_map {av : α → AV} {w : Nat} (hw : ∀ x, (av x).width = w) (l : List α) : Even (l.map av) := ⟨w, by intro e h; simp only [List.mem_map] at h; obtain ⟨t, _, rfl⟩ := h; exact hw t⟩
def szR (left : Int) (n : Nat) : Int := if left < n then -1 else left - n
theorem szR_neg {left : Int} {n : Nat} : szR left n < 0 ↔ left < n := by unfold szR; split <;> omega
theorem szR_pos {left : Int} {n : Nat} (h : ¬ left < n) : szR left n = left - n := by unfold szR; rw [if_neg h]
theorem madeAV_eq (zs : List AV) (hz : zs ≠ []) (n : Nat) : madeAV zs n = (List.replicate n zs).flatten := by
 have hl : 0 < zs.length := by cases zs with | nil => exact absurd rfl hz | cons => simp
 apply List.ext_getElem?
 intro i
 unfold madeAV
 induction n generalizing i with
 | zero => simp
 | succ n ih =>
  rw [List.replicate_succ, List.flatten_cons]
  rcases Nat.lt_or_ge i zs.length with h | h
  · rw [List.getElem?_append_left h]
    have : i < (n + 1) * zs.length := by rw [Nat.succ_mul]; omega
    simp [this, Nat.mod_eq_of_lt h, h]
  · rw [List.getElem?_append_right h, ← ih]
    have e1 : i % zs.length = (i - zs.length) % zs.length := by rw [Nat.mod_eq_sub_mod h]
    simp only [List.getElem?_map, List.getElem?_range', List.getElem?_range]
    by_cases h2 : i - zs.length < n * zs.length
    · have h3 : i < (n + 1) * zs.length := by rw [Nat.succ_mul]; omega
      simp [h2, h3, e1]
    · have h3 : ¬ i < (n + 1) * zs.length := by rw [Nat.succ_mul]; omega
      simp [h2, h3]
end
theorem set_all {zs : List AV} {x : List AV} {w : Nat} (h1 : x.length = w) (h2 : zs.length = w) : zy4 zs 0 x = x := by
 unfold zy4
 simp [h1, h2]
theorem agg_cells {x : AV} (h : x.isAgg = true) : AV.agg x.cells = x := by cases x <;> simp [AV.isAgg] at h <;> rfl
theorem take_all {x : List AV} {w : Nat} (h : x.length = w) : x.take w = x := by rw [← h]; exact List.take_length
inductive Tm where
 | mk (kind n : Int) (name : ByteArray) (kids : List Tm)
mutual
def Tm.av : Tm → AV
 | .mk k n s ts => .agg [.int .i64 k, .int .i64 n, .str s, .slice (tmsAv ts)]
def tmsAv : List Tm → List AV
 | [] => []
 | t :: ts => t.av :: tmsAv ts
end
theorem tmsAv_map : ∀ (ts : List Tm), tmsAv ts = ts.map Tm.av
 | [] => rfl
 | t :: ts => by simp only [tmsAv, List.map_cons, tmsAv_map ts]
theorem Tm.av_mk (k n : Int) (s : ByteArray) (ts : List Tm) : (Tm.mk k n s ts).av = .agg [.int .i64 k, .int .i64 n, .str s, .slice (ts.map Tm.av)] := by simp only [Tm.av, tmsAv_map]
mutual
def Tm.same : Tm → Tm → Bool
 | .mk k n s ts, .mk k' n' s' ts' => decide (k = k') && decide (n = n') && decide (s = s') && tmsSame ts ts'
def tmsSame : List Tm → List Tm → Bool
 | [], [] => true
 | t :: ts, t' :: ts' => t.same t' && tmsSame ts ts'
 | _, _ => false
end
theorem tmsSame_eqL : ∀ (a b : List Tm), tmsSame a b = eqL Tm.same a b
 | [], [] => rfl
 | [], _ :: _ => rfl
 | _ :: _, [] => rfl
 | t :: ts, t' :: ts' => by simp only [tmsSame, eqL, tmsSame_eqL ts ts']
theorem Tm.same_mk (k n : Int) (s : ByteArray) (ts : List Tm) (k' n' : Int) (s' : ByteArray) (ts' : List Tm) : (Tm.mk k n s ts).same (Tm.mk k' n' s' ts') = (decide (k = k') && decide (n = n') && decide (s = s') && eqL Tm.same ts ts') := by simp only [Tm.same, tmsSame_eqL]
mutual
def Tm.sz : Tm → Nat
 | .mk _ _ s ts => s.size + (ts.length + tmsSz ts)
def tmsSz : List Tm → Nat
 | [] => 0
 | t :: ts => t.sz + tmsSz ts
end
theorem tmsSz_sum : ∀ (a : List Tm), tmsSz a = sumL Tm.sz a
 | [] => rfl
 | t :: ts => by simp only [tmsSz, sumL, tmsSz_sum ts]
theorem Tm.sz_mk (k n : Int) (s : ByteArray) (ts : List Tm) : (Tm.mk k n s ts).sz = s.size + (ts.length + sumL Tm.sz ts) := by simp only [Tm.sz, tmsSz_sum]
theorem Tm.same_eq : ∀ (a b : Tm), a.same b = true ↔ a = b
 | .mk k n s ts, .mk k' n' s' ts' => by
  have := eqL_eq (f := Tm.same) (a := ts) (b := ts') fun x hx y => Tm.same_eq x y
  simp only [Tm.same_mk, Bool.and_eq_true, decide_eq_true_eq, Tm.mk.injEq, and_assoc, this]
termination_by a => SizeOf.sizeOf a
decreasing_by have := List.sizeOf_lt_of_mem hx; simp only [Tm.mk.sizeOf_spec]; omega
theorem Tm.av_agg (t : Tm) : t.av.isAgg = true := by cases t; rfl
theorem Tm.av_width (t : Tm) : t.av.width = 4 := by cases t; rfl
theorem Tm.av_cells (t : Tm) : t.av.cells.length = 4 := by cases t; rfl
theorem Tm.av_store (t : Tm) : t.av.cells.all AV.storable = true := by cases t; rfl
theorem Tm.av_junk (t : Tm) : t.av.isJunk = false := by cases t; rfl
theorem ev_tm_agg {t : Tm} : t.av.isAgg = true := Tm.av_agg t
theorem ev_tm_width {t : Tm} : t.av.width = 4 := Tm.av_width t
theorem ev_tm_store {t : Tm} : t.av.cells.all AV.storable = true := Tm.av_store t
theorem ev_tm_junk {t : Tm} : t.av.isJunk = false := Tm.av_junk t
theorem ev_tm_len {t : Tm} : t.av.cells.length = 4 := Tm.av_cells t
theorem ev_tm_take {t : Tm} : t.av.cells.take 4 = t.av.cells := take_all (Tm.av_cells t)
theorem ev_tm_cells {t : Tm} : AV.agg t.av.cells = t.av := agg_cells (Tm.av_agg t)
theorem ev_tm_set {t : Tm} {a b c d : AV} : zy4 [a, b, c, d] 0 t.av.cells = t.av.cells := set_all (Tm.av_cells t) rfl
theorem ev_tm_set2 {t u : Tm} : zy4 u.av.cells 0 t.av.cells = t.av.cells := set_all (Tm.av_cells t) (Tm.av_cells u)
theorem ev_su_uu {st : zy7} {b : Nat} {o o' : AO} : (st.upd b o).upd b o' = st.upd b o' := zy7.upd_upd st b o o'
theorem ev_su_same {st : zy7} {b : Nat} {o : AO} : (st.upd b o) b = some o := zy7.upd_same st b o
theorem ev_su_ne {st : zy7} {b x : Nat} {o : AO} (h : x ≠ b) : (st.upd b o) x = st x := zy7.upd_ne st o h
theorem tm_fin {t : Tm} {b : Nat} {l : List AV} : t.av.fin b l = t.av := by cases t; simp only [Tm.av_mk, fin_agg, List.map_cons, List.map_nil, fin_int, fin_str, fin_slice]
theorem ev_tm_drop {t : Tm} : t.av.cells.drop 4 = [] := List.drop_of_length_le (by rw [Tm.av_cells]; exact Nat.le_refl _)
inductive Pf where
 | mk (goal : Tm) (clause : Int) (kids : List Pf)
def mtDigs (k : Nat) (acc : List UInt8) : List UInt8 := if k = 0 then acc else mtDigs (k / 10) (UInt8.ofNat (48 + k % 10) :: acc)
termination_by k
decreasing_by omega
def mt (k : Int) : ByteArray := if k ≤ 0 then ⟨#[109, 48]⟩ else ⟨(109 :: mtDigs k.toNat []).toArray⟩
theorem own_Tm {st : zy7} {k n : Int} {s : ByteArray} {ts : List Tm} {o : AV} {bs : List Nat} :
 Own st (Tm.mk k n s ts).av o bs ↔ ∃ q, o = .agg [.int .i64 k, .int .i64 n, .str s, q] ∧ Own st (.slice (ts.map Tm.av)) q bs := by
 rw [Tm.av_mk]
 generalize AV.slice (ts.map Tm.av) = x
 simp only [Own, OwnL]
 constructor
 · rintro ⟨os, rfl, o1, os1, b1, b1', rfl, rfl, ⟨rfl, rfl⟩, o2, os2, b2, b2', rfl, rfl, ⟨rfl, rfl⟩, o3, os3, b3, b3', rfl, rfl, ⟨rfl, rfl⟩, o4, os4, b4, b4', rfl, rfl, h, rfl, rfl⟩
   exact ⟨o4, rfl, by simpa using h⟩
 · rintro ⟨q, rfl, h⟩
   exact ⟨_, rfl, _, _, [], bs, rfl, rfl, ⟨rfl, rfl⟩, _, _, [], bs, rfl, rfl, ⟨rfl, rfl⟩, _, _, [], bs, rfl, rfl, ⟨rfl, rfl⟩, q, [], bs, [], rfl, by simp, h, rfl, rfl⟩
abbrev iv (n : Int) : AV := .int .i64 n
theorem iv_widths (l : List Int) : ∀ e ∈ l.map iv, e.width = 1 := by intro e h; simp only [List.mem_map] at h; obtain ⟨t, _, rfl⟩ := h; rfl
end Go.AW
