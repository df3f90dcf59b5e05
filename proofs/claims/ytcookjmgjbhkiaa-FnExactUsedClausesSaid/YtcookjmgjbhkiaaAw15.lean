/- Loops whose frame is kept, lists that are walked, lists that grow. -/
import Derived.Test.YtcookjmgjbhkiaaAw14
namespace Go.AW
set_option linter.unusedSimpArgs false
set_option linter.unusedVariables false

/-! ### Slots that a loop leaves alone -/
def keepL (φ : AF) : List Nat → List (Nat × AV) → List (Nat × AV)
  | [], l => l
  | d :: ds, l => (d, φ d) :: keepL φ ds l
theorem ev_keepL0 {φ : AF} {l : List (Nat × AV)} : keepL φ [] l = l := rfl
theorem ev_keepL1 {φ : AF} {d : Nat} {ds : List Nat} {l : List (Nat × AV)} : keepL φ (d :: ds) l = (d, φ d) :: keepL φ ds l := rfl

/-- A loop over the places of a list: F tells what is to come of the rest of the list, from the state; it stays the same. -/
theorem arun_each {P : Program} {N : Nat} {c : Code} {Q : Exit → AF → Store → Prop} {φ : AF} {st : Store} {α σ : Type} (mt : List Nat) (keep : List Nat) (l : List α) (inv : Nat → σ → Prop) (ch : Nat → σ → List (Nat × AV)) (so : Nat → σ → Store)
    (hok : codeOk N c = true)
    (h0 : ∃ s, inv 0 s ∧ LessL φ st (keepL φ keep (ch 0 s)) (so 0 s))
    (h1 : ∀ i x s, l[i]? = some x → i < l.length → ((i : Int) < (l.length : Int)) → l.drop i = x :: l.drop (i + 1) → inv i s → aCode P N mt c (loopQ (fun φ' st' => ∃ s', inv (i + 1) s' ∧ LessL φ' st' (keepL φ keep (ch (i + 1) s')) (so (i + 1) s')) Q) (frU (keepL φ keep (ch i s))) (so i s))
    (h2 : ∀ s, ¬ ((l.length : Int) < (l.length : Int)) → inv l.length s → aCode P N mt c (loopQ (fun _ _ => False) Q) (frU (keepL φ keep (ch l.length s))) (so l.length s)) : ARun P N (.loop c) Q φ st := by
  have weak : ∀ (k : AF → Store → Prop) (i : Nat) (s : σ), (∀ φ' st', (∃ s', inv (i + 1) s' ∧ LessL φ' st' (keepL φ keep (ch (i + 1) s')) (so (i + 1) s')) → k φ' st') →
      ARun P N c (loopQ (fun φ' st' => ∃ s', inv (i + 1) s' ∧ LessL φ' st' (keepL φ keep (ch (i + 1) s')) (so (i + 1) s')) Q) (frL (keepL φ keep (ch i s))) (so i s) →
      ARun P N c (loopQ k Q) (frL (keepL φ keep (ch i s))) (so i s) := by
    intro k i s hk hr a w R
    refine wp_mono (hr a w R) ?_
    rintro e a' w' ⟨φ', st', R', T, sm, q⟩
    refine ⟨φ', st', R', T, sm, ?_⟩
    cases e with
    | normal => exact hk _ _ q
    | _ => exact q
  refine arun_loop (α := Nat × σ) (fun p => p.1 ≤ l.length ∧ inv p.1 p.2) (fun p => frL (keepL φ keep (ch p.1 p.2))) (fun p => so p.1 p.2) (fun p => l.length - p.1) ?_ ?_
  · obtain ⟨s, hs, hl⟩ := h0
    exact ⟨(0, s), ⟨Nat.zero_le _, hs⟩, hl⟩
  · rintro ⟨i, s⟩ ⟨hi, hs⟩
    simp only at hi hs ⊢
    rcases Nat.lt_or_ge i l.length with hlt | hge
    · refine weak _ i s ?_ (arun_code mt hok (h1 i l[i] s (List.getElem?_eq_getElem hlt) hlt (by omega) (List.drop_eq_getElem_cons hlt) hs))
      rintro φ' st' ⟨s', h1', h2'⟩
      exact ⟨(i + 1, s'), by simp only; omega, ⟨by simp only; omega, h1'⟩, h2'⟩
    · obtain rfl : i = l.length := by omega
      intro a w R
      refine wp_mono (arun_code mt hok (h2 s (by omega) hs) a w R) ?_
      rintro e a' w' ⟨φ', st', R', T, sm, q⟩
      refine ⟨φ', st', R', T, sm, ?_⟩
      cases e with
      | normal => exact q.elim
      | _ => exact q

/-- A loop with a measure. -/
theorem arun_whileK {P : Program} {N : Nat} {c : Code} {Q : Exit → AF → Store → Prop} {φ : AF} {st : Store} {σ : Type} (mt : List Nat) (keep : List Nat) (inv : σ → Prop) (ch : σ → List (Nat × AV)) (so : σ → Store) (μ : σ → Nat)
    (hok : codeOk N c = true)
    (h0 : ∃ s, inv s ∧ LessL φ st (keepL φ keep (ch s)) (so s))
    (h1 : ∀ s, inv s → aCode P N mt c (loopQ (fun φ' st' => ∃ s', μ s' < μ s ∧ inv s' ∧ LessL φ' st' (keepL φ keep (ch s')) (so s')) Q) (frU (keepL φ keep (ch s))) (so s)) : ARun P N (.loop c) Q φ st :=
  arun_loopL mt inv (fun s => keepL φ keep (ch s)) so μ hok h0 h1

theorem cond_split {b : Bool} {p q : Prop} (h1 : b = true → p) (h2 : b = false → q) : (b = true → p) ∧ (b = false → q) := ⟨h1, h2⟩

/-! ### Lengths -/
theorem ev_lenT {P : Program} {t : TypeId} {s : ByteArray} : aLen P t (.str s) = match P.underlying t with | some .string => some (.int .i64 s.size) | _ => none := rfl
theorem ev_lenS {P : Program} {t : TypeId} {es : List AV} : aLen P t (.slice es) = match P.underlying t with | some (.slice _) => some (.int .i64 es.length) | _ => none := rfl
theorem ev_lenF {P : Program} {t : TypeId} {es : List AV} : aLen P t (.fslice es) = match P.underlying t with | some (.slice _) => some (.int .i64 es.length) | _ => none := rfl
theorem ev_lenM {P : Program} {t : TypeId} {b o n w : Nat} : aLen P t (.mslice b o n w) = match P.underlying t with | some (.slice _) => some (.int .i64 n) | _ => none := rfl

/-! ### A list that grows -/
/-- A slice that the function alone holds: nil, or a block of its own. -/
def accV (w b : Nat) : List AV → AV
  | [] => .fslice []
  | x :: l => .mslice b 0 (x :: l).length w
def accS (st : Store) (b : Nat) : List AV → Store
  | [] => st
  | x :: l => st.upd b (.cells ((x :: l).flatMap AV.cells))
theorem accV_nil {w b : Nat} : accV w b [] = .fslice [] := rfl
theorem accS_nil {st : Store} {b : Nat} : accS st b [] = st := rfl
theorem accV_cons {w b : Nat} {l : List AV} (h : l ≠ []) : accV w b l = .mslice b 0 l.length w := by cases l <;> first | exact absurd rfl h | rfl
theorem accS_cons {st : Store} {b : Nat} {l : List AV} (h : l ≠ []) : accS st b l = st.upd b (.cells (l.flatMap AV.cells)) := by cases l <;> first | exact absurd rfl h | rfl
theorem accS_ne {st : Store} {b x : Nat} {l : List AV} (h : x ≠ b) : accS st b l x = st x := by cases l <;> first | rfl | exact Store.upd_ne _ _ h
theorem accS_none {st : Store} {b x : Nat} {l : List AV} (h : accS st b l x = none) : st x = none ∧ (l ≠ [] → x ≠ b) := by
  cases l with
  | nil => exact ⟨h, fun h => absurd rfl h⟩
  | cons y l =>
    simp only [accS, Store.upd] at h
    split at h
    · cases h
    · rename_i hn; exact ⟨h, fun _ => hn⟩
theorem accV_junk {w b : Nat} {l : List AV} : (accV w b l).isJunk = false := by cases l <;> rfl
theorem accV_agg {w b : Nat} {l : List AV} : (accV w b l).isAgg = false := by cases l <;> rfl
theorem accV_width {w b : Nat} {l : List AV} : (accV w b l).width = 1 := by cases l <;> rfl
theorem accV_cells {w b : Nat} {l : List AV} : (accV w b l).cells = [accV w b l] := by cases l <;> rfl
theorem accV_store {w b : Nat} {l : List AV} : (accV w b l).storable = true := by cases l <;> rfl
theorem accV_len {P : Program} {t e : TypeId} {w b : Nat} {l : List AV} (h : P.underlying t = some (.slice e)) : aLen P t (accV w b l) = some (.int .i64 (l.length : Int)) := by
  cases l <;> simp [accV, aLen, h]
theorem Drops.accS {st st' : Store} (x : Drops st st') {b : Nat} {l : List AV} (h : l ≠ [] → st' b = none) : Drops (accS st b l) st' := by
  cases l with
  | nil => exact x
  | cons y l => exact x.upd (h (by simp))

/-- What is appended. -/
theorem acc_append {P : Program} {t : TypeId} {ag : Bool} {w bytes : Nat} {zs : List AV} {st : Store} {b : Nat} {l xs : List AV} {x : AV} {K : AV → Store → Prop}
    (hI : eI P t = some (ag, w)) (hB : eB P t = some bytes) (hZ : eZ P t = some zs) (hz : zs.length = w) (hx : aElems x = some xs) (hfit : appFit w xs) (hw : ∀ e ∈ l, e.width = w) (hb : l ≠ [] → st b = none)
    (h1 : (l.length + xs.length) * bytes ≤ 140737488355328) (h2 : l.length + xs.length ≤ 9223372036854775807)
    (hK : ∀ b', (l ++ xs ≠ [] → st b' = none) → K (accV w b' (l ++ xs)) (accS st b' (l ++ xs))) : aAppend P t (accS st b l) (accV w b l) x K := by
  unfold aAppend
  rw [hI, hB, hZ, hx]
  refine ⟨hz, hfit, ?_⟩
  cases l with
  | nil =>
    show _ ∧ _ ∧ _ ∧ _ ∧ _
    refine ⟨by simpa using h1, by simpa using h2, by simp, ?_, ?_⟩
    · rintro rfl
      have := hK b (by simp)
      simpa [accV, accS] using this
    · intro hne b' hb'
      have := hK b' (fun _ => hb')
      rw [List.nil_append, accV_cons hne, accS_cons hne] at this
      simpa [accS] using this
  | cons y l =>
    have hb := hb (by simp)
    show w = w ∧ _ ∧ _ ∧ _
    refine ⟨rfl, h1, h2, ?_⟩
    have hfl : ((y :: l).flatMap AV.cells).length = (y :: l).length * w := flat_length hw
    simp only [accS, Store.upd_same]
    refine ⟨by rw [hfl]; exact Nat.le_refl _, ?_, ?_⟩
    · have := hK b (fun _ => hb)
      rw [accV_cons (by simp), accS_cons (by simp), List.flatMap_append, List.length_append] at this
      rw [Store.upd_upd, ← hfl, List.take_length]
      exact this
    · intro b' hb'
      have hne : b' ≠ b := by rintro rfl; rw [Store.upd_same] at hb'; cases hb'
      rw [Store.upd_ne _ _ hne] at hb'
      have := hK b' (fun _ => hb')
      rw [accV_cons (by simp), accS_cons (by simp), List.flatMap_append, List.length_append] at this
      rw [Store.erase_upd _ _ _ hb, ← hfl, List.take_length]
      exact this

/-! ### At the end it is never written again -/
/-- The held list, seen as a slice. -/
def AV.fin (b : Nat) (l : List AV) (r : AV) : AV := if l.isEmpty = true then r.soft else (r.fz b l).soft
theorem accV_fin {w b : Nat} {l : List AV} : (accV w b l).fin b l = .slice l := by cases l <;> simp [accV, AV.fin, AV.fz, AV.soft]
theorem softL_map : ∀ cs : List AV, softL cs = cs.map AV.soft
  | [] => rfl
  | c :: cs => by simp [softL, softL_map cs]
theorem fzL_map {b : Nat} {l : List AV} : ∀ cs : List AV, fzL b l cs = cs.map (AV.fz b l)
  | [] => rfl
  | c :: cs => by simp [fzL, fzL_map cs]
theorem fin_agg {b : Nat} {l : List AV} {cs : List AV} : (AV.agg cs).fin b l = .agg (cs.map (AV.fin b l)) := by
  unfold AV.fin
  split
  · simp [AV.soft, softL_map]
  · simp [AV.fz, AV.soft, softL_map, fzL_map]
theorem fin_tup {b : Nat} {l : List AV} {cs : List AV} : (AV.tup cs).fin b l = .tup (cs.map (AV.fin b l)) := by
  unfold AV.fin
  split
  · simp [AV.soft, softL_map]
  · simp [AV.fz, AV.soft, softL_map, fzL_map]
theorem fin_int {b : Nat} {l : List AV} {k : IntKind} {n : Int} : (AV.int k n).fin b l = .int k n := by unfold AV.fin; split <;> rfl
theorem fin_bool {b : Nat} {l : List AV} {n : Bool} : (AV.bool n).fin b l = .bool n := by unfold AV.fin; split <;> rfl
theorem fin_str {b : Nat} {l : List AV} {s : ByteArray} : (AV.str s).fin b l = .str s := by unfold AV.fin; split <;> rfl
theorem fin_slice {b : Nat} {l : List AV} {s : List AV} : (AV.slice s).fin b l = .slice s := by unfold AV.fin; split <;> rfl
theorem fin_fslice {b : Nat} {l : List AV} {s : List AV} : (AV.fslice s).fin b l = .slice s := by unfold AV.fin; split <;> rfl

theorem ACalls.fin {P : Program} {g : FuncId} {args : List AV} {st : Store} {Q : AV → Store → Prop}
    (x : ACalls P g args st (fun r st' => ∃ b l s0, st' = accS s0 b l ∧ (l ≠ [] → s0 b = none) ∧ (∀ e ∈ l, e.isJunk = false) ∧ Even l ∧ Q (r.fin b l) s0)) : ACalls P g args st Q :=
  x.weak fun r st' ⟨b, l, s0, h1, h0, h2, h3, h4⟩ => by
    cases l with
    | nil =>
      exact ⟨r.fin b [], st', (Drops.refl _).weakS, fun h v S y => y.soft, by have e : st' = s0 := h1; rw [e]; exact h4⟩
    | cons e l =>
      have hb := h0 (by simp)
      subst h1
      have h1 : accS s0 b (e :: l) b = some (.cells ((e :: l).flatMap AV.cells)) := by simp only [accS, Store.upd_same]
      have e1 : (accS s0 b (e :: l)).erase b = s0 := by simp only [accS]; exact Store.erase_upd _ _ _ hb
      refine ⟨r.fin b (e :: l), s0, ?_, fun h v S y => ?_, h4⟩
      · have := (Drops.erase' (accS s0 b (e :: l)) b).weakS
        rwa [e1] at this
      · have := y.fz S h1 h2 h3
        rw [e1] at this
        exact this.soft

end Go.AW
