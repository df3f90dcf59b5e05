/- Goals that are built in, solved from any bindings; the same by other names. -/
import Derived.Test.YtepkgoabhlnkbaaGreatDoorSesk
import Derived.Test.YtepkgoabhlnkbaaGreatDoorSesf
import Derived.Test.YtepkgoabhlnkbaaGreatDoorSesj
set_option linter.unusedSimpArgs false
set_option linter.unusedVariables false
set_option maxRecDepth 100000
namespace Go.AW
noncomputable def uniCG (σ : Sub) (a b : Tm) : Int × Sub × List Int := (codeB (uniG σ a b).1, (uniG σ a b).2)
noncomputable def argCG (σ : Sub) (x y z : Tm) : Int × Sub × List Int :=
 if x.k = 1 ∨ y.k = 1 then (2, σ, []) else if x.k ≠ 2 ∨ y.k ≠ 3 ∨ y.ts.length = 0 then (3, σ, []) else match argT x y with
  | some u => uniCG σ z u
  | none => (1, σ, [])
noncomputable def solveG (σ : Sub) (s : ByteArray) : List Tm → Int × Sub × List Int
 | [] => (codeB (decide (s = ⟨#[116, 114, 117, 101]⟩)), σ, [])
 | [x] => (codeB (testB s x), σ, [])
 | [x, y] => if inN cmpNames s = true then (cmpC s x y, σ, []) else if s = ⟨#[61]⟩ then uniCG σ x y else if s = ⟨#[92, 61]⟩ then (codeB (!(uniG σ x y).1), σ, [])
  else if s = ⟨#[61, 61]⟩ then (codeB (x.same y), σ, []) else if y.ev.2 ≠ 0 then (y.ev.2, σ, []) else uniCG σ x (itm y.ev.1)
 | [x, y, z] => argCG σ x y z
 | _ => (0, σ, [])
structure SolG (N : Int) (σ : Sub) (σ' : Sub) (add : List Int) : Prop where
 good : IsGood σ'
 ok : AllS (OkX N) σ'
 keep : ∀ n, n ∉ add → σ' n = σ n
 new : ∀ n ∈ add, σ n = none ∧ σ' n ≠ none
 nodup : add.Nodup
 inN : ∀ n ∈ add, 0 ≤ n ∧ n < N
theorem SolG.same {N : Int} {σ : Sub} (hg : IsGood σ) (ho : AllS (OkX N) σ) : SolG N σ σ [] := ⟨hg, ho, fun _ _ => rfl, by simp, List.nodup_nil, by simp⟩
theorem UniG.sol {N : Int} {σ : Sub} {a b : Tm} {r : Bool} {σ' : Sub} {tr : List Int} (h : UniG N σ a b r σ' tr) : SolG N σ σ' tr := ⟨h.uni.good, h.ok, h.uni.keep, h.uni.new, h.uni.nodup, h.inN⟩
theorem SolG.uni {N : Nat} {σ : Sub} {a b : Tm} (hg : IsGood σ) (ho : AllS (OkX N) σ) (ha : OkX N a) (hb : OkX N b) : SolG N σ (uniG σ a b).2.1 (uniG σ a b).2.2 := by
 obtain ⟨r, σ', tr, h⟩ := uniG_of hg ho ha hb
 rw [h.eq]
 exact h.sol
theorem itm_okX {N : Int} {n : Int} (h : InR n) : OkX N (itm n) := by
 have h1 := itm_valid h
 have h2 := Tm.valid_okV h1
 refine ⟨⟨h2.1, h2.2.1, fun v hv => ?_⟩, Tm.valid_nodes h1⟩
 unfold itm at hv
 rw [Tm.vl_mk (by decide)] at hv
 obtain ⟨t, ht, _⟩ := hv
 cases ht
theorem argT_okX {N : Int} {x y u : Tm} (hy : OkX N y) (hk : y.k ≠ 1) (h : argT x y = some u) : OkX N u := okX_kids N y hk hy u (argT_mem h)
theorem solveG_sol {N : Nat} {σ : Sub} (hg : IsGood σ) (ho : AllS (OkX N) σ) (s : ByteArray) (ks : List Tm) (hv : ∀ x ∈ ks, OkX N x) : SolG N σ (solveG σ s ks).2.1 (solveG σ s ks).2.2 := by
 have hs := SolG.same hg ho
 match ks, hv with
 | [], _ => exact hs
 | [x], _ => exact hs
 | [x, y], hv =>
  have hx := hv x (by simp)
  have hy := hv y (by simp)
  simp only [solveG]
  split
  · exact hs
  split
  · exact SolG.uni hg ho hx hy
  split
  · exact hs
  split
  · exact hs
  split
  · exact hs
  · exact SolG.uni hg ho hx (itm_okX (Tm.ev_in y hy.1))
 | [x, y, z], hv =>
  have hy := hv y (by simp)
  have hz := hv z (by simp)
  simp only [solveG, argCG]
  split
  · exact hs
  rename_i h1
  split
  · exact hs
  split
  · rename_i u hu
    exact SolG.uni hg ho hz (argT_okX hy (fun h => h1 (.inr h)) hu)
  · exact hs
 | a :: b :: c :: d :: l, _ => exact hs
theorem ev_ren (ρ : Int → Int) : ∀ t : Tm, (ren ρ t).ev = t.ev := by
 intro t
 induction t using Tm.ind with
 | h k n s ts ih =>
  by_cases h1 : k = 1
  · rw [ren_var ρ (t := .mk k n s ts) h1, vr, Tm.ev_mk, Tm.ev_mk, h1]
    simp
  rw [ren_mk ρ h1, Tm.ev_mk, Tm.ev_mk, List.map_map]
  have : ts.map (Tm.ev ∘ ren ρ) = ts.map Tm.ev := List.map_congr_left fun x hx => ih x hx
  rw [this]
section
variable {ρ : Int → Int} {N : Int} {σ τ : Sub}
theorem Sim.back (S : Sim ρ N σ τ) : ∃ δ : Int → Int, ∀ v, 0 ≤ v → v < N → δ (ρ v) = v := by
 refine ⟨fun w => open Classical in if h : ∃ v, 0 ≤ v ∧ v < N ∧ ρ v = w then h.choose else 0, fun v h0 h1 => ?_⟩
 have h : ∃ u, 0 ≤ u ∧ u < N ∧ ρ u = ρ v := ⟨v, h0, h1, rfl⟩
 simp only [dif_pos h]
 obtain ⟨a, b, c⟩ := h.choose_spec
 exact S.inj _ _ a b h0 h1 c
theorem Sim.renInj (S : Sim ρ N σ τ) {x y : Tm} (hx : OkV N x) (hy : OkV N y) (e : ren ρ x = ren ρ y) : x = y := by
 obtain ⟨δ, hδ⟩ := S.back
 have key : ∀ {t : Tm}, OkV N t → ren δ (ren ρ t) = t := fun {t} ht => by
  rw [show ren δ (ren ρ t) = t.mapv fun v => vr (δ (ρ v)) from ren_mapv ρ _ t]
  rw [mapv_congr (g := vr) t fun v hv => by rw [hδ v (ht.2.2 v hv).1 (ht.2.2 v hv).2]]
  exact mapv_id t ht.2.1
 rw [← key hx, e, key hy]
theorem Sim.same (S : Sim ρ N σ τ) {x y : Tm} (hx : OkV N x) (hy : OkV N y) : (ren ρ x).same (ren ρ y) = x.same y := by
 rw [Bool.eq_iff_iff, Tm.same_eq, Tm.same_eq]
 exact ⟨S.renInj hx hy, fun e => by rw [e]⟩
theorem testB_ren (ρ : Int → Int) (s : ByteArray) (x : Tm) : testB s (ren ρ x) = testB s x := by
 unfold testB
 rw [ren_k]
 by_cases h : x.k = 1
 · rw [h]; simp
 · have : (ren ρ x).ts.length = x.ts.length := by
    rw [ren_ne ρ h]
    simp only [Tm.ts, List.length_map]
   rw [this]
theorem argT_ren (ρ : Int → Int) {x y : Tm} (hx : x.k = 2) (hy : y.k = 3) : argT (ren ρ x) (ren ρ y) = (argT x y).map (ren ρ) := by
 obtain ⟨k, n, s, ts⟩ := x
 obtain ⟨k', n', s', ts'⟩ := y
 simp only [Tm.k] at hx hy
 subst hx hy
 rw [ren_mk ρ (by decide), ren_mk ρ (by decide)]
 unfold argT
 show (if 1 ≤ n ∧ n ≤ ((ts'.map (ren ρ)).length : Int) then (ts'.map (ren ρ))[(n - 1).toNat]? else none) = Option.map (ren ρ) (if 1 ≤ n ∧ n ≤ (ts'.length : Int) then ts'[(n - 1).toNat]? else none)
 by_cases h : 1 ≤ n ∧ n ≤ (ts'.length : Int)
 · rw [if_pos h, if_pos (by rw [List.length_map]; exact h), List.getElem?_map]
 · rw [if_neg h, if_neg (by rw [List.length_map]; exact h)]; rfl
def SimR (ρ : Int → Int) (N : Int) (x y : Int × Sub × List Int) : Prop := y.1 = x.1 ∧ y.2.2 = x.2.2.map ρ ∧ Sim ρ N x.2.1 y.2.1
theorem SimR.same (S : Sim ρ N σ τ) (c : Int) : SimR ρ N (c, σ, []) (c, τ, []) := ⟨rfl, rfl, S⟩
end
section
variable {ρ : Int → Int} {N : Nat} {σ τ : Sub}
theorem SimR.uni (S : Sim ρ N σ τ) (hg : IsGood σ) (hg' : IsGood τ) (ho : AllS (OkX N) σ) {a b : Tm} (ha : OkX N a) (hb : OkX N b) : SimR ρ N (uniCG σ a b) (uniCG τ (ren ρ a) (ren ρ b)) := by
 obtain ⟨r, σ', tr, h⟩ := uniG_of hg ho ha hb
 obtain ⟨g, hg2⟩ := h.run
 obtain ⟨τ', e, S', _⟩ := S.uniG hg hg' ho.okV ha.1 hb.1 hg2
 unfold uniCG
 rw [h.eq, e]
 exact ⟨rfl, rfl, S'⟩
theorem ren_itm (ρ : Int → Int) (n : Int) : ren ρ (itm n) = itm n := ren_mk ρ (by decide)
theorem Sim.solveG (S : Sim ρ N σ τ) (hg : IsGood σ) (hg' : IsGood τ) (ho : AllS (OkX N) σ) (s : ByteArray) (ks : List Tm) (hv : ∀ x ∈ ks, OkX N x) : SimR ρ N (AW.solveG σ s ks) (AW.solveG τ s (ks.map (ren ρ))) := by
 match ks, hv with
 | [], _ => exact SimR.same S _
 | [x], _ =>
  simp only [List.map_cons, List.map_nil, AW.solveG, testB_ren]
  exact SimR.same S _
 | [x, y], hv =>
  have hx := hv x (by simp)
  have hy := hv y (by simp)
  have hu := SimR.uni S hg hg' ho hx hy
  simp only [List.map_cons, List.map_nil, AW.solveG, cmpC, ev_ren, S.same hx.1 hy.1]
  by_cases h1 : inN cmpNames s = true
  · rw [if_pos h1, if_pos h1]; exact SimR.same S _
  rw [if_neg h1, if_neg h1]
  by_cases h2 : s = ⟨#[61]⟩
  · rw [if_pos h2, if_pos h2]; exact hu
  rw [if_neg h2, if_neg h2]
  by_cases h3 : s = ⟨#[92, 61]⟩
  · rw [if_pos h3, if_pos h3]
    obtain ⟨r, σ', tr, h⟩ := uniG_of hg ho hx hy
    obtain ⟨g, hg2⟩ := h.run
    obtain ⟨τ', e, _, _⟩ := S.uniG hg hg' ho.okV hx.1 hy.1 hg2
    rw [h.eq, e]
    exact SimR.same S _
  rw [if_neg h3, if_neg h3]
  by_cases h4 : s = ⟨#[61, 61]⟩
  · rw [if_pos h4, if_pos h4]; exact SimR.same S _
  rw [if_neg h4, if_neg h4]
  by_cases h5 : y.ev.2 ≠ 0
  · rw [if_pos h5, if_pos h5]; exact SimR.same S _
  rw [if_neg h5, if_neg h5]
  have := SimR.uni S hg hg' ho hx (itm_okX (N := N) (Tm.ev_in y hy.1))
  rw [ren_itm] at this
  exact this
 | [x, y, z], hv =>
  have hy := hv y (by simp)
  have hz := hv z (by simp)
  simp only [List.map_cons, List.map_nil, AW.solveG, argCG, ren_k]
  by_cases h1 : x.k = 1 ∨ y.k = 1
  · rw [if_pos h1, if_pos h1]; exact SimR.same S _
  rw [if_neg h1, if_neg h1]
  have hl : (ren ρ y).ts.length = y.ts.length := by
   rw [ren_ne ρ (t := y) (fun h => h1 (.inr h))]
   simp only [Tm.ts, List.length_map]
  rw [hl]
  by_cases h2 : x.k ≠ 2 ∨ y.k ≠ 3 ∨ y.ts.length = 0
  · rw [if_pos h2, if_pos h2]; exact SimR.same S _
  rw [if_neg h2, if_neg h2]
  have kx : x.k = 2 := Classical.byContradiction fun h => h2 (.inl h)
  have ky : y.k = 3 := Classical.byContradiction fun h => h2 (.inr (.inl h))
  rw [argT_ren ρ kx ky]
  cases hu : argT x y with
  | none => exact SimR.same S _
  | some u => exact SimR.uni S hg hg' ho hz (argT_okX hy (fun h => h1 (.inr h)) hu)
 | a :: b :: c :: d :: l, _ =>
  simp only [List.map_cons, AW.solveG]
  exact SimR.same S _
end
theorem solveG_code (σ : Sub) (s : ByteArray) (ks : List Tm) : 0 ≤ (solveG σ s ks).1 := by
 have hc : ∀ b, 0 ≤ codeB b := fun b => by unfold codeB; split <;> omega
 have hr : ∀ n, 0 ≤ (ranged n).2 := fun n => by unfold ranged; split <;> simp
 have har : ∀ s a b, 0 ≤ (arOp s a b).2 := fun s a b => by
  unfold arOp
  split
  · exact hr _
  split
  · exact hr _
  split
  · exact hr _
  split
  · simp
  split
  · simp
  · simp
 have hb : ∀ (f : Int → Int → Int × Int) (x y : Int × Int), (∀ a b, 0 ≤ (f a b).2) → 0 ≤ x.2 → 0 ≤ y.2 → 0 ≤ (both f x y).2 := fun f x y hf hx hy => by
  unfold both
  split
  · exact hx
  split
  · exact hy
  · exact hf _ _
 have he : ∀ t : Tm, 0 ≤ t.ev.2 := by
  intro t
  induction t using Tm.ind with
  | h k n s ts ih =>
   rw [Tm.ev_mk]
   split
   · simp
   split
   · simp
   split
   · match ts, ih with
     | [], _ => simp [two]
     | [x], _ => simp [two]
     | [x, y], ih => exact hb _ _ _ (har s) (ih x (by simp)) (ih y (by simp))
     | x :: y :: z :: l, _ => simp [two]
   · simp
 match ks with
 | [] => exact hc _
 | [x] => exact hc _
 | [x, y] =>
  simp only [solveG]
  split
  · exact hb _ _ _ (fun _ _ => hc _) (he x) (he y)
  split
  · exact hc _
  split
  · exact hc _
  split
  · exact hc _
  split
  · exact he y
  · exact hc _
 | [x, y, z] =>
  simp only [solveG, argCG]
  split
  · simp
  split
  · simp
  split
  · exact hc _
  · simp
 | a :: b :: c :: d :: l => simp [solveG]
abbrev Cl := Tm × List Tm
def clAv : Cl → AV
 | (.mk k n s ts, b) => .agg [.int .i64 k, .int .i64 n, .str s, .slice (ts.map Tm.av), .slice (b.map Tm.av)]
theorem clAv_mk (k n : Int) (s : ByteArray) (ts b : List Tm) : clAv (.mk k n s ts, b) = .agg [.int .i64 k, .int .i64 n, .str s, .slice (ts.map Tm.av), .slice (b.map Tm.av)] := rfl
theorem clAv_agg (c : Cl) : (clAv c).isAgg = true := by obtain ⟨⟨k, n, s, ts⟩, b⟩ := c; rfl
theorem clAv_width (c : Cl) : (clAv c).width = 5 := by obtain ⟨⟨k, n, s, ts⟩, b⟩ := c; rfl
theorem clAv_store (c : Cl) : (clAv c).cells.all AV.storable = true := by obtain ⟨⟨k, n, s, ts⟩, b⟩ := c; rfl
theorem clAv_junk (c : Cl) : (clAv c).isJunk = false := by obtain ⟨⟨k, n, s, ts⟩, b⟩ := c; rfl
def clSame (x y : Cl) : Bool := x.1.same y.1 && eqL Tm.same x.2 y.2
theorem clSame_refl (x : Cl) : clSame x x = true := by
 unfold clSame
 rw [(Tm.same_eq x.1 x.1).2 rfl, (eqL_eq (fun x _ y => Tm.same_eq x y)).2 rfl]
 rfl
def clSz (c : Cl) : Nat := c.1.sz + (c.2.length + sumL Tm.sz c.2)
def plainT : Tm → Bool | .mk k _ s ts => plainGoal k s (ts.length : Int)
def clOk (c : Cl) : Bool := c.1.valid && plainT c.1 && (decide (c.2.length ≤ 6) && c.2.all Tm.goal)
def progOk (p : List Cl) : Bool := decide (p.length ≤ 20) && p.all clOk
theorem own_Cl {st : zy7} {k n : Int} {s : ByteArray} {ts b : List Tm} {o : AV} {bs : List Nat} :
 Own st (clAv (.mk k n s ts, b)) o bs ↔ ∃ q b1 q' b2, o = .agg [.int .i64 k, .int .i64 n, .str s, q, q'] ∧ bs = b1 ++ b2 ∧ Own st (.slice (ts.map Tm.av)) q b1 ∧ Own st (.slice (b.map Tm.av)) q' b2 := by
 rw [clAv_mk]
 generalize AV.slice (ts.map Tm.av) = x
 generalize AV.slice (b.map Tm.av) = y
 simp only [Own, OwnL]
 constructor
 · rintro ⟨os, rfl, o1, os1, b1, b1', rfl, rfl, ⟨rfl, rfl⟩, o2, os2, b2, b2', rfl, rfl, ⟨rfl, rfl⟩, o3, os3, b3, b3', rfl, rfl, ⟨rfl, rfl⟩, o4, os4, b4, b4', rfl, rfl, h, o6, os6, b6, b6', rfl, rfl, h', rfl, rfl⟩
   exact ⟨o4, b4, o6, b6, rfl, by simp, h, h'⟩
 · rintro ⟨q, b1, q', b2, rfl, rfl, h, h'⟩
   exact ⟨_, rfl, _, _, [], b1 ++ b2, rfl, rfl, ⟨rfl, rfl⟩, _, _, [], b1 ++ b2, rfl, rfl, ⟨rfl, rfl⟩, _, _, [], b1 ++ b2, rfl, rfl, ⟨rfl, rfl⟩, q, _, b1, b2, rfl, rfl, h, q', [], b2, [], rfl, by simp, h', rfl, rfl⟩
def frI (c : Cl) : Int := (tmsVars (c.1 :: c.2) []).foldl (fun n v => if n ≤ v then v + 1 else n) 0
def frN (c : Cl) : Nat := (frI c).toNat
def shf (N : Nat) (t : Tm) : Tm := ren (fun v => v + (N : Int)) t
def fitT (t : Tm) : Bool := t.flat 30 && decide (t.nodes ≤ 120)
def cutT (t : Tm) : Bool := decide (t.k = 3) && decide (t.s = ⟨#[33]⟩) && decide ((t.ts.length : Int) = 0)
def hdOf (c : Cl) (t : Tm) : Bool := decide (c.1.s = t.s) && decide ((c.1.ts.length : Int) = (t.ts.length : Int))
def forL (p : List Cl) (t : Tm) : List Nat := (List.range p.length).filter fun i => match p[i]? with
 | some c => hdOf c t
 | none => false
def endC (c : Int) : Int := if c = 2 then 4 else if c = 3 then 5 else if c = 4 then 6 else 7
noncomputable def ansR (σ : Sub) (vars : List Int) : Option (List Tm) :=
 if ((vars.map (rs σ)).all fitT = true) ∧ (tmsVars (vars.map (rs σ)) []).length ≤ 26 then some (renumL (vars.map (rs σ))) else none
structure RG where
 t : Tm
 keep : Nat
structure RC where
 goal : Tm
 rest : List RG
 left : List Nat
 σ : Sub
 N : Nat
structure RS where
 goals : List RG
 σ : Sub
 N : Nat
 chs : List RC
inductive RO where
 | go (s : RS)
 | fail
 | stop (e : Int)
noncomputable def rTry (p : List Cl) (chs : List RC) (goal : Tm) (rest : List RG) (σ : Sub) (N : Nat) : List Nat → Option RS
 | [] => none
 | i :: l => match p[i]? with
  | none => none
  | some x => if (uniG σ goal (shf N x.1)).1 = true then
   some ⟨x.2.map (fun t => ⟨shf N t, chs.length⟩) ++ rest, (uniG σ goal (shf N x.1)).2.1, N + frN x, if l = [] then chs else chs ++ [⟨goal, rest, l, σ, N⟩]⟩
   else rTry p chs goal rest σ N l
noncomputable def rBack (p : List Cl) : Nat → List RC → Option RS
 | 0, _ => none
 | n + 1, chs => match chs.getLast? with
  | none => none
  | some c => match rTry p chs.dropLast c.goal c.rest c.σ c.N c.left with
   | some s => some s
   | none => rBack p n chs.dropLast
noncomputable def rStep (p : List Cl) (cnd : Tm → List Nat → List Nat) (s : RS) (g : RG) (rest : List RG) : RO :=
 if fitT (g.t.mapv (rs s.σ)) = false then .stop 3
 else if cutT (g.t.mapv (rs s.σ)) = true then .go ⟨rest, s.σ, s.N, s.chs.take g.keep⟩
 else if isBuiltin (g.t.mapv (rs s.σ)).s ((g.t.mapv (rs s.σ)).ts.length : Int) = true then
  if (solveG s.σ (g.t.mapv (rs s.σ)).s (g.t.mapv (rs s.σ)).ts).1 = 0 then .go ⟨rest, (solveG s.σ (g.t.mapv (rs s.σ)).s (g.t.mapv (rs s.σ)).ts).2.1, s.N, s.chs⟩
  else if (solveG s.σ (g.t.mapv (rs s.σ)).s (g.t.mapv (rs s.σ)).ts).1 = 1 then .fail
  else .stop (endC (solveG s.σ (g.t.mapv (rs s.σ)).s (g.t.mapv (rs s.σ)).ts).1)
 else if forL p (g.t.mapv (rs s.σ)) = [] then .stop 8
 else match rTry p s.chs (g.t.mapv (rs s.σ)) rest s.σ s.N (cnd (g.t.mapv (rs s.σ)) (forL p (g.t.mapv (rs s.σ)))) with
  | some s' => .go s'
  | none => .fail
noncomputable def rRun (p : List Cl) (cnd : Tm → List Nat → List Nat) (vars : List Int) (most fuel : Nat) (s : RS) : List (List Tm) × Int :=
 match s.goals with
 | [] => if h : most = 0 then ([], 1) else match ansR s.σ vars with
  | none => ([], 3)
  | some a => match rBack p s.chs.length s.chs with
   | none => ([a], 0)
   | some s' => (a :: (rRun p cnd vars (most - 1) fuel s').1, (rRun p cnd vars (most - 1) fuel s').2)
 | g :: rest => if h : fuel = 0 then ([], 2) else match rStep p cnd s g rest with
  | .stop e => ([], e)
  | .go s' => rRun p cnd vars most (fuel - 1) s'
  | .fail => match rBack p s.chs.length s.chs with
   | none => ([], 0)
   | some s' => rRun p cnd vars most (fuel - 1) s'
termination_by most + fuel
decreasing_by all_goals omega
def rStart (q : List Tm) : RS := ⟨q.map fun t => ⟨t, 0⟩, Sub.none, 26, []⟩
noncomputable def solveR (p : List Cl) (cnd : Tm → List Nat → List Nat) (q : List Tm) (most fuel : Nat) : List (List Tm) × Int := rRun p cnd (tmsVars q []) most fuel (rStart q)
structure IG where
 t : Tm
 cut : Nat
 up : Int
structure IC where
 goal : Tm
 node : Nat
 rest : List IG
 list : List Nat
 trail : Nat
 taken : Nat
structure IS where
 goals : List IG
 σ : Sub
 tr : List Int
 chs : List IC
 fresh : Nat
 nn : Nat
inductive IO' where
 | go (s : IS)
 | fail (s : IS)
 | stop (e : Int)
noncomputable def iTry (p : List Cl) (goal : Tm) (at' : Nat) (rest : List IG) : List Nat → IS → Bool × IS
 | [], s => (false, s)
 | i :: l, s => match p[i]? with
  | none => (false, s)
  | some x => if (uniG s.σ goal (shf s.fresh x.1)).1 = true then
   (true, ⟨x.2.map (fun t => ⟨shf s.fresh t, s.chs.length, at'⟩) ++ rest, (uniG s.σ goal (shf s.fresh x.1)).2.1, s.tr ++ (uniG s.σ goal (shf s.fresh x.1)).2.2, if l = [] then s.chs else s.chs ++ [⟨goal, at', rest, l, s.tr.length, s.nn⟩], s.fresh + 26, s.nn⟩)
   else iTry p goal at' rest l { s with fresh := s.fresh + 26 }
def IS.pop (s : IS) (c : IC) : IS := { s with chs := s.chs.dropLast, σ := s.σ.out (s.tr.drop c.trail), tr := s.tr.take c.trail, nn := c.taken }
noncomputable def iBack (p : List Cl) : Nat → IS → Option IS
 | 0, _ => none
 | n + 1, s => match s.chs.getLast? with
  | none => none
  | some c => if (iTry p c.goal c.node c.rest c.list (s.pop c)).1 = true then some (iTry p c.goal c.node c.rest c.list (s.pop c)).2 else iBack p n (iTry p c.goal c.node c.rest c.list (s.pop c)).2
noncomputable def iStep (p : List Cl) (cnd : Tm → List Nat → List Nat) (s : IS) (g : IG) (rest : List IG) : IO' :=
 if fitT (g.t.mapv (rs s.σ)) = false then .stop 3
 else if cutT (g.t.mapv (rs s.σ)) = true then .go { s with goals := rest, chs := s.chs.take g.cut, nn := s.nn + 1 }
 else if isBuiltin (g.t.mapv (rs s.σ)).s ((g.t.mapv (rs s.σ)).ts.length : Int) = true then
  if (solveG s.σ (g.t.mapv (rs s.σ)).s (g.t.mapv (rs s.σ)).ts).1 = 0 then .go { s with goals := rest, σ := (solveG s.σ (g.t.mapv (rs s.σ)).s (g.t.mapv (rs s.σ)).ts).2.1, tr := s.tr ++ (solveG s.σ (g.t.mapv (rs s.σ)).s (g.t.mapv (rs s.σ)).ts).2.2, nn := s.nn + 1 }
  else if (solveG s.σ (g.t.mapv (rs s.σ)).s (g.t.mapv (rs s.σ)).ts).1 = 1 then .fail { s with σ := (solveG s.σ (g.t.mapv (rs s.σ)).s (g.t.mapv (rs s.σ)).ts).2.1, tr := s.tr ++ (solveG s.σ (g.t.mapv (rs s.σ)).s (g.t.mapv (rs s.σ)).ts).2.2, nn := s.nn + 1 }
  else .stop (endC (solveG s.σ (g.t.mapv (rs s.σ)).s (g.t.mapv (rs s.σ)).ts).1)
 else if forL p (g.t.mapv (rs s.σ)) = [] then .stop 8
 else if (iTry p (g.t.mapv (rs s.σ)) s.nn rest (cnd (g.t.mapv (rs s.σ)) (forL p (g.t.mapv (rs s.σ)))) { s with nn := s.nn + 1 }).1 = true then .go (iTry p (g.t.mapv (rs s.σ)) s.nn rest (cnd (g.t.mapv (rs s.σ)) (forL p (g.t.mapv (rs s.σ)))) { s with nn := s.nn + 1 }).2
 else .fail (iTry p (g.t.mapv (rs s.σ)) s.nn rest (cnd (g.t.mapv (rs s.σ)) (forL p (g.t.mapv (rs s.σ)))) { s with nn := s.nn + 1 }).2
noncomputable def iRun (p : List Cl) (cnd : Tm → List Nat → List Nat) (vars : List Int) (most fuel : Nat) (s : IS) : List (List Tm) × Int :=
 match s.goals with
 | [] => if h : most = 0 then ([], 1) else match ansR s.σ vars with
  | none => ([], 3)
  | some a => match iBack p s.chs.length s with
   | none => ([a], 0)
   | some s' => (a :: (iRun p cnd vars (most - 1) fuel s').1, (iRun p cnd vars (most - 1) fuel s').2)
 | g :: rest => if h : fuel = 0 then ([], 2) else match iStep p cnd s g rest with
  | .stop e => ([], e)
  | .go s' => iRun p cnd vars most (fuel - 1) s'
  | .fail s' => match iBack p s'.chs.length s' with
   | none => ([], 0)
   | some s'' => iRun p cnd vars most (fuel - 1) s''
termination_by most + fuel
decreasing_by all_goals omega
def iStart (q : List Tm) : IS := ⟨q.map fun t => ⟨t, 0, -1⟩, Sub.none, [], [], 26, 0⟩
structure SimC (ρ : Int → Int) (N F : Nat) (σ τ : Sub) : Prop where
 sim : Sim ρ N σ τ
 rng : ∀ v, 0 ≤ v → v < (N : Int) → 0 ≤ ρ v ∧ ρ v < (F : Int)
 g1 : IsGood σ
 o1 : AllS (OkX N) σ
 g2 : IsGood τ
 o2 : AllS (OkX F) τ
 d1 : ∀ n, ¬(0 ≤ n ∧ n < (N : Int)) → σ n = none
 d2 : ∀ n, ¬(0 ≤ n ∧ n < (F : Int)) → τ n = none
 h26 : 26 ≤ N
 idn : ∀ v, 0 ≤ v → v < 26 → ρ v = v
theorem SimC.mono {ρ : Int → Int} {N F F' : Nat} {σ τ : Sub} (S : SimC ρ N F σ τ) (h : F ≤ F') : SimC ρ N F' σ τ :=
 ⟨S.sim, fun v h0 h1 => ⟨(S.rng v h0 h1).1, by have := (S.rng v h0 h1).2; omega⟩, S.g1, S.o1, S.g2, S.o2.imp fun t ht => ht.mono (by omega), S.d1, fun n hn => S.d2 n fun h' => hn ⟨h'.1, by omega⟩, S.h26, S.idn⟩
def extR (ρ : Int → Int) (N F : Nat) : Int → Int := fun v => if v < (N : Int) then ρ v else v - N + F
theorem extR_old {ρ : Int → Int} {N F : Nat} {v : Int} (h : v < (N : Int)) : extR ρ N F v = ρ v := if_pos h
theorem SimC.ext {ρ : Int → Int} {N F : Nat} {σ τ : Sub} (S : SimC ρ N F σ τ) {k : Nat} (hk : k ≤ 26) : SimC (extR ρ N F) (N + k) (F + 26) σ τ := by
 have hnew : ∀ v : Int, ¬ v < (N : Int) → extR ρ N F v = v - N + F := fun v h => if_neg h
 refine ⟨⟨fun v w hv0 hv1 hw0 hw1 e => ?_, fun v h0 h1 => ?_⟩, fun v h0 h1 => ?_, S.g1, S.o1.imp fun t ht => ht.mono (by omega), S.g2, S.o2.imp fun t ht => ht.mono (by omega), fun n hn => S.d1 n fun h => hn ⟨h.1, by omega⟩, fun n hn => S.d2 n fun h => hn ⟨h.1, by omega⟩, by have := S.h26; omega, fun v h0 h1 => by rw [extR_old (by have := S.h26; omega)]; exact S.idn v h0 h1⟩
 · by_cases hv : v < (N : Int) <;> by_cases hw : w < (N : Int)
   · rw [extR_old hv, extR_old hw] at e; exact S.sim.inj v w hv0 hv hw0 hw e
   · rw [extR_old hv, hnew w hw] at e
     have := S.rng v hv0 hv
     omega
   · rw [extR_old hw, hnew v hv] at e
     have := S.rng w hw0 hw
     omega
   · rw [hnew v hv, hnew w hw] at e
     omega
 · by_cases hv : v < (N : Int)
   · rw [extR_old hv, S.sim.map v h0 hv]
     cases hs : σ v with
     | none => rfl
     | some u =>
      simp only [Option.map_some, Option.some.injEq]
      refine ren_congr fun w hw => ?_
      rw [extR_old ((S.o1 v u hs).1.2.2 w hw).2]
   · rw [hnew v hv, S.d1 v (fun h => hv h.2), S.d2 _ (fun h => by omega)]
     rfl
 · by_cases hv : v < (N : Int)
   · rw [extR_old hv]
     have := S.rng v h0 hv
     omega
   · rw [hnew v hv]; omega
theorem fr_fold (l : List Int) : ∀ n : Int, n ≤ l.foldl (fun n v => if n ≤ v then v + 1 else n) n ∧ (∀ v ∈ l, v < l.foldl (fun n v => if n ≤ v then v + 1 else n) n) ∧ ∀ m : Int, n ≤ m → (∀ v ∈ l, v < m) → l.foldl (fun n v => if n ≤ v then v + 1 else n) n ≤ m := by
 induction l with
 | nil => intro n; exact ⟨Int.le_refl _, by simp, fun m h _ => h⟩
 | cons x l ih =>
  intro n
  simp only [List.foldl_cons]
  obtain ⟨h1, h2, h3⟩ := ih (if n ≤ x then x + 1 else n)
  refine ⟨?_, fun v hv => ?_, fun m hm hl => h3 m ?_ fun v hv => hl v (by simp [hv])⟩
  · split at h1 <;> rename_i h <;> split <;> omega
  · rcases List.mem_cons.1 hv with rfl | hv
    · split at h1 <;> rename_i h <;> split <;> omega
    · exact h2 v hv
  · have := hl x (by simp)
    split <;> omega
structure ClX (c : Cl) : Prop where
 head : OkX 26 c.1
 body : ∀ t ∈ c.2, OkX 26 t ∧ t.k = 3
theorem ClX.vars {c : Cl} (h : ClX c) {v : Int} : v ∈ tmsVars (c.1 :: c.2) [] ↔ ∃ t ∈ c.1 :: c.2, v ∈ t.vl := by
 rw [tmsVars_mem]
 · simp
 · intro t ht
   rcases List.mem_cons.1 ht with rfl | ht
   · exact h.head.1.2.1
   · exact (h.body t ht).1.1.2.1
theorem ClX.okAll {c : Cl} (h : ClX c) : ∀ t ∈ c.1 :: c.2, OkX 26 t := fun t ht => by
 rcases List.mem_cons.1 ht with rfl | ht
 · exact h.head
 · exact (h.body t ht).1
theorem ClX.fr {c : Cl} (h : ClX c) : frN c ≤ 26 ∧ ∀ t ∈ c.1 :: c.2, ∀ v ∈ t.vl, v < (frN c : Int) := by
 obtain ⟨h1, h2, h3⟩ := fr_fold (tmsVars (c.1 :: c.2) []) 0
 have hle := h3 26 (by omega) fun v hv => by
  obtain ⟨t, ht, hv⟩ := h.vars.1 hv
  exact ((h.okAll t ht).1.2.2 v hv).2
 unfold frN frI
 refine ⟨by omega, fun t ht v hv => ?_⟩
 have := h2 v (h.vars.2 ⟨t, ht, hv⟩)
 omega
theorem ClX.shf {c : Cl} (h : ClX c) (N : Nat) : ∀ t ∈ c.1 :: c.2, OkX ((N + frN c : Nat) : Int) (shf N t) := fun t ht => by
 refine (h.okAll t ht).ren fun v hv => ?_
 have h1 := ((h.okAll t ht).1.2.2 v hv).1
 have h2 := h.fr.2 t ht v hv
 omega
theorem shf_ext {ρ : Int → Int} {N F : Nat} {c : Cl} (h : ClX c) : ∀ t ∈ c.1 :: c.2, ren (extR ρ N F) (shf N t) = shf F t := fun t ht => by
 unfold AW.shf
 rw [show ren (extR ρ N F) (ren (fun v => v + (N : Int)) t) = t.mapv fun v => vr (extR ρ N F (v + N)) from ren_mapv _ _ t]
 refine mapv_congr t fun v hv => ?_
 have h1 := ((h.okAll t ht).1.2.2 v hv).1
 show vr (extR ρ N F (v + (N : Int))) = vr (v + (F : Int))
 unfold extR
 rw [if_neg (by omega)]
 congr 1
 omega
theorem shf_k {N : Nat} (t : Tm) : (shf N t).k = t.k := ren_k _ t
def GL (ρ : Int → Int) (N : Nat) (gs : List RG) (hs : List IG) : Prop := hs.map (fun h => (h.t, h.cut)) = gs.map (fun g => (ren ρ g.t, g.keep)) ∧ ∀ g ∈ gs, OkX N g.t ∧ g.t.k = 3
theorem GL.ext {ρ ρ' : Int → Int} {N N' : Nat} {gs : List RG} {hs : List IG} (h : GL ρ N gs hs) (hN : N ≤ N') (hr : ∀ v, 0 ≤ v → v < (N : Int) → ρ' v = ρ v) : GL ρ' N' gs hs := by
 refine ⟨h.1.trans (List.map_congr_left fun g hg => ?_), fun g hg => ⟨(h.2 g hg).1.mono (by omega), (h.2 g hg).2⟩⟩
 rw [ren_congr (ρ := ρ) (ρ' := ρ') fun v hv => (hr v ((h.2 g hg).1.1.2.2 v hv).1 ((h.2 g hg).1.1.2.2 v hv).2).symm]
theorem GL.app {ρ : Int → Int} {N : Nat} {gs gs' : List RG} {hs hs' : List IG} (h : GL ρ N gs hs) (h' : GL ρ N gs' hs') : GL ρ N (gs ++ gs') (hs ++ hs') := by
 refine ⟨by rw [List.map_append, List.map_append, h.1, h'.1], fun g hg => ?_⟩
 rcases List.mem_append.1 hg with hg | hg
 · exact h.2 g hg
 · exact h'.2 g hg
def C1 (F : Nat) (c : RC) (d : IC) (τ : Sub) : Prop := ∃ ρ, SimC ρ c.N F c.σ τ ∧ d.goal = ren ρ c.goal ∧ OkX c.N c.goal ∧ GL ρ c.N c.rest d.rest ∧ d.list = c.left
inductive ChR (F : Nat) : List RC → List IC → Sub → List Int → Prop
 | nil {τ : Sub} {tr : List Int} : ChR F [] [] τ tr
 | snoc {cs : List RC} {ds : List IC} {c : RC} {d : IC} {τ : Sub} {tr : List Int} (h : ChR F cs ds (τ.out (tr.drop d.trail)) (tr.take d.trail)) (h1 : C1 F c d (τ.out (tr.drop d.trail))) (h2 : d.trail ≤ tr.length) : ChR F (cs ++ [c]) (ds ++ [d]) τ tr
theorem ChR.len {F : Nat} {cs : List RC} {ds : List IC} {τ : Sub} {tr : List Int} (h : ChR F cs ds τ tr) : ds.length = cs.length := by
 induction h with
 | nil => rfl
 | snoc _ _ _ ih => simp [ih]
theorem ChR.mono {F F' : Nat} (hF : F ≤ F') {cs : List RC} {ds : List IC} {τ : Sub} {tr : List Int} (h : ChR F cs ds τ tr) : ChR F' cs ds τ tr := by
 induction h with
 | nil => exact .nil
 | snoc _ h1 h2 ih => exact .snoc ih (by obtain ⟨ρ, h3, h4⟩ := h1; exact ⟨ρ, h3.mono hF, h4⟩) h2
theorem drop_take' (tr : List Int) {a m : Nat} (h : a ≤ m) (n : Int) : n ∈ tr.drop m ++ (tr.take m).drop a ↔ n ∈ tr.drop a := by
 have e : tr.drop a = (tr.take m).drop a ++ tr.drop m := by
  conv => lhs; rw [← List.take_append_drop m tr]
  rw [List.drop_append]
  by_cases hm : m ≤ tr.length
  · rw [List.length_take, Nat.min_eq_left hm, show a - m = 0 by omega, List.drop_zero]
  · rw [List.drop_of_length_le (show tr.length ≤ m by omega)]
    simp
 rw [e, List.mem_append, List.mem_append, or_comm]
theorem ChR.lift {F : Nat} {cs : List RC} {ds : List IC} {τ : Sub} {tr : List Int} {m : Nat} (h : ChR F cs ds (τ.out (tr.drop m)) (tr.take m)) (hm : m ≤ tr.length) : ChR F cs ds τ tr := by
 generalize hτ : τ.out (tr.drop m) = τ' at h
 generalize htr : tr.take m = tr' at h
 cases h with
 | nil => exact .nil
 | @snoc cs ds c d _ _ h h1 h2 =>
  subst hτ htr
  have hd : d.trail ≤ m := by rw [List.length_take] at h2; omega
  have e1 : (τ.out (tr.drop m)).out ((tr.take m).drop d.trail) = τ.out (tr.drop d.trail) := by
   rw [Sub.out_out]
   exact Sub.out_perm τ (drop_take' tr hd)
  have e2 : (tr.take m).take d.trail = tr.take d.trail := by rw [List.take_take, Nat.min_eq_left hd]
  rw [e1, e2] at h
  rw [e1] at h1
  exact .snoc h h1 (by omega)
theorem ChR.more {F : Nat} {cs : List RC} {ds : List IC} {τ τ' : Sub} {tr add : List Int} (h : ChR F cs ds τ tr) (e : τ'.out add = τ) : ChR F cs ds τ' (tr ++ add) := by
 refine ChR.lift (m := tr.length) ?_ (by simp)
 rw [List.drop_left, List.take_left, e]
 exact h
theorem ChR.take {F : Nat} {cs : List RC} {ds : List IC} {τ : Sub} {tr : List Int} (h : ChR F cs ds τ tr) (k : Nat) : ChR F (cs.take k) (ds.take k) τ tr := by
 induction h with
 | nil => simp; exact .nil
 | @snoc cs ds c d τ tr h h1 h2 ih =>
  have hl := h.len
  by_cases hk : k ≤ cs.length
  · rw [List.take_append_of_le_length hk, List.take_append_of_le_length (by omega)]
    exact ih.lift h2
  · rw [List.take_of_length_le (by simp; omega), List.take_of_length_le (by simp; omega)]
    exact .snoc h h1 h2
def Rl (s : RS) (i : IS) : Prop := ∃ ρ, SimC ρ s.N i.fresh s.σ i.σ ∧ GL ρ s.N s.goals i.goals ∧ ChR i.fresh s.chs i.chs i.σ i.tr
theorem UniG.outEq {N : Int} {σ : Sub} {a b : Tm} {r : Bool} {σ' : Sub} {tr : List Int} (h : UniG N σ a b r σ' tr) : σ'.out tr = σ := funext fun n => h.out n
theorem SolG.outEq {N : Int} {σ σ' : Sub} {add : List Int} (h : SolG N σ σ' add) : σ'.out add = σ := by
 funext n
 unfold Sub.out
 split
 · rename_i hn; exact ((h.new n hn).1).symm
 · rename_i hn; exact h.keep n hn
theorem SolG.dom {N : Nat} {σ σ' : Sub} {add : List Int} (h : SolG N σ σ' add) (hd : ∀ n, ¬(0 ≤ n ∧ n < (N : Int)) → σ n = none) : ∀ n, ¬(0 ≤ n ∧ n < (N : Int)) → σ' n = none := fun n hn => by
 rw [h.keep n fun h' => hn (h.inN n h')]
 exact hd n hn
theorem SimC.grow {ρ : Int → Int} {N F : Nat} {σ τ σ' τ' : Sub} {add add' : List Int} (S : SimC ρ N F σ τ) (h : SolG N σ σ' add) (h' : SolG F τ τ' add') (s : Sim ρ N σ' τ') : SimC ρ N F σ' τ' :=
 ⟨s, S.rng, h.good, h.ok, h'.good, h'.ok, h.dom S.d1, h'.dom S.d2, S.h26, S.idn⟩
theorem SimC.renX {ρ : Int → Int} {N F : Nat} {σ τ : Sub} (S : SimC ρ N F σ τ) {t : Tm} (h : OkX N t) : OkX F (ren ρ t) := h.ren fun v hv => S.rng v (h.1.2.2 v hv).1 (h.1.2.2 v hv).2
section
variable {p : List Cl} (hp : ∀ c ∈ p, ClX c)
include hp
theorem try_sim {cs : List RC} {goal : Tm} {rest : List RG} {σ : Sub} {N : Nat} {ρ : Int → Int} {rest' : List IG} {τ : Sub} {tr : List Int} {ds : List IC} {nn at' : Nat} (hg : OkX N goal) (hr : GL ρ N rest rest') :
 ∀ (l : List Nat) (F : Nat) (gl : List IG), SimC ρ N F σ τ → ChR F cs ds τ tr →
 match rTry p cs goal rest σ N l with
 | none => ∃ F', F ≤ F' ∧ iTry p (ren ρ goal) at' rest' l ⟨gl, τ, tr, ds, F, nn⟩ = (false, ⟨gl, τ, tr, ds, F', nn⟩)
 | some s => ∃ i, iTry p (ren ρ goal) at' rest' l ⟨gl, τ, tr, ds, F, nn⟩ = (true, i) ∧ Rl s i := by
 intro l
 induction l with
 | nil => intro F gl S C; exact ⟨F, Nat.le_refl _, rfl⟩
 | cons j l ih =>
  intro F gl S C
  unfold rTry iTry
  cases hj : p[j]? with
  | none => exact ⟨F, Nat.le_refl _, rfl⟩
  | some x =>
   have hx := hp x (List.mem_of_getElem? hj)
   have S2 := S.ext hx.fr.1
   have hgo : ren (extR ρ N F) goal = ren ρ goal := ren_congr fun v hv => extR_old (hg.1.2.2 v hv).2
   have hhd := hx.shf N x.1 (by simp)
   have hgN : OkX ((N + frN x : Nat) : Int) goal := hg.mono (by omega)
   obtain ⟨r, σ', add, U⟩ := uniG_of S2.g1 S2.o1 hgN hhd
   obtain ⟨g, hrun⟩ := U.run
   obtain ⟨τ', e, S', _⟩ := S2.sim.uniG S2.g1 S2.g2 S2.o1.okV hgN.1 hhd.1 hrun
   rw [hgo, shf_ext hx x.1 (by simp)] at e
   have hF1 : OkX ((F + 26 : Nat) : Int) (ren ρ goal) := by rw [← hgo]; exact S2.renX hgN
   have hF2 : OkX ((F + 26 : Nat) : Int) (shf F x.1) := by rw [← shf_ext (ρ := ρ) (N := N) (F := F) hx x.1 (by simp)]; exact S2.renX hhd
   obtain ⟨r2, τ2, add2, U2⟩ := uniG_of S2.g2 S2.o2 hF1 hF2
   have e2 := U2.eq
   rw [e] at e2
   obtain ⟨rfl, rfl, rfl⟩ : r = r2 ∧ τ' = τ2 ∧ add.map (extR ρ N F) = add2 := by simpa using e2
   simp only [U.eq, e]
   cases r with
   | false =>
    simp only [Bool.false_eq_true, if_false]
    have := ih (F + 26) gl (S.mono (by omega)) (C.mono (by omega))
    cases hq : rTry p cs goal rest σ N l with
    | none =>
     rw [hq] at this
     obtain ⟨F', h1, h2⟩ := this
     exact ⟨F', by omega, h2⟩
    | some s =>
     rw [hq] at this
     exact this
   | true =>
    simp only [if_true]
    refine ⟨_, rfl, extR ρ N F, S2.grow U.sol U2.sol S', ?_, ?_⟩
    · refine GL.app ⟨?_, fun g hg => ?_⟩ (hr.ext (show N ≤ N + frN x by omega) fun v _ hv => extR_old hv)
      · simp only [List.map_map]
        refine List.map_congr_left fun t ht => ?_
        simp only [Function.comp_apply]
        rw [shf_ext hx t (by simp [ht]), C.len]
      · obtain ⟨t, ht, rfl⟩ := List.mem_map.1 hg
        exact ⟨hx.shf N t (by simp [ht]), by rw [shf_k]; exact (hx.body t ht).2⟩
    · have C2 := (C.mono (show F ≤ F + 26 by omega)).more U2.outEq
      by_cases hl : l = []
      · simp only [if_pos hl]
        exact C2
      · simp only [if_neg hl]
        refine .snoc ?_ ?_ (by simp)
        · simp only [List.drop_left, List.take_left, U2.outEq]
          exact C.mono (by omega)
        · simp only [List.drop_left, U2.outEq]
          exact ⟨ρ, S.mono (by omega), rfl, hg, hr, rfl⟩
theorem back_sim : ∀ (n : Nat) (cs : List RC) (i : IS), ChR i.fresh cs i.chs i.σ i.tr →
 match rBack p n cs with
 | none => iBack p n i = none
 | some s => ∃ i', iBack p n i = some i' ∧ Rl s i' := by
 intro n
 induction n with
 | zero => intro cs i C; simp only [rBack, iBack]
 | succ n ih =>
  intro cs i C
  obtain ⟨gl, τ, tr, ds, F, nn⟩ := i
  simp only at C
  cases C with
  | nil => simp only [rBack, iBack, List.getLast?_nil]
  | @snoc cs ds c d _ _ h h1 h2 =>
   obtain ⟨ρ, S, e1, hok, hG, e2⟩ := h1
   have key := try_sim hp (cs := cs) (nn := d.taken) (at' := d.node) (tr := tr.take d.trail) hok hG c.left F gl S h
   simp only [rBack, iBack, List.getLast?_append, List.getLast?_singleton, Option.or_some, Option.some_or, List.dropLast_concat]
   have e3 : (IS.pop ⟨gl, τ, tr, ds ++ [d], F, nn⟩ d) = ⟨gl, τ.out (tr.drop d.trail), tr.take d.trail, ds, F, d.taken⟩ := by simp only [IS.pop, List.dropLast_concat]
   rw [e1, e2, e3]
   cases ht : rTry p cs c.goal c.rest c.σ c.N c.left with
   | none =>
    rw [ht] at key
    obtain ⟨F', hF, e⟩ := key
    simp only [e, Bool.false_eq_true, if_false]
    exact ih cs _ (h.mono hF)
   | some s =>
    rw [ht] at key
    obtain ⟨i', e, hR⟩ := key
    simp only [e, if_true]
    exact ⟨i', rfl, hR⟩
variable {cnd : Tm → List Nat → List Nat} (hc : ∀ (ρ : Int → Int) (t : Tm) (l : List Nat), cnd (ren ρ t) l = cnd t l)
omit hp in
theorem ren_goal {ρ : Int → Int} {t : Tm} (h : t.k = 3) : (ren ρ t).s = t.s ∧ (ren ρ t).ts = t.ts.map (ren ρ) ∧ (ren ρ t).k = 3 := by
 rw [ren_ne ρ (by omega)]
 exact ⟨rfl, rfl, h⟩
omit hp in
theorem forL_ren {ρ : Int → Int} {t : Tm} (h : t.k = 3) : forL p (ren ρ t) = forL p t := by
 obtain ⟨h1, h2, _⟩ := ren_goal (ρ := ρ) h
 unfold forL hdOf
 simp only [h1, h2, List.length_map]
include hc
theorem step_sim {s : RS} {i : IS} {g : RG} {gs : List RG} (hR : Rl s i) (hgs : s.goals = g :: gs) :
 ∃ h hs, i.goals = h :: hs ∧ match rStep p cnd s g gs with
 | .stop e => iStep p cnd i h hs = .stop e
 | .go s' => ∃ i', iStep p cnd i h hs = .go i' ∧ Rl s' i'
 | .fail => ∃ i', iStep p cnd i h hs = .fail i' ∧ ChR i'.fresh s.chs i'.chs i'.σ i'.tr := by
 obtain ⟨ρ, S, hG, C⟩ := hR
 rw [hgs] at hG
 obtain ⟨gl, τ, tr, ds, F, nn⟩ := i
 simp only at S hG C ⊢
 cases gl with
 | nil => exact absurd hG.1 (by simp)
 | cons h hs =>
  refine ⟨h, hs, rfl, ?_⟩
  have hGt : GL ρ s.N gs hs := ⟨(List.cons.inj hG.1).2, fun x hx => hG.2 x (by simp [hx])⟩
  have he := (List.cons.inj hG.1).1
  simp only [Prod.mk.injEq] at he
  obtain ⟨e1, e2⟩ := he
  obtain ⟨hgX, hg3⟩ := hG.2 g (by simp)
  have hT := S.sim.rsT S.g1 S.g2 S.o1.okV hgX.1
  obtain ⟨rk, B, G⟩ := S.g1.rs
  have hV := G.okVT S.o1.okV hgX.1
  unfold rStep iStep
  simp only [e1, hT]
  have ht3 : (g.t.mapv (rs s.σ)).k = 3 := by rw [Tm.mapv_k _ (by omega)]; exact hg3
  generalize g.t.mapv (rs s.σ) = t at *
  obtain ⟨r1, r2, r3⟩ := ren_goal (ρ := ρ) ht3
  have hfit : fitT (ren ρ t) = fitT t := by unfold fitT; rw [ren_flat ρ hV.2.1, ren_nodes ρ hV.2.1]
  have hcut : cutT (ren ρ t) = cutT t := by unfold cutT; rw [r1, r2, r3, ht3, List.length_map]
  simp only [hfit, hcut, forL_ren (p := p) (ρ := ρ) ht3, hc, r1, r2, List.length_map]
  by_cases c1 : fitT t = false
  · rw [if_pos c1, if_pos c1]
  rw [if_neg c1, if_neg c1]
  have hX : OkX s.N t := ⟨hV, by
   have : fitT t = true := by simpa using c1
   unfold fitT at this
   simp only [Bool.and_eq_true, decide_eq_true_eq] at this
   exact this.2⟩
  by_cases c2 : cutT t = true
  · rw [if_pos c2, if_pos c2]
    refine ⟨_, rfl, ρ, S, hGt, ?_⟩
    simp only [e2]
    exact C.take g.keep
  rw [if_neg c2, if_neg c2]
  by_cases c3 : isBuiltin t.s (t.ts.length : Int) = true
  · rw [if_pos c3, if_pos c3]
    have hk : ∀ x ∈ t.ts, OkX s.N x := okX_kids _ t (by omega) hX
    obtain ⟨q1, q2, q3⟩ := S.sim.solveG S.g1 S.g2 S.o1 t.s t.ts hk
    have q4 := solveG_sol S.g1 S.o1 t.s t.ts hk
    have q5 := solveG_sol S.g2 S.o2 t.s (t.ts.map (ren ρ)) (fun x hx => by
     obtain ⟨y, hy, rfl⟩ := List.mem_map.1 hx
     exact S.renX (hk y hy))
    rw [q1]
    by_cases c4 : (solveG s.σ t.s t.ts).1 = 0
    · rw [if_pos c4, if_pos c4]
      exact ⟨_, rfl, ρ, S.grow q4 q5 q3, hGt, C.more q5.outEq⟩
    rw [if_neg c4, if_neg c4]
    by_cases c5 : (solveG s.σ t.s t.ts).1 = 1
    · rw [if_pos c5, if_pos c5]
      exact ⟨_, rfl, C.more q5.outEq⟩
    rw [if_neg c5, if_neg c5]
  rw [if_neg c3, if_neg c3]
  by_cases c6 : forL p t = []
  · rw [if_pos c6, if_pos c6]
  rw [if_neg c6, if_neg c6]
  have key := try_sim hp (at' := nn) (nn := nn + 1) hX hGt (cnd t (forL p t)) F (h :: hs) S C
  cases hq : rTry p s.chs t gs s.σ s.N (cnd t (forL p t)) with
  | none =>
   rw [hq] at key
   obtain ⟨F', hF, e⟩ := key
   simp only [e, Bool.false_eq_true, if_false]
   exact ⟨_, rfl, C.mono hF⟩
  | some s' =>
   rw [hq] at key
   obtain ⟨i', e, hR⟩ := key
   simp only [e, if_true]
   exact ⟨i', rfl, hR⟩
end
theorem tmsVars_ren {ρ : Int → Int} {N : Int} {σ τ : Sub} (S : Sim ρ N σ τ) : ∀ (l : List Tm) (acc : List Int), (∀ t ∈ l, OkV N t) → (∀ v ∈ acc, 0 ≤ v ∧ v < N) → tmsVars (l.map (ren ρ)) (acc.map ρ) = (tmsVars l acc).map ρ ∧ ∀ v ∈ tmsVars l acc, 0 ≤ v ∧ v < N
 | [], acc, _, ha => ⟨rfl, ha⟩
 | t :: l, acc, h, ha => by
  obtain ⟨e1, e2⟩ := vars_map (D := fun v => 0 ≤ v ∧ v < N) (h := ρ) (fun v w hv hw e => S.inj v w hv.1 hv.2 hw.1 hw.2 e) (f := fun v => vr (ρ v)) (fun _ _ => rfl) t (Tm.cv_wf t (h t (by simp)).2.1) (h t (by simp)).2.2 acc ha
  simp only [List.map_cons, tmsVars]
  rw [show (ren ρ t).vars (acc.map ρ) = (t.vars acc).map ρ from e1]
  exact tmsVars_ren S l _ (fun x hx => h x (by simp [hx])) e2
theorem renumL_ren {ρ : Int → Int} {N : Int} {σ τ : Sub} (S : Sim ρ N σ τ) {l : List Tm} (h : ∀ t ∈ l, OkV N t) : renumL (l.map (ren ρ)) = renumL l ∧ (tmsVars (l.map (ren ρ)) []).length = (tmsVars l []).length := by
 obtain ⟨e1, e2⟩ := tmsVars_ren S l [] h (by simp)
 rw [List.map_nil] at e1
 refine ⟨?_, by rw [e1, List.length_map]⟩
 unfold renumL
 rw [e1, List.map_map]
 refine List.map_congr_left fun t ht => ?_
 simp only [Function.comp_apply]
 rw [ren_mapv]
 refine mapv_congr t fun v hv => ?_
 rw [idxI_map (D := fun v => 0 ≤ v ∧ v < N) (fun v w hv hw e => S.inj v w hv.1 hv.2 hw.1 hw.2 e) v ((h t ht).2.2 v hv) _ _ e2]
theorem ans_sim {ρ : Int → Int} {N F : Nat} {σ τ : Sub} (S : SimC ρ N F σ τ) {vars : List Int} (hv : ∀ v ∈ vars, 0 ≤ v ∧ v < 26) : ansR τ vars = ansR σ vars := by
 obtain ⟨rk, B, G⟩ := S.g1.rs
 have hid := S.idn
 have h26 := S.h26
 have e : vars.map (rs τ) = (vars.map (rs σ)).map (ren ρ) := by
  rw [List.map_map]
  refine List.map_congr_left fun v h => ?_
  obtain ⟨h0, h1⟩ := hv v h
  have := S.sim.rs S.g1 S.g2 S.o1.okV v h0 (by omega)
  rw [hid v h0 h1] at this
  exact this
 have hok : ∀ t ∈ vars.map (rs σ), OkV N t := fun t ht => by
  obtain ⟨v, h, rfl⟩ := List.mem_map.1 ht
  obtain ⟨h0, h1⟩ := hv v h
  exact G.okV S.o1.okV v h0 (by omega)
 obtain ⟨e1, e2⟩ := renumL_ren S.sim hok
 have e3 : ((vars.map (rs σ)).map (ren ρ)).all fitT = (vars.map (rs σ)).all fitT := by
  rw [List.all_map, Bool.eq_iff_iff, List.all_eq_true, List.all_eq_true]
  have : ∀ t ∈ vars.map (rs σ), fitT (ren ρ t) = fitT t := fun t ht => by unfold fitT; rw [ren_flat ρ (hok t ht).2.1, ren_nodes ρ (hok t ht).2.1]
  constructor
  · intro h t ht; rw [← this t ht]; exact h t ht
  · intro h t ht; simp only [Function.comp_apply]; rw [this t ht]; exact h t ht
 unfold ansR
 rw [e, e1, e2, e3]
section
variable {p : List Cl} (hp : ∀ c ∈ p, ClX c) {cnd : Tm → List Nat → List Nat} (hc : ∀ (ρ : Int → Int) (t : Tm) (l : List Nat), cnd (ren ρ t) l = cnd t l)
include hp hc
theorem run_sim {vars : List Int} (hv : ∀ v ∈ vars, 0 ≤ v ∧ v < 26) : ∀ (n most fuel : Nat) (s : RS) (i : IS), most + fuel ≤ n → Rl s i → iRun p cnd vars most fuel i = rRun p cnd vars most fuel s := by
 intro n
 induction n with
 | zero =>
  intro most fuel s i hn hR
  obtain ⟨rfl, rfl⟩ : most = 0 ∧ fuel = 0 := by omega
  obtain ⟨ρ, S, hG, C⟩ := hR
  rw [iRun, rRun]
  cases hgs : s.goals with
  | nil =>
   rw [hgs] at hG
   have hi : i.goals = [] := List.map_eq_nil_iff.1 hG.1
   simp [hi]
  | cons g gs =>
   rw [hgs] at hG
   cases hi : i.goals with
   | nil => rw [hi] at hG; exact absurd hG.1 (by simp)
   | cons h hs => simp
 | succ n ih =>
  intro most fuel s i hn hR
  cases hgs : s.goals with
  | nil =>
   obtain ⟨ρ, S, hG, C⟩ := hR
   rw [hgs] at hG
   have hi : i.goals = [] := List.map_eq_nil_iff.1 hG.1
   rw [iRun, rRun]
   simp only [hgs, hi]
   by_cases hm : most = 0
   · simp [hm]
   simp only [hm, dif_neg, not_false_eq_true]
   rw [ans_sim S hv]
   cases ansR s.σ vars with
   | none => rfl
   | some a =>
    simp only
    have key := back_sim hp s.chs.length s.chs i C
    rw [C.len]
    cases hb : rBack p s.chs.length s.chs with
    | none => rw [hb] at key; simp only [key]
    | some s' =>
     rw [hb] at key
     obtain ⟨i', e, hR'⟩ := key
     simp only [e]
     rw [ih (most - 1) fuel s' i' (by omega) hR']
  | cons g gs =>
   obtain ⟨h, hs, hi, key⟩ := step_sim hp hc hR hgs
   rw [iRun, rRun]
   simp only [hgs, hi]
   by_cases hf : fuel = 0
   · simp [hf]
   simp only [hf, dif_neg, not_false_eq_true]
   cases hq : rStep p cnd s g gs with
   | stop e =>
    rw [hq] at key
    simp only [key]
   | go s' =>
    rw [hq] at key
    obtain ⟨i', e, hR'⟩ := key
    simp only [e]
    exact ih most (fuel - 1) s' i' (by omega) hR'
   | fail =>
    rw [hq] at key
    obtain ⟨i', e, C'⟩ := key
    simp only [e]
    have key2 := back_sim hp s.chs.length s.chs i' C'
    rw [C'.len]
    cases hb : rBack p s.chs.length s.chs with
    | none => rw [hb] at key2; simp only [key2]
    | some s' =>
     rw [hb] at key2
     obtain ⟨i'', e2, hR'⟩ := key2
     simp only [e2]
     exact ih most (fuel - 1) s' i'' (by omega) hR'
omit hp hc in
theorem start_sim {q : List Tm} (hq : ∀ t ∈ q, OkX 26 t ∧ t.k = 3) : Rl (rStart q) (iStart q) := by
 refine ⟨fun v => v, ⟨⟨fun v w _ _ _ _ e => e, fun v _ _ => rfl⟩, fun v h0 h1 => ⟨h0, h1⟩, IsGood.none, fun n u h => (by cases h), IsGood.none, fun n u h => (by cases h), fun _ _ => rfl, fun _ _ => rfl, Nat.le_refl _, fun _ _ _ => rfl⟩, ⟨?_, fun g hg => ?_⟩, .nil⟩
 · simp only [iStart, rStart, List.map_map]
   refine List.map_congr_left fun t ht => ?_
   simp only [Function.comp_apply]
   rw [show ren (fun v => v) t = t from mapv_id t (hq t ht).1.1.2.1]
 · simp only [rStart] at hg
   obtain ⟨t, ht, rfl⟩ := List.mem_map.1 hg
   exact hq t ht
theorem solve_sim {q : List Tm} (hq : ∀ t ∈ q, OkX 26 t ∧ t.k = 3) (most fuel : Nat) : iRun p cnd (tmsVars q []) most fuel (iStart q) = solveR p cnd q most fuel := by
 refine run_sim hp hc (fun v hv => ?_) _ most fuel _ _ (Nat.le_refl _) (start_sim hq)
 rw [tmsVars_mem _ _ fun t ht => (hq t ht).1.1.2.1] at hv
 rcases hv with hv | ⟨t, ht, hv⟩
 · cases hv
 · exact (hq t ht).1.1.2.2 v hv
end
theorem clOk_X {c : Cl} (h : clOk c = true) : ClX c := by
 simp only [clOk, Bool.and_eq_true, decide_eq_true_eq, List.all_eq_true] at h
 refine ⟨⟨Tm.valid_okV h.1.1, Tm.valid_nodes h.1.1⟩, fun t ht => ?_⟩
 have hg := h.2.2 t ht
 have hk : t.valid = true ∧ t.k = 3 := by
  obtain ⟨k, n, s, ts⟩ := t
  simp only [Tm.goal, Bool.and_eq_true] at hg
  refine ⟨hg.1, ?_⟩
  have := hg.2
  simp only [goalOk, plainGoal, Bool.or_eq_true, Bool.and_eq_true, decide_eq_true_eq] at this
  simp only [Tm.k]
  rcases this with (h | h) | h <;> first | exact h.1 | exact h.1.1 | exact h.1.1.1
 exact ⟨⟨Tm.valid_okV hk.1, Tm.valid_nodes hk.1⟩, hk.2⟩
def lsum (l : List IC) : Nat := (l.map fun c => c.list.length).sum
theorem lsum_app (l m : List IC) : lsum (l ++ m) = lsum l + lsum m := by simp [lsum]
theorem lsum_one (c : IC) : lsum [c] = c.list.length := by simp [lsum]
theorem lsum_take (l : List IC) (k : Nat) : lsum (l.take k) ≤ lsum l := by
 have := lsum_app (l.take k) (l.drop k)
 rw [List.take_append_drop] at this
 omega
structure IX (p : List Cl) (M : Nat) (i : IS) : Prop where
 tnd : i.tr.Nodup
 tin : ∀ n ∈ i.tr, (0 ≤ n ∧ n < (i.fresh : Int)) ∧ i.σ n ≠ none
 phi : i.fresh + 26 * lsum i.chs ≤ M
 ch : ∀ c ∈ i.chs, c.node < c.taken ∧ c.taken ≤ i.nn ∧ c.trail ≤ i.tr.length ∧ ∀ x ∈ c.list, x < p.length
 mono : i.chs.Pairwise (fun c d => c.taken ≤ d.taken ∧ c.trail ≤ d.trail)
theorem IX.up {p : List Cl} {M M' : Nat} {i : IS} (h : IX p M i) (hM : M ≤ M') : IX p M' i := ⟨h.tnd, h.tin, Nat.le_trans h.phi hM, h.ch, h.mono⟩
theorem IX.trl {p : List Cl} {M : Nat} {i : IS} (h : IX p M i) : i.tr.length ≤ i.fresh := nodup_VN h.tnd fun n hn => (h.tin n hn).1
theorem iTry_X {p : List Cl} (hp : ∀ c ∈ p, ClX c) {M : Nat} {goal : Tm} {at' : Nat} {rest : List IG} : ∀ (l : List Nat) (s : IS), (∀ x ∈ l, x < p.length) → at' < s.nn → s.fresh + 26 * lsum s.chs + 26 * l.length ≤ M → IX p M s → IsGood s.σ → AllS (OkX s.fresh) s.σ → OkX s.fresh goal →
 IX p M (iTry p goal at' rest l s).2
 | [], s, _, _, _, h, _, _, _ => by unfold iTry; exact h
 | j :: l, s, hl, ha, hM, h, hg, ho, hgo => by
  obtain ⟨x, hx⟩ : ∃ x, p[j]? = some x := ⟨_, List.getElem?_eq_getElem (hl j (by simp))⟩
  have hX := hp x (List.mem_of_getElem? hx)
  have hl' : ∀ x ∈ l, x < p.length := fun x h => hl x (by simp [h])
  simp only [List.length_cons] at hM
  unfold iTry
  simp only [hx]
  split
  · have hhd : OkX ((s.fresh + 26 : Nat) : Int) (shf s.fresh x.1) := (hX.shf s.fresh x.1 (by simp)).mono (by have := hX.fr.1; omega)
    obtain ⟨r, σ', add, U⟩ := uniG_of (N := s.fresh + 26) hg (fun n u e => (ho n u e).mono (by omega)) (hgo.mono (by omega)) hhd
    rw [U.eq]
    have S := U.sol
    refine ⟨?_, ?_, ?_, ?_, ?_⟩
    · simp only
      refine List.nodup_append.2 ⟨h.tnd, S.nodup, fun a ha b hb e => ?_⟩
      subst e
      exact (h.tin a ha).2 (S.new a hb).1
    · intro n hn
      simp only [List.mem_append] at hn ⊢
      rcases hn with hn | hn
      · have h1 := h.tin n hn
        have hna : n ∉ add := fun ha => h1.2 (S.new n ha).1
        exact ⟨⟨h1.1.1, by have := h1.1.2; omega⟩, by rw [S.keep n hna]; exact h1.2⟩
      · have := S.inN n hn
        exact ⟨⟨this.1, by omega⟩, (S.new n hn).2⟩
    · simp only
      split
      · omega
      · rw [lsum_app, lsum_one]; simp only; omega
    · intro c hc
      have key : ∀ c ∈ s.chs, c.node < c.taken ∧ c.taken ≤ s.nn ∧ c.trail ≤ (s.tr ++ add).length ∧ ∀ x ∈ c.list, x < p.length := fun c hc => by
       obtain ⟨h1, h2, h3, h4⟩ := h.ch c hc
       exact ⟨h1, h2, by rw [List.length_append]; omega, h4⟩
      simp only at hc ⊢
      split at hc
      · exact key c hc
      · rcases List.mem_append.1 hc with hc | hc
        · exact key c hc
        · simp only [List.mem_cons, List.not_mem_nil, or_false] at hc
          subst hc
          exact ⟨ha, Nat.le_refl _, by rw [List.length_append]; simp only; omega, hl'⟩
    · simp only
      split
      · exact h.mono
      · refine List.pairwise_append.2 ⟨h.mono, List.pairwise_singleton _ _, fun a ha b hb => ?_⟩
        simp only [List.mem_cons, List.not_mem_nil, or_false] at hb
        subst hb
        obtain ⟨h1, h2, h3, h4⟩ := h.ch a ha
        exact ⟨h2, h3⟩
  · refine iTry_X hp l { s with fresh := s.fresh + 26 } hl' ha (by simp only; omega) ⟨h.tnd, fun n hn => ?_, by simp only; omega, h.ch, h.mono⟩ hg (fun n u e => (ho n u e).mono (by simp only; omega)) (hgo.mono (by simp only; omega))
    have := h.tin n hn
    exact ⟨⟨this.1.1, by simp only; omega⟩, this.2⟩
theorem IX.pop {p : List Cl} {M : Nat} {gl : List IG} {τ : Sub} {tr : List Int} {ds : List IC} {d : IC} {F nn : Nat} (h : IX p M ⟨gl, τ, tr, ds ++ [d], F, nn⟩) :
 IX p M ⟨gl, τ.out (tr.drop d.trail), tr.take d.trail, ds, F, d.taken⟩ ∧ F + 26 * lsum ds + 26 * d.list.length ≤ M ∧ d.node < d.taken ∧ d.taken ≤ nn ∧ d.trail ≤ tr.length ∧ ∀ x ∈ d.list, x < p.length := by
 obtain ⟨h1, h2, h3, h4⟩ := h.ch d (by simp)
 have hphi := h.phi
 simp only [lsum_app, lsum_one] at hphi
 have hm := List.pairwise_append.1 h.mono
 have hnd := h.tnd
 simp only at hnd h2 h3
 have hsp : tr.take d.trail ++ tr.drop d.trail = tr := List.take_append_drop _ _
 rw [← hsp, List.nodup_append] at hnd
 refine ⟨⟨hnd.1, fun n hn => ?_, by simp only; omega, fun c hc => ?_, hm.1⟩, by omega, h1, h2, h3, h4⟩
 · have := h.tin n (List.mem_of_mem_take hn)
   refine ⟨this.1, ?_⟩
   simp only
   unfold Sub.out
   rw [if_neg (fun hd => hnd.2.2 n hn n hd rfl)]
   exact this.2
 · obtain ⟨g1, g2, g3, g4⟩ := h.ch c (by simp [hc])
   have := hm.2.2 c hc d (by simp)
   exact ⟨g1, this.1, by simp only [List.length_take]; simp only at g3; omega, g4⟩
theorem iBack_X {p : List Cl} (hp : ∀ c ∈ p, ClX c) {M : Nat} : ∀ (n : Nat) (cs : List RC) (i : IS), ChR i.fresh cs i.chs i.σ i.tr → IX p M i → ∀ i', iBack p n i = some i' → IX p M i'
 | 0, _, _, _, _, i', h => by simp [iBack] at h
 | n + 1, cs, i, C, h, i', e => by
  obtain ⟨gl, τ, tr, ds, F, nn⟩ := i
  simp only at C
  cases C with
  | nil => simp only [iBack, List.getLast?_nil] at e; cases e
  | @snoc cs ds c d _ _ C h1 h2 =>
   obtain ⟨hP, hM, hnt, htn, htr, hli⟩ := h.pop
   have e3 : (IS.pop ⟨gl, τ, tr, ds ++ [d], F, nn⟩ d) = ⟨gl, τ.out (tr.drop d.trail), tr.take d.trail, ds, F, d.taken⟩ := by simp only [IS.pop, List.dropLast_concat]
   simp only [iBack, List.getLast?_append, List.getLast?_singleton, Option.or_some, Option.some_or, e3] at e
   obtain ⟨ρ, S, e1, hok, hG, e2⟩ := h1
   have hX := iTry_X hp (rest := d.rest) d.list _ hli (at' := d.node) (by simp only; exact hnt) (by simp only; exact hM) hP S.g2 S.o2 (e1 ▸ S.renX hok)
   split at e
   · cases e
     exact hX
   · rename_i hf
     have key := try_sim hp (cs := cs) (nn := d.taken) (at' := d.node) (tr := tr.take d.trail) hok hG c.left F gl S C
     rw [← e1, ← e2] at key
     cases ht : rTry p cs c.goal c.rest c.σ c.N c.left with
     | some s =>
      rw [e2, ht] at key
      obtain ⟨i2, k1, _⟩ := key
      rw [← e2] at k1
      rw [k1] at hf
      simp at hf
     | none =>
      rw [e2, ht] at key
      obtain ⟨F', hF, k1⟩ := key
      rw [← e2] at k1
      rw [k1] at e hX
      exact iBack_X hp n cs _ (C.mono hF) hX i' e
def tbk : AV → List Nat
 | .mslice b _ _ _ => [b]
 | _ => []
def Trail (st : zy7) (q : AV) (tr : List Int) : Prop :=
 (q = .fslice [] ∧ tr = []) ∨ ∃ b cs, q = .mslice b 0 tr.length 1 ∧ st b = some (.cells cs) ∧ cs.take tr.length = tr.map iv
structure Sto (st : zy7) (c m : Nat) (q : AV) (σ : Sub) (tr : List Int) : Prop where
 sub : SubAt st c m q σ
 trail : Trail st q tr
 apart : c ∉ tbk q
structure StepQ (c m : Nat) (st : zy7) (q : AV) (st' : zy7) (q' : AV) : Prop where
 frame : ∀ b o, st b = some o → b ≠ c → b ≠ m → b ∉ tbk q → st' b = some o
 fresh : ∀ b ∈ tbk q', b ∈ tbk q ∨ st b = none
def Post (c m : Nat) (st : zy7) (q : AV) (σ' : Sub) (tr' : List Int) (st' : zy7) : Prop := ∃ q', Sto st' c m q' σ' tr' ∧ StepQ c m st q st' q'
theorem StepQ.refl (c m : Nat) (st : zy7) (q : AV) : StepQ c m st q st q := ⟨fun _ _ h _ _ _ => h, fun _ h => .inl h⟩
theorem StepQ.trans {c m : Nat} {st st' st'' : zy7} {q q' q'' : AV} {σ : Sub} {tr : List Int} (x : StepQ c m st q st' q') (hS : Sto st' c m q' σ tr) (y : StepQ c m st' q' st'' q'') : StepQ c m st q st'' q'' := by
 refine ⟨fun b o h h1 h2 h3 => ?_, fun b hb => ?_⟩
 · refine y.frame b o (x.frame b o h h1 h2 h3) h1 h2 fun h4 => ?_
   rcases x.fresh b h4 with h5 | h5
   · exact h3 h5
   · rw [h5] at h; cases h
 · rcases y.fresh b hb with h | h
   · exact x.fresh b h
   · by_cases h1 : b ∈ tbk q
     · exact .inl h1
     · refine .inr ?_
       cases hst : st b with
       | none => rfl
       | some o =>
        exfalso
        by_cases hc : b = c
        · subst hc; rw [hS.sub.cells] at h; cases h
        · by_cases hm : b = m
          · subst hm; rw [hS.sub.map] at h; cases h
          · rw [x.frame b o hst hc hm h1] at h; cases h
theorem Sto.tb_some {st : zy7} {c m : Nat} {q : AV} {σ : Sub} {tr : List Int} (h : Sto st c m q σ tr) : ∀ b ∈ tbk q, ∃ cs, st b = some (.cells cs) := by
 intro b hb
 rcases h.trail with ⟨rfl, _⟩ | ⟨b', cs, rfl, hb', _⟩
 · simp [tbk] at hb
 · simp only [tbk, List.mem_cons, List.not_mem_nil, or_false] at hb; subst hb; exact ⟨cs, hb'⟩
theorem Sto.m_apart {st : zy7} {c m : Nat} {q : AV} {σ : Sub} {tr : List Int} (h : Sto st c m q σ tr) : m ∉ tbk q := fun hb => by
 obtain ⟨cs, e⟩ := h.tb_some m hb
 rw [h.sub.map] at e; cases e
theorem Sto.upd {st : zy7} {c m b : Nat} {q : AV} {σ : Sub} {tr : List Int} {o : AO} (h : Sto st c m q σ tr) (h1 : b ≠ c) (h2 : b ≠ m) (h3 : b ∉ tbk q) : Sto (st.upd b o) c m q σ tr := by
 refine ⟨h.sub.upd2 h1 h2, ?_, h.apart⟩
 rcases h.trail with h4 | ⟨b', cs, e1, e2, e3⟩
 · exact .inl h4
 · refine .inr ⟨b', cs, e1, ?_, e3⟩
   rw [zy7.upd_ne _ _ (by rintro rfl; exact h3 (by rw [e1]; simp [tbk]))]
   exact e2
theorem Sto.upd0 {st : zy7} {c m b : Nat} {q : AV} {σ : Sub} {tr : List Int} {o : AO} (h : Sto st c m q σ tr) (hb : st b = none) : Sto (st.upd b o) c m q σ tr :=
 h.upd (h.sub.ne hb).1 (h.sub.ne hb).2 fun h3 => by obtain ⟨cs, e⟩ := h.tb_some b h3; rw [hb] at e; cases e
theorem StepQ.upd0 {c m b : Nat} {st : zy7} {q : AV} {o : AO} (hb : st b = none) : StepQ c m st q (st.upd b o) q :=
 ⟨fun x p h _ _ _ => by rw [zy7.upd_ne _ _ (by rintro rfl; rw [hb] at h; cases h)]; exact h, fun _ h => .inl h⟩
theorem Sto.shape {st : zy7} {c m : Nat} {q : AV} {σ : Sub} {tr : List Int} (h : Sto st c m q σ tr) : q.isAgg = false ∧ q.width = 1 ∧ q.isJunk = false ∧ q.cells = [q] ∧ q.storable = true := by
 rcases h.trail with ⟨rfl, _⟩ | ⟨b', cs, rfl, _⟩ <;> exact ⟨rfl, rfl, rfl, rfl, rfl⟩
theorem Post.from {c m : Nat} {st s0 st' : zy7} {q q0 : AV} {σ σ' : Sub} {tr tr' : List Int} (h : Post c m s0 q0 σ' tr' st') (x : StepQ c m st q s0 q0) (hS : Sto s0 c m q0 σ tr) : Post c m st q σ' tr' st' := by
 obtain ⟨q', h1, h2⟩ := h
 exact ⟨q', h1, x.trans hS h2⟩
theorem trail_append {P : Program} {t : TypeId} {ag : Bool} {bytes : Nat} {zs : List AV} {st : zy7} {c m : Nat} {q : AV} {σ : Sub} {tr : List Int} {n : Int} {K : AV → zy7 → Prop} (hI : eI P t = some (ag, 1)) (hB : eB P t = some bytes) (hZ : eZ P t = some zs) (hz : zs.length = 1) (hb8 : bytes ≤ 16)
 (h : Sto st c m q σ tr) (hl : tr.length + 1 ≤ 1099511627776)
 (hK : ∀ q' st', Trail st' q' (tr ++ [n]) → c ∉ tbk q' → m ∉ tbk q' → (∀ x, x ∉ tbk q → x ∉ tbk q' → st' x = st x) → (∀ x ∈ tbk q', x ∈ tbk q ∨ st x = none) → K q' st') : aAppend P t st q (.fslice [.int .i64 n]) K := by
 have hfit : appFit 1 [AV.int .i64 n] := by intro e he; simp only [List.mem_cons, List.not_mem_nil, or_false] at he; subst he; exact ⟨rfl, rfl⟩
 have hbytes : (tr.length + 1) * bytes ≤ 140737488355328 := by
  have := Nat.mul_le_mul hl hb8
  omega
 unfold aAppend
 simp only [hI, hB, hZ, aElems]
 refine ⟨hz, hfit, ?_⟩
 have hcm : ∀ x, st x = none → x ≠ c ∧ x ≠ m := fun x hx => h.sub.ne hx
 rcases h.trail with ⟨rfl, rfl⟩ | ⟨b, cs, rfl, hb, hcs⟩
 · simp only [List.length_nil, List.length_cons, Nat.zero_add] at hbytes ⊢
   refine ⟨by omega, by omega, by simp, fun h => by simp at h, fun _ b hb => ?_⟩
   refine hK _ _ (.inr ⟨b, [.int .i64 n], rfl, zy7.upd_same _ _ _, rfl⟩) (by simp only [tbk, List.mem_cons, List.not_mem_nil, or_false]; exact Ne.symm (hcm b hb).1) (by simp only [tbk, List.mem_cons, List.not_mem_nil, or_false]; exact Ne.symm (hcm b hb).2) (fun x _ hx => ?_) (fun x hx => ?_)
   · simp only [tbk, List.mem_cons, List.not_mem_nil, or_false] at hx
     rw [zy7.upd_ne _ _ hx]
   · simp only [tbk, List.mem_cons, List.not_mem_nil, or_false] at hx
     subst hx; exact .inr hb
 · simp only [List.length_cons, List.length_nil, Nat.zero_add, hb]
   have hlen : tr.length ≤ cs.length := by
    have := congrArg List.length hcs
    simp only [List.length_take, List.length_map] at this
    omega
   have hca : c ≠ b := fun e => h.apart (by simp [tbk, e])
   have hma : m ≠ b := fun e => h.m_apart (by simp [tbk, e])
   have hnew : cs.take (tr.length * 1) ++ [AV.int .i64 n].flatMap AV.cells = (tr ++ [n]).map iv := by rw [Nat.mul_one, hcs]; simp [AV.cells]
   refine ⟨trivial, hbytes, by omega, by omega, ?_, fun b' hb' => ?_⟩
   · rw [hnew]
     refine hK _ _ (.inr ⟨b, _, by simp, zy7.upd_same _ _ _, by rw [List.take_of_length_le (by simp)]⟩) (by simpa [tbk] using hca) (by simpa [tbk] using hma) (fun x hx _ => ?_) (fun x hx => .inl hx)
     simp only [tbk, List.mem_cons, List.not_mem_nil, or_false] at hx
     rw [zy7.upd_ne _ _ hx]
   · rw [hnew]
     obtain ⟨hc', hm'⟩ := hcm b' hb'
     refine hK _ _ (.inr ⟨b', _, by simp, zy7.upd_same _ _ _, by rw [List.take_of_length_le (by simp)]⟩) (by simpa [tbk] using Ne.symm hc') (by simpa [tbk] using Ne.symm hm') (fun x hx hx' => ?_) (fun x hx => ?_)
     · simp only [tbk, List.mem_cons, List.not_mem_nil, or_false] at hx hx'
       rw [zy7.upd_ne _ _ hx']
       simp [zy7.erase, hx]
     · simp only [tbk, List.mem_cons, List.not_mem_nil, or_false] at hx
       subst hx; exact .inr hb'
end Go.AW
namespace Go.AW
open Go.Proofs.Tryz
abbrev tf_S1_147 := zi tI_3 (zi zI_3 (zi underlying3 (zi tI_4 (zi zI_4 (zi underlying4 (zi tI_56 (zi zI_56 (zi fI_56_0 (zi fI_56_1 (zi fI_56_2 (zi fI_56_3 (zi bI_56 (zi tI_123 (zi zI_123 (zi tI_142 (zi zI_142 (zi underlying142 (zi tI_144 (zi zI_144 (zi fI_144_0 (zi fI_144_1 bI_144)))))))))))))))))))))
theorem c_walk {σ : Sub} {f : Nat} {t u : Tm} (hw : WkN σ f t u) (c m : Nat) (q : AV) (st : zy7) (hS : SubAt st c m q σ) : zq7 prog 147 [.ptr c 0, t.av] st (fun r st' => r = u.av ∧ st' = st) := by
 refine zq7.done ?_
 refine wF [1000000, 3] 2 func147 ntmps147 rfl rfl ?_
 intro _
 simp -implicitDefEqProofs only [zy4, evF, ↓evZ, implies_true, seval, tf_S1_147]
 intro b3 h3 b4 h4
 have hne : b4 ≠ b3 := by rintro rfl; rw [zy7.upd_same] at h4; cases h4
 have hn4 : st b4 = none := by rw [zy7.upd_ne st _ hne] at h4; exact h4
 have hD : ∀ o o', Drops ((st.upd b3 o).upd b4 o') st := fun o o' => ((Drops.refl _).upd h3).upd hn4
 have hS' : ∀ o o', SubAt ((st.upd b3 o).upd b4 o') c m q σ := fun o o' => (hS.upd h3).upd (by rw [zy7.upd_ne _ _ hne]; exact hn4)
 obtain ⟨hn3c, hn3m⟩ := hS.ne h3
 obtain ⟨hn4c, hn4m⟩ := hS.ne hn4
 refine zw5 (σ := Nat × Tm) [1000000, 3] [0, 3, 4] (fun p => WkN σ p.1 p.2 u) (fun p => []) (fun p => (st.upd b3 (.cells p.2.av.cells)).upd b4 (.cells [.int .i64 0, .int .i64 0, .str ⟨#[]⟩, .fslice []])) (fun p => p.1) (by decide +kernel) ⟨(f, t), hw, zx7.mk (by simp -implicitDefEqProofs only [zy4, evF, ↓evZ, implies_true, seval, tf_S1_147])⟩ ?_
 rintro ⟨g, t⟩ hw
 obtain ⟨k, n, s, ts⟩ := t
 simp only at hw
 simp only [Tm.av_mk]
 simp -implicitDefEqProofs only [zy4, hne, hne.symm, hS.cells, hn3c.symm, hn4c.symm, hn3m.symm, hn4m.symm, evF, ↓evZ, implies_true, seval, tf_S1_147]
 refine zq4 (fun h => ?_) (fun h => ?_)
 case refine_2 =>
  simp only [decide_eq_false_iff_not] at h
  cases hw with
  | go h1 => exact absurd h1 h
  | stop =>
   simp -implicitDefEqProofs only [zy4, hne, hne.symm, hS.cells, hn3c.symm, hn4c.symm, hn3m.symm, hn4m.symm, evF, ↓evZ, implies_true, seval, tf_S1_147]
   exact ⟨by rw [← Tm.av_mk, Tm.soft], hD _ _⟩
 simp only [decide_eq_true_eq] at h
 simp -implicitDefEqProofs only [zy4, hne, hne.symm, hS.cells, hn3c.symm, hn4c.symm, hn3m.symm, hn4m.symm, evF, ↓evZ, implies_true, seval, tf_S1_147]
 refine wP [(0, 1), (1, 1), (2, 1), (4, 1), (3, 2), (5, 2), (6, 2), (7, 1), (8, 1), (9, 1), (10, 0), (11, 0), (12, 1)] [0, 1, 2, 4, 3, 5, 6, 7, 8, 9, 12] mixed ?_
 have hl := fun (st' : zy7) (hm : st' m = some (AO.map (mapOf σ))) => look_sub (P := prog) (n := n) hm underlying142 underlying3 zV_56
 simp -implicitDefEqProofs only [zy4, hne, hne.symm, hS.cells, hn3c.symm, hn4c.symm, hn3m.symm, hn4m.symm, evF, ↓evZ, implies_true, seval, tf_S1_147]
 rw [hl _ (hS' _ _).map]
 cases hw with
 | stop hs =>
  rw [show σ n = none from hs h]
  simp -implicitDefEqProofs only [found, zy4, hne, hne.symm, hS.cells, hn3c.symm, hn4c.symm, hn3m.symm, hn4m.symm, evF, ↓evZ, implies_true, seval, tf_S1_147]
  intro b5 h5
  have h53 : b5 ≠ b3 := by rintro rfl; simp [zy7.upd_ne, zy7.upd_same, hne.symm] at h5
  have h54 : b5 ≠ b4 := by rintro rfl; simp [zy7.upd_same] at h5
  have hn5 : st b5 = none := by rw [zy7.upd_ne _ _ h54, zy7.upd_ne _ _ h53] at h5; exact h5
  simp -implicitDefEqProofs only [zy4, hne, hne.symm, h53, h54, h53.symm, h54.symm, evF, ↓evZ, implies_true, seval, tf_S1_147]
  exact ⟨by rw [← Tm.av_mk, Tm.soft], ((((Drops.refl _).upd h3).upd hn4).upd hn5).upd hn4⟩
 | go _ h2 h3' =>
  rw [show σ n = some _ from h2]
  simp -implicitDefEqProofs only [found, zy4, hne, hne.symm, evF, ↓evZ, implies_true, seval, tf_S1_147]
  intro b5 h5
  have h53 : b5 ≠ b3 := by rintro rfl; simp [zy7.upd_ne, zy7.upd_same, hne.symm] at h5
  have h54 : b5 ≠ b4 := by rintro rfl; simp [zy7.upd_same] at h5
  have hn5 : st b5 = none := by rw [zy7.upd_ne _ _ h54, zy7.upd_ne _ _ h53] at h5; exact h5
  simp -implicitDefEqProofs only [zy4, hne, hne.symm, h53, h54, h53.symm, h54.symm, evF, ↓evZ, implies_true, seval, tf_S1_147]
  refine ⟨(_, _), Nat.lt_succ_self _, h3', zx7.drop (fun x => ?_) (by simp -implicitDefEqProofs only [zy4, hne, hne.symm, h53, h54, h53.symm, h54.symm, evF, ↓evZ, implies_true, seval, tf_S1_147])⟩
  by_cases e3 : x = b3 <;> by_cases e4 : x = b4 <;> by_cases e5 : x = b5 <;> simp_all [zy7.upd]
abbrev tf_S2_71 := zi tI_3 (zi zI_3 (zi underlying3 (zi tI_29 (zi zI_29 (zi eI_29 (zi eB_29 (zi eZ_29 (zi underlying29 (zi tI_56 (zi zI_56 (zi fI_56_0 (zi fI_56_1 (zi fI_56_2 (zi fI_56_3 bI_56))))))))))))))
theorem c_IndexFuncTmS (l : List Tm) (g : FuncId) (caps : List AV) (p : Tm → Bool) (J E : zy7 → Prop) (hc : ∀ x ∈ l, ∀ s, J s → zq7 prog g ([Tm.av x] ++ caps) s (fun r s' => r = .bool (p x) ∧ (p x = true → E s') ∧ (p x = false → J s'))) (st : zy7) (h0 : J st) :
 zq7 prog 71 [.slice (l.map Tm.av), .func g caps] st (fun r st' => r = .int .i64 (idxP p l 0) ∧ (l.any p = true → E st') ∧ (l.any p = false → J st')) := by
 refine wF [1000000] 2 func71 ntmps71 rfl rfl ?_
 simp only [fitsL, AV.fits, and_true, List.length_map]
 intro ⟨hl, _⟩
 simp -implicitDefEqProofs only [List.length_map, evF, ↓evZ, implies_true, seval, tf_S2_71]
 refine zy5 (σ := zy7) [1000000] [0, 1, 7] l (fun i s => J s ∧ idxP p (l.drop i) i = idxP p l 0 ∧ (l.drop i).any p = l.any p) (fun i _ => [(8, .int .i64 i)]) (fun _ s => s) (by decide +kernel) ⟨st, ⟨h0, rfl, rfl⟩, zx7.mk (by simp -implicitDefEqProofs only [evF, ↓evZ, implies_true, seval, tf_S2_71])⟩ (fun i x s hx hlt hlt' hdr hinv => ?_) (fun s hge hinv => ?_)
 case refine_2 =>
  obtain ⟨i1, i2, i3⟩ := hinv
  rw [List.drop_length] at i2 i3
  simp -implicitDefEqProofs only [List.length_map, hge, evF, ↓evZ, implies_true, seval, tf_S2_71]
  exact ⟨by rw [← i2]; rfl, fun h => (by rw [← i3] at h; cases h), fun _ => i1⟩
 obtain ⟨i1, i2, i3⟩ := hinv
 rw [hdr, idxP] at i2
 rw [hdr, List.any_cons] at i3
 have hw := wrap64 (n := (i : Int) + 1) (by omega) (by omega)
 simp -implicitDefEqProofs only [List.length_map, hlt', ev_at (av := Tm.av) eI_29 hx (Tm.av_width x), Tm.av_agg, Tm.av_width, evF, ↓evZ, implies_true, seval, tf_S2_71]
 refine (hc x (List.mem_of_getElem? hx) s i1).mono ?_
 rintro _ s2 ⟨rfl, hE, hJ⟩
 simp -implicitDefEqProofs only [evF, ↓evZ, implies_true, seval, tf_S2_71]
 refine zq4 (fun h => ?_) (fun h => ?_)
 · rw [if_pos h] at i2
   rw [h, Bool.true_or] at i3
   simp -implicitDefEqProofs only [evF, ↓evZ, implies_true, seval, tf_S2_71]
   exact ⟨by rw [i2], fun _ => hE h, fun h' => (by rw [← i3] at h'; cases h')⟩
 · rw [if_neg (by simp [h])] at i2
   rw [h, Bool.false_or] at i3
   simp -implicitDefEqProofs only [evF, ↓evZ, implies_true, seval, tf_S2_71]
   exact ⟨s2, ⟨hJ h, i2, i3⟩, zx7.mk (by simp -implicitDefEqProofs only [hw, evF, ↓evZ, implies_true, seval, tf_S2_71])⟩
abbrev tf_S2_47 := zi tI_3 (zi zI_3 (zi underlying3 (zi tI_4 (zi zI_4 (zi underlying4 (zi tI_29 (zi zI_29 (zi eI_29 (zi eB_29 (zi eZ_29 underlying29))))))))))
theorem c_ContainsFuncTmS (l : List Tm) (g : FuncId) (caps : List AV) (p : Tm → Bool) (J E : zy7 → Prop) (hc : ∀ x ∈ l, ∀ s, J s → zq7 prog g ([Tm.av x] ++ caps) s (fun r s' => r = .bool (p x) ∧ (p x = true → E s') ∧ (p x = false → J s'))) (st : zy7) (h0 : J st) :
 zq7 prog 47 [.slice (l.map Tm.av), .func g caps] st (fun r st' => r = .bool (l.any p) ∧ (l.any p = true → E st') ∧ (l.any p = false → J st')) := by
 refine wF [1000000] 2 func47 ntmps47 rfl rfl ?_
 intro _
 simp -implicitDefEqProofs only [evF, ↓evZ, implies_true, seval, tf_S2_47]
 refine (c_IndexFuncTmS l g caps p J E hc st h0).mono ?_
 rintro _ s2 ⟨rfl, hE, hJ⟩
 simp -implicitDefEqProofs only [idxP_any, evF, ↓evZ, implies_true, seval, tf_S2_47]
 exact ⟨hE, hJ⟩
def Occ (R : Int → Tm) (n : Int) (t : Tm) (st : zy7) (mm : Nat) (M : List Int) (r : AV) (st' : zy7) : Prop :=
 r = .bool (decide (n ∈ (t.mapv R).vl)) ∧ ∃ M', st' = st.upd mm (.map (metOf M')) ∧ (n ∉ (t.mapv R).vl → ∀ v ∈ M', v ∈ M ∨ n ∉ (R v).vl)
abbrev tf_S2_154 := zi tI_3 (zi zI_3 (zi underlying3 (zi tI_4 (zi zI_4 (zi underlying4 (zi tI_56 (zi zI_56 (zi fI_56_0 (zi fI_56_1 (zi fI_56_2 (zi fI_56_3 (zi bI_56 (zi tI_123 (zi zI_123 (zi tI_177 (zi zI_177 underlying177))))))))))))))))
theorem c_occurs_1 {c mm : Nat} {n : Int} {t : Tm} {st : zy7} {Q : AV → zy7 → Prop} (hc : zq7 prog 152 [.ptr c 0, .int .i64 n, t.av, .map mm] st Q) :
 zq7 prog 154 [t.av, .pptr (.ptr c 0), .pptr (.int .i64 n), .pptr (.map mm)] st Q := by
 refine wF [1000000] 4 func154 ntmps154 rfl rfl ?_
 intro _
 simp -implicitDefEqProofs only [evF, ↓evZ, implies_true, seval, tf_S2_154]
 refine hc.mono ?_
 intro r s h
 simp -implicitDefEqProofs only [evF, ↓evZ, implies_true, seval, tf_S2_154]
 exact h
abbrev tf_S2_152 := zi tI_3 (zi zI_3 (zi underlying3 (zi tI_4 (zi zI_4 (zi underlying4 (zi tI_29 (zi zI_29 (zi eI_29 (zi eB_29 (zi eZ_29 (zi underlying29 (zi tI_56 (zi zI_56 (zi fI_56_0 (zi fI_56_1 (zi fI_56_2 (zi fI_56_3 (zi bI_56 (zi tI_123 (zi zI_123 (zi tI_177 (zi zI_177 underlying177))))))))))))))))))))))
theorem c_occurs {σ : Sub} {R : Int → Tm} {rk : Int → Nat} {B : Nat} (G : Good σ R rk B) {n : Int} (hn : σ n = none) (c m mm : Nat) (q : AV) (hmm : mm ≠ c ∧ mm ≠ m) :
 ∀ (K : Nat) (t : Tm) (M : List Int) (st : zy7), SubAt st c m q σ → st mm = some (.map (metOf M)) → (∀ w ∈ t.vl, rk w < K) → (∀ v ∈ M, n ∉ (R v).vl ∨ ∀ w ∈ t.vl, rk w < rk v) →
 zq7 prog 152 [.ptr c 0, .int .i64 n, t.av, .map mm] st (Occ R n t st mm M)
 | K, .mk k x s ts, M, st, hS, hM, hK, hpre => by
  have IH1 := fun (K' : Nat) (hK' : K' < K) t M st => c_occurs G hn c m mm q hmm K' t M st
  have IH2 := fun (y : Tm) (hy : y ∈ ts) M st => c_occurs G hn c m mm q hmm K y M st
  have hlk := look_met (P := prog) (n := x) hM underlying177 underlying3 zV_4
  simp only [Tm.av_mk]
  refine wF [1000000] 4 func152 ntmps152 rfl rfl ?_
  intro _
  simp -implicitDefEqProofs only [hlk, evF, ↓evZ, implies_true, seval, tf_S2_152]
  refine zq4 (fun h => ?_) (fun h => ?_)
  · simp only [decide_eq_true_eq] at h
    have hvl : (Tm.mk k x s ts).vl = [x] := Tm.vl_var h
    have hmv : (Tm.mk k x s ts).mapv R = R x := Tm.mapv_var R h
    have hKx : rk x < K := hK x (by rw [hvl]; simp)
    simp -implicitDefEqProofs only [hlk, evF, ↓evZ, implies_true, seval, tf_S2_152]
    refine zq4 (fun h2 => ?_) (fun h2 => ?_)
    · simp only [decide_eq_true_eq] at h2
      simp -implicitDefEqProofs only [hlk, evF, ↓evZ, implies_true, seval, tf_S2_152]
      have hno : n ∉ (R x).vl := by
       rcases hpre x h2 with h | h
       · exact h
       · exact absurd (h x (by rw [hvl]; simp)) (Nat.lt_irrefl _)
      refine ⟨by rw [hmv]; simp [hno], M, ?_, fun _ v hv => .inl hv⟩
      funext y
      simp only [zy7.upd]
      split
      · rename_i e; rw [e, hM]
      · rfl
    · simp only [decide_eq_false_iff_not] at h2
      simp -implicitDefEqProofs only [hlk, evF, ↓evZ, implies_true, seval, tf_S2_152]
      refine upd_met hM underlying177 underlying3 ?_
      simp -implicitDefEqProofs only [hlk, evF, ↓evZ, implies_true, seval, tf_S2_152]
      obtain ⟨f, hwk⟩ := G.wk (Tm.mk k x s ts)
      generalize hu : wk σ (Tm.mk k x s ts) = u at *
      have hS' := hS.upd2 (o := .map (metOf (x :: M))) hmm.1 hmm.2
      have hcw := c_walk hwk c m q _ hS'
      rw [Tm.av_mk] at hcw
      refine hcw.to ?_
      have hmvu : u.mapv R = R x := by rw [hwk.mapv G.isSol, hmv]
      have hend := hwk.end
      have hrk := hwk.rank G
      obtain ⟨k', x', s', ts'⟩ := u
      simp only [Tm.av_mk]
      simp -implicitDefEqProofs only [hlk, evF, ↓evZ, implies_true, seval, tf_S2_152]
      refine zq4 (fun h3 => ?_) (fun h3 => ?_)
      · simp only [decide_eq_true_eq] at h3
        simp -implicitDefEqProofs only [hlk, evF, ↓evZ, implies_true, seval, tf_S2_152]
        have hfree : R x' = vr x' := G.free (hend h3)
        rw [Tm.mapv_var R h3, hfree] at hmvu
        refine ⟨?_, x :: M, rfl, fun hno v hv => ?_⟩
        · rw [hmv, ← hmvu, vl_vr]
          simp [eq_comm]
        · rcases List.mem_cons.1 hv with rfl | hv
          · exact .inr (by rw [hmv] at hno; exact hno)
          · exact .inl hv
      · simp only [decide_eq_false_iff_not] at h3
        simp -implicitDefEqProofs only [hlk, evF, ↓evZ, implies_true, seval, tf_S2_152]
        have hf0 : f ≠ 0 := by
         rintro rfl
         cases hwk with
         | stop _ => exact h3 h
        have hr' : ∀ w ∈ (Tm.mk k' x' s' ts').vl, rk w < rk x := fun w hw => by
         obtain ⟨v, hv, _, hlt⟩ := hrk w hw
         rw [hvl] at hv
         simp only [List.mem_cons, List.not_mem_nil, or_false] at hv
         subst hv
         exact hlt hf0
        have := IH1 (rk x) hKx (Tm.mk k' x' s' ts') (x :: M) _ hS' (zy7.upd_same _ _ _) hr' (fun v hv => by
         rcases List.mem_cons.1 hv with rfl | hv
         · exact .inr hr'
         · rcases hpre v hv with h5 | h5
           · exact .inl h5
           · refine .inr fun w hw => Nat.lt_trans (hr' w hw) ?_
             exact h5 x (by rw [hvl]; simp))
        rw [Tm.av_mk] at this
        refine this.mono ?_
        rintro _ _ ⟨rfl, M', rfl, hM'⟩
        simp -implicitDefEqProofs only [hlk, evF, ↓evZ, implies_true, seval, tf_S2_152]
        rw [hmvu] at hM' ⊢
        refine ⟨by rw [hmv], M', rfl, fun hno v hv => ?_⟩
        rw [hmv] at hno
        rcases hM' hno v hv with h5 | h5
        · rcases List.mem_cons.1 h5 with rfl | h5
          · exact .inr hno
          · exact .inl h5
        · exact .inr h5
  · simp only [decide_eq_false_iff_not] at h
    simp -implicitDefEqProofs only [hlk, evF, ↓evZ, implies_true, seval, tf_S2_152]
    have hmv := Tm.mapv_mk R (n := x) (s := s) (ts := ts) h
    have hany : ts.any (fun y => decide (n ∈ (y.mapv R).vl)) = decide (n ∈ ((Tm.mk k x s ts).mapv R).vl) := by
     rw [hmv, Bool.eq_iff_iff]
     simp only [List.any_eq_true, decide_eq_true_eq]
     rw [Tm.vl_mk h]
     constructor
     · rintro ⟨y, hy, h2⟩; exact ⟨_, List.mem_map.2 ⟨y, hy, rfl⟩, h2⟩
     · rintro ⟨z, hz, h2⟩
       obtain ⟨y, hy, rfl⟩ := List.mem_map.1 hz
       exact ⟨y, hy, h2⟩
    refine (c_ContainsFuncTmS ts _ _ (fun y => decide (n ∈ (y.mapv R).vl)) (fun s1 => ∃ M', s1 = st.upd mm (.map (metOf M')) ∧ ∀ v ∈ M', v ∈ M ∨ n ∉ (R v).vl) (fun s1 => ∃ M', s1 = st.upd mm (.map (metOf M'))) ?_ st ⟨M, ?_, fun v hv => .inl hv⟩).mono ?_
    · rintro y hy s1 ⟨M', rfl, hM'⟩
      simp only [List.cons_append, List.nil_append]
      have hc := IH2 y hy M' (st.upd mm (.map (metOf M'))) (hS.upd2 hmm.1 hmm.2) (zy7.upd_same _ _ _) (fun w hw => hK w ((Tm.vl_mk h).2 ⟨y, hy, hw⟩)) (fun v hv => by
       rcases hM' v hv with h5 | h5
       · rcases hpre v h5 with h6 | h6
         · exact .inl h6
         · exact .inr fun w hw => h6 w ((Tm.vl_mk h).2 ⟨y, hy, hw⟩)
       · exact .inl h5)
      refine (c_occurs_1 hc).mono ?_
      rintro _ _ ⟨rfl, M2, rfl, hM2⟩
      rw [zy7.upd_upd]
      refine ⟨rfl, fun _ => ⟨M2, rfl⟩, fun hno => ⟨M2, rfl, fun v hv => ?_⟩⟩
      simp only [decide_eq_false_iff_not] at hno
      rcases hM2 hno v hv with h5 | h5
      · exact hM' v h5
      · exact .inr h5
    · funext y
      simp only [zy7.upd]
      split
      · rename_i e; rw [e, hM]
      · rfl
    · rintro _ s2 ⟨rfl, hE, hJ⟩
      rw [hany] at hE hJ ⊢
      simp -implicitDefEqProofs only [hlk, evF, ↓evZ, implies_true, seval, tf_S2_152]
      by_cases hno : n ∈ ((Tm.mk k x s ts).mapv R).vl
      · obtain ⟨M2, rfl⟩ := hE (by simp [hno])
        exact ⟨rfl, M2, rfl, fun h => absurd hno h⟩
      · obtain ⟨M2, rfl, h5⟩ := hJ (by simp [hno])
        exact ⟨rfl, M2, rfl, fun _ => h5⟩
termination_by K t => (K, SizeOf.sizeOf t)
decreasing_by
 · exact Prod.Lex.left _ _ hK'
 · have := List.sizeOf_lt_of_mem hy
   exact Prod.Lex.right _ (by simp only [Tm.mk.sizeOf_spec]; omega)
abbrev tf_S3_148 := zi tI_3 (zi zI_3 (zi underlying3 (zi tI_4 (zi zI_4 (zi underlying4 (zi tI_56 (zi zI_56 (zi fI_56_0 (zi fI_56_1 (zi fI_56_2 (zi fI_56_3 (zi bI_56 (zi tI_66 (zi zI_66 (zi eI_66 (zi eB_66 (zi eZ_66 (zi underlying66 (zi tI_123 (zi zI_123 (zi tI_142 (zi zI_142 (zi underlying142 (zi tI_144 (zi zI_144 (zi fI_144_0 (zi fI_144_1 (zi bI_144 (zi tI_177 (zi zI_177 underlying177))))))))))))))))))))))))))))))
theorem c_bind {σ : Sub} (hg : IsGood σ) {n : Int} (hn : σ n = none) {t : Tm} {r : Bool} {σ' : Sub} {add : List Int} (hb : bnd σ n t = (r, σ', add)) (c m : Nat) (q : AV) (tr : List Int) (st : zy7) (hS : Sto st c m q σ tr) (hl : tr.length + add.length ≤ 1099511627776) :
 zq7 prog 148 [.ptr c 0, .int .i64 n, t.av] st (fun r' st' => r' = .bool r ∧ Post c m st q σ' (tr ++ add) st') := by
 obtain ⟨rk, B, G⟩ := hg.rs
 refine wF [1000000] 3 func148 ntmps148 rfl rfl ?_
 intro _
 simp -implicitDefEqProofs only [evF, ↓evZ, implies_true, seval, tf_S3_148]
 intro mm hmm
 obtain ⟨hmc, hmm'⟩ := hS.sub.ne hmm
 rw [← metOf_nil]
 have hS1 := hS.upd0 (o := .map (metOf [])) hmm
 refine (c_occurs G hn c m mm q ⟨hmc, hmm'⟩ B t [] _ hS1.sub (zy7.upd_same _ _ _) (fun w _ => G.bd w) (fun v hv => absurd hv (List.not_mem_nil))).mono ?_
 rintro _ _ ⟨rfl, M', rfl, _⟩
 have hS2 := hS.upd0 (o := .map (metOf M')) hmm
 have hQ2 : StepQ c m st q (st.upd mm (.map (metOf M'))) q := StepQ.upd0 hmm
 rw [zy7.upd_upd]
 generalize st.upd mm (.map (metOf M')) = s2 at *
 obtain ⟨hqa, hqw, hqj, hqc, hqs⟩ := hS2.shape
 simp -implicitDefEqProofs only [zy4, hS2.sub.cells, hqa, hqw, hqj, hqs, evF, ↓evZ, implies_true, seval, tf_S3_148]
 unfold bnd at hb
 refine zq4 (fun h => ?_) (fun h => ?_)
 · simp only [decide_eq_true_eq] at h
   rw [if_pos h] at hb
   obtain ⟨rfl, rfl, rfl⟩ : false = r ∧ σ = σ' ∧ [] = add := by simpa using hb
   simp -implicitDefEqProofs only [zy4, hS2.sub.cells, hqa, hqw, hqj, hqs, evF, ↓evZ, implies_true, seval, tf_S3_148]
   exact ⟨q, hS2, hQ2⟩
 · simp only [decide_eq_false_iff_not] at h
   rw [if_neg h] at hb
   obtain ⟨rfl, rfl, rfl⟩ : true = r ∧ σ.set n t = σ' ∧ [n] = add := by simpa using hb
   simp -implicitDefEqProofs only [zy4, hS2.sub.cells, hqa, hqw, hqj, hqs, evF, ↓evZ, implies_true, seval, tf_S3_148]
   refine wP [(0, 1), (1, 1), (2, 1), (4, 1), (3, 2), (5, 2), (6, 0)] [0, 1, 2, 4, 3, 5] mixed ?_
   simp -implicitDefEqProofs only [zy4, hS2.sub.cells, hqa, hqw, hqj, hqs, evF, ↓evZ, implies_true, seval, tf_S3_148]
   refine upd_sub hS2.sub.map underlying142 underlying3 ?_
   have hcm := hS2.sub.cm
   have hS3 : Sto (s2.upd m (.map (mapOf (σ.set n t)))) c m q (σ.set n t) tr := by
    refine ⟨⟨by rw [zy7.upd_ne _ _ hcm]; exact hS2.sub.cells, zy7.upd_same _ _ _⟩, ?_, hS2.apart⟩
    rcases hS2.trail with h4 | ⟨b', cs, e1, e2, e3⟩
    · exact .inl h4
    · refine .inr ⟨b', cs, e1, ?_, e3⟩
      rw [zy7.upd_ne _ _ (by rintro rfl; exact hS2.m_apart (by rw [e1]; simp [tbk]))]
      exact e2
   have hQ3 : StepQ c m st q (s2.upd m (.map (mapOf (σ.set n t)))) q := ⟨fun b o h h1 h2 h3 => by rw [zy7.upd_ne _ _ h2]; exact hQ2.frame b o h h1 h2 h3, fun _ h => .inl h⟩
   generalize s2.upd m (.map (mapOf (σ.set n t))) = s3 at *
   simp -implicitDefEqProofs only [zy4, hS3.sub.cells, hqa, hqw, hqj, hqs, evF, ↓evZ, implies_true, seval, tf_S3_148]
   refine trail_append eI_66 eB_66 eZ_66 rfl (by omega) hS3 (by simpa using hl) (fun q' s4 ht hc' hm' hk hf => ?_)
   have h4c : s4 c = some (.cells [.map m, q]) := by rw [hk c hS3.apart hc']; exact hS3.sub.cells
   have h4m : s4 m = some (.map (mapOf (σ.set n t))) := by rw [hk m hS3.m_apart hm']; exact hS3.sub.map
   have hqc' : q'.cells = [q'] ∧ q'.storable = true := by
    rcases ht with ⟨rfl, _⟩ | ⟨b', cs, rfl, _⟩ <;> exact ⟨rfl, rfl⟩
   simp -implicitDefEqProofs only [zy4, h4c, hqc'.1, hqc'.2, evF, ↓evZ, implies_true, seval, tf_S3_148]
   refine ⟨q', ⟨⟨zy7.upd_same _ _ _, by rw [zy7.upd_ne _ _ (Ne.symm hcm)]; exact h4m⟩, ?_, hc'⟩, ⟨fun b o h h1 h2 h3 => ?_, fun b hb => ?_⟩⟩
   · rcases ht with h4 | ⟨b', cs, e1, e2, e3⟩
     · exact .inl h4
     · refine .inr ⟨b', cs, e1, ?_, e3⟩
       rw [zy7.upd_ne _ _ (by rintro rfl; exact hc' (by rw [e1]; simp [tbk]))]
       exact e2
   · rw [zy7.upd_ne _ _ h1, hk b h3 (fun h4 => ?_)]
     · exact hQ3.frame b o h h1 h2 h3
     · rcases hf b h4 with h5 | h5
       · exact h3 h5
       · rw [hQ3.frame b o h h1 h2 h3] at h5; cases h5
   · rcases hf b hb with h5 | h5
     · exact .inl h5
     · by_cases h6 : b ∈ tbk q
       · exact .inl h6
       · refine .inr ?_
         cases hst : st b with
         | none => rfl
         | some o =>
          exfalso
          have h1 : b ≠ c := by rintro rfl; rw [hS3.sub.cells] at h5; cases h5
          have h2 : b ≠ m := by rintro rfl; rw [hS3.sub.map] at h5; cases h5
          rw [hQ3.frame b o hst h1 h2 h6] at h5; cases h5
abbrev Sm (t : Tm) : Prop := t.small = true
theorem sm_kids : ∀ t : Tm, t.k ≠ 1 → Sm t → ∀ x ∈ t.ts, Sm x := fun t _ h x hx => by
 cases t
 exact (Tm.small_mk h).2 x hx
abbrev tf_S4_134 := zi tI_3 (zi zI_3 (zi underlying3 (zi tI_4 (zi zI_4 (zi underlying4 (zi tI_9 (zi zI_9 (zi underlying9 (zi tI_29 (zi zI_29 (zi eI_29 (zi eB_29 (zi eZ_29 (zi underlying29 (zi tI_56 (zi zI_56 (zi fI_56_0 (zi fI_56_1 (zi fI_56_2 (zi fI_56_3 (zi bI_56 (zi tI_123 zI_123))))))))))))))))))))))
theorem c_unify : ∀ (g : Nat) (σ : Sub) (a b : Tm) (r : Bool) (σ' : Sub) (add : List Int), IsGood σ → AllS Sm σ → Sm a → Sm b → uniF g σ a b = some (r, σ', add) → ∀ (c m : Nat) (q : AV) (tr : List Int) (st : zy7), Sto st c m q σ tr → tr.length + add.length ≤ 1099511627776 →
 zq7 prog 134 [.ptr c 0, a.av, b.av] st (fun r' st' => r' = .bool r ∧ Post c m st q σ' (tr ++ add) st')
 | 0, σ, a, b, r, σ', add, hg, hsm, ha0, hb0, h, c, m, q, tr, st, hS, hl => by simp only [uniF] at h; cases h
 | g + 1, σ, a, b, r, σ', add, hg, hsm, ha0, hb0, h, c, m, q, tr, st, hS, hl => by
  have IH := c_unify g
  obtain ⟨rk, B, G⟩ := hg.rs
  obtain ⟨fa, wa⟩ := G.wk a
  obtain ⟨fb, wb⟩ := G.wk b
  have hca := fun st (hS : SubAt st c m q σ) => c_walk wa c m q st hS
  have hcb := fun st (hS : SubAt st c m q σ) => c_walk wb c m q st hS
  have ea := wa.end
  have eb := wb.end
  have hsa := wa.all (p := Sm) hsm ha0
  have hsb := wb.all (p := Sm) hsm hb0
  replace h := uniF_cases h
  generalize wk σ a = a1 at *
  generalize wk σ b = b1 at *
  clear wa wb
  refine wF [1000000, 4, 5] 3 func134 ntmps134 rfl rfl ?_
  intro hfit
  simp -implicitDefEqProofs only [zy4, evF, ↓evZ, implies_true, seval, tf_S4_134]
  intro b4 h4 b5 h5
  have h54 : b5 ≠ b4 := by rintro rfl; rw [zy7.upd_same] at h5; cases h5
  have hn5 : st b5 = none := by rw [zy7.upd_ne st _ h54] at h5; exact h5
  have hS' : ∀ o o', Sto ((st.upd b4 o).upd b5 o') c m q σ tr := fun o o' => (hS.upd0 h4).upd0 (by rw [zy7.upd_ne _ _ h54]; exact hn5)
  refine wP [(0, 1), (3, 1), (1, 2), (2, 2), (4, 2), (5, 2), (6, 0), (7, 0)] [0, 3, 1, 2, 4, 5] mixed ?_
  simp -implicitDefEqProofs only [zy4, h54, h54.symm, evF, ↓evZ, implies_true, seval, tf_S4_134]
  refine zw4 (hca _ (hS' _ _).sub) ?_
  simp -implicitDefEqProofs only [zy4, h54, h54.symm, evF, ↓evZ, implies_true, seval, tf_S4_134]
  refine zw4 (hcb _ (hS' _ _).sub) ?_
  obtain ⟨ka, na, sa, tsa⟩ := a1
  obtain ⟨kb, nb, sb', tsb⟩ := b1
  obtain ⟨hla, hlas⟩ := Tm.small_mk hsa
  obtain ⟨hlb, hlbs⟩ := Tm.small_mk hsb
  simp only [Tm.av_mk]
  simp only [Tm.k, Tm.n, Tm.s, Tm.ts] at h ea eb
  have hl4 : ∀ q', q' = q → b4 ∉ tbk q := fun _ _ hb => by obtain ⟨cs, e⟩ := hS.tb_some b4 hb; rw [h4] at e; cases e
  have hl5 : b5 ∉ tbk q := fun hb => by obtain ⟨cs, e⟩ := hS.tb_some b5 hb; rw [hn5] at e; cases e
  obtain ⟨h4c, h4m⟩ := hS.sub.ne h4
  obtain ⟨h5c, h5m⟩ := hS.sub.ne hn5
  have hQ : ∀ o o', StepQ c m st q ((st.upd b4 o).upd b5 o') q := fun o o' => ⟨fun x p h _ _ _ => by
   rw [zy7.upd_ne _ _ (by rintro rfl; rw [hn5] at h; cases h), zy7.upd_ne _ _ (by rintro rfl; rw [h4] at h; cases h)]; exact h, fun _ h => .inl h⟩
  simp -implicitDefEqProofs only [zy4, h54, h54.symm, evF, ↓evZ, implies_true, seval, tf_S4_134]
  rw [zy7.upd_mid h54, zy7.upd_mid h54.symm]
  have hfin : ∀ o o', Post c m st q σ tr ((st.upd b4 o).upd b5 o') := fun o o' => ⟨q, hS' _ _, hQ _ _⟩
  rcases h with ⟨h1, h2, h3, rfl, rfl, rfl⟩ | ⟨h1, h2, h3⟩ | ⟨h1, h2, h3⟩ | ⟨h1, h2, h3, h4⟩ | ⟨h1, h2, h3, rfl, rfl, rfl⟩
  · subst h1 h2 h3
    simp -implicitDefEqProofs only [decide_true, zy4, h54, h54.symm, evF, ↓evZ, implies_true, seval, tf_S4_134]
    exact hfin _ _
  · subst h1
    have hcb := c_bind hg (ea rfl) h3 c m q tr _ (hS' (.cells [.int .i64 1, .int .i64 na, .str sa, .slice (tsa.map Tm.av)]) (.cells [.int .i64 kb, .int .i64 nb, .str sb', .slice (tsb.map Tm.av)])) hl
    rw [Tm.av_mk] at hcb
    by_cases h5 : kb = 1
    · subst h5
      have h6 : ¬ na = nb := fun e => h2 ⟨rfl, e⟩
      simp -implicitDefEqProofs only [decide_true, h6, decide_false, zy4, h54, h54.symm, evF, ↓evZ, implies_true, seval, tf_S4_134]
      refine hcb.mono ?_
      rintro _ s2 ⟨rfl, hp⟩
      simp -implicitDefEqProofs only [zy4, h54, h54.symm, evF, ↓evZ, implies_true, seval, tf_S4_134]
      exact hp.from (hQ _ _) (hS' _ _)
    · simp -implicitDefEqProofs only [decide_true, h5, decide_false, zy4, h54, h54.symm, evF, ↓evZ, implies_true, seval, tf_S4_134]
      refine hcb.mono ?_
      rintro _ s2 ⟨rfl, hp⟩
      simp -implicitDefEqProofs only [zy4, h54, h54.symm, evF, ↓evZ, implies_true, seval, tf_S4_134]
      exact hp.from (hQ _ _) (hS' _ _)
  · subst h2
    have hcb := c_bind hg (eb rfl) h3 c m q tr _ (hS' (.cells [.int .i64 ka, .int .i64 na, .str sa, .slice (tsa.map Tm.av)]) (.cells [.int .i64 1, .int .i64 nb, .str sb', .slice (tsb.map Tm.av)])) hl
    rw [Tm.av_mk] at hcb
    simp -implicitDefEqProofs only [decide_true, h1, decide_false, zy4, h54, h54.symm, evF, ↓evZ, implies_true, seval, tf_S4_134]
    refine hcb.mono ?_
    rintro _ s2 ⟨rfl, hp⟩
    simp -implicitDefEqProofs only [zy4, h54, h54.symm, evF, ↓evZ, implies_true, seval, tf_S4_134]
    exact hp.from (hQ _ _) (hS' _ _)
  · rw [headEq_iff] at h3
    simp only [Tm.k, Tm.n, Tm.s, Tm.ts] at h3
    obtain ⟨rfl, rfl, rfl, hlen⟩ := h3
    have hlen' : decide ((tsa.length : Int) = (tsb.length : Int)) = true := by simp [hlen]
    simp -implicitDefEqProofs only [decide_true, decide_false, hlen', zy4, h54, h54.symm, List.length_map, h1, evF, ↓evZ, implies_true, seval, tf_S4_134]
    have hS0 := hS' (.cells [.int .i64 ka, .int .i64 na, .str sa, .slice (tsa.map Tm.av)]) (.cells [.int .i64 ka, .int .i64 na, .str sa, .slice (tsb.map Tm.av)])
    have hQ0 := hQ (.cells [.int .i64 ka, .int .i64 na, .str sa, .slice (tsa.map Tm.av)]) (.cells [.int .i64 ka, .int .i64 na, .str sa, .slice (tsb.map Tm.av)])
    have e4 : ((st.upd b4 (.cells [.int .i64 ka, .int .i64 na, .str sa, .slice (tsa.map Tm.av)])).upd b5 (.cells [.int .i64 ka, .int .i64 na, .str sa, .slice (tsb.map Tm.av)])) b4 = some (.cells [.int .i64 ka, .int .i64 na, .str sa, .slice (tsa.map Tm.av)]) := by rw [zy7.upd_ne _ _ h54.symm, zy7.upd_same]
    have e5 : ((st.upd b4 (.cells [.int .i64 ka, .int .i64 na, .str sa, .slice (tsa.map Tm.av)])).upd b5 (.cells [.int .i64 ka, .int .i64 na, .str sa, .slice (tsb.map Tm.av)])) b5 = some (.cells [.int .i64 ka, .int .i64 na, .str sa, .slice (tsb.map Tm.av)]) := zy7.upd_same _ _ _
    generalize (st.upd b4 (.cells [.int .i64 ka, .int .i64 na, .str sa, .slice (tsa.map Tm.av)])).upd b5 (.cells [.int .i64 ka, .int .i64 na, .str sa, .slice (tsb.map Tm.av)]) = s0 at *
    refine zy5 (σ := Sub × List Int × List Int × AV × zy7) [1000000, 4, 5] [0, 4, 5, 79] tsa
     (fun i p => IsGood p.1 ∧ AllS Sm p.1 ∧ Sto p.2.2.2.2 c m p.2.2.2.1 p.1 (tr ++ p.2.1) ∧ StepQ c m s0 q p.2.2.2.2 p.2.2.2.1 ∧ unisF g p.1 (tsa.drop i) (tsb.drop i) = some (r, σ', p.2.2.1) ∧ p.2.1 ++ p.2.2.1 = add)
     (fun i _ => [(6, .bool false), (80, .int .i64 i)]) (fun _ p => p.2.2.2.2) (by decide +kernel)
     ⟨(σ, [], add, q, s0), ⟨hg, hsm, by rw [List.append_nil]; exact hS0, StepQ.refl _ _ _ _, h4, rfl⟩, zx7.mk (by simp -implicitDefEqProofs only [zy4, h54, h54.symm, List.length_map, h1, evF, ↓evZ, implies_true, seval, tf_S4_134])⟩ (fun i x p hx hlt hlt' hdr hinv => ?_) (fun p hge hinv => ?_)
    case refine_2 =>
     obtain ⟨σi, ai, rest, qi, si⟩ := p
     obtain ⟨i1, i2, i3, i4, i5, i6⟩ := hinv
     simp only at i1 i2 i3 i4 i5 i6
     rw [List.drop_length, hlen, List.drop_length] at i5
     simp only [unisF, Option.some.injEq, Prod.mk.injEq] at i5
     obtain ⟨rfl, rfl, rfl⟩ := i5
     rw [List.append_nil] at i6
     subst i6
     simp -implicitDefEqProofs only [hge, zy4, h54, h54.symm, List.length_map, h1, evF, ↓evZ, implies_true, seval, tf_S4_134]
     exact ⟨qi, i3, hQ0.trans hS0 i4⟩
    obtain ⟨σi, ai, rest, qi, si⟩ := p
    obtain ⟨i1, i2, i3, i4, i5, i6⟩ := hinv
    simp only at i1 i2 i3 i4 i5 i6
    obtain ⟨y, hy⟩ : ∃ y, tsb[i]? = some y := ⟨_, List.getElem?_eq_getElem (by omega)⟩
    have hdr' : tsb.drop i = y :: tsb.drop (i + 1) := by
     obtain ⟨h1, h2⟩ := List.getElem?_eq_some_iff.1 hy
     rw [List.drop_eq_getElem_cons h1, h2]
    rw [hdr, hdr', unisF] at i5
    have f4 := i4.frame b4 _ e4 h4c h4m (hl4 q rfl)
    have f5 := i4.frame b5 _ e5 h5c h5m hl5
    have hw := wrap64 (n := (i : Int) + 1) (by omega) (by omega)
    simp -implicitDefEqProofs only [hlt', zy4, h54, h54.symm, List.length_map, h1, f4, f5, ev_at (av := Tm.av) eI_29 hx (Tm.av_width x), ev_at (av := Tm.av) eI_29 hy (Tm.av_width y), evF, ↓evZ, implies_true, seval, tf_S4_134]
    refine wP [(0, 1), (1, 1), (3, 1), (6, 1), (8, 1), (2, 2), (4, 1), (5, 2), (7, 2), (9, 1), (10, 2), (11, 0), (12, 1)] [0, 1, 3, 6, 8, 2, 4, 5, 7, 9, 10, 12] mixed ?_
    simp -implicitDefEqProofs only [zy4, h54, h54.symm, List.length_map, h1, f4, f5, ev_at (av := Tm.av) eI_29 hx (Tm.av_width x), ev_at (av := Tm.av) eI_29 hy (Tm.av_width y), evF, ↓evZ, implies_true, seval, tf_S4_134]
    cases hu : uniF g σi x y with
    | none => rw [hu] at i5; cases i5
    | some p1 =>
     obtain ⟨r1, σ1, tr1⟩ := p1
     rw [hu] at i5
     have hx1 : Sm x := hlas x (List.mem_of_getElem? hx)
     have hy1 : Sm y := hlbs y (List.mem_of_getElem? hy)
     have hU := uniF_uni i1 hu
     have hA := (uni_all sm_kids g).1 σi x y r1 σ1 tr1 i1 hu i2 hx1 hy1
     have hsub : tr1.length ≤ rest.length := by
      cases r1 with
      | false => simp only [Option.some.injEq, Prod.mk.injEq] at i5; rw [i5.2.2]; exact Nat.le_refl _
      | true =>
       simp only at i5
       cases hu2 : unisF g σ1 (tsa.drop (i + 1)) (tsb.drop (i + 1)) with
       | none => rw [hu2] at i5; cases i5
       | some p2 =>
        obtain ⟨r2, σ2, tr2⟩ := p2
        rw [hu2] at i5
        simp only [Option.some.injEq, Prod.mk.injEq] at i5
        rw [← i5.2.2, List.length_append]; omega
     have hadd : add.length = ai.length + rest.length := by rw [← i6, List.length_append]
     refine (IH σi x y r1 σ1 tr1 i1 i2 hx1 hy1 hu c m qi (tr ++ ai) si i3 (by rw [List.length_append]; omega)).mono ?_
     rintro _ s2 ⟨rfl, q2, hS2, hQ2⟩
     cases r1 with
     | false =>
      simp only [Option.some.injEq, Prod.mk.injEq] at i5
      obtain ⟨rfl, rfl, rfl⟩ := i5
      simp -implicitDefEqProofs only [zy4, h54, h54.symm, List.length_map, h1, f4, f5, ev_at (av := Tm.av) eI_29 hx (Tm.av_width x), ev_at (av := Tm.av) eI_29 hy (Tm.av_width y), evF, ↓evZ, implies_true, seval, tf_S4_134]
      rw [← i6, ← List.append_assoc]
      exact ⟨q2, hS2, hQ0.trans hS0 (i4.trans i3 hQ2)⟩
     | true =>
      simp only at i5
      cases hu2 : unisF g σ1 (tsa.drop (i + 1)) (tsb.drop (i + 1)) with
      | none => rw [hu2] at i5; cases i5
      | some p2 =>
       obtain ⟨r2, σ2, tr2⟩ := p2
       rw [hu2] at i5
       simp only [Option.some.injEq, Prod.mk.injEq] at i5
       obtain ⟨rfl, rfl, rfl⟩ := i5
       simp -implicitDefEqProofs only [zy4, h54, h54.symm, List.length_map, h1, f4, f5, ev_at (av := Tm.av) eI_29 hx (Tm.av_width x), ev_at (av := Tm.av) eI_29 hy (Tm.av_width y), evF, ↓evZ, implies_true, seval, tf_S4_134]
       exact ⟨(σ1, ai ++ tr1, tr2, q2, s2), ⟨hU.good, hA, by rw [← List.append_assoc]; exact hS2, i4.trans i3 hQ2, hu2, by rw [List.append_assoc]; exact i6⟩, zx7.mk (by simp -implicitDefEqProofs only [hw, zy4, h54, h54.symm, List.length_map, h1, f4, f5, ev_at (av := Tm.av) eI_29 hx (Tm.av_width x), ev_at (av := Tm.av) eI_29 hy (Tm.av_width y), evF, ↓evZ, implies_true, seval, tf_S4_134])⟩
  · have hd : ka = kb → na = nb → sa = sb' → ¬ (tsa.length : Int) = (tsb.length : Int) := by
     intro e1 e2 e3 e4
     have : headEq (Tm.mk ka na sa tsa) (Tm.mk kb nb sb' tsb) = true := headEq_iff.2 ⟨e1, e2, e3, by simp only [Tm.ts]; omega⟩
     rw [h3] at this; cases this
    by_cases e1 : ka = kb
    · by_cases e2 : na = nb
      · by_cases e3 : sa = sb'
        · have e4 := hd e1 e2 e3
          subst e1 e2 e3
          simp -implicitDefEqProofs only [decide_false, decide_true, zy4, h54, h54.symm, h1, List.length_map, e4, evF, ↓evZ, implies_true, seval, tf_S4_134]
          exact hfin _ _
        · subst e1 e2
          simp -implicitDefEqProofs only [decide_false, decide_true, zy4, h54, h54.symm, h1, List.length_map, e3, evF, ↓evZ, implies_true, seval, tf_S4_134]
          exact hfin _ _
      · subst e1
        simp -implicitDefEqProofs only [decide_false, decide_true, zy4, h54, h54.symm, h1, List.length_map, e2, evF, ↓evZ, implies_true, seval, tf_S4_134]
        exact hfin _ _
    · clear hd
      simp -implicitDefEqProofs only [decide_false, decide_true, zy4, h54, h54.symm, h1, h2, List.length_map, e1, evF, ↓evZ, implies_true, seval, tf_S4_134]
      exact hfin _ _
theorem mapSet_out (σ : Sub) (l : List Int) (n : Int) : mapSet (mapOf (σ.out l)) n none = mapOf (σ.out (l ++ [n])) := by
 funext x
 unfold mapSet mapOf Sub.out
 by_cases h : x = n
 · simp [h]
 · simp only [h, if_false, List.mem_append, List.mem_singleton, or_false]
theorem delete_out {P : Program} {st : zy7} {m : Nat} {σ : Sub} {l : List Int} {t kt et : TypeId} {n : Int} {K : AV → zy7 → Prop} (hm : st m = some (.map (mapOf (σ.out l)))) (hu : P.underlying t = some (.map kt et)) (hk : P.underlying kt = some (.int .i64))
 (h : K (.tup []) (st.upd m (.map (mapOf (σ.out (l ++ [n])))))) : aDelete P t st (.map m) (.int .i64 n) K := by
 unfold aDelete
 simp only [hu, hm, hk]
 rw [mapSet_out]
 exact h
theorem Sub.out_nil (σ : Sub) : σ.out [] = σ := by funext n; simp [Sub.out]
theorem slice_lo {φ : AF} {d b n k : Nat} (h : φ d = .int .i64 (k : Int)) (hk : k = 0 ∨ k < n) : aSlice prog φ 66 (.mslice b 0 n 1) (some (.tmp d)) none none = some (.mslice b k (n - k) 1) := by
 have h1 : aBound φ none n n = some n := rfl
 have h2 : aBound φ (some (.tmp d)) 0 n = some k := by
  unfold aBound
  simp only [show φ.eval (.tmp d) = φ d from rfl, h]
  rw [if_pos (by omega)]
  simp
 unfold aSlice aSlice0
 rw [if_neg (by simp [isF0])]
 simp only [eI_66, h1, h2]
 by_cases h3 : k = 0
 · subst h3; simp
 · have h4 : k < n := by omega
   simp [h3, h4]
theorem slice_loE {φ : AF} {d b n : Nat} (h : φ d = .int .i64 (n : Int)) (hn : n ≠ 0) : aSlice prog φ 66 (.mslice b 0 n 1) (some (.tmp d)) none none = some .eslice := by
 have h1 : aBound φ none n n = some n := rfl
 have h2 : aBound φ (some (.tmp d)) 0 n = some n := by
  unfold aBound
  simp only [show φ.eval (.tmp d) = φ d from rfl, h]
  rw [if_pos (by omega)]
  simp
 unfold aSlice aSlice0
 rw [if_neg (by simp [isF0])]
 simp only [eI_66, h1, h2]
 simp [hn]
theorem slice_hiW {φ : AF} {t : TypeId} {ag : Bool} {w d b n k : Nat} (hI : eI prog t = some (ag, w)) (h : φ d = .int .i64 (k : Int)) (hk : k ≤ n) : aSlice prog φ t (.mslice b 0 n w) none (some (.tmp d)) none = some (.mslice b 0 k w) := by
 have h1 : aBound φ (some (.tmp d)) n n = some k := by
  unfold aBound
  simp only [show φ.eval (.tmp d) = φ d from rfl, h]
  rw [if_pos (by omega)]
  simp
 have h2 : aBound φ none 0 k = some 0 := rfl
 unfold aSlice aSlice0
 rw [if_neg (by simp [isF0])]
 simp only [hI, h1, h2]
 simp
theorem slice_hiF {φ : AF} {t : TypeId} {ag : Bool} {w d : Nat} (hI : eI prog t = some (ag, w)) (h : φ d = .int .i64 0) : aSlice prog φ t (.fslice []) none (some (.tmp d)) none = some (.fslice []) := by
 have h1 : aBound φ (some (.tmp d)) 0 0 = some 0 := by
  unfold aBound
  simp only [show φ.eval (.tmp d) = φ d from rfl, h]
  simp
 have h2 : aBound φ none 0 0 = some 0 := rfl
 unfold aSlice
 rw [if_pos ⟨rfl, rfl⟩]
 simp only [hI, h1, h2]
theorem slice_lo0 {φ : AF} {d : Nat} (h : φ d = .int .i64 0) : aSlice prog φ 66 (.fslice []) (some (.tmp d)) none none = some (.fslice []) := by
 have h1 : aBound φ none 0 0 = some 0 := rfl
 have h2 : aBound φ (some (.tmp d)) 0 0 = some 0 := by
  unfold aBound
  simp only [show φ.eval (.tmp d) = φ d from rfl, h]
  simp
 unfold aSlice
 rw [if_pos ⟨rfl, rfl⟩]
 simp only [eI_66, h1, h2]
theorem held_atO {P : Program} {t : TypeId} {ag : Bool} {b o len w i : Nat} (hI : eI P t = some (ag, w)) (hi : i < len) : aIndexAddr P t (.mslice b o len w) (.int .i64 (i : Int)) = some (.ptr b (o + i * w)) := by
 unfold aIndexAddr
 simp only [hI]
 rw [if_pos ⟨by omega, by omega, trivial⟩]
 simp
abbrev tf_B2_122 := zi tI_3 (zi zI_3 (zi underlying3 (zi tI_66 (zi zI_66 (zi eI_66 (zi eB_66 (zi eZ_66 (zi underlying66 (zi tI_123 (zi zI_123 (zi tI_142 (zi zI_142 (zi underlying142 (zi tI_144 (zi zI_144 (zi fI_144_0 (zi fI_144_1 bI_144)))))))))))))))))
theorem c_undoG (σ : Sub) (tr : List Int) (mark : Nat) (hm : mark ≤ tr.length) (c m : Nat) (q : AV) (st : zy7) (hS : Sto st c m q σ tr) (hl : tr.length ≤ 1099511627776) :
 zq7 prog 122 [.ptr c 0, .int .i64 (mark : Int)] st (fun r st' => r = .tup [] ∧ ∃ q', Sto st' c m q' (σ.out (tr.drop mark)) (tr.take mark) ∧ (∀ b ∈ tbk q', b ∈ tbk q) ∧ ∀ x o, st x = some o → x ≠ c → x ≠ m → st' x = some o) := by
 have hcm := hS.sub.cm
 rcases hS.trail with ⟨rfl, rfl⟩ | ⟨b, cs, rfl, hb, hcs⟩
 · obtain rfl : mark = 0 := by simpa using hm
   have e1 := hS.sub.cells
   have hsl := fun (φ : AF) (d : Nat) (h : φ d = .int .i64 0) => slice_lo0 h
   have hsh := fun (φ : AF) (d : Nat) (h : φ d = .int .i64 0) => slice_hiF eI_66 h
   simp only [Int.ofNat_zero, Int.natCast_zero]
   refine wF [1000000] 2 func122 ntmps122 rfl rfl ?_
   intro _
   simp -implicitDefEqProofs only [zy4, e1, hsl, hsh, evF, ↓evZ, implies_true, seval, tf_B2_122]
   refine zy5 (σ := Unit) [1000000] [0, 1, 11, 12] ([] : List Int) (fun i _ => True) (fun i _ => [(13, .int .i64 i)]) (fun _ _ => st) (by decide +kernel) ⟨(), trivial, zx7.mk (by simp -implicitDefEqProofs only [zy4, e1, hsl, hsh, evF, ↓evZ, implies_true, seval, tf_B2_122])⟩ (fun i x _ hx hlt hlt' hdr hinv => ?_) (fun _ hge hinv => ?_)
   · simp at hlt
   · simp -implicitDefEqProofs only [List.length_nil, show decide ((0 : Int) < 0) = false from rfl, zy4, e1, hsl, hsh, evF, ↓evZ, implies_true, seval, tf_B2_122]
     rw [Sub.out_nil]
     refine ⟨.fslice [], ⟨⟨zy7.upd_same _ _ _, ?_⟩, .inl ⟨rfl, rfl⟩, by simp [tbk]⟩, fun _ h => h, fun x o h h1 h2 => by rw [zy7.upd_ne _ _ h1]; exact h⟩
     rw [zy7.upd_ne _ _ hcm.symm, hS.sub.map]
 · have e1 := hS.sub.cells
   have hbc : b ≠ c := fun e => hS.apart (by simp [tbk, e])
   have hbm : b ≠ m := fun e => hS.m_apart (by simp [tbk, e])
   have hc' : ∀ o, (st.upd m o) c = some (.cells [.map m, .mslice b 0 tr.length 1]) := fun o => by rw [zy7.upd_ne _ _ hcm]; exact e1
   have hb' : ∀ o, (st.upd m o) b = some (.cells cs) := fun o => by rw [zy7.upd_ne _ _ hbm]; exact hb
   have hm0 : st.upd m (.map (mapOf σ)) = st := by
    funext x
    unfold zy7.upd
    split
    · rename_i h; rw [h, hS.sub.map]
    · rfl
   have hfin : ∀ st', st' = (st.upd m (.map (mapOf (σ.out (tr.drop mark))))).upd c (.cells [.map m, .mslice b 0 mark 1]) → ∃ q', Sto st' c m q' (σ.out (tr.drop mark)) (tr.take mark) ∧ (∀ x ∈ tbk q', x ∈ tbk (.mslice b 0 tr.length 1)) ∧ ∀ x o, st x = some o → x ≠ c → x ≠ m → st' x = some o := by
    rintro _ rfl
    have hlt : (tr.take mark).length = mark := by rw [List.length_take]; omega
    refine ⟨.mslice b 0 mark 1, ⟨⟨zy7.upd_same _ _ _, by rw [zy7.upd_ne _ _ hcm.symm, zy7.upd_same]⟩, .inr ⟨b, cs, by rw [hlt], by rw [zy7.upd_ne _ _ hbc]; exact hb' _, ?_⟩, by simpa [tbk] using Ne.symm hbc⟩, fun x h => h, fun x o h h1 h2 => by rw [zy7.upd_ne _ _ h1, zy7.upd_ne _ _ h2]; exact h⟩
    rw [hlt, List.map_take, ← hcs, List.take_take, Nat.min_eq_left hm]
   have hsh := fun (φ : AF) (d : Nat) (h : φ d = .int .i64 (mark : Int)) => slice_hiW (b := b) eI_66 h hm
   by_cases hk : mark = 0 ∨ mark < tr.length
   · have hsl := fun (φ : AF) (d : Nat) (h : φ d = .int .i64 (mark : Int)) => slice_lo (b := b) h hk
     refine wF [1000000] 2 func122 ntmps122 rfl rfl ?_
     intro _
     simp -implicitDefEqProofs only [zy4, e1, hsl, hsh, evF, ↓evZ, implies_true, seval, tf_B2_122]
     refine zy5 (σ := Unit) [1000000] [0, 1, 11, 12] (tr.drop mark) (fun i _ => True) (fun i _ => [(13, .int .i64 i)]) (fun i _ => st.upd m (.map (mapOf (σ.out ((tr.drop mark).take i))))) (by decide +kernel) ⟨(), trivial, by rw [List.take_zero, Sub.out_nil, hm0]; exact zx7.mk (by simp -implicitDefEqProofs only [zy4, e1, hsl, hsh, evF, ↓evZ, implies_true, seval, tf_B2_122])⟩ (fun i x _ hx hlt hlt' hdr hinv => ?_) (fun _ hge hinv => ?_)
     · have hw := wrap64 (n := (i : Int) + 1) (by omega) (by rw [List.length_drop] at hlt; omega)
       have htk : (tr.drop mark).take (i + 1) = (tr.drop mark).take i ++ [x] := by rw [List.take_add_one, hx]; simp
       rw [List.length_drop] at hlt hlt'
       have hlt'' : decide ((i : Int) < ((tr.length - mark : Nat) : Int)) = true := by simp; omega
       have hxt : tr[mark + i]? = some x := by rw [List.getElem?_drop] at hx; exact hx
       have hcs2 : cs = (tr.take (mark + i)).map iv ++ [iv x] ++ ((tr.drop (mark + i + 1)).map iv ++ cs.drop tr.length) := by
        have h1 : cs = tr.map iv ++ cs.drop tr.length := by rw [← hcs]; exact (List.take_append_drop _ _).symm
        have h2 : tr.map iv = (tr.take (mark + i)).map iv ++ iv x :: (tr.drop (mark + i + 1)).map iv := by
         have h3 : tr.drop (mark + i) = x :: tr.drop (mark + i + 1) := by
          obtain ⟨g1, g2⟩ := List.getElem?_eq_some_iff.1 hxt
          rw [List.drop_eq_getElem_cons g1, g2]
         rw [← List.map_cons (f := iv), ← h3, ← List.map_append, List.take_append_drop]
        rw [h2] at h1
        exact h1.trans (by simp)
       have hA : ((tr.take (mark + i)).map iv).length = mark + i := by simp only [List.length_map, List.length_take]; omega
       have hat := held_atO (P := prog) (b := b) (o := mark) (len := tr.length - mark) (w := 1) (i := i) eI_66 hlt
       have hcb := hb' (.map (mapOf (σ.out ((tr.drop mark).take i))))
       rw [hcs2] at hcb
       have hcm2 := hc' (.map (mapOf (σ.out ((tr.drop mark).take i))))
       obtain ⟨e1', e2, e3, e4, e5, e6⟩ := midE (B := (tr.drop (mark + i + 1)).map iv ++ cs.drop tr.length) hA
       simp -implicitDefEqProofs only [e1', e2, e3, e4, e5, e6, hat, hcb, hcm2, hlt', hlt'', Nat.mul_one, hw, evF, ↓evZ, implies_true, seval, tf_B2_122]
       refine delete_out (zy7.upd_same _ _ _) underlying142 underlying3 ?_
       rw [zy7.upd_upd, ← htk]
       simp -implicitDefEqProofs only [hat, hcb, hcm2, hlt', hlt'', Nat.mul_one, hw, evF, ↓evZ, implies_true, seval, tf_B2_122]
       exact ⟨(), zx7.mk (by simp -implicitDefEqProofs only [hat, hcb, hcm2, hlt', hlt'', Nat.mul_one, hw, evF, ↓evZ, implies_true, seval, tf_B2_122])⟩
     · rw [List.take_length]
       rw [List.length_drop] at hge
       have hcm2 := hc' (.map (mapOf (σ.out (tr.drop mark))))
       have hge' : decide (((tr.length - mark : Nat) : Int) < ((tr.length - mark : Nat) : Int)) = false := by simp
       simp -implicitDefEqProofs only [hcm2, hge, hge', List.length_drop, zy4, hsh, evF, ↓evZ, implies_true, seval, tf_B2_122]
       exact hfin _ rfl
   · obtain rfl : mark = tr.length := by omega
     have hn0 : tr.length ≠ 0 := by omega
     have hsl := fun (φ : AF) (d : Nat) (h : φ d = .int .i64 (tr.length : Int)) => slice_loE (b := b) h hn0
     refine wF [1000000] 2 func122 ntmps122 rfl rfl ?_
     intro _
     simp -implicitDefEqProofs only [zy4, e1, hsl, hsh, aLen, underlying66, evF, ↓evZ, implies_true, seval, tf_B2_122]
     refine zy5 (σ := Unit) [1000000] [0, 1, 11, 12] ([] : List Int) (fun i _ => True) (fun i _ => [(13, .int .i64 i)]) (fun _ _ => st) (by decide +kernel) ⟨(), trivial, zx7.mk (by simp -implicitDefEqProofs only [zy4, e1, hsl, hsh, aLen, underlying66, evF, ↓evZ, implies_true, seval, tf_B2_122])⟩ (fun i x _ hx hlt hlt' hdr hinv => ?_) (fun _ hge hinv => ?_)
     · simp at hlt
     · simp -implicitDefEqProofs only [List.length_nil, show decide ((0 : Int) < 0) = false from rfl, show decide (((0 : Nat) : Int) < ((0 : Nat) : Int)) = false from rfl, zy4, e1, hsl, hsh, aLen, underlying66, evF, ↓evZ, implies_true, seval, tf_B2_122]
       refine hfin _ ?_
       rw [List.drop_length, Sub.out_nil, hm0]
end Go.AW
