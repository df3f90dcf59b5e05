/- Names and goals as data. -/
import Derived.Test.YtepkgoabhlnkbaaGreatDoorSesf
set_option linter.unusedSimpArgs false
set_option linter.unusedVariables false
set_option maxRecDepth 100000
namespace Go.AW
def opLevel (s : ByteArray) : Nat :=
 cond (decide (s = ⟨#[61]⟩) || decide (s = ⟨#[92, 61]⟩) || decide (s = ⟨#[61, 61]⟩) || decide (s = ⟨#[60]⟩) || decide (s = ⟨#[62]⟩) || decide (s = ⟨#[61, 60]⟩) || decide (s = ⟨#[62, 61]⟩) || decide (s = ⟨#[61, 58, 61]⟩) || decide (s = ⟨#[105, 115]⟩)) 3 (cond (decide (s = ⟨#[43]⟩) || decide (s = ⟨#[45]⟩)) 2 (cond (decide (s = ⟨#[42]⟩) || decide (s = ⟨#[47, 47]⟩) || decide (s = ⟨#[109, 111, 100]⟩)) 1 0))
def isBuiltin (s : ByteArray) (n : Int) : Bool :=
 cond (decide (s = ⟨#[61]⟩) || decide (s = ⟨#[92, 61]⟩) || decide (s = ⟨#[61, 61]⟩) || decide (s = ⟨#[60]⟩) || decide (s = ⟨#[62]⟩) || decide (s = ⟨#[61, 60]⟩) || decide (s = ⟨#[62, 61]⟩) || decide (s = ⟨#[61, 58, 61]⟩) || decide (s = ⟨#[105, 115]⟩)) (decide (n = 2)) (cond (decide (s = ⟨#[116, 114, 117, 101]⟩) || decide (s = ⟨#[102, 97, 105, 108]⟩)) (decide (n = 0)) (cond (decide (s = ⟨#[118, 97, 114]⟩) || decide (s = ⟨#[110, 111, 110, 118, 97, 114]⟩) || decide (s = ⟨#[97, 116, 111, 109]⟩) || decide (s = ⟨#[105, 110, 116]⟩)) (decide (n = 1)) (cond (decide (s = ⟨#[97, 114, 103]⟩)) (decide (n = 3)) false)))
abbrev sb (s : ByteArray) : List UInt8 := s.data.toList
theorem sb_len (s : ByteArray) : (sb s).length = s.size := by simp only [sb, Array.length_toList]; rfl
theorem idx_byte {P : Program} {t : TypeId} {s : ByteArray} {i : Nat} {c : UInt8} (hu : P.underlying t = some .string) (h : (sb s)[i]? = some c) : aIndex P t (.str s) (.int .i64 (i : Int)) = some (.int .u8 (c.toNat : Int)) := by
 have hi : i < s.size := by rw [← sb_len]; exact (List.getElem?_eq_some_iff.1 h).1
 have : s[i]? = some c := by
  rw [getElem?_pos s i hi]
  obtain ⟨h1, h2⟩ := List.getElem?_eq_some_iff.1 h
  rw [← h2]
  rfl
 simp only [aIndex, hu, Int.toNat_natCast, this]
 simp
def letter (c : UInt8) : Bool := decide (97 ≤ c.toNat) && decide (c.toNat ≤ 122)
def letters (s : ByteArray) : Bool := (sb s).all letter && (decide ((1 : Int) ≤ (s.size : Int)) && decide ((s.size : Int) ≤ 6))
theorem all_at {α : Type} {p : α → Bool} {l : List α} {i : Nat} {x : α} (h : l[i]? = some x) (hp : p x = false) : l.all p = false := by
 rw [List.all_eq_false]
 exact ⟨x, List.mem_of_getElem? h, by simp [hp]⟩
theorem all_of {α : Type} {p : α → Bool} {l : List α} (h : ∀ (i : Nat) x, l[i]? = some x → p x = true) : l.all p = true := by
 rw [List.all_eq_true]
 intro x hx
 obtain ⟨i, hi⟩ := List.getElem?_of_mem hx
 exact h i x hi
end Go.AW
