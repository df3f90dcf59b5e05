import Derived.Test.YtepkgoabhlnkbaaGreatDoorSesq
import Derived.Test.YtepkgoabhlnkbaaGreatDoorSesl
import Derived.Test.YtepkgoabhlnkbaaGreatDoorSesm
set_option linter.unusedSimpArgs false
set_option linter.unusedVariables false
set_option maxRecDepth 100000
namespace Go.AW
open Go.Proofs.Tryz
section
variable {H : Type} {enc : TypeId × Value → H} {w : World}
theorem cellsOf_clause : prog.cellsOf 52 = 5 := by kernel_rfl
theorem reads_int (n : Nat) : Reads enc prog w 3 n (fun k : Int => .int .i64 k) := by
 intro cs x h
 obtain ⟨k, rfl, _⟩ := DataW.trod_int underlying3 h
 exact ⟨k, VC_int⟩
theorem reads_Cl (n : Nat) : Reads enc prog w 52 n clAv := by
 intro cs x h
 obtain ⟨xs, m, rfl, _, hl, hx, hf⟩ := DataW.trod_struct underlying52 h
 rw [cellsOf_clause] at hl
 match cs, hl with
 | [c0, c1, c2, c3, c4], _ =>
  obtain ⟨y0, h0⟩ := rd_field hx hf 0 rfl
  obtain ⟨y1, h1⟩ := rd_field hx hf 1 rfl
  replace h0 : DataW.trod enc prog w 0 (fun _ => true) true m 50 ([c0, c1, c2, c3, c4].take (prog.cellsOf 50)) = some y0 := h0
  replace h1 : DataW.trod enc prog w 0 (fun _ => true) true m 23 ([c4].take (prog.cellsOf 23)) = some y1 := h1
  rw [cellsOf_term] at h0
  rw [cellsOf_terms] at h1
  obtain ⟨⟨k, j, s, l⟩, e0⟩ := reads_Tm _ _ _ h0
  obtain ⟨b, e1⟩ := reads_Tms _ _ _ h1
  refine ⟨(.mk k j s l, b), ?_⟩
  rw [clAv_mk]
  rw [Tm.av_mk] at e0
  unfold VC at e0
  unfold VC
  simp only [VCs, List.cons.injEq] at e0 ⊢
  obtain ⟨_, _, ⟨rfl, rfl⟩, f0, _, _, ⟨rfl, rfl⟩, f1, _, _, ⟨rfl, rfl⟩, f2, _, _, ⟨rfl, rfl⟩, f3, _⟩ := e0
  exact ⟨_, _, ⟨rfl, rfl⟩, f0, _, _, rfl, f1, _, _, rfl, f2, _, _, rfl, f3, _, _, rfl, e1, rfl⟩
theorem reads_Cls (n : Nat) : Reads enc prog w 22 n (fun l : List Cl => .slice (l.map clAv)) :=
 reads_slice underlying22 cellsOf_clause (by omega) clAv_width fun m _ => reads_Cl m
end
section
variable {H : Type} {enc : TypeId × Value → H} {w : World}
end
section
variable {H : Type} {enc : TypeId × Value → H} {w : World}
theorem cellsOf_clauses : prog.cellsOf 22 = 1 := by kernel_rfl
theorem cellsOf_session : prog.cellsOf 25 = 6 := by kernel_rfl
theorem VCs_1 {h : Heap} {st : zy7} {a : AV} {es : List AV} {c : Value} {cs : List Value} (x : VC h st a [c]) (y : VCs h st es cs) : VCs h st (a :: es) (c :: cs) := by
 unfold VCs; exact ⟨c, cs, rfl, x, y⟩
theorem VCs_0 {h : Heap} {st : zy7} : VCs h st [] [] := by unfold VCs; rfl
theorem VC_agg {h : Heap} {st : zy7} {es : List AV} {cs : List Value} : VC h st (.agg es) cs ↔ VCs h st es cs := by unfold VC; exact Iff.rfl
theorem reads_ss {n : Nat} {cs : List Value} {x : DataW H × List MemPlace} (h : DataW.trod enc prog w 0 (fun _ => true) true n 25 cs = some x) : ∃ s, VC w.heap none0 (ssAv s) cs := by
 obtain ⟨xs, m, rfl, _, hl, hx, hf⟩ := DataW.trod_struct underlying25 h
 rw [cellsOf_session] at hl
 match cs, hl with
 | [c0, c1, c2, c3, c4, c5], _ =>
  obtain ⟨y0, h0⟩ := rd_field hx hf 0 rfl
  obtain ⟨y1, h1⟩ := rd_field hx hf 1 rfl
  obtain ⟨y2, h2⟩ := rd_field hx hf 2 rfl
  obtain ⟨y3, h3⟩ := rd_field hx hf 3 rfl
  obtain ⟨y4, h4⟩ := rd_field hx hf 4 rfl
  obtain ⟨y5, h5⟩ := rd_field hx hf 5 rfl
  replace h0 : DataW.trod enc prog w 0 (fun _ => true) true m 22 ([c0, c1, c2, c3, c4, c5].take (prog.cellsOf 22)) = some y0 := h0
  replace h1 : DataW.trod enc prog w 0 (fun _ => true) true m 23 ([c1, c2, c3, c4, c5].take (prog.cellsOf 23)) = some y1 := h1
  replace h2 : DataW.trod enc prog w 0 (fun _ => true) true m 3 ([c2, c3, c4, c5].take (prog.cellsOf 3)) = some y2 := h2
  replace h3 : DataW.trod enc prog w 0 (fun _ => true) true m 3 ([c3, c4, c5].take (prog.cellsOf 3)) = some y3 := h3
  replace h4 : DataW.trod enc prog w 0 (fun _ => true) true m 3 ([c4, c5].take (prog.cellsOf 3)) = some y4 := h4
  replace h5 : DataW.trod enc prog w 0 (fun _ => true) true m 3 ([c5].take (prog.cellsOf 3)) = some y5 := h5
  rw [cellsOf_clauses] at h0
  rw [cellsOf_terms] at h1
  rw [cellsOf_int] at h2 h3 h4 h5
  obtain ⟨p, e0⟩ := reads_Cls _ _ _ h0
  obtain ⟨q, e1⟩ := reads_Tms _ _ _ h1
  obtain ⟨k2, e2⟩ := reads_int _ _ _ h2
  obtain ⟨k3, e3⟩ := reads_int _ _ _ h3
  obtain ⟨k4, e4⟩ := reads_int _ _ _ h4
  obtain ⟨k5, e5⟩ := reads_int _ _ _ h5
  exact ⟨⟨p, q, k2, k3, k4, k5⟩, VC_agg.2 (VCs_1 e0 (VCs_1 e1 (VCs_1 e2 (VCs_1 e3 (VCs_1 e4 (VCs_1 e5 VCs_0))))))⟩
end
end Go.AW
