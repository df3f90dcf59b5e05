
/- Terms and proofs, read. -/
import Derived.Test.YtcookjmgjbhkiaaRd
import Derived.Test.YtcookjmgjbhkiaaTf
namespace Go.AW
open Go.Proofs.Try
set_option maxRecDepth 100000
section
variable {H : Type} {enc : TypeId × Value → H} {w : World}

theorem VC_int {h : Heap} {st : Store} {k : IntKind} {n : Int} : VC h st (.int k n) [.int k n] := by simp only [VC]
theorem cellsOf_int : prog.cellsOf 3 = 1 := by kernel_rfl
theorem cellsOf_string : prog.cellsOf 9 = 1 := by kernel_rfl
theorem cellsOf_terms : prog.cellsOf 22 = 1 := by kernel_rfl
theorem cellsOf_term : prog.cellsOf 24 = 4 := by kernel_rfl

theorem reads_Tm : ∀ n, Reads enc prog w 24 n Tm.av := by
  intro n
  induction n using Nat.strongRecOn with
  | _ n ih =>
    intro cs x h
    obtain ⟨xs, m, rfl, _, hl, hx, hf⟩ := DataW.trod_struct underlying24 h
    rw [cellsOf_term] at hl
    match cs, hl with
    | [c0, c1, c2, c3], _ =>
      obtain ⟨y0, h0⟩ := rd_field hx hf 0 rfl
      obtain ⟨y1, h1⟩ := rd_field hx hf 1 rfl
      obtain ⟨y2, h2⟩ := rd_field hx hf 2 rfl
      obtain ⟨y3, h3⟩ := rd_field hx hf 3 rfl
      replace h0 : DataW.trod enc prog w 0 (fun _ => true) true m 3 ([c0, c1, c2, c3].take (prog.cellsOf 3)) = some y0 := h0
      replace h1 : DataW.trod enc prog w 0 (fun _ => true) true m 3 ([c1, c2, c3].take (prog.cellsOf 3)) = some y1 := h1
      replace h2 : DataW.trod enc prog w 0 (fun _ => true) true m 9 ([c2, c3].take (prog.cellsOf 9)) = some y2 := h2
      replace h3 : DataW.trod enc prog w 0 (fun _ => true) true m 22 ([c3].take (prog.cellsOf 22)) = some y3 := h3
      rw [cellsOf_int] at h0 h1
      rw [cellsOf_string] at h2
      rw [cellsOf_terms] at h3
      obtain ⟨k, e0, _⟩ := DataW.trod_int underlying3 h0
      obtain ⟨j, e1, _⟩ := DataW.trod_int underlying3 h1
      obtain ⟨s, e2, _, es⟩ := DataW.trod_string underlying9 h2
      obtain ⟨l, e3⟩ := reads_slice (n := m) underlying22 cellsOf_term (by omega) Tm.av_width (fun m' hm => ih m' (by omega)) _ _ h3
      obtain rfl := (List.cons.inj e0).1
      obtain rfl := (List.cons.inj e1).1
      obtain rfl := (List.cons.inj e2).1
      refine ⟨.mk k j s l, ?_⟩
      rw [Tm.av_mk]
      unfold VC
      simp only [VCs]
      exact ⟨_, _, rfl, by simp only [VC], _, _, rfl, by simp only [VC], _, _, rfl, by simp only [VC]; exact ⟨trivial, es⟩, _, _, rfl, e3, rfl⟩

theorem cellsOf_proofs : prog.cellsOf 25 = 1 := by kernel_rfl
theorem cellsOf_proof : prog.cellsOf 27 = 6 := by kernel_rfl
theorem reads_Pf : ∀ n, Reads enc prog w 27 n Pf.av := by
  intro n
  induction n using Nat.strongRecOn with
  | _ n ih =>
    intro cs x h
    obtain ⟨xs, m, rfl, _, hl, hx, hf⟩ := DataW.trod_struct underlying27 h
    rw [cellsOf_proof] at hl
    match cs, hl with
    | [c0, c1, c2, c3, c4, c5], _ =>
      obtain ⟨y0, h0⟩ := rd_field hx hf 0 rfl
      obtain ⟨y1, h1⟩ := rd_field hx hf 1 rfl
      obtain ⟨y2, h2⟩ := rd_field hx hf 2 rfl
      replace h0 : DataW.trod enc prog w 0 (fun _ => true) true m 24 ([c0, c1, c2, c3, c4, c5].take (prog.cellsOf 24)) = some y0 := h0
      replace h1 : DataW.trod enc prog w 0 (fun _ => true) true m 3 ([c4, c5].take (prog.cellsOf 3)) = some y1 := h1
      replace h2 : DataW.trod enc prog w 0 (fun _ => true) true m 25 ([c5].take (prog.cellsOf 25)) = some y2 := h2
      rw [cellsOf_term] at h0
      rw [cellsOf_int] at h1
      rw [cellsOf_proofs] at h2
      obtain ⟨⟨k, j, s, l⟩, e0⟩ := reads_Tm _ _ _ h0
      obtain ⟨c, e1, _⟩ := DataW.trod_int underlying3 h1
      obtain ⟨ps, e2⟩ := reads_slice (n := m) underlying25 cellsOf_proof (by omega) Pf.av_width (fun m' hm => ih m' (by omega)) _ _ h2
      obtain rfl := (List.cons.inj e1).1
      refine ⟨.mk (.mk k j s l) c ps, ?_⟩
      rw [Pf.av_mk]
      rw [Tm.av_mk] at e0
      unfold VC at e0
      unfold VC
      simp only [VCs, List.cons.injEq] at e0 ⊢
      obtain ⟨_, _, ⟨rfl, rfl⟩, f0, _, _, ⟨rfl, rfl⟩, f1, _, _, ⟨rfl, rfl⟩, f2, _, _, ⟨rfl, rfl⟩, f3, _⟩ := e0
      exact ⟨_, _, ⟨rfl, rfl⟩, f0, _, _, rfl, f1, _, _, rfl, f2, _, _, rfl, f3, _, _, rfl, VC_int, _, _, rfl, e2, rfl⟩

/-- A struct's value. -/
theorem wide_agg {r : Reach} {b0 : Nat} {t : TypeId} {fs : Array Field} {v : Value} (ht : prog.underlying t = some (.struct fs)) (h : Value.okWide prog w r b0 t v) : vIsAgg v = true := by
  simp only [Value.okWide, ht] at h
  obtain ⟨cs, rfl, _⟩ := h
  rfl
end
end Go.AW
