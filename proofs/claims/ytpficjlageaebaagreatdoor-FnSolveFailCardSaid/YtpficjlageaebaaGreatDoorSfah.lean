/- Closed facts on the types of the program. -/
import Derived.Test.YtpficjlageaebaaGreatDoorProg
import Derived.Test.YtpficjlageaebaaGreatDoorSfag
import Derived.KernelRfl
set_option linter.unusedSimpArgs false
set_option linter.unusedVariables false
set_option maxRecDepth 100000
namespace Go.AW
open Go.Proofs.Tryz
theorem tI_2 : tI prog 2 = some (false, 1) := by kernel_rfl
theorem zI_2 : zI prog 2 = some [.int .i64 0] := by kernel_rfl
theorem tI_3 : tI prog 3 = some (false, 1) := by kernel_rfl
theorem zI_3 : zI prog 3 = some [.int .i64 0] := by kernel_rfl
theorem tI_4 : tI prog 4 = some (false, 1) := by kernel_rfl
theorem zI_4 : zI prog 4 = some [.bool false] := by kernel_rfl
theorem aTI : zV prog 4 = some (.bool false) := by kernel_rfl
theorem tI_5 : tI prog 5 = some (false, 1) := by kernel_rfl
theorem zI_5 : zI prog 5 = some [.int .u8 0] := by kernel_rfl
theorem tI_6 : tI prog 6 = some (false, 1) := by kernel_rfl
theorem zI_6 : zI prog 6 = some [.int .u8 0] := by kernel_rfl
theorem tI_8 : tI prog 8 = some (true, 4) := by kernel_rfl
theorem zI_8 : zI prog 8 = some [.int .i64 0, .int .i64 0, .bool false, .int .u8 0] := by kernel_rfl
theorem wC : fI prog 8 0 = some (0, false, 1) := by kernel_rfl
theorem xI : fI prog 8 1 = some (1, false, 1) := by kernel_rfl
theorem wD : fI prog 8 2 = some (2, false, 1) := by kernel_rfl
theorem xN : fI prog 8 3 = some (3, false, 1) := by kernel_rfl
theorem w5 : bI prog 8 = some [(0, 1), (1, 1), (2, 1), (3, 1)] := by kernel_rfl
theorem tI_9 : tI prog 9 = some (false, 1) := by kernel_rfl
theorem zI_9 : zI prog 9 = some [.str ⟨#[]⟩] := by kernel_rfl
theorem tI_10 : tI prog 10 = some (false, 1) := by kernel_rfl
theorem zI_10 : zI prog 10 = some [.str ⟨#[]⟩] := by kernel_rfl
theorem tI_23 : tI prog 23 = some (false, 1) := by kernel_rfl
theorem zI_23 : zI prog 23 = some [.fslice []] := by kernel_rfl
theorem aE4 : eI prog 23 = some (true, 4) := by kernel_rfl
theorem aBC : eB prog 23 = some 56 := by kernel_rfl
theorem UT : eZ prog 23 = some [.int .i64 0, .int .i64 0, .str ⟨#[]⟩, .fslice []] := by kernel_rfl
theorem tI_26 : tI prog 26 = some (false, 1) := by kernel_rfl
theorem zI_26 : zI prog 26 = some [.fslice []] := by kernel_rfl
theorem o0 : eI prog 26 = some (true, 1) := by kernel_rfl
theorem rQ : eB prog 26 = some 24 := by kernel_rfl
theorem r7 : eZ prog 26 = some [.fslice []] := by kernel_rfl
theorem tI_29 : tI prog 29 = some (false, 1) := by kernel_rfl
theorem zI_29 : zI prog 29 = some [.fslice []] := by kernel_rfl
theorem gT : eI prog 29 = some (true, 5) := by kernel_rfl
theorem j0 : eB prog 29 = some 80 := by kernel_rfl
theorem jZ : eZ prog 29 = some [.int .i64 0, .int .i64 0, .str ⟨#[]⟩, .fslice [], .fslice []] := by kernel_rfl
theorem tI_31 : tI prog 31 = some (false, 1) := by kernel_rfl
theorem zI_31 : zI prog 31 = some [.fslice []] := by kernel_rfl
theorem aN : eI prog 31 = some (true, 4) := by kernel_rfl
theorem bE : eB prog 31 = some 56 := by kernel_rfl
theorem bF : eZ prog 31 = some [.int .i64 0, .int .i64 0, .str ⟨#[]⟩, .fslice []] := by kernel_rfl
theorem tI_40 : tI prog 40 = some (true, 6) := by kernel_rfl
theorem zI_40 : zI prog 40 = some [.fslice [], .fslice [], .int .i64 0, .int .i64 0, .int .i64 0, .int .i64 0] := by kernel_rfl
theorem WF : fI prog 40 0 = some (0, false, 1) := by kernel_rfl
theorem TQ : fI prog 40 1 = some (1, false, 1) := by kernel_rfl
theorem SY : fI prog 40 2 = some (2, false, 1) := by kernel_rfl
theorem aCH : fI prog 40 3 = some (3, false, 1) := by kernel_rfl
theorem aIG : fI prog 40 4 = some (4, false, 1) := by kernel_rfl
theorem aJN : fI prog 40 5 = some (5, false, 1) := by kernel_rfl
theorem SS : bI prog 40 = some [(0, 1), (1, 1), (2, 1), (3, 1), (4, 1), (5, 1)] := by kernel_rfl
theorem tI_41 : tI prog 41 = some (true, 6) := by kernel_rfl
theorem zI_41 : zI prog 41 = some [.fslice [], .fslice [], .int .i64 0, .int .i64 0, .int .i64 0, .int .i64 0] := by kernel_rfl
theorem aTD : fI prog 41 0 = some (0, false, 1) := by kernel_rfl
theorem aN8 : fI prog 41 1 = some (1, false, 1) := by kernel_rfl
theorem aX4 : fI prog 41 2 = some (2, false, 1) := by kernel_rfl
theorem aR1 : fI prog 41 3 = some (3, false, 1) := by kernel_rfl
theorem aRL : fI prog 41 4 = some (4, false, 1) := by kernel_rfl
theorem aOF : fI prog 41 5 = some (5, false, 1) := by kernel_rfl
theorem aR9 : bI prog 41 = some [(0, 1), (1, 1), (2, 1), (3, 1), (4, 1), (5, 1)] := by kernel_rfl
theorem tI_44 : tI prog 44 = some (true, 6) := by kernel_rfl
theorem zI_44 : zI prog 44 = some [.fslice [], .fslice [], .int .i64 0, .int .i64 0, .int .i64 0, .int .i64 0] := by kernel_rfl
theorem aI3 : fI prog 44 0 = some (0, false, 1) := by kernel_rfl
theorem VY : fI prog 44 1 = some (1, false, 1) := by kernel_rfl
theorem aEF : fI prog 44 2 = some (2, false, 1) := by kernel_rfl
theorem aIL : fI prog 44 3 = some (3, false, 1) := by kernel_rfl
theorem aGH : fI prog 44 4 = some (4, false, 1) := by kernel_rfl
theorem aG0 : fI prog 44 5 = some (5, false, 1) := by kernel_rfl
theorem aBO : bI prog 44 = some [(0, 1), (1, 1), (2, 1), (3, 1), (4, 1), (5, 1)] := by kernel_rfl
theorem tI_51 : tI prog 51 = some (false, 1) := by kernel_rfl
theorem zI_51 : zI prog 51 = some [.fslice []] := by kernel_rfl
theorem dW : eI prog 51 = some (false, 1) := by kernel_rfl
theorem fW : eB prog 51 = some 8 := by kernel_rfl
theorem fU : eZ prog 51 = some [.int .i64 0] := by kernel_rfl
theorem tI_57 : tI prog 57 = some (false, 1) := by kernel_rfl
theorem zI_57 : zI prog 57 = some [.fslice []] := by kernel_rfl
theorem sG : eI prog 57 = some (false, 1) := by kernel_rfl
theorem zC : eB prog 57 = some 1 := by kernel_rfl
theorem yN : eZ prog 57 = some [.int .u8 0] := by kernel_rfl
theorem tI_63 : tI prog 63 = some (true, 4) := by kernel_rfl
theorem zI_63 : zI prog 63 = some [.int .i64 0, .int .i64 0, .str ⟨#[]⟩, .fslice []] := by kernel_rfl
theorem aTE : zV prog 63 = some (.agg [.int .i64 0, .int .i64 0, .str ⟨#[]⟩, .fslice []]) := by kernel_rfl
theorem bP : fI prog 63 0 = some (0, false, 1) := by kernel_rfl
theorem bQ : fI prog 63 1 = some (1, false, 1) := by kernel_rfl
theorem bT : fI prog 63 2 = some (2, false, 1) := by kernel_rfl
theorem bS : fI prog 63 3 = some (3, false, 1) := by kernel_rfl
theorem bR : bI prog 63 = some [(0, 1), (1, 1), (2, 1), (3, 1)] := by kernel_rfl
theorem tI_66 : tI prog 66 = some (true, 4) := by kernel_rfl
theorem zI_66 : zI prog 66 = some [.int .i64 0, .int .i64 0, .str ⟨#[]⟩, .fslice []] := by kernel_rfl
theorem VW : fI prog 66 0 = some (0, false, 1) := by kernel_rfl
theorem aA6 : fI prog 66 1 = some (1, false, 1) := by kernel_rfl
theorem aK3 : fI prog 66 2 = some (2, false, 1) := by kernel_rfl
theorem aAT : fI prog 66 3 = some (3, false, 1) := by kernel_rfl
theorem X2 : bI prog 66 = some [(0, 1), (1, 1), (2, 1), (3, 1)] := by kernel_rfl
theorem tI_76 : tI prog 76 = some (true, 5) := by kernel_rfl
theorem zI_76 : zI prog 76 = some [.int .i64 0, .int .i64 0, .str ⟨#[]⟩, .fslice [], .fslice []] := by kernel_rfl
theorem lO : fI prog 76 0 = some (0, true, 4) := by kernel_rfl
theorem lU : fI prog 76 1 = some (4, false, 1) := by kernel_rfl
theorem lM : bI prog 76 = some [(0, 4), (4, 1)] := by kernel_rfl
theorem tI_82 : tI prog 82 = some (true, 1) := by kernel_rfl
theorem zI_82 : zI prog 82 = some [.fslice []] := by kernel_rfl
theorem AI : fI prog 82 0 = some (0, false, 1) := by kernel_rfl
theorem BZ : bI prog 82 = some [(0, 1)] := by kernel_rfl
theorem tI_90 : tI prog 90 = some (false, 1) := by kernel_rfl
theorem zI_90 : zI prog 90 = some [.nilptr] := by kernel_rfl
theorem tI_100 : tI prog 100 = some (false, 1) := by kernel_rfl
theorem zI_100 : zI prog 100 = some [.fslice []] := by kernel_rfl
theorem uN : eI prog 100 = some (true, 5) := by kernel_rfl
theorem y8 : eB prog 100 = some 64 := by kernel_rfl
theorem yH : eZ prog 100 = some [.int .i64 0, .int .i64 0, .str ⟨#[]⟩, .fslice [], .int .i64 0] := by kernel_rfl
theorem tI_101 : tI prog 101 = some (false, 1) := by kernel_rfl
theorem zI_101 : zI prog 101 = some [.fslice []] := by kernel_rfl
theorem rG : eI prog 101 = some (true, 7) := by kernel_rfl
theorem v9 : eB prog 101 = some 128 := by kernel_rfl
theorem xJ : eZ prog 101 = some [.int .i64 0, .int .i64 0, .str ⟨#[]⟩, .fslice [], .fslice [], .fslice [], .fslice []] := by kernel_rfl
theorem tI_102 : tI prog 102 = some (true, 3) := by kernel_rfl
theorem zI_102 : zI prog 102 = some [.fslice [], .fslice [], .fslice []] := by kernel_rfl
theorem aVU : fI prog 102 0 = some (0, false, 1) := by kernel_rfl
theorem aWZ : fI prog 102 1 = some (1, false, 1) := by kernel_rfl
theorem aYD : fI prog 102 2 = some (2, false, 1) := by kernel_rfl
theorem aSO : bI prog 102 = some [(0, 1), (1, 1), (2, 1)] := by kernel_rfl
theorem tI_103 : tI prog 103 = some (true, 3) := by kernel_rfl
theorem zI_103 : zI prog 103 = some [.fslice [], .fslice [], .fslice []] := by kernel_rfl
theorem FV : fI prog 103 0 = some (0, false, 1) := by kernel_rfl
theorem FD : fI prog 103 1 = some (1, false, 1) := by kernel_rfl
theorem DX : fI prog 103 2 = some (2, false, 1) := by kernel_rfl
theorem F1 : bI prog 103 = some [(0, 1), (1, 1), (2, 1)] := by kernel_rfl
theorem tI_112 : tI prog 112 = some (false, 1) := by kernel_rfl
theorem zI_112 : zI prog 112 = some [.nilptr] := by kernel_rfl
theorem tI_124 : tI prog 124 = some (true, 2) := by kernel_rfl
theorem zI_124 : zI prog 124 = some [.fslice [], .int .i64 0] := by kernel_rfl
theorem OZ : fI prog 124 0 = some (0, false, 1) := by kernel_rfl
theorem P3 : fI prog 124 1 = some (1, false, 1) := by kernel_rfl
theorem PC : bI prog 124 = some [(0, 1), (1, 1)] := by kernel_rfl
theorem tI_125 : tI prog 125 = some (false, 1) := by kernel_rfl
theorem zI_125 : zI prog 125 = some [.fslice []] := by kernel_rfl
theorem iS : eI prog 125 = some (false, 1) := by kernel_rfl
theorem lR : eB prog 125 = some 16 := by kernel_rfl
theorem lQ : eZ prog 125 = some [.str ⟨#[]⟩] := by kernel_rfl
theorem tI_130 : tI prog 130 = some (false, 1) := by kernel_rfl
theorem zI_130 : zI prog 130 = some [.fslice []] := by kernel_rfl
theorem aDY : eI prog 130 = some (false, 1) := by kernel_rfl
theorem aYB : eB prog 130 = some 24 := by kernel_rfl
theorem aS6 : eZ prog 130 = some [.fslice []] := by kernel_rfl
theorem tI_146 : tI prog 146 = some (true, 7) := by kernel_rfl
theorem zI_146 : zI prog 146 = some [.int .i64 0, .int .i64 0, .str ⟨#[]⟩, .fslice [], .fslice [], .fslice [], .fslice []] := by kernel_rfl
theorem OS : fI prog 146 0 = some (0, true, 4) := by kernel_rfl
theorem PZ : fI prog 146 1 = some (4, false, 1) := by kernel_rfl
theorem OQ : fI prog 146 2 = some (5, false, 1) := by kernel_rfl
theorem Q5 : fI prog 146 3 = some (6, false, 1) := by kernel_rfl
theorem OR : bI prog 146 = some [(0, 4), (4, 1), (5, 1), (6, 1)] := by kernel_rfl
theorem tI_148 : tI prog 148 = some (false, 1) := by kernel_rfl
theorem zI_148 : zI prog 148 = some [.nilptr] := by kernel_rfl
theorem tI_150 : tI prog 150 = some (false, 1) := by kernel_rfl
theorem zI_150 : zI prog 150 = some [.nilptr] := by kernel_rfl
theorem tI_151 : tI prog 151 = some (false, 1) := by kernel_rfl
theorem zI_151 : zI prog 151 = some [.fslice []] := by kernel_rfl
theorem yM : eI prog 151 = some (true, 9) := by kernel_rfl
theorem KU : eB prog 151 = some 112 := by kernel_rfl
theorem KB : eZ prog 151 = some [.int .i64 0, .int .i64 0, .str ⟨#[]⟩, .fslice [], .int .i64 0, .nilptr, .fslice [], .int .i64 0, .int .i64 0] := by kernel_rfl
theorem tI_152 : tI prog 152 = some (false, 1) := by kernel_rfl
theorem zI_152 : zI prog 152 = some [.fslice []] := by kernel_rfl
theorem B2 : eI prog 152 = some (true, 6) := by kernel_rfl
theorem KT : eB prog 152 = some 72 := by kernel_rfl
theorem JP : eZ prog 152 = some [.int .i64 0, .int .i64 0, .str ⟨#[]⟩, .fslice [], .int .i64 0, .int .i64 0] := by kernel_rfl
theorem tI_154 : tI prog 154 = some (true, 12) := by kernel_rfl
theorem zI_154 : zI prog 154 = some [.nilptr, .fslice [], .fslice [], .bool false, .bool false, .int .i64 0, .int .i64 0, .int .i64 0, .nilptr, .fslice [], .fslice [], .int .i64 0] := by kernel_rfl
theorem DS : fI prog 154 0 = some (0, false, 1) := by kernel_rfl
theorem GR : fI prog 154 1 = some (1, false, 1) := by kernel_rfl
theorem EV : fI prog 154 2 = some (2, false, 1) := by kernel_rfl
theorem ED : fI prog 154 3 = some (3, false, 1) := by kernel_rfl
theorem FK : fI prog 154 4 = some (4, false, 1) := by kernel_rfl
theorem EQ : fI prog 154 5 = some (5, false, 1) := by kernel_rfl
theorem D1 : fI prog 154 6 = some (6, false, 1) := by kernel_rfl
theorem D8 : fI prog 154 7 = some (7, false, 1) := by kernel_rfl
theorem EI : fI prog 154 8 = some (8, false, 1) := by kernel_rfl
theorem FR : fI prog 154 9 = some (9, false, 1) := by kernel_rfl
theorem GC : fI prog 154 10 = some (10, false, 1) := by kernel_rfl
theorem ER : fI prog 154 11 = some (11, false, 1) := by kernel_rfl
theorem FY : bI prog 154 = some [(0, 1), (1, 1), (2, 1), (3, 1), (4, 1), (5, 1), (6, 1), (7, 1), (8, 1), (9, 1), (10, 1), (11, 1)] := by kernel_rfl
theorem tI_167 : tI prog 167 = some (true, 5) := by kernel_rfl
theorem zI_167 : zI prog 167 = some [.int .i64 0, .int .i64 0, .str ⟨#[]⟩, .fslice [], .int .i64 0] := by kernel_rfl
theorem aC5 : fI prog 167 0 = some (0, true, 4) := by kernel_rfl
theorem aLB : fI prog 167 1 = some (4, false, 1) := by kernel_rfl
theorem XM : bI prog 167 = some [(0, 4), (4, 1)] := by kernel_rfl
theorem tI_181 : tI prog 181 = some (false, 1) := by kernel_rfl
theorem zI_181 : zI prog 181 = some [.nilmap] := by kernel_rfl
theorem tI_183 : tI prog 183 = some (true, 2) := by kernel_rfl
theorem zI_183 : zI prog 183 = some [.nilmap, .fslice []] := by kernel_rfl
theorem BR : fI prog 183 0 = some (0, false, 1) := by kernel_rfl
theorem AY : fI prog 183 1 = some (1, false, 1) := by kernel_rfl
theorem BQ : bI prog 183 = some [(0, 1), (1, 1)] := by kernel_rfl
theorem tI_185 : tI prog 185 = some (true, 7) := by kernel_rfl
theorem zI_185 : zI prog 185 = some [.int .i64 0, .int .i64 0, .str ⟨#[]⟩, .fslice [], .int .i64 0, .int .i64 0, .nilptr] := by kernel_rfl
theorem aL1 : fI prog 185 0 = some (0, true, 4) := by kernel_rfl
theorem aDU : fI prog 185 1 = some (4, false, 1) := by kernel_rfl
theorem ZI : fI prog 185 2 = some (5, false, 1) := by kernel_rfl
theorem aL3 : fI prog 185 3 = some (6, false, 1) := by kernel_rfl
theorem aGS : bI prog 185 = some [(0, 4), (4, 1), (5, 1), (6, 1)] := by kernel_rfl
theorem tI_189 : tI prog 189 = some (true, 6) := by kernel_rfl
theorem zI_189 : zI prog 189 = some [.int .i64 0, .int .i64 0, .str ⟨#[]⟩, .fslice [], .int .i64 0, .int .i64 0] := by kernel_rfl
theorem aL6 : fI prog 189 0 = some (0, true, 4) := by kernel_rfl
theorem YU : fI prog 189 1 = some (4, false, 1) := by kernel_rfl
theorem ZO : fI prog 189 2 = some (5, false, 1) := by kernel_rfl
theorem TL : bI prog 189 = some [(0, 4), (4, 1), (5, 1)] := by kernel_rfl
theorem tI_193 : tI prog 193 = some (true, 2) := by kernel_rfl
theorem zI_193 : zI prog 193 = some [.str ⟨#[]⟩, .int .i64 0] := by kernel_rfl
theorem MB : fI prog 193 0 = some (0, false, 1) := by kernel_rfl
theorem OH : fI prog 193 1 = some (1, false, 1) := by kernel_rfl
theorem PX : bI prog 193 = some [(0, 1), (1, 1)] := by kernel_rfl
theorem tI_198 : tI prog 198 = some (true, 9) := by kernel_rfl
theorem zI_198 : zI prog 198 = some [.int .i64 0, .int .i64 0, .str ⟨#[]⟩, .fslice [], .int .i64 0, .nilptr, .fslice [], .int .i64 0, .int .i64 0] := by kernel_rfl
theorem MU : fI prog 198 0 = some (0, true, 4) := by kernel_rfl
theorem OC : fI prog 198 1 = some (4, false, 1) := by kernel_rfl
theorem PM : fI prog 198 2 = some (5, false, 1) := by kernel_rfl
theorem NR : fI prog 198 3 = some (6, false, 1) := by kernel_rfl
theorem PN : fI prog 198 4 = some (7, false, 1) := by kernel_rfl
theorem MF : fI prog 198 5 = some (8, false, 1) := by kernel_rfl
theorem LZ : bI prog 198 = some [(0, 4), (4, 1), (5, 1), (6, 1), (7, 1), (8, 1)] := by kernel_rfl
theorem tI_216 : tI prog 216 = some (false, 1) := by kernel_rfl
theorem zI_216 : zI prog 216 = some [.nilptr] := by kernel_rfl
theorem tI_239 : tI prog 239 = some (false, 1) := by kernel_rfl
theorem zI_239 : zI prog 239 = some [.nilmap] := by kernel_rfl
theorem mixed : prog.follows .mixedOrders = true := by kernel_rfl
theorem wF {P : Program} {g : FuncId} {fn : Func} {c : Code} {args : List AV} {st : aB} {N : Nat} {rs : List ResultVar} {K : AV → aB → Prop} (mt : List Nat) (k : Nat) (hf : P.funcs[g]? = some fn) (hN : fn.ntmps = N) (hr : fn.results = rs.toArray) (hb : fn.body = some c) (e : eG args → fV P N mt c (EN P rs.toArray K) (tG 0 args) st) (hn : (fn.name == "runtime.NumGoroutine") = false := by kernel_rfl) (hok : codeOk N c = true := by decide +kernel) (ha : args.length = k := by rfl) (hk : k ≤ N := by decide +kernel) : aD P g args st K :=
 zw6 mt hf hN hr hb hn hok (by rw [ha]; exact hk) e
theorem wP {P : Program} {N : Nat} {id : Nat} {l : List Oper} {Q : Exit → AF → aB → Prop} {φ : AF} {st : aB} (p : List (Nat × Nat)) (S : List Nat) (hm : P.follows .mixedOrders = true) (h : jT P l.toArray (Q .normal) p φ st) (hok : pJ N l.toArray = true := by decide +kernel) (hl : p.length = l.length := by decide +kernel) (hB : sF l.toArray S p (Array.replicate l.length false) = true := by decide +kernel) : gH P N (.region id l.toArray true) Q φ st :=
 zx5 p S hm hok hl hB h
theorem wX {P : Program} {N : Nat} {id : Nat} {l : List Oper} {Q : Exit → AF → aB → Prop} {φ : AF} {st : aB} (p : List (Nat × Nat)) (S : List Nat) (s0 : aB) (hm : P.follows .mixedOrders = true) (hf : BH p = true) (hs : fK s0 st) (h : jK P l.toArray s0 (Q .normal) p φ st) (hok : pJ N l.toArray = true := by decide +kernel) (hl : p.length = l.length := by decide +kernel) (hB : rS l.toArray S p (Array.replicate l.length false) = true := by decide +kernel) : gH P N (.region id l.toArray true) Q φ st :=
 CJ p S s0 hm hok hl hB hf hs h
theorem fB {sz : Nat} {x : AV} (h1 : x.width = sz) (h2 : x.cells.all AV.storable = true) : s8 sz [x] := by intro e he; simp only [cY, dP, d4] at he; subst he; exact ⟨h1, h2⟩
theorem bK {n : Int} (h1 : -9223372036854775808 ≤ n := by omega) (h2 : n ≤ 9223372036854775807 := by omega) : IntKind.wrap .i64 n = n := wrap64 h1 h2
theorem IK : type_of% @Go.Proofs.Tryz.underlying2 := @Go.Proofs.Tryz.underlying2
theorem aX : type_of% @Go.Proofs.Tryz.underlying3 := @Go.Proofs.Tryz.underlying3
theorem cD : type_of% @Go.Proofs.Tryz.underlying4 := @Go.Proofs.Tryz.underlying4
theorem kI : type_of% @Go.Proofs.Tryz.underlying5 := @Go.Proofs.Tryz.underlying5
theorem uU6 : type_of% @Go.Proofs.Tryz.underlying6 := @Go.Proofs.Tryz.underlying6
theorem cH : type_of% @Go.Proofs.Tryz.underlying9 := @Go.Proofs.Tryz.underlying9
theorem aMC : type_of% @Go.Proofs.Tryz.underlying10 := @Go.Proofs.Tryz.underlying10
theorem aAK : type_of% @Go.Proofs.Tryz.underlying23 := @Go.Proofs.Tryz.underlying23
theorem uF : type_of% @Go.Proofs.Tryz.underlying26 := @Go.Proofs.Tryz.underlying26
theorem kM : type_of% @Go.Proofs.Tryz.underlying29 := @Go.Proofs.Tryz.underlying29
theorem b9 : type_of% @Go.Proofs.Tryz.underlying31 := @Go.Proofs.Tryz.underlying31
theorem gA : type_of% @Go.Proofs.Tryz.underlying51 := @Go.Proofs.Tryz.underlying51
theorem v5 : type_of% @Go.Proofs.Tryz.underlying57 := @Go.Proofs.Tryz.underlying57
theorem ES : type_of% @Go.Proofs.Tryz.underlying100 := @Go.Proofs.Tryz.underlying100
theorem CI : type_of% @Go.Proofs.Tryz.underlying101 := @Go.Proofs.Tryz.underlying101
theorem mF : type_of% @Go.Proofs.Tryz.underlying125 := @Go.Proofs.Tryz.underlying125
theorem aRI : type_of% @Go.Proofs.Tryz.underlying130 := @Go.Proofs.Tryz.underlying130
theorem L3 : type_of% @Go.Proofs.Tryz.underlying151 := @Go.Proofs.Tryz.underlying151
theorem QF : type_of% @Go.Proofs.Tryz.underlying152 := @Go.Proofs.Tryz.underlying152
theorem yX : type_of% @Go.Proofs.Tryz.underlying181 := @Go.Proofs.Tryz.underlying181
theorem EB : type_of% @Go.Proofs.Tryz.underlying239 := @Go.Proofs.Tryz.underlying239
end Go.AW
