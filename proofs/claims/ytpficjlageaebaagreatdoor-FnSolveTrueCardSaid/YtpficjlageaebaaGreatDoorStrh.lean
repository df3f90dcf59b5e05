/- Closed facts on the types of the program. -/
import Derived.Test.YtpficjlageaebaaGreatDoorProg
import Derived.Test.YtpficjlageaebaaGreatDoorStrg
import Derived.KernelRfl
set_option linter.unusedSimpArgs false
set_option linter.unusedVariables false
set_option maxRecDepth 100000
namespace Go.AW
open Go.Proofs.Tryz
theorem tI_2 : tI prog 2 = some (false, 1) := by kernel_rfl
theorem zI_2 : zI prog 2 = some [.int .i64 0] := by kernel_rfl
theorem tI_3 : tI prog 3 = some (false, 1) := by kernel_rfl
theorem zI_3 : zI prog 3 = some [.int .i64 0] := by kernel_rfl
theorem tI_4 : tI prog 4 = some (false, 1) := by kernel_rfl
theorem zI_4 : zI prog 4 = some [.bool false] := by kernel_rfl
theorem aX8 : zV prog 4 = some (.bool false) := by kernel_rfl
theorem tI_5 : tI prog 5 = some (false, 1) := by kernel_rfl
theorem zI_5 : zI prog 5 = some [.int .u8 0] := by kernel_rfl
theorem tI_6 : tI prog 6 = some (false, 1) := by kernel_rfl
theorem zI_6 : zI prog 6 = some [.int .u8 0] := by kernel_rfl
theorem tI_8 : tI prog 8 = some (true, 4) := by kernel_rfl
theorem zI_8 : zI prog 8 = some [.int .i64 0, .int .i64 0, .bool false, .int .u8 0] := by kernel_rfl
theorem vT : fI prog 8 0 = some (0, false, 1) := by kernel_rfl
theorem vX : fI prog 8 1 = some (1, false, 1) := by kernel_rfl
theorem wN : fI prog 8 2 = some (2, false, 1) := by kernel_rfl
theorem wO : fI prog 8 3 = some (3, false, 1) := by kernel_rfl
theorem wL : bI prog 8 = some [(0, 1), (1, 1), (2, 1), (3, 1)] := by kernel_rfl
theorem tI_9 : tI prog 9 = some (false, 1) := by kernel_rfl
theorem zI_9 : zI prog 9 = some [.str ⟨#[]⟩] := by kernel_rfl
theorem tI_10 : tI prog 10 = some (false, 1) := by kernel_rfl
theorem zI_10 : zI prog 10 = some [.str ⟨#[]⟩] := by kernel_rfl
theorem tI_23 : tI prog 23 = some (false, 1) := by kernel_rfl
theorem zI_23 : zI prog 23 = some [.fslice []] := by kernel_rfl
theorem TB : eI prog 23 = some (true, 4) := by kernel_rfl
theorem aCS : eB prog 23 = some 56 := by kernel_rfl
theorem aA0 : eZ prog 23 = some [.int .i64 0, .int .i64 0, .str ⟨#[]⟩, .fslice []] := by kernel_rfl
theorem tI_26 : tI prog 26 = some (false, 1) := by kernel_rfl
theorem zI_26 : zI prog 26 = some [.fslice []] := by kernel_rfl
theorem qR : eI prog 26 = some (true, 1) := by kernel_rfl
theorem tP : eB prog 26 = some 24 := by kernel_rfl
theorem sO : eZ prog 26 = some [.fslice []] := by kernel_rfl
theorem tI_29 : tI prog 29 = some (false, 1) := by kernel_rfl
theorem zI_29 : zI prog 29 = some [.fslice []] := by kernel_rfl
theorem gZ : eI prog 29 = some (true, 5) := by kernel_rfl
theorem j8 : eB prog 29 = some 80 := by kernel_rfl
theorem j6 : eZ prog 29 = some [.int .i64 0, .int .i64 0, .str ⟨#[]⟩, .fslice [], .fslice []] := by kernel_rfl
theorem tI_31 : tI prog 31 = some (false, 1) := by kernel_rfl
theorem zI_31 : zI prog 31 = some [.fslice []] := by kernel_rfl
theorem aN : eI prog 31 = some (true, 4) := by kernel_rfl
theorem bF : eB prog 31 = some 56 := by kernel_rfl
theorem bE : eZ prog 31 = some [.int .i64 0, .int .i64 0, .str ⟨#[]⟩, .fslice []] := by kernel_rfl
theorem tI_40 : tI prog 40 = some (true, 6) := by kernel_rfl
theorem zI_40 : zI prog 40 = some [.fslice [], .fslice [], .int .i64 0, .int .i64 0, .int .i64 0, .int .i64 0] := by kernel_rfl
theorem aFX : fI prog 40 0 = some (0, false, 1) := by kernel_rfl
theorem aA2 : fI prog 40 1 = some (1, false, 1) := by kernel_rfl
theorem aCK : fI prog 40 2 = some (2, false, 1) := by kernel_rfl
theorem Y9 : fI prog 40 3 = some (3, false, 1) := by kernel_rfl
theorem aHO : fI prog 40 4 = some (4, false, 1) := by kernel_rfl
theorem aH0 : fI prog 40 5 = some (5, false, 1) := by kernel_rfl
theorem Y4 : bI prog 40 = some [(0, 1), (1, 1), (2, 1), (3, 1), (4, 1), (5, 1)] := by kernel_rfl
theorem tI_41 : tI prog 41 = some (true, 6) := by kernel_rfl
theorem zI_41 : zI prog 41 = some [.fslice [], .fslice [], .int .i64 0, .int .i64 0, .int .i64 0, .int .i64 0] := by kernel_rfl
theorem aYH : fI prog 41 0 = some (0, false, 1) := by kernel_rfl
theorem aP6 : fI prog 41 1 = some (1, false, 1) := by kernel_rfl
theorem aXN : fI prog 41 2 = some (2, false, 1) := by kernel_rfl
theorem aSU : fI prog 41 3 = some (3, false, 1) := by kernel_rfl
theorem aP1 : fI prog 41 4 = some (4, false, 1) := by kernel_rfl
theorem aRX : fI prog 41 5 = some (5, false, 1) := by kernel_rfl
theorem aST : bI prog 41 = some [(0, 1), (1, 1), (2, 1), (3, 1), (4, 1), (5, 1)] := by kernel_rfl
theorem tI_44 : tI prog 44 = some (true, 6) := by kernel_rfl
theorem zI_44 : zI prog 44 = some [.fslice [], .fslice [], .int .i64 0, .int .i64 0, .int .i64 0, .int .i64 0] := by kernel_rfl
theorem aAS : fI prog 44 0 = some (0, false, 1) := by kernel_rfl
theorem aLN : fI prog 44 1 = some (1, false, 1) := by kernel_rfl
theorem Z9 : fI prog 44 2 = some (2, false, 1) := by kernel_rfl
theorem aE8 : fI prog 44 3 = some (3, false, 1) := by kernel_rfl
theorem YC : fI prog 44 4 = some (4, false, 1) := by kernel_rfl
theorem aJ0 : fI prog 44 5 = some (5, false, 1) := by kernel_rfl
theorem UF : bI prog 44 = some [(0, 1), (1, 1), (2, 1), (3, 1), (4, 1), (5, 1)] := by kernel_rfl
theorem tI_51 : tI prog 51 = some (false, 1) := by kernel_rfl
theorem zI_51 : zI prog 51 = some [.fslice []] := by kernel_rfl
theorem dV : eI prog 51 = some (false, 1) := by kernel_rfl
theorem fS : eB prog 51 = some 8 := by kernel_rfl
theorem fV : eZ prog 51 = some [.int .i64 0] := by kernel_rfl
theorem tI_57 : tI prog 57 = some (false, 1) := by kernel_rfl
theorem zI_57 : zI prog 57 = some [.fslice []] := by kernel_rfl
theorem tL : eI prog 57 = some (false, 1) := by kernel_rfl
theorem B1 : eB prog 57 = some 1 := by kernel_rfl
theorem AP : eZ prog 57 = some [.int .u8 0] := by kernel_rfl
theorem tI_63 : tI prog 63 = some (true, 4) := by kernel_rfl
theorem zI_63 : zI prog 63 = some [.int .i64 0, .int .i64 0, .str ⟨#[]⟩, .fslice []] := by kernel_rfl
theorem aO5 : zV prog 63 = some (.agg [.int .i64 0, .int .i64 0, .str ⟨#[]⟩, .fslice []]) := by kernel_rfl
theorem bS : fI prog 63 0 = some (0, false, 1) := by kernel_rfl
theorem bR : fI prog 63 1 = some (1, false, 1) := by kernel_rfl
theorem bP : fI prog 63 2 = some (2, false, 1) := by kernel_rfl
theorem bQ : fI prog 63 3 = some (3, false, 1) := by kernel_rfl
theorem bT : bI prog 63 = some [(0, 1), (1, 1), (2, 1), (3, 1)] := by kernel_rfl
theorem tI_66 : tI prog 66 = some (true, 4) := by kernel_rfl
theorem zI_66 : zI prog 66 = some [.int .i64 0, .int .i64 0, .str ⟨#[]⟩, .fslice []] := by kernel_rfl
theorem YE : fI prog 66 0 = some (0, false, 1) := by kernel_rfl
theorem SV : fI prog 66 1 = some (1, false, 1) := by kernel_rfl
theorem UX : fI prog 66 2 = some (2, false, 1) := by kernel_rfl
theorem aGS : fI prog 66 3 = some (3, false, 1) := by kernel_rfl
theorem aD7 : bI prog 66 = some [(0, 1), (1, 1), (2, 1), (3, 1)] := by kernel_rfl
theorem tI_76 : tI prog 76 = some (true, 5) := by kernel_rfl
theorem zI_76 : zI prog 76 = some [.int .i64 0, .int .i64 0, .str ⟨#[]⟩, .fslice [], .fslice []] := by kernel_rfl
theorem lF : fI prog 76 0 = some (0, true, 4) := by kernel_rfl
theorem lI : fI prog 76 1 = some (4, false, 1) := by kernel_rfl
theorem lS : bI prog 76 = some [(0, 4), (4, 1)] := by kernel_rfl
theorem tI_82 : tI prog 82 = some (true, 1) := by kernel_rfl
theorem zI_82 : zI prog 82 = some [.fslice []] := by kernel_rfl
theorem C3 : fI prog 82 0 = some (0, false, 1) := by kernel_rfl
theorem AG : bI prog 82 = some [(0, 1)] := by kernel_rfl
theorem tI_90 : tI prog 90 = some (false, 1) := by kernel_rfl
theorem zI_90 : zI prog 90 = some [.nilptr] := by kernel_rfl
theorem tI_100 : tI prog 100 = some (false, 1) := by kernel_rfl
theorem zI_100 : zI prog 100 = some [.fslice []] := by kernel_rfl
theorem uL : eI prog 100 = some (true, 5) := by kernel_rfl
theorem yC : eB prog 100 = some 64 := by kernel_rfl
theorem yO : eZ prog 100 = some [.int .i64 0, .int .i64 0, .str ⟨#[]⟩, .fslice [], .int .i64 0] := by kernel_rfl
theorem tI_101 : tI prog 101 = some (false, 1) := by kernel_rfl
theorem zI_101 : zI prog 101 = some [.fslice []] := by kernel_rfl
theorem rR : eI prog 101 = some (true, 7) := by kernel_rfl
theorem wS : eB prog 101 = some 128 := by kernel_rfl
theorem vR : eZ prog 101 = some [.int .i64 0, .int .i64 0, .str ⟨#[]⟩, .fslice [], .fslice [], .fslice [], .fslice []] := by kernel_rfl
theorem tI_103 : tI prog 103 = some (true, 3) := by kernel_rfl
theorem zI_103 : zI prog 103 = some [.fslice [], .fslice [], .fslice []] := by kernel_rfl
theorem D7 : fI prog 103 0 = some (0, false, 1) := by kernel_rfl
theorem DU : fI prog 103 1 = some (1, false, 1) := by kernel_rfl
theorem EC : fI prog 103 2 = some (2, false, 1) := by kernel_rfl
theorem GK : bI prog 103 = some [(0, 1), (1, 1), (2, 1)] := by kernel_rfl
theorem tI_112 : tI prog 112 = some (false, 1) := by kernel_rfl
theorem zI_112 : zI prog 112 = some [.nilptr] := by kernel_rfl
theorem tI_124 : tI prog 124 = some (true, 2) := by kernel_rfl
theorem zI_124 : zI prog 124 = some [.fslice [], .int .i64 0] := by kernel_rfl
theorem MA : fI prog 124 0 = some (0, false, 1) := by kernel_rfl
theorem OJ : fI prog 124 1 = some (1, false, 1) := by kernel_rfl
theorem OX : bI prog 124 = some [(0, 1), (1, 1)] := by kernel_rfl
theorem tI_125 : tI prog 125 = some (false, 1) := by kernel_rfl
theorem zI_125 : zI prog 125 = some [.fslice []] := by kernel_rfl
theorem iV : eI prog 125 = some (false, 1) := by kernel_rfl
theorem lO : eB prog 125 = some 16 := by kernel_rfl
theorem lJ : eZ prog 125 = some [.str ⟨#[]⟩] := by kernel_rfl
theorem tI_130 : tI prog 130 = some (false, 1) := by kernel_rfl
theorem zI_130 : zI prog 130 = some [.fslice []] := by kernel_rfl
theorem ZV : eI prog 130 = some (false, 1) := by kernel_rfl
theorem aM8 : eB prog 130 = some 24 := by kernel_rfl
theorem a0L : eZ prog 130 = some [.fslice []] := by kernel_rfl
theorem tI_146 : tI prog 146 = some (true, 7) := by kernel_rfl
theorem zI_146 : zI prog 146 = some [.int .i64 0, .int .i64 0, .str ⟨#[]⟩, .fslice [], .fslice [], .fslice [], .fslice []] := by kernel_rfl
theorem O9 : fI prog 146 0 = some (0, true, 4) := by kernel_rfl
theorem QR : fI prog 146 1 = some (4, false, 1) := by kernel_rfl
theorem MR : fI prog 146 2 = some (5, false, 1) := by kernel_rfl
theorem LQ : fI prog 146 3 = some (6, false, 1) := by kernel_rfl
theorem M4 : bI prog 146 = some [(0, 4), (4, 1), (5, 1), (6, 1)] := by kernel_rfl
theorem tI_148 : tI prog 148 = some (false, 1) := by kernel_rfl
theorem zI_148 : zI prog 148 = some [.nilptr] := by kernel_rfl
theorem tI_150 : tI prog 150 = some (false, 1) := by kernel_rfl
theorem zI_150 : zI prog 150 = some [.nilptr] := by kernel_rfl
theorem tI_151 : tI prog 151 = some (false, 1) := by kernel_rfl
theorem zI_151 : zI prog 151 = some [.fslice []] := by kernel_rfl
theorem xV : eI prog 151 = some (true, 9) := by kernel_rfl
theorem IN : eB prog 151 = some 112 := by kernel_rfl
theorem JW : eZ prog 151 = some [.int .i64 0, .int .i64 0, .str ⟨#[]⟩, .fslice [], .int .i64 0, .nilptr, .fslice [], .int .i64 0, .int .i64 0] := by kernel_rfl
theorem tI_152 : tI prog 152 = some (false, 1) := by kernel_rfl
theorem zI_152 : zI prog 152 = some [.fslice []] := by kernel_rfl
theorem CV : eI prog 152 = some (true, 6) := by kernel_rfl
theorem H5 : eB prog 152 = some 72 := by kernel_rfl
theorem HY : eZ prog 152 = some [.int .i64 0, .int .i64 0, .str ⟨#[]⟩, .fslice [], .int .i64 0, .int .i64 0] := by kernel_rfl
theorem tI_154 : tI prog 154 = some (true, 12) := by kernel_rfl
theorem zI_154 : zI prog 154 = some [.nilptr, .fslice [], .fslice [], .bool false, .bool false, .int .i64 0, .int .i64 0, .int .i64 0, .nilptr, .fslice [], .fslice [], .int .i64 0] := by kernel_rfl
theorem FB : fI prog 154 0 = some (0, false, 1) := by kernel_rfl
theorem D3 : fI prog 154 1 = some (1, false, 1) := by kernel_rfl
theorem EJ : fI prog 154 2 = some (2, false, 1) := by kernel_rfl
theorem FR : fI prog 154 3 = some (3, false, 1) := by kernel_rfl
theorem EZ : fI prog 154 4 = some (4, false, 1) := by kernel_rfl
theorem EQ : fI prog 154 5 = some (5, false, 1) := by kernel_rfl
theorem DN : fI prog 154 6 = some (6, false, 1) := by kernel_rfl
theorem FG : fI prog 154 7 = some (7, false, 1) := by kernel_rfl
theorem GF : fI prog 154 8 = some (8, false, 1) := by kernel_rfl
theorem DQ : fI prog 154 9 = some (9, false, 1) := by kernel_rfl
theorem FX : fI prog 154 10 = some (10, false, 1) := by kernel_rfl
theorem EI : fI prog 154 11 = some (11, false, 1) := by kernel_rfl
theorem FZ : bI prog 154 = some [(0, 1), (1, 1), (2, 1), (3, 1), (4, 1), (5, 1), (6, 1), (7, 1), (8, 1), (9, 1), (10, 1), (11, 1)] := by kernel_rfl
theorem tI_167 : tI prog 167 = some (true, 5) := by kernel_rfl
theorem zI_167 : zI prog 167 = some [.int .i64 0, .int .i64 0, .str ⟨#[]⟩, .fslice [], .int .i64 0] := by kernel_rfl
theorem XM : fI prog 167 0 = some (0, true, 4) := by kernel_rfl
theorem WE : fI prog 167 1 = some (4, false, 1) := by kernel_rfl
theorem aC9 : bI prog 167 = some [(0, 4), (4, 1)] := by kernel_rfl
theorem tI_181 : tI prog 181 = some (false, 1) := by kernel_rfl
theorem zI_181 : zI prog 181 = some [.nilmap] := by kernel_rfl
theorem tI_183 : tI prog 183 = some (true, 2) := by kernel_rfl
theorem zI_183 : zI prog 183 = some [.nilmap, .fslice []] := by kernel_rfl
theorem B3 : fI prog 183 0 = some (0, false, 1) := by kernel_rfl
theorem CE : fI prog 183 1 = some (1, false, 1) := by kernel_rfl
theorem AM : bI prog 183 = some [(0, 1), (1, 1)] := by kernel_rfl
theorem tI_185 : tI prog 185 = some (true, 7) := by kernel_rfl
theorem zI_185 : zI prog 185 = some [.int .i64 0, .int .i64 0, .str ⟨#[]⟩, .fslice [], .int .i64 0, .int .i64 0, .nilptr] := by kernel_rfl
theorem aAM : fI prog 185 0 = some (0, true, 4) := by kernel_rfl
theorem aIS : fI prog 185 1 = some (4, false, 1) := by kernel_rfl
theorem aAF : fI prog 185 2 = some (5, false, 1) := by kernel_rfl
theorem aIE : fI prog 185 3 = some (6, false, 1) := by kernel_rfl
theorem aDN : bI prog 185 = some [(0, 4), (4, 1), (5, 1), (6, 1)] := by kernel_rfl
theorem tI_189 : tI prog 189 = some (true, 6) := by kernel_rfl
theorem zI_189 : zI prog 189 = some [.int .i64 0, .int .i64 0, .str ⟨#[]⟩, .fslice [], .int .i64 0, .int .i64 0] := by kernel_rfl
theorem VW : fI prog 189 0 = some (0, true, 4) := by kernel_rfl
theorem aB5 : fI prog 189 1 = some (4, false, 1) := by kernel_rfl
theorem YA : fI prog 189 2 = some (5, false, 1) := by kernel_rfl
theorem aFD : bI prog 189 = some [(0, 4), (4, 1), (5, 1)] := by kernel_rfl
theorem tI_193 : tI prog 193 = some (true, 2) := by kernel_rfl
theorem zI_193 : zI prog 193 = some [.str ⟨#[]⟩, .int .i64 0] := by kernel_rfl
theorem NA : fI prog 193 0 = some (0, false, 1) := by kernel_rfl
theorem Q7 : fI prog 193 1 = some (1, false, 1) := by kernel_rfl
theorem NO : bI prog 193 = some [(0, 1), (1, 1)] := by kernel_rfl
theorem tI_198 : tI prog 198 = some (true, 9) := by kernel_rfl
theorem zI_198 : zI prog 198 = some [.int .i64 0, .int .i64 0, .str ⟨#[]⟩, .fslice [], .int .i64 0, .nilptr, .fslice [], .int .i64 0, .int .i64 0] := by kernel_rfl
theorem QO : fI prog 198 0 = some (0, true, 4) := by kernel_rfl
theorem O7 : fI prog 198 1 = some (4, false, 1) := by kernel_rfl
theorem OO : fI prog 198 2 = some (5, false, 1) := by kernel_rfl
theorem N2 : fI prog 198 3 = some (6, false, 1) := by kernel_rfl
theorem P9 : fI prog 198 4 = some (7, false, 1) := by kernel_rfl
theorem M8 : fI prog 198 5 = some (8, false, 1) := by kernel_rfl
theorem LT : bI prog 198 = some [(0, 4), (4, 1), (5, 1), (6, 1), (7, 1), (8, 1)] := by kernel_rfl
theorem tI_216 : tI prog 216 = some (false, 1) := by kernel_rfl
theorem zI_216 : zI prog 216 = some [.nilptr] := by kernel_rfl
theorem tI_239 : tI prog 239 = some (false, 1) := by kernel_rfl
theorem zI_239 : zI prog 239 = some [.nilmap] := by kernel_rfl
theorem mixed : prog.follows .mixedOrders = true := by kernel_rfl
theorem wF {P : Program} {g : FuncId} {fn : Func} {c : Code} {args : List AV} {st : aB} {N : Nat} {rs : List ResultVar} {K : AV → aB → Prop} (mt : List Nat) (k : Nat) (hf : P.funcs[g]? = some fn) (hN : fn.ntmps = N) (hr : fn.results = rs.toArray) (hb : fn.body = some c) (e : eE args → fX P N mt c (EH P rs.toArray K) (sM 0 args) st) (hn : (fn.name == "runtime.NumGoroutine") = false := by kernel_rfl) (hok : codeOk N c = true := by decide +kernel) (ha : args.length = k := by rfl) (hk : k ≤ N := by decide +kernel) : aD P g args st K :=
 zw6 mt hf hN hr hb hn hok (by rw [ha]; exact hk) e
theorem wP {P : Program} {N : Nat} {id : Nat} {l : List Oper} {Q : Exit → AF → aB → Prop} {φ : AF} {st : aB} (p : List (Nat × Nat)) (S : List Nat) (hm : P.follows .mixedOrders = true) (h : jR P l.toArray (Q .normal) p φ st) (hok : oX N l.toArray = true := by decide +kernel) (hl : p.length = l.length := by decide +kernel) (hB : rI l.toArray S p (Array.replicate l.length false) = true := by decide +kernel) : gD P N (.region id l.toArray true) Q φ st :=
 zx5 p S hm hok hl hB h
theorem wX {P : Program} {N : Nat} {id : Nat} {l : List Oper} {Q : Exit → AF → aB → Prop} {φ : AF} {st : aB} (p : List (Nat × Nat)) (S : List Nat) (s0 : aB) (hm : P.follows .mixedOrders = true) (hf : AU p = true) (hs : fJ s0 st) (h : jE P l.toArray s0 (Q .normal) p φ st) (hok : oX N l.toArray = true := by decide +kernel) (hl : p.length = l.length := by decide +kernel) (hB : rK l.toArray S p (Array.replicate l.length false) = true := by decide +kernel) : gD P N (.region id l.toArray true) Q φ st :=
 CH p S s0 hm hok hl hB hf hs h
theorem fC {sz : Nat} {x : AV} (h1 : x.width = sz) (h2 : x.cells.all AV.storable = true) : tE sz [x] := by intro e he; simp only [cY, dP, d4] at he; subst he; exact ⟨h1, h2⟩
theorem bK {n : Int} (h1 : -9223372036854775808 ≤ n := by omega) (h2 : n ≤ 9223372036854775807 := by omega) : IntKind.wrap .i64 n = n := wrap64 h1 h2
theorem KT : type_of% @Go.Proofs.Tryz.underlying2 := @Go.Proofs.Tryz.underlying2
theorem aX : type_of% @Go.Proofs.Tryz.underlying3 := @Go.Proofs.Tryz.underlying3
theorem cF : type_of% @Go.Proofs.Tryz.underlying4 := @Go.Proofs.Tryz.underlying4
theorem kN : type_of% @Go.Proofs.Tryz.underlying5 := @Go.Proofs.Tryz.underlying5
theorem uU6 : type_of% @Go.Proofs.Tryz.underlying6 := @Go.Proofs.Tryz.underlying6
theorem cH : type_of% @Go.Proofs.Tryz.underlying9 := @Go.Proofs.Tryz.underlying9
theorem aXM : type_of% @Go.Proofs.Tryz.underlying10 := @Go.Proofs.Tryz.underlying10
theorem W8 : type_of% @Go.Proofs.Tryz.underlying23 := @Go.Proofs.Tryz.underlying23
theorem vO : type_of% @Go.Proofs.Tryz.underlying26 := @Go.Proofs.Tryz.underlying26
theorem kU : type_of% @Go.Proofs.Tryz.underlying29 := @Go.Proofs.Tryz.underlying29
theorem b9 : type_of% @Go.Proofs.Tryz.underlying31 := @Go.Proofs.Tryz.underlying31
theorem gA : type_of% @Go.Proofs.Tryz.underlying51 := @Go.Proofs.Tryz.underlying51
theorem yX : type_of% @Go.Proofs.Tryz.underlying57 := @Go.Proofs.Tryz.underlying57
theorem F6 : type_of% @Go.Proofs.Tryz.underlying100 := @Go.Proofs.Tryz.underlying100
theorem AL : type_of% @Go.Proofs.Tryz.underlying101 := @Go.Proofs.Tryz.underlying101
theorem mO : type_of% @Go.Proofs.Tryz.underlying125 := @Go.Proofs.Tryz.underlying125
theorem aYP : type_of% @Go.Proofs.Tryz.underlying130 := @Go.Proofs.Tryz.underlying130
theorem OA : type_of% @Go.Proofs.Tryz.underlying151 := @Go.Proofs.Tryz.underlying151
theorem PZ : type_of% @Go.Proofs.Tryz.underlying152 := @Go.Proofs.Tryz.underlying152
theorem yW : type_of% @Go.Proofs.Tryz.underlying181 := @Go.Proofs.Tryz.underlying181
theorem DM : type_of% @Go.Proofs.Tryz.underlying239 := @Go.Proofs.Tryz.underlying239
end Go.AW
