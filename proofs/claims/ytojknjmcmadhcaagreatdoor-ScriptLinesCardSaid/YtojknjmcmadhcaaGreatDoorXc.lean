/- The program starts no goroutine. -/
import Derived.Test.YtojknjmcmadhcaaGreatDoorXb
import GoSem.ClaimSeven
import Derived.SevenTiedAt

section
namespace Go.Proofs.R50.F

set_option maxRecDepth 100000 in
theorem g0 : (List.range' 0 20).all (fun g => !((Tryz.prog.funcs[g]?).any Func.goes)) = true := by kernel_rfl
set_option maxRecDepth 100000 in
theorem g1 : (List.range' 20 20).all (fun g => !((Tryz.prog.funcs[g]?).any Func.goes)) = true := by kernel_rfl
set_option maxRecDepth 100000 in
theorem g2 : (List.range' 40 20).all (fun g => !((Tryz.prog.funcs[g]?).any Func.goes)) = true := by kernel_rfl
set_option maxRecDepth 100000 in
theorem g3 : (List.range' 60 20).all (fun g => !((Tryz.prog.funcs[g]?).any Func.goes)) = true := by kernel_rfl
set_option maxRecDepth 100000 in
theorem g4 : (List.range' 80 20).all (fun g => !((Tryz.prog.funcs[g]?).any Func.goes)) = true := by kernel_rfl
set_option maxRecDepth 100000 in
theorem g5 : (List.range' 100 20).all (fun g => !((Tryz.prog.funcs[g]?).any Func.goes)) = true := by kernel_rfl
set_option maxRecDepth 100000 in
theorem g6 : (List.range' 120 20).all (fun g => !((Tryz.prog.funcs[g]?).any Func.goes)) = true := by kernel_rfl
set_option maxRecDepth 100000 in
theorem g7 : (List.range' 140 20).all (fun g => !((Tryz.prog.funcs[g]?).any Func.goes)) = true := by kernel_rfl
set_option maxRecDepth 100000 in
theorem g8 : (List.range' 160 20).all (fun g => !((Tryz.prog.funcs[g]?).any Func.goes)) = true := by kernel_rfl
set_option maxRecDepth 100000 in
theorem g9 : (List.range' 180 20).all (fun g => !((Tryz.prog.funcs[g]?).any Func.goes)) = true := by kernel_rfl
set_option maxRecDepth 100000 in
theorem g10 : (List.range' 200 20).all (fun g => !((Tryz.prog.funcs[g]?).any Func.goes)) = true := by kernel_rfl
set_option maxRecDepth 100000 in
theorem g11 : (List.range' 220 20).all (fun g => !((Tryz.prog.funcs[g]?).any Func.goes)) = true := by kernel_rfl
set_option maxRecDepth 100000 in
theorem g12 : (List.range' 240 20).all (fun g => !((Tryz.prog.funcs[g]?).any Func.goes)) = true := by kernel_rfl
set_option maxRecDepth 100000 in
theorem g13 : (List.range' 260 20).all (fun g => !((Tryz.prog.funcs[g]?).any Func.goes)) = true := by kernel_rfl
set_option maxRecDepth 100000 in
theorem g14 : (List.range' 280 20).all (fun g => !((Tryz.prog.funcs[g]?).any Func.goes)) = true := by kernel_rfl
set_option maxRecDepth 100000 in
theorem g15 : (List.range' 300 20).all (fun g => !((Tryz.prog.funcs[g]?).any Func.goes)) = true := by kernel_rfl
set_option maxRecDepth 100000 in
theorem g16 : (List.range' 320 20).all (fun g => !((Tryz.prog.funcs[g]?).any Func.goes)) = true := by kernel_rfl
set_option maxRecDepth 100000 in
theorem g17 : (List.range' 340 20).all (fun g => !((Tryz.prog.funcs[g]?).any Func.goes)) = true := by kernel_rfl
set_option maxRecDepth 100000 in
theorem g18 : (List.range' 360 20).all (fun g => !((Tryz.prog.funcs[g]?).any Func.goes)) = true := by kernel_rfl
set_option maxRecDepth 100000 in
theorem g19 : (List.range' 380 20).all (fun g => !((Tryz.prog.funcs[g]?).any Func.goes)) = true := by kernel_rfl
set_option maxRecDepth 100000 in
theorem g20 : (List.range' 400 20).all (fun g => !((Tryz.prog.funcs[g]?).any Func.goes)) = true := by kernel_rfl
set_option maxRecDepth 100000 in
theorem g21 : (List.range' 420 20).all (fun g => !((Tryz.prog.funcs[g]?).any Func.goes)) = true := by kernel_rfl
set_option maxRecDepth 100000 in
theorem g22 : (List.range' 440 20).all (fun g => !((Tryz.prog.funcs[g]?).any Func.goes)) = true := by kernel_rfl
set_option maxRecDepth 100000 in
theorem g23 : (List.range' 460 20).all (fun g => !((Tryz.prog.funcs[g]?).any Func.goes)) = true := by kernel_rfl
set_option maxRecDepth 100000 in
theorem g24 : (List.range' 480 20).all (fun g => !((Tryz.prog.funcs[g]?).any Func.goes)) = true := by kernel_rfl
set_option maxRecDepth 100000 in
theorem g25 : (List.range' 500 20).all (fun g => !((Tryz.prog.funcs[g]?).any Func.goes)) = true := by kernel_rfl
set_option maxRecDepth 100000 in
theorem g26 : (List.range' 520 20).all (fun g => !((Tryz.prog.funcs[g]?).any Func.goes)) = true := by kernel_rfl
set_option maxRecDepth 100000 in
theorem g27 : (List.range' 540 20).all (fun g => !((Tryz.prog.funcs[g]?).any Func.goes)) = true := by kernel_rfl
set_option maxRecDepth 100000 in
theorem g28 : (List.range' 560 20).all (fun g => !((Tryz.prog.funcs[g]?).any Func.goes)) = true := by kernel_rfl
set_option maxRecDepth 100000 in
theorem g29 : (List.range' 580 20).all (fun g => !((Tryz.prog.funcs[g]?).any Func.goes)) = true := by kernel_rfl
set_option maxRecDepth 100000 in
theorem g30 : (List.range' 600 20).all (fun g => !((Tryz.prog.funcs[g]?).any Func.goes)) = true := by kernel_rfl
set_option maxRecDepth 100000 in
theorem g31 : (List.range' 620 20).all (fun g => !((Tryz.prog.funcs[g]?).any Func.goes)) = true := by kernel_rfl
set_option maxRecDepth 100000 in
theorem g32 : (List.range' 640 20).all (fun g => !((Tryz.prog.funcs[g]?).any Func.goes)) = true := by kernel_rfl
set_option maxRecDepth 100000 in
theorem g33 : (List.range' 660 20).all (fun g => !((Tryz.prog.funcs[g]?).any Func.goes)) = true := by kernel_rfl
set_option maxRecDepth 100000 in
theorem g34 : (List.range' 680 20).all (fun g => !((Tryz.prog.funcs[g]?).any Func.goes)) = true := by kernel_rfl
set_option maxRecDepth 100000 in
theorem g35 : (List.range' 700 20).all (fun g => !((Tryz.prog.funcs[g]?).any Func.goes)) = true := by kernel_rfl
set_option maxRecDepth 100000 in
theorem g36 : (List.range' 720 20).all (fun g => !((Tryz.prog.funcs[g]?).any Func.goes)) = true := by kernel_rfl
set_option maxRecDepth 100000 in
theorem g37 : (List.range' 740 20).all (fun g => !((Tryz.prog.funcs[g]?).any Func.goes)) = true := by kernel_rfl
set_option maxRecDepth 100000 in
theorem g38 : (List.range' 760 20).all (fun g => !((Tryz.prog.funcs[g]?).any Func.goes)) = true := by kernel_rfl
set_option maxRecDepth 100000 in
theorem g39 : (List.range' 780 20).all (fun g => !((Tryz.prog.funcs[g]?).any Func.goes)) = true := by kernel_rfl
set_option maxRecDepth 100000 in
theorem g40 : (List.range' 800 20).all (fun g => !((Tryz.prog.funcs[g]?).any Func.goes)) = true := by kernel_rfl
theorem stills : ∀ j, j < 41 → (List.range' (20 * j) 20).all (fun g => !((Tryz.prog.funcs[g]?).any Func.goes)) = true
 | 0, _ => g0
 | 1, _ => g1
 | 2, _ => g2
 | 3, _ => g3
 | 4, _ => g4
 | 5, _ => g5
 | 6, _ => g6
 | 7, _ => g7
 | 8, _ => g8
 | 9, _ => g9
 | 10, _ => g10
 | 11, _ => g11
 | 12, _ => g12
 | 13, _ => g13
 | 14, _ => g14
 | 15, _ => g15
 | 16, _ => g16
 | 17, _ => g17
 | 18, _ => g18
 | 19, _ => g19
 | 20, _ => g20
 | 21, _ => g21
 | 22, _ => g22
 | 23, _ => g23
 | 24, _ => g24
 | 25, _ => g25
 | 26, _ => g26
 | 27, _ => g27
 | 28, _ => g28
 | 29, _ => g29
 | 30, _ => g30
 | 31, _ => g31
 | 32, _ => g32
 | 33, _ => g33
 | 34, _ => g34
 | 35, _ => g35
 | 36, _ => g36
 | 37, _ => g37
 | 38, _ => g38
 | 39, _ => g39
 | 40, _ => g40
 | n + 41, h => absurd h (by omega)
theorem still_at (g : Nat) : ((Tryz.prog.funcs[g]?).any Func.goes) = false := by
 by_cases h : g < 814
 ·have h2 := List.all_eq_true.1 (stills (g / 20) (by omega)) g (by
   rw [List.mem_range']
   exact ⟨g % 20, by omega, by omega⟩)
  simpa using h2
 ·rw [Array.getElem?_eq_none (by rw [nfuncs]; omega)]
  rfl
theorem no_goes : Tryz.prog.funcs.any Func.goes = false := by
 cases h : Tryz.prog.funcs.any Func.goes with
 | false => rfl
 | true =>
  exfalso
  obtain ⟨i, hi, he⟩ := Array.any_eq_true.1 h
  have h2 := still_at i
  rw [Array.getElem?_eq_getElem hi] at h2
  have h3 : Func.goes Tryz.prog.funcs[i] = false := h2
  rw [h3] at he
  cases he
theorem goes_none (f : FuncId) : Tryz.prog.goes f = false := by
 unfold Program.goes
 rw [no_goes, Bool.and_false, Bool.or_false, funext still_at]
 cases h : (Tryz.prog.closure f).any fun _ => false with
 | false => rfl
 | true => obtain ⟨_, _, h2⟩ := List.any_eq_true.1 h; cases h2
theorem goesFrom_none (s : String) : Tryz.prog.goesFrom s = false := by
 unfold Program.goesFrom
 cases Tryz.prog.funcNamed s with
 | none => rfl
 | some f => rw [Option.any_some, goes_none]
theorem goesBy_none {c : OpenClaim} (h : c.start = .entering) : false = c.goesBy Tryz.prog := by
 unfold OpenClaim.goesBy Program.goesAt
 rw [goesFrom_none, h]
 rfl
end Go.Proofs.R50.F
end
