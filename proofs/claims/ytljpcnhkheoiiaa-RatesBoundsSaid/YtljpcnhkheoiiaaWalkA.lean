/- The contracts of the two Check functions. -/
import Derived.Test.YtljpcnhkheoiiaaRows
import Derived.WalkKit
import Derived.ProofKit
import Derived.OpenShut
import Derived.Outline
import Derived.Below
import Derived.BigQuiet
import Derived.Deep.QuietTactic
import Derived.Lib.Hide
namespace Go.Proofs.Ytljpcnhkheoiiaa
open Go.ChangeShapes Go.WideShapes Go.ChangeAt Go.RowKit

/-- The bucket as a value. -/
abbrev bkt (l a m e : Int) : Value := .agg #[.int .i64 l, .int .i64 a, .int .i64 m, .int .i64 e]

theorem below_drewN {B : Nat} {a w : World} (h : Below B a w) (n : Nat) : Below B a (w.drewN n) := ⟨h.os, h.tape, h.output, h.size, h.block⟩

set_option maxHeartbeats 400000 in
theorem check_yes (l a m e : Int) (w : World) (h1 : 1 ≤ m) (h2 : m ≤ 1000000) (h3 : 1 ≤ e) (h4 : e ≤ 1000000000) (h5 : 0 ≤ l) (h6 : l ≤ m) (h7 : 0 ≤ a) (h8 : a ≤ 1000000000) :
    Calls Try.prog 12 #[.agg #[.int .i64 l, .int .i64 a, .int .i64 m, .int .i64 e]] w fun x w' => x = .returned (.int .i64 0) ∧ Below w.heap.size w w' := by
  go_enter Try.func12, Try.ntmps12
  go_wp2
  refine wp_loop_rounds 5 ?_
  rw [rounds_succ]
  go_wp2
  go_quiet (fail)
  go_wp2
  rw [rounds_succ]
  go_wp2
  go_quiet (fail)
  go_wp2
  rw [rounds_succ]
  go_wp2
  go_quiet (fail)
  go_wp2
  rw [rounds_succ]
  go_wp2
  go_quiet (fail)
  go_wp2
  rw [rounds_succ]
  go_wp2
  go_ret
  refine ⟨rfl, ?_⟩
  repeat (first | exact Below.refl _ _ | refine below_drewN ?_ _ | refine Below.drew ?_ | refine Below.alloc ?_ (by simp <;> omega) _)

set_option maxHeartbeats 1000000 in
theorem check_no (l a m e : Int) (w : World) (h : ¬ (1 ≤ m ∧ m ≤ 1000000 ∧ 1 ≤ e ∧ e ≤ 1000000000 ∧ 0 ≤ l ∧ l ≤ m ∧ 0 ≤ a ∧ a ≤ 1000000000)) :
    Calls Try.prog 12 #[.agg #[.int .i64 l, .int .i64 a, .int .i64 m, .int .i64 e]] w fun x w' => x = .returned (.int .i64 2) ∧ Below w.heap.size w w' := by
  have H := Lib.hid h
  clear h
  go_enter Try.func12, Try.ntmps12
  go_wp2
  refine wp_loop_rounds 5 ?_
  rw [rounds_succ]
  go_wp2
  by_cases h1 : m < 1
  · go_quiet (fail)
    go_wp2
    go_ret
    refine ⟨rfl, ?_⟩
    repeat (first | exact Below.refl _ _ | refine below_drewN ?_ _ | refine Below.drew ?_ | refine Below.alloc ?_ (by simp <;> omega) _)
  by_cases h2 : 1000000 < m
  · go_quiet (fail)
    go_wp2
    go_ret
    refine ⟨rfl, ?_⟩
    repeat (first | exact Below.refl _ _ | refine below_drewN ?_ _ | refine Below.drew ?_ | refine Below.alloc ?_ (by simp <;> omega) _)
  go_quiet (fail)
  go_wp2
  rw [rounds_succ]
  go_wp2
  by_cases h3 : e < 1
  · go_quiet (fail)
    go_wp2
    go_ret
    refine ⟨rfl, ?_⟩
    repeat (first | exact Below.refl _ _ | refine below_drewN ?_ _ | refine Below.drew ?_ | refine Below.alloc ?_ (by simp <;> omega) _)
  by_cases h4 : 1000000000 < e
  · go_quiet (fail)
    go_wp2
    go_ret
    refine ⟨rfl, ?_⟩
    repeat (first | exact Below.refl _ _ | refine below_drewN ?_ _ | refine Below.drew ?_ | refine Below.alloc ?_ (by simp <;> omega) _)
  go_quiet (fail)
  go_wp2
  rw [rounds_succ]
  go_wp2
  by_cases h5 : l < 0
  · go_quiet (fail)
    go_wp2
    go_ret
    refine ⟨rfl, ?_⟩
    repeat (first | exact Below.refl _ _ | refine below_drewN ?_ _ | refine Below.drew ?_ | refine Below.alloc ?_ (by simp <;> omega) _)
  by_cases h6 : m < l
  · go_quiet (fail)
    go_wp2
    go_ret
    refine ⟨rfl, ?_⟩
    repeat (first | exact Below.refl _ _ | refine below_drewN ?_ _ | refine Below.drew ?_ | refine Below.alloc ?_ (by simp <;> omega) _)
  go_quiet (fail)
  go_wp2
  rw [rounds_succ]
  go_wp2
  by_cases h7 : a < 0
  · go_quiet (fail)
    go_wp2
    go_ret
    refine ⟨rfl, ?_⟩
    repeat (first | exact Below.refl _ _ | refine below_drewN ?_ _ | refine Below.drew ?_ | refine Below.alloc ?_ (by simp <;> omega) _)
  by_cases h8 : 1000000000 < a
  · go_quiet (fail)
    go_wp2
    go_ret
    refine ⟨rfl, ?_⟩
    repeat (first | exact Below.refl _ _ | refine below_drewN ?_ _ | refine Below.drew ?_ | refine Below.alloc ?_ (by simp <;> omega) _)
  exact absurd ⟨by omega, by omega, by omega, by omega, by omega, by omega, by omega, by omega⟩ H.out

set_option maxHeartbeats 400000 in
theorem rcheck_yes (l a m e : Int) (w : World) (h1 : 1 ≤ m) (h2 : m ≤ 1000000) (h3 : 1 ≤ e) (h4 : e ≤ 1000000000) (h5 : 0 ≤ l) (h6 : l ≤ m) (h7 : 0 ≤ a) (h8 : a ≤ 1000000000) :
    Calls Try.prog 13 #[.agg #[.int .i64 l, .int .i64 a, .int .i64 m, .int .i64 e]] w fun x w' => x = .returned (.int .i64 0) ∧ Below w.heap.size w w' := by
  go_enter Try.func13, Try.ntmps13
  go_wp2
  go_ret
  exact ⟨rfl, (Below.refl _ _).alloc (Nat.le_refl _) _⟩

set_option maxHeartbeats 1000000 in
theorem rcheck_no (l a m e : Int) (w : World) (h : ¬ (1 ≤ m ∧ m ≤ 1000000 ∧ 1 ≤ e ∧ e ≤ 1000000000 ∧ 0 ≤ l ∧ l ≤ m ∧ 0 ≤ a ∧ a ≤ 1000000000)) :
    Calls Try.prog 13 #[.agg #[.int .i64 l, .int .i64 a, .int .i64 m, .int .i64 e]] w fun x w' => x = .returned (.int .i64 2) ∧ Below w.heap.size w w' := by
  have H := Lib.hid h
  clear h
  by_cases h1 : m < 1 <;> try by_cases h2 : 1000000 < m <;> try by_cases h3 : e < 1 <;> try by_cases h4 : 1000000000 < e <;> try by_cases h5 : l < 0 <;> try by_cases h6 : m < l <;> try by_cases h7 : a < 0 <;> try by_cases h8 : 1000000000 < a
  all_goals (first | (exfalso; exact absurd ⟨by omega, by omega, by omega, by omega, by omega, by omega, by omega, by omega⟩ H.out) | skip)
  all_goals go_enter Try.func13, Try.ntmps13
  all_goals go_wp2
  all_goals go_ret
  all_goals exact ⟨rfl, (Below.refl _ _).alloc (Nat.le_refl _) _⟩
end Go.Proofs.Ytljpcnhkheoiiaa
