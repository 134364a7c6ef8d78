/- The contracts of advanced, counted. -/
import Derived.Test.YtljpcnhkheoiiaaWalkA
namespace Go.Proofs.Ytljpcnhkheoiiaa
open Go.ChangeShapes Go.WideShapes Go.ChangeAt Go.RowKit

/-- The tokens of a right bucket at a time. -/
def adL (l a m e n : Int) : Int := if n ≤ a then l else if m - l ≤ (n - a) / e then m else l + (n - a) / e
def adA (l a m e n : Int) : Int := if n ≤ a then a else if m - l ≤ (n - a) / e then n else a + (n - a) / e * e

theorem ret_agg {a b c d a' b' : Int} (h : a = a') (h' : b = b') : Ending.returned (.agg #[.int .i64 a, .int .i64 b, .int .i64 c, .int .i64 d]) = .returned (.agg #[.int .i64 a', .int .i64 b', .int .i64 c, .int .i64 d]) := by rw [h, h']

theorem adL1 {l a m e n : Int} (h : n ≤ a) : adL l a m e n = l := by unfold adL; rw [if_pos h]
theorem adA1 {l a m e n : Int} (h : n ≤ a) : adA l a m e n = a := by unfold adA; rw [if_pos h]
theorem adL2 {l a m e n : Int} (h : a < n) (h' : m - l ≤ (n - a) / e) : adL l a m e n = m := by unfold adL; rw [if_neg (by omega), if_pos h']
theorem adA2 {l a m e n : Int} (h : a < n) (h' : m - l ≤ (n - a) / e) : adA l a m e n = n := by unfold adA; rw [if_neg (by omega), if_pos h']
theorem adL3 {l a m e n : Int} (h : a < n) (h' : (n - a) / e < m - l) : adL l a m e n = l + (n - a) / e := by unfold adL; rw [if_neg (by omega), if_neg (by omega)]
theorem adA3 {l a m e n : Int} (h : a < n) (h' : (n - a) / e < m - l) : adA l a m e n = a + (n - a) / e * e := by unfold adA; rw [if_neg (by omega), if_neg (by omega)]

set_option maxHeartbeats 400000 in
theorem adv_any (l a m e n : Int) (w : World) (h1 : 1 ≤ m) (h2 : m ≤ 1000000) (h3 : 1 ≤ e) (h4 : e ≤ 1000000000) (h5 : 0 ≤ l) (h6 : l ≤ m) (h7 : 0 ≤ a) (h8 : a ≤ 1000000000) (n1 : -9223372036854775808 ≤ n) (n2 : n ≤ 9223372036854775807) :
    Calls Try.prog 21 #[.agg #[.int .i64 l, .int .i64 a, .int .i64 m, .int .i64 e], .int .i64 n] w fun x w' => x = .returned (.agg #[.int .i64 (adL l a m e n), .int .i64 (adA l a m e n), .int .i64 m, .int .i64 e]) ∧ Below w.heap.size w w' := by
  by_cases hn : n ≤ a
  · by_cases hn' : n < a
    · by_cases hm : m ≤ l
      · go_enter Try.func21, Try.ntmps21
        go_wp2
        refine bodyPost_ret (v := .agg #[.int .i64 m, .int .i64 a, .int .i64 m, .int .i64 e]) (by simp [results, Try.results21, go_sem]) rfl ⟨ret_agg (by rw [adL1 hn]; omega) (by rw [adA1 hn]), ?_⟩
        repeat (first | exact Below.refl _ _ | refine below_drewN ?_ _ | refine Below.drew ?_ | refine Below.alloc ?_ (by simp <;> omega) _)
      · go_enter Try.func21, Try.ntmps21
        go_wp2
        refine bodyPost_ret (v := .agg #[.int .i64 l, .int .i64 a, .int .i64 m, .int .i64 e]) (by simp [results, Try.results21, go_sem]) rfl ⟨ret_agg (by rw [adL1 hn]) (by rw [adA1 hn]), ?_⟩
        repeat (first | exact Below.refl _ _ | refine below_drewN ?_ _ | refine Below.drew ?_ | refine Below.alloc ?_ (by simp <;> omega) _)
    · obtain rfl : n = a := by omega
      by_cases hm : m ≤ l
      · go_enter Try.func21, Try.ntmps21
        go_wp2
        refine bodyPost_ret (v := .agg #[.int .i64 m, .int .i64 n, .int .i64 m, .int .i64 e]) (by simp [results, Try.results21, go_sem]) rfl ⟨ret_agg (by rw [adL1 hn]; omega) (by rw [adA1 hn]), ?_⟩
        repeat (first | exact Below.refl _ _ | refine below_drewN ?_ _ | refine Below.drew ?_ | refine Below.alloc ?_ (by simp <;> omega) _)
      · go_enter Try.func21, Try.ntmps21
        go_wp2
        refine bodyPost_ret (v := .agg #[.int .i64 l, .int .i64 n, .int .i64 m, .int .i64 e]) (by simp [results, Try.results21, go_sem]) rfl ⟨ret_agg (by rw [adL1 hn]) (by rw [adA1 hn]), ?_⟩
        repeat (first | exact Below.refl _ _ | refine below_drewN ?_ _ | refine Below.drew ?_ | refine Below.alloc ?_ (by simp <;> omega) _)
  · have hk0 : 0 ≤ (n - a) / e := Int.ediv_nonneg (by omega) (by omega)
    have hk1 : (n - a) / e * e ≤ n - a := Int.ediv_mul_le _ (by omega)
    have hk3 : 0 ≤ (n - a) / e * e := Int.mul_nonneg hk0 (by omega)
    have hk2 : (n - a) / e ≤ n - a := Int.ediv_le_self _ (by omega)
    by_cases hm : m - l ≤ (n - a) / e
    · go_enter Try.func21, Try.ntmps21
      go_wp2
      refine bodyPost_ret (v := .agg #[.int .i64 m, .int .i64 n, .int .i64 m, .int .i64 e]) (by simp [results, Try.results21, go_sem]) rfl ⟨ret_agg (by rw [adL2 hn hm]) (by rw [adA2 hn hm]), ?_⟩
      repeat (first | exact Below.refl _ _ | refine below_drewN ?_ _ | refine Below.drew ?_ | refine Below.alloc ?_ (by simp <;> omega) _)
    · go_enter Try.func21, Try.ntmps21
      go_wp2
      refine bodyPost_ret (v := .agg #[.int .i64 (l + (n - a) / e), .int .i64 (a + (n - a) / e * e), .int .i64 m, .int .i64 e]) (by simp [results, Try.results21, go_sem]) rfl ⟨ret_agg (by rw [adL3 hn hm]) (by rw [adA3 hn hm]), ?_⟩
      repeat (first | exact Below.refl _ _ | refine below_drewN ?_ _ | refine Below.drew ?_ | refine Below.alloc ?_ (by simp <;> omega) _)

set_option maxHeartbeats 400000 in
theorem cnt_any (l a m e n : Int) (w : World) (h1 : 1 ≤ m) (h2 : m ≤ 1000000) (h3 : 1 ≤ e) (h4 : e ≤ 1000000000) (h5 : 0 ≤ l) (h6 : l ≤ m) (h7 : 0 ≤ a) (h8 : a ≤ 1000000000) (n1 : -9223372036854775808 ≤ n) (n2 : n ≤ 9223372036854775807) :
    Calls Try.prog 22 #[.agg #[.int .i64 l, .int .i64 a, .int .i64 m, .int .i64 e], .int .i64 n] w fun x w' => x = .returned (.agg #[.int .i64 (adL l a m e n), .int .i64 (adA l a m e n), .int .i64 m, .int .i64 e]) ∧ Below w.heap.size w w' := by
  by_cases hn : n ≤ a
  · by_cases hm : m ≤ l
    · go_enter Try.func22, Try.ntmps22
      go_wp2
      refine bodyPost_ret (v := .agg #[.int .i64 m, .int .i64 a, .int .i64 m, .int .i64 e]) (by simp [results, Try.results22, go_sem]) rfl ⟨ret_agg (by rw [adL1 hn]; omega) (by rw [adA1 hn]), ?_⟩
      repeat (first | exact Below.refl _ _ | refine below_drewN ?_ _ | refine Below.drew ?_ | refine Below.alloc ?_ (by simp <;> omega) _)
    · go_enter Try.func22, Try.ntmps22
      go_wp2
      refine bodyPost_ret (v := .agg #[.int .i64 l, .int .i64 a, .int .i64 m, .int .i64 e]) (by simp [results, Try.results22, go_sem]) rfl ⟨ret_agg (by rw [adL1 hn]) (by rw [adA1 hn]), ?_⟩
      repeat (first | exact Below.refl _ _ | refine below_drewN ?_ _ | refine Below.drew ?_ | refine Below.alloc ?_ (by simp <;> omega) _)
  · have hk0 : 0 ≤ (n - a) / e := Int.ediv_nonneg (by omega) (by omega)
    have hk1 : (n - a) / e * e ≤ n - a := Int.ediv_mul_le _ (by omega)
    have hk3 : 0 ≤ (n - a) / e * e := Int.mul_nonneg hk0 (by omega)
    have hk2 : (n - a) / e ≤ n - a := Int.ediv_le_self _ (by omega)
    by_cases hm : m - l ≤ (n - a) / e
    · go_enter Try.func22, Try.ntmps22
      go_wp2
      refine bodyPost_ret (v := .agg #[.int .i64 m, .int .i64 n, .int .i64 m, .int .i64 e]) (by simp [results, Try.results22, go_sem]) rfl ⟨ret_agg (by rw [adL2 hn hm]) (by rw [adA2 hn hm]), ?_⟩
      repeat (first | exact Below.refl _ _ | refine below_drewN ?_ _ | refine Below.drew ?_ | refine Below.alloc ?_ (by simp <;> omega) _)
    · go_enter Try.func22, Try.ntmps22
      go_wp2
      refine bodyPost_ret (v := .agg #[.int .i64 (l + (n - a) / e), .int .i64 (a + (n - a) / e * e), .int .i64 m, .int .i64 e]) (by simp [results, Try.results22, go_sem]) rfl ⟨ret_agg (by rw [adL3 hn hm]) (by rw [adA3 hn hm]), ?_⟩
      repeat (first | exact Below.refl _ _ | refine below_drewN ?_ _ | refine Below.drew ?_ | refine Below.alloc ?_ (by simp <;> omega) _)
end Go.Proofs.Ytljpcnhkheoiiaa
