/- The contracts of Wait. -/
import Derived.Test.YtljpcnhkheoiiaaWalkD
namespace Go.Proofs.Ytljpcnhkheoiiaa
open Go.ChangeShapes Go.WideShapes Go.ChangeAt Go.RowKit

set_option maxHeartbeats 400000 in
theorem wait_zero (l a m e t q : Int) (w : World) (h1 : 1 ≤ m) (h2 : m ≤ 1000000) (h3 : 1 ≤ e) (h4 : e ≤ 1000000000) (h5 : 0 ≤ l) (h6 : l ≤ m) (h7 : 0 ≤ a) (h8 : a ≤ 1000000000) (t1 : 0 ≤ t) (t2 : t ≤ 1000000000) (q1 : 1 ≤ q) (q2 : q ≤ adL l a m e t) :
    Calls Try.prog 19 #[.agg #[.int .i64 l, .int .i64 a, .int .i64 m, .int .i64 e], .int .i64 t, .int .i64 q] w fun x w' => x = .returned (.int .i64 0) ∧ Below w.heap.size w w' := by
  have hbd := adL_bd l a m e t h3 h6
  have kf := @fld0
  go_enter Try.func19, Try.ntmps19
  go_wp2_with fail
  refine (check_yes l a m e _ h1 h2 h3 h4 h5 h6 h7 h8).mono ?_
  rintro x w1 ⟨rfl, hb⟩
  obtain ⟨hc, hf⟩ := bcell hb
  have hz := hb.size
  simp at hz
  have z0 : w.heap.size < w1.heap.size := by omega
  go_wp2_with fail
  refine (adv_any l a m e t _ h1 h2 h3 h4 h5 h6 h7 h8 (by omega) (by omega)).mono ?_
  rintro x w2 ⟨rfl, hb2⟩
  obtain ⟨hc2, hf2⟩ := bcell hb2
  have hz2 := hb2.size
  have y0 : w.heap.size < w2.heap.size := by omega
  go_wp2_with fail
  go_ret
  refine ⟨rfl, ?_⟩
  repeat (first | exact Below.refl _ _ | refine below_drewN ?_ _ | refine Below.drew ?_ | refine Below.trans ?_ (Below.mono (by assumption) (by first | omega | (simp; done) | (simp; omega))) | refine Below.setCell ?_ (by first | omega | (simp; done) | (simp; omega)) _ | refine Below.alloc ?_ (by first | omega | (simp; done) | (simp; omega)) _)

set_option maxHeartbeats 400000 in
theorem wait_some (l a m e t q : Int) (w : World) (h1 : 1 ≤ m) (h2 : m ≤ 1000000) (h3 : 1 ≤ e) (h4 : e ≤ 1000000000) (h5 : 0 ≤ l) (h6 : l ≤ m) (h7 : 0 ≤ a) (h8 : a ≤ 1000000000) (t1 : 0 ≤ t) (t2 : t ≤ 1000000000) (q1 : 1 ≤ q) (q2 : adL l a m e t < q) (q3 : q ≤ m) (q4 : a + (q - l) * e ≤ 1000000000) :
    Calls Try.prog 19 #[.agg #[.int .i64 l, .int .i64 a, .int .i64 m, .int .i64 e], .int .i64 t, .int .i64 q] w fun x w' => x = .returned (.int .i64 (a + (q - l) * e - t)) ∧ Below w.heap.size w w' := by
  have hbd := adL_bd l a m e t h3 h6
  have hm0 : 0 ≤ (q - l) * e := Int.mul_nonneg (by omega) (by omega)
  have kf := @fld0
  go_enter Try.func19, Try.ntmps19
  go_wp2_with fail
  refine (check_yes l a m e _ h1 h2 h3 h4 h5 h6 h7 h8).mono ?_
  rintro x w1 ⟨rfl, hb⟩
  obtain ⟨hc, hf⟩ := bcell hb
  have hz := hb.size
  simp at hz
  have z0 : w.heap.size < w1.heap.size := by omega
  go_wp2_with fail
  refine (adv_any l a m e t _ h1 h2 h3 h4 h5 h6 h7 h8 (by omega) (by omega)).mono ?_
  rintro x w2 ⟨rfl, hb2⟩
  obtain ⟨hc2, hf2⟩ := bcell hb2
  have hz2 := hb2.size
  have y0 : w.heap.size < w2.heap.size := by omega
  go_wp2_with fail
  go_ret
  refine ⟨rfl, ?_⟩
  repeat (first | exact Below.refl _ _ | refine below_drewN ?_ _ | refine Below.drew ?_ | refine Below.trans ?_ (Below.mono (by assumption) (by first | omega | (simp; done) | (simp; omega))) | refine Below.setCell ?_ (by first | omega | (simp; done) | (simp; omega)) _ | refine Below.alloc ?_ (by first | omega | (simp; done) | (simp; omega)) _)

set_option maxHeartbeats 400000 in
theorem wait_late (l a m e t q : Int) (w : World) (h1 : 1 ≤ m) (h2 : m ≤ 1000000) (h3 : 1 ≤ e) (h4 : e ≤ 1000000000) (h5 : 0 ≤ l) (h6 : l ≤ m) (h7 : 0 ≤ a) (h8 : a ≤ 1000000000) (t1 : 0 ≤ t) (t2 : t ≤ 1000000000) (q1 : 1 ≤ q) (q2 : adL l a m e t < q) (q3 : q ≤ m) (q4 : 1000000000 < a + (q - l) * e) :
    Calls Try.prog 19 #[.agg #[.int .i64 l, .int .i64 a, .int .i64 m, .int .i64 e], .int .i64 t, .int .i64 q] w fun x w' => x = .returned (.int .i64 (-1)) ∧ Below w.heap.size w w' := by
  have hbd := adL_bd l a m e t h3 h6
  have hm0 : 0 ≤ (q - l) * e := Int.mul_nonneg (by omega) (by omega)
  have hm1 : (q - l) * e ≤ 1000000 * e := Int.mul_le_mul_of_nonneg_right (by omega) (by omega)
  have kf := @fld0
  go_enter Try.func19, Try.ntmps19
  go_wp2_with fail
  refine (check_yes l a m e _ h1 h2 h3 h4 h5 h6 h7 h8).mono ?_
  rintro x w1 ⟨rfl, hb⟩
  obtain ⟨hc, hf⟩ := bcell hb
  have hz := hb.size
  simp at hz
  have z0 : w.heap.size < w1.heap.size := by omega
  go_wp2_with fail
  refine (adv_any l a m e t _ h1 h2 h3 h4 h5 h6 h7 h8 (by omega) (by omega)).mono ?_
  rintro x w2 ⟨rfl, hb2⟩
  obtain ⟨hc2, hf2⟩ := bcell hb2
  have hz2 := hb2.size
  have y0 : w.heap.size < w2.heap.size := by omega
  go_wp2_with fail
  go_ret
  refine ⟨rfl, ?_⟩
  repeat (first | exact Below.refl _ _ | refine below_drewN ?_ _ | refine Below.drew ?_ | refine Below.trans ?_ (Below.mono (by assumption) (by first | omega | (simp; done) | (simp; omega))) | refine Below.setCell ?_ (by first | omega | (simp; done) | (simp; omega)) _ | refine Below.alloc ?_ (by first | omega | (simp; done) | (simp; omega)) _)

set_option maxHeartbeats 400000 in
theorem wait_no (l a m e t q : Int) (w : World) (h : ¬ (1 ≤ m ∧ m ≤ 1000000 ∧ 1 ≤ e ∧ e ≤ 1000000000 ∧ 0 ≤ l ∧ l ≤ m ∧ 0 ≤ a ∧ a ≤ 1000000000)) :
    Calls Try.prog 19 #[.agg #[.int .i64 l, .int .i64 a, .int .i64 m, .int .i64 e], .int .i64 t, .int .i64 q] w fun x w' => x = .returned (.int .i64 (-1)) ∧ Below w.heap.size w w' := by
  have H := Lib.hid h
  clear h
  go_enter Try.func19, Try.ntmps19
  go_wp2_with fail
  refine (check_no l a m e _ H.out).mono ?_
  rintro x w1 ⟨rfl, hb⟩
  obtain ⟨hc, hf⟩ := bcell hb
  have hz := hb.size
  simp at hz
  have z0 : w.heap.size < w1.heap.size := by omega
  go_wp2_with fail
  go_ret
  refine ⟨rfl, ?_⟩
  repeat (first | exact Below.refl _ _ | refine below_drewN ?_ _ | refine Below.drew ?_ | refine Below.trans ?_ (Below.mono (by assumption) (by first | omega | (simp; done) | (simp; omega))) | refine Below.setCell ?_ (by first | omega | (simp; done) | (simp; omega)) _ | refine Below.alloc ?_ (by first | omega | (simp; done) | (simp; omega)) _)

set_option maxHeartbeats 400000 in
theorem wait_q (l a m e t q : Int) (w : World) (h1 : 1 ≤ m) (h2 : m ≤ 1000000) (h3 : 1 ≤ e) (h4 : e ≤ 1000000000) (h5 : 0 ≤ l) (h6 : l ≤ m) (h7 : 0 ≤ a) (h8 : a ≤ 1000000000) (hq : q < 1) :
    Calls Try.prog 19 #[.agg #[.int .i64 l, .int .i64 a, .int .i64 m, .int .i64 e], .int .i64 t, .int .i64 q] w fun x w' => x = .returned (.int .i64 (-1)) ∧ Below w.heap.size w w' := by
  go_enter Try.func19, Try.ntmps19
  go_wp2_with fail
  refine (check_yes l a m e _ h1 h2 h3 h4 h5 h6 h7 h8).mono ?_
  rintro x w1 ⟨rfl, hb⟩
  obtain ⟨hc, hf⟩ := bcell hb
  have hz := hb.size
  simp at hz
  have z0 : w.heap.size < w1.heap.size := by omega
  go_wp2_with fail
  go_ret
  refine ⟨rfl, ?_⟩
  repeat (first | exact Below.refl _ _ | refine below_drewN ?_ _ | refine Below.drew ?_ | refine Below.trans ?_ (Below.mono (by assumption) (by first | omega | (simp; done) | (simp; omega))) | refine Below.setCell ?_ (by first | omega | (simp; done) | (simp; omega)) _ | refine Below.alloc ?_ (by first | omega | (simp; done) | (simp; omega)) _)

set_option maxHeartbeats 400000 in
theorem wait_q2 (l a m e t q : Int) (w : World) (h1 : 1 ≤ m) (h2 : m ≤ 1000000) (h3 : 1 ≤ e) (h4 : e ≤ 1000000000) (h5 : 0 ≤ l) (h6 : l ≤ m) (h7 : 0 ≤ a) (h8 : a ≤ 1000000000) (q1 : 1 ≤ q) (hq : m < q) :
    Calls Try.prog 19 #[.agg #[.int .i64 l, .int .i64 a, .int .i64 m, .int .i64 e], .int .i64 t, .int .i64 q] w fun x w' => x = .returned (.int .i64 (-1)) ∧ Below w.heap.size w w' := by
  go_enter Try.func19, Try.ntmps19
  go_wp2_with fail
  refine (check_yes l a m e _ h1 h2 h3 h4 h5 h6 h7 h8).mono ?_
  rintro x w1 ⟨rfl, hb⟩
  obtain ⟨hc, hf⟩ := bcell hb
  have hz := hb.size
  simp at hz
  have z0 : w.heap.size < w1.heap.size := by omega
  go_wp2_with fail
  go_ret
  refine ⟨rfl, ?_⟩
  repeat (first | exact Below.refl _ _ | refine below_drewN ?_ _ | refine Below.drew ?_ | refine Below.trans ?_ (Below.mono (by assumption) (by first | omega | (simp; done) | (simp; omega))) | refine Below.setCell ?_ (by first | omega | (simp; done) | (simp; omega)) _ | refine Below.alloc ?_ (by first | omega | (simp; done) | (simp; omega)) _)

set_option maxHeartbeats 400000 in
theorem wait_t (l a m e t q : Int) (w : World) (h1 : 1 ≤ m) (h2 : m ≤ 1000000) (h3 : 1 ≤ e) (h4 : e ≤ 1000000000) (h5 : 0 ≤ l) (h6 : l ≤ m) (h7 : 0 ≤ a) (h8 : a ≤ 1000000000) (q1 : 1 ≤ q) (q2 : q ≤ m) (ht : t < 0) :
    Calls Try.prog 19 #[.agg #[.int .i64 l, .int .i64 a, .int .i64 m, .int .i64 e], .int .i64 t, .int .i64 q] w fun x w' => x = .returned (.int .i64 (-1)) ∧ Below w.heap.size w w' := by
  go_enter Try.func19, Try.ntmps19
  go_wp2_with fail
  refine (check_yes l a m e _ h1 h2 h3 h4 h5 h6 h7 h8).mono ?_
  rintro x w1 ⟨rfl, hb⟩
  obtain ⟨hc, hf⟩ := bcell hb
  have hz := hb.size
  simp at hz
  have z0 : w.heap.size < w1.heap.size := by omega
  go_wp2_with fail
  go_ret
  refine ⟨rfl, ?_⟩
  repeat (first | exact Below.refl _ _ | refine below_drewN ?_ _ | refine Below.drew ?_ | refine Below.trans ?_ (Below.mono (by assumption) (by first | omega | (simp; done) | (simp; omega))) | refine Below.setCell ?_ (by first | omega | (simp; done) | (simp; omega)) _ | refine Below.alloc ?_ (by first | omega | (simp; done) | (simp; omega)) _)

set_option maxHeartbeats 400000 in
theorem wait_t2 (l a m e t q : Int) (w : World) (h1 : 1 ≤ m) (h2 : m ≤ 1000000) (h3 : 1 ≤ e) (h4 : e ≤ 1000000000) (h5 : 0 ≤ l) (h6 : l ≤ m) (h7 : 0 ≤ a) (h8 : a ≤ 1000000000) (q1 : 1 ≤ q) (q2 : q ≤ m) (ht : 1000000000 < t) :
    Calls Try.prog 19 #[.agg #[.int .i64 l, .int .i64 a, .int .i64 m, .int .i64 e], .int .i64 t, .int .i64 q] w fun x w' => x = .returned (.int .i64 (-1)) ∧ Below w.heap.size w w' := by
  go_enter Try.func19, Try.ntmps19
  go_wp2_with fail
  refine (check_yes l a m e _ h1 h2 h3 h4 h5 h6 h7 h8).mono ?_
  rintro x w1 ⟨rfl, hb⟩
  obtain ⟨hc, hf⟩ := bcell hb
  have hz := hb.size
  simp at hz
  have z0 : w.heap.size < w1.heap.size := by omega
  go_wp2_with fail
  go_ret
  refine ⟨rfl, ?_⟩
  repeat (first | exact Below.refl _ _ | refine below_drewN ?_ _ | refine Below.drew ?_ | refine Below.trans ?_ (Below.mono (by assumption) (by first | omega | (simp; done) | (simp; omega))) | refine Below.setCell ?_ (by first | omega | (simp; done) | (simp; omega)) _ | refine Below.alloc ?_ (by first | omega | (simp; done) | (simp; omega)) _)

theorem wait_range (l a m e t q : Int) (w : World) (h : ¬ ((1 ≤ m ∧ m ≤ 1000000 ∧ 1 ≤ e ∧ e ≤ 1000000000 ∧ 0 ≤ l ∧ l ≤ m ∧ 0 ≤ a ∧ a ≤ 1000000000) ∧ 1 ≤ q ∧ q ≤ m ∧ 0 ≤ t ∧ t ≤ 1000000000)) :
    Calls Try.prog 19 #[.agg #[.int .i64 l, .int .i64 a, .int .i64 m, .int .i64 e], .int .i64 t, .int .i64 q] w fun x w' => x = .returned (.int .i64 (-1)) ∧ Below w.heap.size w w' := by
  by_cases hr : 1 ≤ m ∧ m ≤ 1000000 ∧ 1 ≤ e ∧ e ≤ 1000000000 ∧ 0 ≤ l ∧ l ≤ m ∧ 0 ≤ a ∧ a ≤ 1000000000
  · obtain ⟨h1, h2, h3, h4, h5, h6, h7, h8⟩ := hr
    by_cases hq : 1 ≤ q
    · by_cases hq2 : q ≤ m
      · by_cases ht : t < 0
        · exact wait_t l a m e t q w h1 h2 h3 h4 h5 h6 h7 h8 hq hq2 ht
        · exact wait_t2 l a m e t q w h1 h2 h3 h4 h5 h6 h7 h8 hq hq2 (by omega)
      · exact wait_q2 l a m e t q w h1 h2 h3 h4 h5 h6 h7 h8 hq (by omega)
    · exact wait_q l a m e t q w h1 h2 h3 h4 h5 h6 h7 h8 (by omega)
  · exact wait_no l a m e t q w hr

set_option maxHeartbeats 400000 in
theorem rwait_zero (l a m e t q : Int) (w : World) (h1 : 1 ≤ m) (h2 : m ≤ 1000000) (h3 : 1 ≤ e) (h4 : e ≤ 1000000000) (h5 : 0 ≤ l) (h6 : l ≤ m) (h7 : 0 ≤ a) (h8 : a ≤ 1000000000) (t1 : 0 ≤ t) (t2 : t ≤ 1000000000) (q1 : 1 ≤ q) (q2 : q ≤ adL l a m e t) :
    Calls Try.prog 20 #[.agg #[.int .i64 l, .int .i64 a, .int .i64 m, .int .i64 e], .int .i64 t, .int .i64 q] w fun x w' => x = .returned (.int .i64 0) ∧ Below w.heap.size w w' := by
  have hbd := adL_bd l a m e t h3 h6
  have kf := @fld0
  go_enter Try.func20, Try.ntmps20
  go_wp2_with fail
  refine (rcheck_yes l a m e _ h1 h2 h3 h4 h5 h6 h7 h8).mono ?_
  rintro x w1 ⟨rfl, hb⟩
  obtain ⟨hc, hf⟩ := bcell hb
  have hz := hb.size
  simp at hz
  have z0 : w.heap.size < w1.heap.size := by omega
  go_wp2_with fail
  refine (rleft_yes l a m e t _ h1 h2 h3 h4 h5 h6 h7 h8 (by omega) (by omega)).mono ?_
  rintro x w2 ⟨rfl, hb2⟩
  obtain ⟨hc2, hf2⟩ := bcell hb2
  have hz2 := hb2.size
  have y0 : w.heap.size < w2.heap.size := by omega
  go_wp2_with fail
  go_ret
  refine ⟨rfl, ?_⟩
  repeat (first | exact Below.refl _ _ | refine below_drewN ?_ _ | refine Below.drew ?_ | refine Below.trans ?_ (Below.mono (by assumption) (by first | omega | (simp; done) | (simp; omega))) | refine Below.setCell ?_ (by first | omega | (simp; done) | (simp; omega)) _ | refine Below.alloc ?_ (by first | omega | (simp; done) | (simp; omega)) _)

set_option maxHeartbeats 400000 in
theorem rwait_some (l a m e t q : Int) (w : World) (h1 : 1 ≤ m) (h2 : m ≤ 1000000) (h3 : 1 ≤ e) (h4 : e ≤ 1000000000) (h5 : 0 ≤ l) (h6 : l ≤ m) (h7 : 0 ≤ a) (h8 : a ≤ 1000000000) (t1 : 0 ≤ t) (t2 : t ≤ 1000000000) (q1 : 1 ≤ q) (q2 : adL l a m e t < q) (q3 : q ≤ m) (q4 : a + (q - l) * e ≤ 1000000000) :
    Calls Try.prog 20 #[.agg #[.int .i64 l, .int .i64 a, .int .i64 m, .int .i64 e], .int .i64 t, .int .i64 q] w fun x w' => x = .returned (.int .i64 (a + (q - l) * e - t)) ∧ Below w.heap.size w w' := by
  have hbd := adL_bd l a m e t h3 h6
  have hm0 : 0 ≤ (q - l) * e := Int.mul_nonneg (by omega) (by omega)
  have kf := @fld0
  go_enter Try.func20, Try.ntmps20
  go_wp2_with fail
  refine (rcheck_yes l a m e _ h1 h2 h3 h4 h5 h6 h7 h8).mono ?_
  rintro x w1 ⟨rfl, hb⟩
  obtain ⟨hc, hf⟩ := bcell hb
  have hz := hb.size
  simp at hz
  have z0 : w.heap.size < w1.heap.size := by omega
  go_wp2_with fail
  refine (rleft_yes l a m e t _ h1 h2 h3 h4 h5 h6 h7 h8 (by omega) (by omega)).mono ?_
  rintro x w2 ⟨rfl, hb2⟩
  obtain ⟨hc2, hf2⟩ := bcell hb2
  have hz2 := hb2.size
  have y0 : w.heap.size < w2.heap.size := by omega
  go_wp2_with fail
  go_ret
  refine ⟨rfl, ?_⟩
  repeat (first | exact Below.refl _ _ | refine below_drewN ?_ _ | refine Below.drew ?_ | refine Below.trans ?_ (Below.mono (by assumption) (by first | omega | (simp; done) | (simp; omega))) | refine Below.setCell ?_ (by first | omega | (simp; done) | (simp; omega)) _ | refine Below.alloc ?_ (by first | omega | (simp; done) | (simp; omega)) _)

set_option maxHeartbeats 400000 in
theorem rwait_late (l a m e t q : Int) (w : World) (h1 : 1 ≤ m) (h2 : m ≤ 1000000) (h3 : 1 ≤ e) (h4 : e ≤ 1000000000) (h5 : 0 ≤ l) (h6 : l ≤ m) (h7 : 0 ≤ a) (h8 : a ≤ 1000000000) (t1 : 0 ≤ t) (t2 : t ≤ 1000000000) (q1 : 1 ≤ q) (q2 : adL l a m e t < q) (q3 : q ≤ m) (q4 : 1000000000 < a + (q - l) * e) :
    Calls Try.prog 20 #[.agg #[.int .i64 l, .int .i64 a, .int .i64 m, .int .i64 e], .int .i64 t, .int .i64 q] w fun x w' => x = .returned (.int .i64 (-1)) ∧ Below w.heap.size w w' := by
  have hbd := adL_bd l a m e t h3 h6
  have hm0 : 0 ≤ (q - l) * e := Int.mul_nonneg (by omega) (by omega)
  have hm1 : (q - l) * e ≤ 1000000 * e := Int.mul_le_mul_of_nonneg_right (by omega) (by omega)
  have kf := @fld0
  go_enter Try.func20, Try.ntmps20
  go_wp2_with fail
  refine (rcheck_yes l a m e _ h1 h2 h3 h4 h5 h6 h7 h8).mono ?_
  rintro x w1 ⟨rfl, hb⟩
  obtain ⟨hc, hf⟩ := bcell hb
  have hz := hb.size
  simp at hz
  have z0 : w.heap.size < w1.heap.size := by omega
  go_wp2_with fail
  refine (rleft_yes l a m e t _ h1 h2 h3 h4 h5 h6 h7 h8 (by omega) (by omega)).mono ?_
  rintro x w2 ⟨rfl, hb2⟩
  obtain ⟨hc2, hf2⟩ := bcell hb2
  have hz2 := hb2.size
  have y0 : w.heap.size < w2.heap.size := by omega
  go_wp2_with fail
  go_ret
  refine ⟨rfl, ?_⟩
  repeat (first | exact Below.refl _ _ | refine below_drewN ?_ _ | refine Below.drew ?_ | refine Below.trans ?_ (Below.mono (by assumption) (by first | omega | (simp; done) | (simp; omega))) | refine Below.setCell ?_ (by first | omega | (simp; done) | (simp; omega)) _ | refine Below.alloc ?_ (by first | omega | (simp; done) | (simp; omega)) _)

set_option maxHeartbeats 400000 in
theorem rwait_no (l a m e t q : Int) (w : World) (h : ¬ (1 ≤ m ∧ m ≤ 1000000 ∧ 1 ≤ e ∧ e ≤ 1000000000 ∧ 0 ≤ l ∧ l ≤ m ∧ 0 ≤ a ∧ a ≤ 1000000000)) :
    Calls Try.prog 20 #[.agg #[.int .i64 l, .int .i64 a, .int .i64 m, .int .i64 e], .int .i64 t, .int .i64 q] w fun x w' => x = .returned (.int .i64 (-1)) ∧ Below w.heap.size w w' := by
  have H := Lib.hid h
  clear h
  go_enter Try.func20, Try.ntmps20
  go_wp2_with fail
  refine (rcheck_no l a m e _ H.out).mono ?_
  rintro x w1 ⟨rfl, hb⟩
  obtain ⟨hc, hf⟩ := bcell hb
  have hz := hb.size
  simp at hz
  have z0 : w.heap.size < w1.heap.size := by omega
  go_wp2_with fail
  go_ret
  refine ⟨rfl, ?_⟩
  repeat (first | exact Below.refl _ _ | refine below_drewN ?_ _ | refine Below.drew ?_ | refine Below.trans ?_ (Below.mono (by assumption) (by first | omega | (simp; done) | (simp; omega))) | refine Below.setCell ?_ (by first | omega | (simp; done) | (simp; omega)) _ | refine Below.alloc ?_ (by first | omega | (simp; done) | (simp; omega)) _)

set_option maxHeartbeats 400000 in
theorem rwait_q (l a m e t q : Int) (w : World) (h1 : 1 ≤ m) (h2 : m ≤ 1000000) (h3 : 1 ≤ e) (h4 : e ≤ 1000000000) (h5 : 0 ≤ l) (h6 : l ≤ m) (h7 : 0 ≤ a) (h8 : a ≤ 1000000000) (hq : q < 1) :
    Calls Try.prog 20 #[.agg #[.int .i64 l, .int .i64 a, .int .i64 m, .int .i64 e], .int .i64 t, .int .i64 q] w fun x w' => x = .returned (.int .i64 (-1)) ∧ Below w.heap.size w w' := by
  go_enter Try.func20, Try.ntmps20
  go_wp2_with fail
  refine (rcheck_yes l a m e _ h1 h2 h3 h4 h5 h6 h7 h8).mono ?_
  rintro x w1 ⟨rfl, hb⟩
  obtain ⟨hc, hf⟩ := bcell hb
  have hz := hb.size
  simp at hz
  have z0 : w.heap.size < w1.heap.size := by omega
  go_wp2_with fail
  go_ret
  refine ⟨rfl, ?_⟩
  repeat (first | exact Below.refl _ _ | refine below_drewN ?_ _ | refine Below.drew ?_ | refine Below.trans ?_ (Below.mono (by assumption) (by first | omega | (simp; done) | (simp; omega))) | refine Below.setCell ?_ (by first | omega | (simp; done) | (simp; omega)) _ | refine Below.alloc ?_ (by first | omega | (simp; done) | (simp; omega)) _)

set_option maxHeartbeats 400000 in
theorem rwait_q2 (l a m e t q : Int) (w : World) (h1 : 1 ≤ m) (h2 : m ≤ 1000000) (h3 : 1 ≤ e) (h4 : e ≤ 1000000000) (h5 : 0 ≤ l) (h6 : l ≤ m) (h7 : 0 ≤ a) (h8 : a ≤ 1000000000) (q1 : 1 ≤ q) (hq : m < q) :
    Calls Try.prog 20 #[.agg #[.int .i64 l, .int .i64 a, .int .i64 m, .int .i64 e], .int .i64 t, .int .i64 q] w fun x w' => x = .returned (.int .i64 (-1)) ∧ Below w.heap.size w w' := by
  go_enter Try.func20, Try.ntmps20
  go_wp2_with fail
  refine (rcheck_yes l a m e _ h1 h2 h3 h4 h5 h6 h7 h8).mono ?_
  rintro x w1 ⟨rfl, hb⟩
  obtain ⟨hc, hf⟩ := bcell hb
  have hz := hb.size
  simp at hz
  have z0 : w.heap.size < w1.heap.size := by omega
  go_wp2_with fail
  go_ret
  refine ⟨rfl, ?_⟩
  repeat (first | exact Below.refl _ _ | refine below_drewN ?_ _ | refine Below.drew ?_ | refine Below.trans ?_ (Below.mono (by assumption) (by first | omega | (simp; done) | (simp; omega))) | refine Below.setCell ?_ (by first | omega | (simp; done) | (simp; omega)) _ | refine Below.alloc ?_ (by first | omega | (simp; done) | (simp; omega)) _)

set_option maxHeartbeats 400000 in
theorem rwait_t (l a m e t q : Int) (w : World) (h1 : 1 ≤ m) (h2 : m ≤ 1000000) (h3 : 1 ≤ e) (h4 : e ≤ 1000000000) (h5 : 0 ≤ l) (h6 : l ≤ m) (h7 : 0 ≤ a) (h8 : a ≤ 1000000000) (q1 : 1 ≤ q) (q2 : q ≤ m) (ht : t < 0) :
    Calls Try.prog 20 #[.agg #[.int .i64 l, .int .i64 a, .int .i64 m, .int .i64 e], .int .i64 t, .int .i64 q] w fun x w' => x = .returned (.int .i64 (-1)) ∧ Below w.heap.size w w' := by
  go_enter Try.func20, Try.ntmps20
  go_wp2_with fail
  refine (rcheck_yes l a m e _ h1 h2 h3 h4 h5 h6 h7 h8).mono ?_
  rintro x w1 ⟨rfl, hb⟩
  obtain ⟨hc, hf⟩ := bcell hb
  have hz := hb.size
  simp at hz
  have z0 : w.heap.size < w1.heap.size := by omega
  go_wp2_with fail
  go_ret
  refine ⟨rfl, ?_⟩
  repeat (first | exact Below.refl _ _ | refine below_drewN ?_ _ | refine Below.drew ?_ | refine Below.trans ?_ (Below.mono (by assumption) (by first | omega | (simp; done) | (simp; omega))) | refine Below.setCell ?_ (by first | omega | (simp; done) | (simp; omega)) _ | refine Below.alloc ?_ (by first | omega | (simp; done) | (simp; omega)) _)

set_option maxHeartbeats 400000 in
theorem rwait_t2 (l a m e t q : Int) (w : World) (h1 : 1 ≤ m) (h2 : m ≤ 1000000) (h3 : 1 ≤ e) (h4 : e ≤ 1000000000) (h5 : 0 ≤ l) (h6 : l ≤ m) (h7 : 0 ≤ a) (h8 : a ≤ 1000000000) (q1 : 1 ≤ q) (q2 : q ≤ m) (ht : 1000000000 < t) :
    Calls Try.prog 20 #[.agg #[.int .i64 l, .int .i64 a, .int .i64 m, .int .i64 e], .int .i64 t, .int .i64 q] w fun x w' => x = .returned (.int .i64 (-1)) ∧ Below w.heap.size w w' := by
  go_enter Try.func20, Try.ntmps20
  go_wp2_with fail
  refine (rcheck_yes l a m e _ h1 h2 h3 h4 h5 h6 h7 h8).mono ?_
  rintro x w1 ⟨rfl, hb⟩
  obtain ⟨hc, hf⟩ := bcell hb
  have hz := hb.size
  simp at hz
  have z0 : w.heap.size < w1.heap.size := by omega
  go_wp2_with fail
  go_ret
  refine ⟨rfl, ?_⟩
  repeat (first | exact Below.refl _ _ | refine below_drewN ?_ _ | refine Below.drew ?_ | refine Below.trans ?_ (Below.mono (by assumption) (by first | omega | (simp; done) | (simp; omega))) | refine Below.setCell ?_ (by first | omega | (simp; done) | (simp; omega)) _ | refine Below.alloc ?_ (by first | omega | (simp; done) | (simp; omega)) _)

theorem rwait_range (l a m e t q : Int) (w : World) (h : ¬ ((1 ≤ m ∧ m ≤ 1000000 ∧ 1 ≤ e ∧ e ≤ 1000000000 ∧ 0 ≤ l ∧ l ≤ m ∧ 0 ≤ a ∧ a ≤ 1000000000) ∧ 1 ≤ q ∧ q ≤ m ∧ 0 ≤ t ∧ t ≤ 1000000000)) :
    Calls Try.prog 20 #[.agg #[.int .i64 l, .int .i64 a, .int .i64 m, .int .i64 e], .int .i64 t, .int .i64 q] w fun x w' => x = .returned (.int .i64 (-1)) ∧ Below w.heap.size w w' := by
  by_cases hr : 1 ≤ m ∧ m ≤ 1000000 ∧ 1 ≤ e ∧ e ≤ 1000000000 ∧ 0 ≤ l ∧ l ≤ m ∧ 0 ≤ a ∧ a ≤ 1000000000
  · obtain ⟨h1, h2, h3, h4, h5, h6, h7, h8⟩ := hr
    by_cases hq : 1 ≤ q
    · by_cases hq2 : q ≤ m
      · by_cases ht : t < 0
        · exact rwait_t l a m e t q w h1 h2 h3 h4 h5 h6 h7 h8 hq hq2 ht
        · exact rwait_t2 l a m e t q w h1 h2 h3 h4 h5 h6 h7 h8 hq hq2 (by omega)
      · exact rwait_q2 l a m e t q w h1 h2 h3 h4 h5 h6 h7 h8 hq (by omega)
    · exact rwait_q l a m e t q w h1 h2 h3 h4 h5 h6 h7 h8 (by omega)
  · exact rwait_no l a m e t q w hr
end Go.Proofs.Ytljpcnhkheoiiaa
