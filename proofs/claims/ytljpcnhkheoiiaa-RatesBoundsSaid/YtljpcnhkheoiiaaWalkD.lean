/- The contracts of Take, Wait, New. -/
import Derived.Test.YtljpcnhkheoiiaaWalkC
namespace Go.Proofs.Ytljpcnhkheoiiaa
open Go.ChangeShapes Go.WideShapes Go.ChangeAt Go.RowKit

theorem adL_bd (l a m e n : Int) (h3 : 1 ≤ e) (h6 : l ≤ m) : l ≤ adL l a m e n ∧ adL l a m e n ≤ m := by
  unfold adL
  split
  · omega
  · have hk0 : 0 ≤ (n - a) / e := Int.ediv_nonneg (by omega) (by omega)
    split <;> omega

set_option maxHeartbeats 400000 in
theorem take_ok (l a m e t q : Int) (w : World) (h1 : 1 ≤ m) (h2 : m ≤ 1000000) (h3 : 1 ≤ e) (h4 : e ≤ 1000000000) (h5 : 0 ≤ l) (h6 : l ≤ m) (h7 : 0 ≤ a) (h8 : a ≤ 1000000000) (t1 : 0 ≤ t) (t2 : t ≤ 1000000000) (q1 : 1 ≤ q) (q2 : q ≤ adL l a m e t) :
    Calls Try.prog 15 #[.agg #[.int .i64 l, .int .i64 a, .int .i64 m, .int .i64 e], .int .i64 t, .int .i64 q] w fun x w' => x = .returned (.tuple #[.agg #[.int .i64 (adL l a m e t - q), .int .i64 (adA l a m e t), .int .i64 m, .int .i64 e], .int .i64 0]) ∧ Below w.heap.size w w' := by
  have hbd := adL_bd l a m e t h3 h6
  go_enter Try.func15, Try.ntmps15
  go_wp2_with fail
  refine (check_yes l a m e _ h1 h2 h3 h4 h5 h6 h7 h8).mono ?_
  rintro x w1 ⟨rfl, hb⟩
  obtain ⟨hc, hf⟩ := bcell hb
  have hz := hb.size
  simp at hz
  have z0 : w.heap.size < w1.heap.size := by omega
  have z1 : w.heap.size + 1 < w1.heap.size := by omega
  go_wp2_with fail
  refine (adv_any l a m e t _ h1 h2 h3 h4 h5 h6 h7 h8 (by omega) (by omega)).mono ?_
  rintro x w2 ⟨rfl, hb2⟩
  obtain ⟨hc2, hf2⟩ := bcell hb2
  have hz2 := hb2.size
  have y0 : w.heap.size < w2.heap.size := by omega
  have y1 : w.heap.size + 1 < w2.heap.size := by omega
  go_wp2_with fail
  refine bodyPost_ret (v := .tuple #[.agg #[.int .i64 (adL l a m e t - q), .int .i64 (adA l a m e t), .int .i64 m, .int .i64 e], .int .i64 0]) (by simp [results, Try.results15, go_sem, hc, hc2, z1, y1]) rfl ⟨rfl, ?_⟩
  repeat (first | exact Below.refl _ _ | refine below_drewN ?_ _ | refine Below.drew ?_ | refine Below.trans ?_ (Below.mono (by assumption) (by first | omega | (simp; done) | (simp; omega))) | refine Below.setCell ?_ (by first | omega | (simp; done) | (simp; omega)) _ | refine Below.alloc ?_ (by first | omega | (simp; done) | (simp; omega)) _)

set_option maxHeartbeats 400000 in
theorem take_rate (l a m e t q : Int) (w : World) (h1 : 1 ≤ m) (h2 : m ≤ 1000000) (h3 : 1 ≤ e) (h4 : e ≤ 1000000000) (h5 : 0 ≤ l) (h6 : l ≤ m) (h7 : 0 ≤ a) (h8 : a ≤ 1000000000) (t1 : 0 ≤ t) (t2 : t ≤ 1000000000) (q1 : 1 ≤ q) (q2 : adL l a m e t < q) :
    Calls Try.prog 15 #[.agg #[.int .i64 l, .int .i64 a, .int .i64 m, .int .i64 e], .int .i64 t, .int .i64 q] w fun x w' => x = .returned (.tuple #[.agg #[.int .i64 0, .int .i64 0, .int .i64 0, .int .i64 0], .int .i64 25]) ∧ Below w.heap.size w w' := by
  go_enter Try.func15, Try.ntmps15
  go_wp2_with fail
  refine (check_yes l a m e _ h1 h2 h3 h4 h5 h6 h7 h8).mono ?_
  rintro x w1 ⟨rfl, hb⟩
  obtain ⟨hc, hf⟩ := bcell hb
  have hz := hb.size
  simp at hz
  have z0 : w.heap.size < w1.heap.size := by omega
  have z1 : w.heap.size + 1 < w1.heap.size := by omega
  go_wp2_with fail
  refine (adv_any l a m e t _ h1 h2 h3 h4 h5 h6 h7 h8 (by omega) (by omega)).mono ?_
  rintro x w2 ⟨rfl, hb2⟩
  obtain ⟨hc2, hf2⟩ := bcell hb2
  have hz2 := hb2.size
  have y0 : w.heap.size < w2.heap.size := by omega
  have y1 : w.heap.size + 1 < w2.heap.size := by omega
  go_wp2_with fail
  refine bodyPost_ret (v := .tuple #[.agg #[.int .i64 0, .int .i64 0, .int .i64 0, .int .i64 0], .int .i64 25]) (by simp [results, Try.results15, go_sem, hc, hc2, z1, y1]) rfl ⟨rfl, ?_⟩
  repeat (first | exact Below.refl _ _ | refine below_drewN ?_ _ | refine Below.drew ?_ | refine Below.trans ?_ (Below.mono (by assumption) (by first | omega | (simp; done) | (simp; omega))) | refine Below.setCell ?_ (by first | omega | (simp; done) | (simp; omega)) _ | refine Below.alloc ?_ (by first | omega | (simp; done) | (simp; omega)) _)

set_option maxHeartbeats 400000 in
theorem take_no (l a m e t q : Int) (w : World) (h : ¬ (1 ≤ m ∧ m ≤ 1000000 ∧ 1 ≤ e ∧ e ≤ 1000000000 ∧ 0 ≤ l ∧ l ≤ m ∧ 0 ≤ a ∧ a ≤ 1000000000)) :
    Calls Try.prog 15 #[.agg #[.int .i64 l, .int .i64 a, .int .i64 m, .int .i64 e], .int .i64 t, .int .i64 q] w fun x w' => x = .returned (.tuple #[.agg #[.int .i64 0, .int .i64 0, .int .i64 0, .int .i64 0], .int .i64 2]) ∧ Below w.heap.size w w' := by
  have H := Lib.hid h
  clear h
  go_enter Try.func15, Try.ntmps15
  go_wp2_with fail
  refine (check_no l a m e _ H.out).mono ?_
  rintro x w1 ⟨rfl, hb⟩
  obtain ⟨hc, hf⟩ := bcell hb
  have hz := hb.size
  simp at hz
  have z0 : w.heap.size < w1.heap.size := by omega
  have z1 : w.heap.size + 1 < w1.heap.size := by omega
  go_wp2_with fail
  refine bodyPost_ret (v := .tuple #[.agg #[.int .i64 0, .int .i64 0, .int .i64 0, .int .i64 0], .int .i64 2]) (by simp [results, Try.results15, go_sem, hc]) rfl ⟨rfl, ?_⟩
  repeat (first | exact Below.refl _ _ | refine below_drewN ?_ _ | refine Below.drew ?_ | refine Below.trans ?_ (Below.mono (by assumption) (by first | omega | (simp; done) | (simp; omega))) | refine Below.setCell ?_ (by first | omega | (simp; done) | (simp; omega)) _ | refine Below.alloc ?_ (by first | omega | (simp; done) | (simp; omega)) _)

set_option maxHeartbeats 400000 in
theorem take_q (l a m e t q : Int) (w : World) (h1 : 1 ≤ m) (h2 : m ≤ 1000000) (h3 : 1 ≤ e) (h4 : e ≤ 1000000000) (h5 : 0 ≤ l) (h6 : l ≤ m) (h7 : 0 ≤ a) (h8 : a ≤ 1000000000) (hq : q < 1) :
    Calls Try.prog 15 #[.agg #[.int .i64 l, .int .i64 a, .int .i64 m, .int .i64 e], .int .i64 t, .int .i64 q] w fun x w' => x = .returned (.tuple #[.agg #[.int .i64 0, .int .i64 0, .int .i64 0, .int .i64 0], .int .i64 2]) ∧ Below w.heap.size w w' := by
  go_enter Try.func15, Try.ntmps15
  go_wp2_with fail
  refine (check_yes l a m e _ h1 h2 h3 h4 h5 h6 h7 h8).mono ?_
  rintro x w1 ⟨rfl, hb⟩
  obtain ⟨hc, hf⟩ := bcell hb
  have hz := hb.size
  simp at hz
  have z0 : w.heap.size < w1.heap.size := by omega
  have z1 : w.heap.size + 1 < w1.heap.size := by omega
  go_wp2_with fail
  refine bodyPost_ret (v := .tuple #[.agg #[.int .i64 0, .int .i64 0, .int .i64 0, .int .i64 0], .int .i64 2]) (by simp [results, Try.results15, go_sem, hc]) rfl ⟨rfl, ?_⟩
  repeat (first | exact Below.refl _ _ | refine below_drewN ?_ _ | refine Below.drew ?_ | refine Below.trans ?_ (Below.mono (by assumption) (by first | omega | (simp; done) | (simp; omega))) | refine Below.setCell ?_ (by first | omega | (simp; done) | (simp; omega)) _ | refine Below.alloc ?_ (by first | omega | (simp; done) | (simp; omega)) _)

set_option maxHeartbeats 400000 in
theorem take_t (l a m e t q : Int) (w : World) (h1 : 1 ≤ m) (h2 : m ≤ 1000000) (h3 : 1 ≤ e) (h4 : e ≤ 1000000000) (h5 : 0 ≤ l) (h6 : l ≤ m) (h7 : 0 ≤ a) (h8 : a ≤ 1000000000) (q1 : 1 ≤ q) (ht : t < 0) :
    Calls Try.prog 15 #[.agg #[.int .i64 l, .int .i64 a, .int .i64 m, .int .i64 e], .int .i64 t, .int .i64 q] w fun x w' => x = .returned (.tuple #[.agg #[.int .i64 0, .int .i64 0, .int .i64 0, .int .i64 0], .int .i64 2]) ∧ Below w.heap.size w w' := by
  go_enter Try.func15, Try.ntmps15
  go_wp2_with fail
  refine (check_yes l a m e _ h1 h2 h3 h4 h5 h6 h7 h8).mono ?_
  rintro x w1 ⟨rfl, hb⟩
  obtain ⟨hc, hf⟩ := bcell hb
  have hz := hb.size
  simp at hz
  have z0 : w.heap.size < w1.heap.size := by omega
  have z1 : w.heap.size + 1 < w1.heap.size := by omega
  go_wp2_with fail
  refine bodyPost_ret (v := .tuple #[.agg #[.int .i64 0, .int .i64 0, .int .i64 0, .int .i64 0], .int .i64 2]) (by simp [results, Try.results15, go_sem, hc]) rfl ⟨rfl, ?_⟩
  repeat (first | exact Below.refl _ _ | refine below_drewN ?_ _ | refine Below.drew ?_ | refine Below.trans ?_ (Below.mono (by assumption) (by first | omega | (simp; done) | (simp; omega))) | refine Below.setCell ?_ (by first | omega | (simp; done) | (simp; omega)) _ | refine Below.alloc ?_ (by first | omega | (simp; done) | (simp; omega)) _)

set_option maxHeartbeats 400000 in
theorem take_t2 (l a m e t q : Int) (w : World) (h1 : 1 ≤ m) (h2 : m ≤ 1000000) (h3 : 1 ≤ e) (h4 : e ≤ 1000000000) (h5 : 0 ≤ l) (h6 : l ≤ m) (h7 : 0 ≤ a) (h8 : a ≤ 1000000000) (q1 : 1 ≤ q) (ht : 1000000000 < t) :
    Calls Try.prog 15 #[.agg #[.int .i64 l, .int .i64 a, .int .i64 m, .int .i64 e], .int .i64 t, .int .i64 q] w fun x w' => x = .returned (.tuple #[.agg #[.int .i64 0, .int .i64 0, .int .i64 0, .int .i64 0], .int .i64 2]) ∧ Below w.heap.size w w' := by
  go_enter Try.func15, Try.ntmps15
  go_wp2_with fail
  refine (check_yes l a m e _ h1 h2 h3 h4 h5 h6 h7 h8).mono ?_
  rintro x w1 ⟨rfl, hb⟩
  obtain ⟨hc, hf⟩ := bcell hb
  have hz := hb.size
  simp at hz
  have z0 : w.heap.size < w1.heap.size := by omega
  have z1 : w.heap.size + 1 < w1.heap.size := by omega
  go_wp2_with fail
  refine bodyPost_ret (v := .tuple #[.agg #[.int .i64 0, .int .i64 0, .int .i64 0, .int .i64 0], .int .i64 2]) (by simp [results, Try.results15, go_sem, hc]) rfl ⟨rfl, ?_⟩
  repeat (first | exact Below.refl _ _ | refine below_drewN ?_ _ | refine Below.drew ?_ | refine Below.trans ?_ (Below.mono (by assumption) (by first | omega | (simp; done) | (simp; omega))) | refine Below.setCell ?_ (by first | omega | (simp; done) | (simp; omega)) _ | refine Below.alloc ?_ (by first | omega | (simp; done) | (simp; omega)) _)

theorem take_range (l a m e t q : Int) (w : World) (h : ¬ ((1 ≤ m ∧ m ≤ 1000000 ∧ 1 ≤ e ∧ e ≤ 1000000000 ∧ 0 ≤ l ∧ l ≤ m ∧ 0 ≤ a ∧ a ≤ 1000000000) ∧ 1 ≤ q ∧ 0 ≤ t ∧ t ≤ 1000000000)) :
    Calls Try.prog 15 #[.agg #[.int .i64 l, .int .i64 a, .int .i64 m, .int .i64 e], .int .i64 t, .int .i64 q] w fun x w' => x = .returned (.tuple #[.agg #[.int .i64 0, .int .i64 0, .int .i64 0, .int .i64 0], .int .i64 2]) ∧ Below w.heap.size w w' := by
  by_cases hr : 1 ≤ m ∧ m ≤ 1000000 ∧ 1 ≤ e ∧ e ≤ 1000000000 ∧ 0 ≤ l ∧ l ≤ m ∧ 0 ≤ a ∧ a ≤ 1000000000
  · obtain ⟨h1, h2, h3, h4, h5, h6, h7, h8⟩ := hr
    by_cases hq : 1 ≤ q
    · by_cases ht : t < 0
      · exact take_t l a m e t q w h1 h2 h3 h4 h5 h6 h7 h8 hq ht
      · exact take_t2 l a m e t q w h1 h2 h3 h4 h5 h6 h7 h8 hq (by omega)
    · exact take_q l a m e t q w h1 h2 h3 h4 h5 h6 h7 h8 (by omega)
  · exact take_no l a m e t q w hr

set_option maxHeartbeats 400000 in
theorem rtake_ok (l a m e t q : Int) (w : World) (h1 : 1 ≤ m) (h2 : m ≤ 1000000) (h3 : 1 ≤ e) (h4 : e ≤ 1000000000) (h5 : 0 ≤ l) (h6 : l ≤ m) (h7 : 0 ≤ a) (h8 : a ≤ 1000000000) (t1 : 0 ≤ t) (t2 : t ≤ 1000000000) (q1 : 1 ≤ q) (q2 : q ≤ adL l a m e t) :
    Calls Try.prog 16 #[.agg #[.int .i64 l, .int .i64 a, .int .i64 m, .int .i64 e], .int .i64 t, .int .i64 q] w fun x w' => x = .returned (.tuple #[.agg #[.int .i64 (adL l a m e t - q), .int .i64 (adA l a m e t), .int .i64 m, .int .i64 e], .int .i64 0]) ∧ Below w.heap.size w w' := by
  have hbd := adL_bd l a m e t h3 h6
  go_enter Try.func16, Try.ntmps16
  go_wp2_with fail
  refine (rcheck_yes l a m e _ h1 h2 h3 h4 h5 h6 h7 h8).mono ?_
  rintro x w1 ⟨rfl, hb⟩
  obtain ⟨hc, hf⟩ := bcell hb
  have hz := hb.size
  simp at hz
  have z0 : w.heap.size < w1.heap.size := by omega
  have z1 : w.heap.size + 1 < w1.heap.size := by omega
  go_wp2_with fail
  refine (cnt_any l a m e t _ h1 h2 h3 h4 h5 h6 h7 h8 (by omega) (by omega)).mono ?_
  rintro x w2 ⟨rfl, hb2⟩
  obtain ⟨hc2, hf2⟩ := bcell hb2
  have hz2 := hb2.size
  have y0 : w.heap.size < w2.heap.size := by omega
  have y1 : w.heap.size + 1 < w2.heap.size := by omega
  go_wp2_with fail
  refine bodyPost_ret (v := .tuple #[.agg #[.int .i64 (adL l a m e t - q), .int .i64 (adA l a m e t), .int .i64 m, .int .i64 e], .int .i64 0]) (by simp [results, Try.results16, go_sem, hc, hc2, z1, y1]) rfl ⟨rfl, ?_⟩
  repeat (first | exact Below.refl _ _ | refine below_drewN ?_ _ | refine Below.drew ?_ | refine Below.trans ?_ (Below.mono (by assumption) (by first | omega | (simp; done) | (simp; omega))) | refine Below.setCell ?_ (by first | omega | (simp; done) | (simp; omega)) _ | refine Below.alloc ?_ (by first | omega | (simp; done) | (simp; omega)) _)

set_option maxHeartbeats 400000 in
theorem rtake_rate (l a m e t q : Int) (w : World) (h1 : 1 ≤ m) (h2 : m ≤ 1000000) (h3 : 1 ≤ e) (h4 : e ≤ 1000000000) (h5 : 0 ≤ l) (h6 : l ≤ m) (h7 : 0 ≤ a) (h8 : a ≤ 1000000000) (t1 : 0 ≤ t) (t2 : t ≤ 1000000000) (q1 : 1 ≤ q) (q2 : adL l a m e t < q) :
    Calls Try.prog 16 #[.agg #[.int .i64 l, .int .i64 a, .int .i64 m, .int .i64 e], .int .i64 t, .int .i64 q] w fun x w' => x = .returned (.tuple #[.agg #[.int .i64 0, .int .i64 0, .int .i64 0, .int .i64 0], .int .i64 25]) ∧ Below w.heap.size w w' := by
  go_enter Try.func16, Try.ntmps16
  go_wp2_with fail
  refine (rcheck_yes l a m e _ h1 h2 h3 h4 h5 h6 h7 h8).mono ?_
  rintro x w1 ⟨rfl, hb⟩
  obtain ⟨hc, hf⟩ := bcell hb
  have hz := hb.size
  simp at hz
  have z0 : w.heap.size < w1.heap.size := by omega
  have z1 : w.heap.size + 1 < w1.heap.size := by omega
  go_wp2_with fail
  refine (cnt_any l a m e t _ h1 h2 h3 h4 h5 h6 h7 h8 (by omega) (by omega)).mono ?_
  rintro x w2 ⟨rfl, hb2⟩
  obtain ⟨hc2, hf2⟩ := bcell hb2
  have hz2 := hb2.size
  have y0 : w.heap.size < w2.heap.size := by omega
  have y1 : w.heap.size + 1 < w2.heap.size := by omega
  go_wp2_with fail
  refine bodyPost_ret (v := .tuple #[.agg #[.int .i64 0, .int .i64 0, .int .i64 0, .int .i64 0], .int .i64 25]) (by simp [results, Try.results16, go_sem, hc, hc2, z1, y1]) rfl ⟨rfl, ?_⟩
  repeat (first | exact Below.refl _ _ | refine below_drewN ?_ _ | refine Below.drew ?_ | refine Below.trans ?_ (Below.mono (by assumption) (by first | omega | (simp; done) | (simp; omega))) | refine Below.setCell ?_ (by first | omega | (simp; done) | (simp; omega)) _ | refine Below.alloc ?_ (by first | omega | (simp; done) | (simp; omega)) _)

set_option maxHeartbeats 400000 in
theorem rtake_no (l a m e t q : Int) (w : World) (h : ¬ (1 ≤ m ∧ m ≤ 1000000 ∧ 1 ≤ e ∧ e ≤ 1000000000 ∧ 0 ≤ l ∧ l ≤ m ∧ 0 ≤ a ∧ a ≤ 1000000000)) :
    Calls Try.prog 16 #[.agg #[.int .i64 l, .int .i64 a, .int .i64 m, .int .i64 e], .int .i64 t, .int .i64 q] w fun x w' => x = .returned (.tuple #[.agg #[.int .i64 0, .int .i64 0, .int .i64 0, .int .i64 0], .int .i64 2]) ∧ Below w.heap.size w w' := by
  have H := Lib.hid h
  clear h
  go_enter Try.func16, Try.ntmps16
  go_wp2_with fail
  refine (rcheck_no l a m e _ H.out).mono ?_
  rintro x w1 ⟨rfl, hb⟩
  obtain ⟨hc, hf⟩ := bcell hb
  have hz := hb.size
  simp at hz
  have z0 : w.heap.size < w1.heap.size := by omega
  have z1 : w.heap.size + 1 < w1.heap.size := by omega
  go_wp2_with fail
  refine bodyPost_ret (v := .tuple #[.agg #[.int .i64 0, .int .i64 0, .int .i64 0, .int .i64 0], .int .i64 2]) (by simp [results, Try.results16, go_sem, hc]) rfl ⟨rfl, ?_⟩
  repeat (first | exact Below.refl _ _ | refine below_drewN ?_ _ | refine Below.drew ?_ | refine Below.trans ?_ (Below.mono (by assumption) (by first | omega | (simp; done) | (simp; omega))) | refine Below.setCell ?_ (by first | omega | (simp; done) | (simp; omega)) _ | refine Below.alloc ?_ (by first | omega | (simp; done) | (simp; omega)) _)

set_option maxHeartbeats 400000 in
theorem rtake_q (l a m e t q : Int) (w : World) (h1 : 1 ≤ m) (h2 : m ≤ 1000000) (h3 : 1 ≤ e) (h4 : e ≤ 1000000000) (h5 : 0 ≤ l) (h6 : l ≤ m) (h7 : 0 ≤ a) (h8 : a ≤ 1000000000) (hq : q < 1) :
    Calls Try.prog 16 #[.agg #[.int .i64 l, .int .i64 a, .int .i64 m, .int .i64 e], .int .i64 t, .int .i64 q] w fun x w' => x = .returned (.tuple #[.agg #[.int .i64 0, .int .i64 0, .int .i64 0, .int .i64 0], .int .i64 2]) ∧ Below w.heap.size w w' := by
  go_enter Try.func16, Try.ntmps16
  go_wp2_with fail
  refine (rcheck_yes l a m e _ h1 h2 h3 h4 h5 h6 h7 h8).mono ?_
  rintro x w1 ⟨rfl, hb⟩
  obtain ⟨hc, hf⟩ := bcell hb
  have hz := hb.size
  simp at hz
  have z0 : w.heap.size < w1.heap.size := by omega
  have z1 : w.heap.size + 1 < w1.heap.size := by omega
  go_wp2_with fail
  refine bodyPost_ret (v := .tuple #[.agg #[.int .i64 0, .int .i64 0, .int .i64 0, .int .i64 0], .int .i64 2]) (by simp [results, Try.results16, go_sem, hc]) rfl ⟨rfl, ?_⟩
  repeat (first | exact Below.refl _ _ | refine below_drewN ?_ _ | refine Below.drew ?_ | refine Below.trans ?_ (Below.mono (by assumption) (by first | omega | (simp; done) | (simp; omega))) | refine Below.setCell ?_ (by first | omega | (simp; done) | (simp; omega)) _ | refine Below.alloc ?_ (by first | omega | (simp; done) | (simp; omega)) _)

set_option maxHeartbeats 400000 in
theorem rtake_t (l a m e t q : Int) (w : World) (h1 : 1 ≤ m) (h2 : m ≤ 1000000) (h3 : 1 ≤ e) (h4 : e ≤ 1000000000) (h5 : 0 ≤ l) (h6 : l ≤ m) (h7 : 0 ≤ a) (h8 : a ≤ 1000000000) (q1 : 1 ≤ q) (ht : t < 0) :
    Calls Try.prog 16 #[.agg #[.int .i64 l, .int .i64 a, .int .i64 m, .int .i64 e], .int .i64 t, .int .i64 q] w fun x w' => x = .returned (.tuple #[.agg #[.int .i64 0, .int .i64 0, .int .i64 0, .int .i64 0], .int .i64 2]) ∧ Below w.heap.size w w' := by
  go_enter Try.func16, Try.ntmps16
  go_wp2_with fail
  refine (rcheck_yes l a m e _ h1 h2 h3 h4 h5 h6 h7 h8).mono ?_
  rintro x w1 ⟨rfl, hb⟩
  obtain ⟨hc, hf⟩ := bcell hb
  have hz := hb.size
  simp at hz
  have z0 : w.heap.size < w1.heap.size := by omega
  have z1 : w.heap.size + 1 < w1.heap.size := by omega
  go_wp2_with fail
  refine bodyPost_ret (v := .tuple #[.agg #[.int .i64 0, .int .i64 0, .int .i64 0, .int .i64 0], .int .i64 2]) (by simp [results, Try.results16, go_sem, hc]) rfl ⟨rfl, ?_⟩
  repeat (first | exact Below.refl _ _ | refine below_drewN ?_ _ | refine Below.drew ?_ | refine Below.trans ?_ (Below.mono (by assumption) (by first | omega | (simp; done) | (simp; omega))) | refine Below.setCell ?_ (by first | omega | (simp; done) | (simp; omega)) _ | refine Below.alloc ?_ (by first | omega | (simp; done) | (simp; omega)) _)

set_option maxHeartbeats 400000 in
theorem rtake_t2 (l a m e t q : Int) (w : World) (h1 : 1 ≤ m) (h2 : m ≤ 1000000) (h3 : 1 ≤ e) (h4 : e ≤ 1000000000) (h5 : 0 ≤ l) (h6 : l ≤ m) (h7 : 0 ≤ a) (h8 : a ≤ 1000000000) (q1 : 1 ≤ q) (ht : 1000000000 < t) :
    Calls Try.prog 16 #[.agg #[.int .i64 l, .int .i64 a, .int .i64 m, .int .i64 e], .int .i64 t, .int .i64 q] w fun x w' => x = .returned (.tuple #[.agg #[.int .i64 0, .int .i64 0, .int .i64 0, .int .i64 0], .int .i64 2]) ∧ Below w.heap.size w w' := by
  go_enter Try.func16, Try.ntmps16
  go_wp2_with fail
  refine (rcheck_yes l a m e _ h1 h2 h3 h4 h5 h6 h7 h8).mono ?_
  rintro x w1 ⟨rfl, hb⟩
  obtain ⟨hc, hf⟩ := bcell hb
  have hz := hb.size
  simp at hz
  have z0 : w.heap.size < w1.heap.size := by omega
  have z1 : w.heap.size + 1 < w1.heap.size := by omega
  go_wp2_with fail
  refine bodyPost_ret (v := .tuple #[.agg #[.int .i64 0, .int .i64 0, .int .i64 0, .int .i64 0], .int .i64 2]) (by simp [results, Try.results16, go_sem, hc]) rfl ⟨rfl, ?_⟩
  repeat (first | exact Below.refl _ _ | refine below_drewN ?_ _ | refine Below.drew ?_ | refine Below.trans ?_ (Below.mono (by assumption) (by first | omega | (simp; done) | (simp; omega))) | refine Below.setCell ?_ (by first | omega | (simp; done) | (simp; omega)) _ | refine Below.alloc ?_ (by first | omega | (simp; done) | (simp; omega)) _)

theorem rtake_range (l a m e t q : Int) (w : World) (h : ¬ ((1 ≤ m ∧ m ≤ 1000000 ∧ 1 ≤ e ∧ e ≤ 1000000000 ∧ 0 ≤ l ∧ l ≤ m ∧ 0 ≤ a ∧ a ≤ 1000000000) ∧ 1 ≤ q ∧ 0 ≤ t ∧ t ≤ 1000000000)) :
    Calls Try.prog 16 #[.agg #[.int .i64 l, .int .i64 a, .int .i64 m, .int .i64 e], .int .i64 t, .int .i64 q] w fun x w' => x = .returned (.tuple #[.agg #[.int .i64 0, .int .i64 0, .int .i64 0, .int .i64 0], .int .i64 2]) ∧ Below w.heap.size w w' := by
  by_cases hr : 1 ≤ m ∧ m ≤ 1000000 ∧ 1 ≤ e ∧ e ≤ 1000000000 ∧ 0 ≤ l ∧ l ≤ m ∧ 0 ≤ a ∧ a ≤ 1000000000
  · obtain ⟨h1, h2, h3, h4, h5, h6, h7, h8⟩ := hr
    by_cases hq : 1 ≤ q
    · by_cases ht : t < 0
      · exact rtake_t l a m e t q w h1 h2 h3 h4 h5 h6 h7 h8 hq ht
      · exact rtake_t2 l a m e t q w h1 h2 h3 h4 h5 h6 h7 h8 hq (by omega)
    · exact rtake_q l a m e t q w h1 h2 h3 h4 h5 h6 h7 h8 (by omega)
  · exact rtake_no l a m e t q w hr
end Go.Proofs.Ytljpcnhkheoiiaa
