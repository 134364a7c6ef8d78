/- The example of the chapter: lives answers true. -/
import Derived.Test.YtfebldoplobkdaaLiveA
namespace Go.Proofs.Ytfebldoplobkdaa
open Go.ChangeShapes Go.WideShapes Go.ChangeAt Go.RowKit

theorem Evz.form {w : World} {v : Value} {ns : List Int} (h : Evz w v ns) : ∃ ao cap, v = .slice ao ns.length cap := by obtain ⟨a, c, h, _⟩ := h; exact ⟨a, c, h⟩

set_option maxRecDepth 100000 in
set_option maxHeartbeats 1000000 in
theorem lives_true (w : World) : Calls Try.prog 10 #[] w fun x w' => x = .returned (.bool true) ∧ Below w.heap.size w w' := by
  go_enter Try.func10, Try.ntmps10
  go_wp2_with fail
  refine (live1 w).mono ?_
  rintro x w1 ⟨v1, rfl, e1, q⟩
  obtain ⟨a1, c1, hv⟩ := Evz.form e1
  obtain rfl : v1 = (.slice a1 1 c1) := hv
  have e1 := Lib.hid e1
  have q := Lib.hid q
  go_wp2_with fail
  have hb : Below w1.heap.size w1 (w1.alloc (.cells #[.string ⟨#[98]⟩, .int .i64 0, (.slice a1 1 c1), .slice none 0 0, .int .i64 0, .int .i64 0] 24)) := by repeat (first | exact Below.refl _ _ | refine Below.alloc ?_ (by first | (simp; done) | (simp; omega)) _)
  have Ba : Whole (w1.alloc (.cells #[.string ⟨#[98]⟩, .int .i64 0, (.slice a1 1 c1), .slice none 0 0, .int .i64 0, .int .i64 0] 24)) (w1.heap.size) 24 #[.string ⟨#[98]⟩, .int .i64 0, (.slice a1 1 c1), .slice none 0 0, .int .i64 0, .int .i64 0] := by
    have h0 := Whole.new w1 24 #[.string ⟨#[98]⟩, .int .i64 0, (.slice a1 1 c1), .slice none 0 0, .int .i64 0, .int .i64 0]
    simpa using h0
  have Ba := Lib.hid Ba
  have hb := Lib.hid hb
  have lww1 : w.heap.size ≤ w1.heap.size := q.out.size
  have e1 := Lib.hid (e1.out.on hb.out)
  have q := Lib.hid (q.out.trans (hb.out.mono q.out.size))
  have B := Ba
  obtain ⟨w2, hw⟩ : ∃ w2, w2 = (w1.alloc (.cells #[.string ⟨#[98]⟩, .int .i64 0, (.slice a1 1 c1), .slice none 0 0, .int .i64 0, .int .i64 0] 24)) := ⟨_, rfl⟩
  clear hb Ba
  rw [← hw] at B e1 q ⊢
  clear hw
  refine (live2 _ _ e1.out).mono ?_
  rintro x w3 ⟨v2, rfl, e2, hb⟩
  obtain ⟨a2, c2, hv⟩ := Evz.form e2
  obtain rfl : v2 = (.slice a2 2 c2) := hv
  have B := Lib.hid (B.out.on hb)
  have e1 := Lib.hid (e1.out.on hb)
  have q := Lib.hid (q.out.trans (hb.mono q.out.size))
  have e2 := Lib.hid e2
  clear hb
  have lw1' := lww1
  go_wp2_with (first | ((with_reducible refine list_store24 _ _ _ #[.string ⟨#[98]⟩, .int .i64 0, (.slice a2 2 c2), .slice none 0 0, .int .i64 0, .int .i64 0] B.out rfl ?_ ?_ ?_ ?_ ?_ ?_ ?_); all_goals try rfl; all_goals try (simp [Value.oneCell']; done)))
  case refine_4 => simp [Value.oneCell']
  intro w4 z hg
  have e1 := Lib.hid (e1.out.off B.out (by simp) hg)
  have e2 := Lib.hid (e2.out.off B.out (by simp) hg)
  have q := Lib.hid (below_row q.out hg (by omega) q.out.size)
  have B := Lib.hid z
  clear z hg
  have d0 := B.out.cell 0
  have d1 := B.out.cell 1
  have d2 := B.out.cell 2
  have d3 := B.out.cell 3
  have d4 := B.out.cell 4
  have d5 := B.out.cell 5
  simp at d0 d1 d2 d3 d4 d5
  have dl := B.out.lt
  go_wp2_with fail
  clear d0 d1 d2 d3 d4 d5 dl
  refine (live3 _ _ e2.out).mono ?_
  rintro x w5 ⟨v3, v4, u, rfl, e3, e4, eu, hb⟩
  obtain ⟨a3, c3, hv⟩ := Evz.form e3
  obtain rfl : v3 = (.slice a3 0 c3) := hv
  obtain ⟨a4, c4, hv⟩ := Evz.form e4
  obtain rfl : v4 = (.slice a4 2 c4) := hv
  obtain ⟨a5, c5, hv⟩ := Evz.form eu
  obtain rfl : u = (.slice a5 2 c5) := hv
  have B := Lib.hid (B.out.on hb)
  have e1 := Lib.hid (e1.out.on hb)
  have e2 := Lib.hid (e2.out.on hb)
  have q := Lib.hid (q.out.trans (hb.mono q.out.size))
  have e3 := Lib.hid e3
  have e4 := Lib.hid e4
  have eu := Lib.hid eu
  clear hb
  have hb : Below w5.heap.size w5 (w5.alloc (.cells #[.string ⟨#[]⟩, .string ⟨#[]⟩, .int .i64 0, .int .i64 0, .string ⟨#[]⟩, .slice none 0 0, .slice none 0 0, .slice none 0 0, .string ⟨#[]⟩, .int .i64 0] 49)) := by repeat (first | exact Below.refl _ _ | refine Below.alloc ?_ (by first | (simp; done) | (simp; omega)) _)
  have Pa : Whole (w5.alloc (.cells #[.string ⟨#[]⟩, .string ⟨#[]⟩, .int .i64 0, .int .i64 0, .string ⟨#[]⟩, .slice none 0 0, .slice none 0 0, .slice none 0 0, .string ⟨#[]⟩, .int .i64 0] 49)) (w5.heap.size) 49 #[.string ⟨#[]⟩, .string ⟨#[]⟩, .int .i64 0, .int .i64 0, .string ⟨#[]⟩, .slice none 0 0, .slice none 0 0, .slice none 0 0, .string ⟨#[]⟩, .int .i64 0] := by
    have h0 := Whole.new w5 49 #[.string ⟨#[]⟩, .string ⟨#[]⟩, .int .i64 0, .int .i64 0, .string ⟨#[]⟩, .slice none 0 0, .slice none 0 0, .slice none 0 0, .string ⟨#[]⟩, .int .i64 0]
    simpa using h0
  have Pa := Lib.hid Pa
  have hb := Lib.hid hb
  have lww5 : w.heap.size ≤ w5.heap.size := q.out.size
  have xBw5 : (w1.heap.size) < w5.heap.size := B.out.lt
  have Bz := Lib.hid (B.out.on hb.out)
  go_wp2_with (first | ((with_reducible refine list_store24 _ _ _ #[.string ⟨#[98]⟩, .int .i64 1, (.slice a3 0 c3), (.slice a4 2 c4), .int .i64 0, .int .i64 0] Bz.out rfl ?_ ?_ ?_ ?_ ?_ ?_ ?_); all_goals try rfl; all_goals try (simp [Value.oneCell']; done)))
  case refine_4 => simp [Value.oneCell']
  intro w6 z hg
  have e1 := Lib.hid ((e1.out.on hb.out).off Bz.out (by simp) hg)
  have e2 := Lib.hid ((e2.out.on hb.out).off Bz.out (by simp) hg)
  have e3 := Lib.hid ((e3.out.on hb.out).off Bz.out (by simp) hg)
  have e4 := Lib.hid ((e4.out.on hb.out).off Bz.out (by simp) hg)
  have eu := Lib.hid ((eu.out.on hb.out).off Bz.out (by simp) hg)
  have P := Lib.hid (Pa.out.off hg (by intro e; injection e with e; omega))
  have q := Lib.hid (q.out.trans (hb.out.mono q.out.size))
  have q := Lib.hid (below_row q.out hg (by omega) q.out.size)
  have B := Lib.hid z
  clear z hg hb Pa Bz
  go_wp2_with (first | ((with_reducible refine list_store49 _ _ _ #[.string ⟨#[]⟩, .string ⟨#[98]⟩, .int .i64 1, .int .i64 0, .string ⟨#[]⟩, (.slice a5 2 c5), .slice none 0 0, .slice none 0 0, .string ⟨#[]⟩, .int .i64 0] P.out rfl ?_ ?_ ?_ ?_ ?_ ?_ ?_); all_goals try rfl; all_goals try (simp [Value.oneCell']; done)))
  case refine_4 => simp [Value.oneCell']
  intro w7 z hg
  have e1 := Lib.hid (e1.out.off P.out (by simp) hg)
  have e2 := Lib.hid (e2.out.off P.out (by simp) hg)
  have e3 := Lib.hid (e3.out.off P.out (by simp) hg)
  have e4 := Lib.hid (e4.out.off P.out (by simp) hg)
  have eu := Lib.hid (eu.out.off P.out (by simp) hg)
  have B := Lib.hid (B.out.off hg (by intro e; injection e with e; omega))
  have q := Lib.hid (below_row q.out hg (by omega) q.out.size)
  have P := Lib.hid z
  clear z hg
  have d0 := B.out.cell 0
  have d1 := B.out.cell 1
  have d2 := B.out.cell 2
  have d3 := B.out.cell 3
  have d4 := B.out.cell 4
  have d5 := B.out.cell 5
  simp at d0 d1 d2 d3 d4 d5
  have dl := B.out.lt
  go_wp2_with fail
  clear d0 d1 d2 d3 d4 d5 dl
  refine (live4 _ _ _ e3.out e4.out).mono ?_
  rintro x w8 ⟨rfl, hb⟩
  have B := Lib.hid (B.out.on hb)
  have P := Lib.hid (P.out.on hb)
  have e1 := Lib.hid (e1.out.on hb)
  have e2 := Lib.hid (e2.out.on hb)
  have e3 := Lib.hid (e3.out.on hb)
  have e4 := Lib.hid (e4.out.on hb)
  have eu := Lib.hid (eu.out.on hb)
  have q := Lib.hid (q.out.trans (hb.mono q.out.size))
  clear hb
  go_wp2_with fail
  have hb : Below w8.heap.size w8 (w8.alloc (.cells #[.string ⟨#[98]⟩, .int .i64 1, (.slice a3 0 c3), (.slice a4 2 c4), .int .i64 1, .int .i64 1500] 24)) := by repeat (first | exact Below.refl _ _ | refine Below.alloc ?_ (by first | (simp; done) | (simp; omega)) _)
  have Ya : Whole (w8.alloc (.cells #[.string ⟨#[98]⟩, .int .i64 1, (.slice a3 0 c3), (.slice a4 2 c4), .int .i64 1, .int .i64 1500] 24)) (w8.heap.size) 24 #[.string ⟨#[98]⟩, .int .i64 1, (.slice a3 0 c3), (.slice a4 2 c4), .int .i64 1, .int .i64 1500] := by
    have h0 := Whole.new w8 24 #[.string ⟨#[98]⟩, .int .i64 1, (.slice a3 0 c3), (.slice a4 2 c4), .int .i64 1, .int .i64 1500]
    simpa using h0
  have Ya := Lib.hid Ya
  have hb := Lib.hid hb
  have lww8 : w.heap.size ≤ w8.heap.size := q.out.size
  have xBw8 : (w1.heap.size) < w8.heap.size := B.out.lt
  have xPw8 : (w5.heap.size) < w8.heap.size := P.out.lt
  have B := Lib.hid (B.out.on hb.out)
  have P := Lib.hid (P.out.on hb.out)
  have e1 := Lib.hid (e1.out.on hb.out)
  have e2 := Lib.hid (e2.out.on hb.out)
  have e3 := Lib.hid (e3.out.on hb.out)
  have e4 := Lib.hid (e4.out.on hb.out)
  have eu := Lib.hid (eu.out.on hb.out)
  have q := Lib.hid (q.out.trans (hb.out.mono q.out.size))
  have Y := Ya
  obtain ⟨w9, hw⟩ : ∃ w9, w9 = (w8.alloc (.cells #[.string ⟨#[98]⟩, .int .i64 1, (.slice a3 0 c3), (.slice a4 2 c4), .int .i64 1, .int .i64 1500] 24)) := ⟨_, rfl⟩
  clear hb Ya
  rw [← hw] at B P Y e1 e2 e3 e4 eu q ⊢
  clear hw
  clear e1 e2
  refine (live5 _ _ _ e3.out e4.out).mono ?_
  rintro x w10 ⟨v5, v6, rfl, k5, k6, hb⟩
  obtain ⟨a6, c6, hv⟩ := Evz.form k5
  obtain rfl : v5 = (.slice a6 0 c6) := hv
  obtain ⟨a7, c7, hv⟩ := Evz.form k6
  obtain rfl : v6 = (.slice a7 2 c7) := hv
  have B := Lib.hid (B.out.on hb)
  have P := Lib.hid (P.out.on hb)
  have Y := Lib.hid (Y.out.on hb)
  have e3 := Lib.hid (e3.out.on hb)
  have e4 := Lib.hid (e4.out.on hb)
  have eu := Lib.hid (eu.out.on hb)
  have q := Lib.hid (q.out.trans (hb.mono q.out.size))
  clear hb
  clear k5 k6
  have hb : Below w10.heap.size w10 ((w10.alloc (.cells #[.string ⟨#[]⟩, .int .i64 0, .slice none 0 0, .slice none 0 0, .int .i64 0, .int .i64 0] 24)).alloc (.cells #[.string ⟨#[]⟩, .string ⟨#[]⟩, .int .i64 0, .int .i64 0, .string ⟨#[]⟩, .slice none 0 0, .slice none 0 0, .slice none 0 0, .string ⟨#[]⟩, .int .i64 0] 49)) := by repeat (first | exact Below.refl _ _ | refine Below.alloc ?_ (by first | (simp; done) | (simp; omega)) _)
  have Xa : Whole ((w10.alloc (.cells #[.string ⟨#[]⟩, .int .i64 0, .slice none 0 0, .slice none 0 0, .int .i64 0, .int .i64 0] 24)).alloc (.cells #[.string ⟨#[]⟩, .string ⟨#[]⟩, .int .i64 0, .int .i64 0, .string ⟨#[]⟩, .slice none 0 0, .slice none 0 0, .slice none 0 0, .string ⟨#[]⟩, .int .i64 0] 49)) (w10.heap.size) 24 #[.string ⟨#[]⟩, .int .i64 0, .slice none 0 0, .slice none 0 0, .int .i64 0, .int .i64 0] := by
    have h0 := Whole.new w10 24 #[.string ⟨#[]⟩, .int .i64 0, .slice none 0 0, .slice none 0 0, .int .i64 0, .int .i64 0]
    have h0 := h0.on (below_new (o := .cells #[.string ⟨#[]⟩, .string ⟨#[]⟩, .int .i64 0, .int .i64 0, .string ⟨#[]⟩, .slice none 0 0, .slice none 0 0, .slice none 0 0, .string ⟨#[]⟩, .int .i64 0] 49))
    simpa using h0
  have Xa := Lib.hid Xa
  have Za : Whole ((w10.alloc (.cells #[.string ⟨#[]⟩, .int .i64 0, .slice none 0 0, .slice none 0 0, .int .i64 0, .int .i64 0] 24)).alloc (.cells #[.string ⟨#[]⟩, .string ⟨#[]⟩, .int .i64 0, .int .i64 0, .string ⟨#[]⟩, .slice none 0 0, .slice none 0 0, .slice none 0 0, .string ⟨#[]⟩, .int .i64 0] 49)) (w10.heap.size + 1) 49 #[.string ⟨#[]⟩, .string ⟨#[]⟩, .int .i64 0, .int .i64 0, .string ⟨#[]⟩, .slice none 0 0, .slice none 0 0, .slice none 0 0, .string ⟨#[]⟩, .int .i64 0] := by
    have h0 := Whole.new (w10.alloc (.cells #[.string ⟨#[]⟩, .int .i64 0, .slice none 0 0, .slice none 0 0, .int .i64 0, .int .i64 0] 24)) 49 #[.string ⟨#[]⟩, .string ⟨#[]⟩, .int .i64 0, .int .i64 0, .string ⟨#[]⟩, .slice none 0 0, .slice none 0 0, .slice none 0 0, .string ⟨#[]⟩, .int .i64 0]
    simpa using h0
  have Za := Lib.hid Za
  have hb := Lib.hid hb
  have lww10 : w.heap.size ≤ w10.heap.size := q.out.size
  have xBw10 : (w1.heap.size) < w10.heap.size := B.out.lt
  have xPw10 : (w5.heap.size) < w10.heap.size := P.out.lt
  have xYw10 : (w8.heap.size) < w10.heap.size := Y.out.lt
  go_wp2_with (first | ((with_reducible refine list_store24 _ _ _ #[.string ⟨#[98]⟩, .int .i64 1, (.slice a6 0 c6), (.slice a7 2 c7), .int .i64 1, .int .i64 1500] Xa.out rfl ?_ ?_ ?_ ?_ ?_ ?_ ?_); all_goals try rfl; all_goals try (simp [Value.oneCell']; done)))
  case refine_4 => simp [Value.oneCell']
  intro w11 z hg
  have e3 := Lib.hid ((e3.out.on hb.out).off Xa.out (by simp) hg)
  have e4 := Lib.hid ((e4.out.on hb.out).off Xa.out (by simp) hg)
  have eu := Lib.hid ((eu.out.on hb.out).off Xa.out (by simp) hg)
  have B := Lib.hid ((B.out.on hb.out).off hg (by intro e; injection e with e; omega))
  have P := Lib.hid ((P.out.on hb.out).off hg (by intro e; injection e with e; omega))
  have Y := Lib.hid ((Y.out.on hb.out).off hg (by intro e; injection e with e; omega))
  have Z := Lib.hid (Za.out.off hg (by intro e; injection e with e; omega))
  have q := Lib.hid (q.out.trans (hb.out.mono q.out.size))
  have q := Lib.hid (below_row q.out hg (by omega) q.out.size)
  have X := Lib.hid z
  clear z hg hb Xa Za
  go_wp2_with (first | ((with_reducible refine list_store49 _ _ _ #[.string ⟨#[]⟩, .string ⟨#[]⟩, .int .i64 0, .int .i64 0, .string ⟨#[]⟩, .slice none 0 0, .slice none 0 0, .slice none 0 0, .string ⟨#[]⟩, .int .i64 0] Z.out rfl ?_ ?_ ?_ ?_ ?_ ?_ ?_); all_goals try rfl; all_goals try (simp [Value.oneCell']; done)))
  case refine_4 => simp [Value.oneCell']
  intro w12 z hg
  have e3 := Lib.hid (e3.out.off Z.out (by simp) hg)
  have e4 := Lib.hid (e4.out.off Z.out (by simp) hg)
  have eu := Lib.hid (eu.out.off Z.out (by simp) hg)
  have B := Lib.hid (B.out.off hg (by intro e; injection e with e; omega))
  have P := Lib.hid (P.out.off hg (by intro e; injection e with e; omega))
  have Y := Lib.hid (Y.out.off hg (by intro e; injection e with e; omega))
  have X := Lib.hid (X.out.off hg (by intro e; injection e with e; omega))
  have q := Lib.hid (below_row q.out hg (by omega) q.out.size)
  have Z := Lib.hid z
  clear z hg
  have d0 := Y.out.cell 0
  have d1 := Y.out.cell 1
  have d2 := Y.out.cell 2
  have d3 := Y.out.cell 3
  have d4 := Y.out.cell 4
  have d5 := Y.out.cell 5
  simp at d0 d1 d2 d3 d4 d5
  have dl := Y.out.lt
  go_wp2_with fail
  clear d0 d1 d2 d3 d4 d5 dl
  refine (live6 _ _ _ e3.out e4.out).mono ?_
  rintro x w13 ⟨v7, v8, z, rfl, k7, k8, kz, hb⟩
  obtain ⟨a8, c8, hv⟩ := Evz.form k7
  obtain rfl : v7 = (.slice a8 0 c8) := hv
  obtain ⟨a9, c9, hv⟩ := Evz.form k8
  obtain rfl : v8 = (.slice a9 2 c9) := hv
  obtain ⟨a10, c10, hv⟩ := Evz.form kz
  obtain rfl : z = (.slice a10 2 c10) := hv
  have B := Lib.hid (B.out.on hb)
  have P := Lib.hid (P.out.on hb)
  have Y := Lib.hid (Y.out.on hb)
  have X := Lib.hid (X.out.on hb)
  have Z := Lib.hid (Z.out.on hb)
  have e3 := Lib.hid (e3.out.on hb)
  have e4 := Lib.hid (e4.out.on hb)
  have eu := Lib.hid (eu.out.on hb)
  have q := Lib.hid (q.out.trans (hb.mono q.out.size))
  clear hb
  clear k7 k8 kz
  have hb : Below w13.heap.size w13 ((w13.alloc (.cells #[.string ⟨#[]⟩, .int .i64 0, .slice none 0 0, .slice none 0 0, .int .i64 0, .int .i64 0] 24)).alloc (.cells #[.string ⟨#[]⟩, .string ⟨#[]⟩, .int .i64 0, .int .i64 0, .string ⟨#[]⟩, .slice none 0 0, .slice none 0 0, .slice none 0 0, .string ⟨#[]⟩, .int .i64 0] 49)) := by repeat (first | exact Below.refl _ _ | refine Below.alloc ?_ (by first | (simp; done) | (simp; omega)) _)
  have X2a : Whole ((w13.alloc (.cells #[.string ⟨#[]⟩, .int .i64 0, .slice none 0 0, .slice none 0 0, .int .i64 0, .int .i64 0] 24)).alloc (.cells #[.string ⟨#[]⟩, .string ⟨#[]⟩, .int .i64 0, .int .i64 0, .string ⟨#[]⟩, .slice none 0 0, .slice none 0 0, .slice none 0 0, .string ⟨#[]⟩, .int .i64 0] 49)) (w13.heap.size) 24 #[.string ⟨#[]⟩, .int .i64 0, .slice none 0 0, .slice none 0 0, .int .i64 0, .int .i64 0] := by
    have h0 := Whole.new w13 24 #[.string ⟨#[]⟩, .int .i64 0, .slice none 0 0, .slice none 0 0, .int .i64 0, .int .i64 0]
    have h0 := h0.on (below_new (o := .cells #[.string ⟨#[]⟩, .string ⟨#[]⟩, .int .i64 0, .int .i64 0, .string ⟨#[]⟩, .slice none 0 0, .slice none 0 0, .slice none 0 0, .string ⟨#[]⟩, .int .i64 0] 49))
    simpa using h0
  have X2a := Lib.hid X2a
  have Z2a : Whole ((w13.alloc (.cells #[.string ⟨#[]⟩, .int .i64 0, .slice none 0 0, .slice none 0 0, .int .i64 0, .int .i64 0] 24)).alloc (.cells #[.string ⟨#[]⟩, .string ⟨#[]⟩, .int .i64 0, .int .i64 0, .string ⟨#[]⟩, .slice none 0 0, .slice none 0 0, .slice none 0 0, .string ⟨#[]⟩, .int .i64 0] 49)) (w13.heap.size + 1) 49 #[.string ⟨#[]⟩, .string ⟨#[]⟩, .int .i64 0, .int .i64 0, .string ⟨#[]⟩, .slice none 0 0, .slice none 0 0, .slice none 0 0, .string ⟨#[]⟩, .int .i64 0] := by
    have h0 := Whole.new (w13.alloc (.cells #[.string ⟨#[]⟩, .int .i64 0, .slice none 0 0, .slice none 0 0, .int .i64 0, .int .i64 0] 24)) 49 #[.string ⟨#[]⟩, .string ⟨#[]⟩, .int .i64 0, .int .i64 0, .string ⟨#[]⟩, .slice none 0 0, .slice none 0 0, .slice none 0 0, .string ⟨#[]⟩, .int .i64 0]
    simpa using h0
  have Z2a := Lib.hid Z2a
  have hb := Lib.hid hb
  have lww13 : w.heap.size ≤ w13.heap.size := q.out.size
  have xBw13 : (w1.heap.size) < w13.heap.size := B.out.lt
  have xPw13 : (w5.heap.size) < w13.heap.size := P.out.lt
  have xYw13 : (w8.heap.size) < w13.heap.size := Y.out.lt
  have xXw13 : (w10.heap.size) < w13.heap.size := X.out.lt
  have xZw13 : (w10.heap.size + 1) < w13.heap.size := Z.out.lt
  go_wp2_with (first | ((with_reducible refine list_store24 _ _ _ #[.string ⟨#[98]⟩, .int .i64 1, (.slice a8 0 c8), (.slice a9 2 c9), .int .i64 1, .int .i64 1500] X2a.out rfl ?_ ?_ ?_ ?_ ?_ ?_ ?_); all_goals try rfl; all_goals try (simp [Value.oneCell']; done)))
  case refine_4 => simp [Value.oneCell']
  intro w14 z hg
  have e3 := Lib.hid ((e3.out.on hb.out).off X2a.out (by simp) hg)
  have e4 := Lib.hid ((e4.out.on hb.out).off X2a.out (by simp) hg)
  have eu := Lib.hid ((eu.out.on hb.out).off X2a.out (by simp) hg)
  have B := Lib.hid ((B.out.on hb.out).off hg (by intro e; injection e with e; omega))
  have P := Lib.hid ((P.out.on hb.out).off hg (by intro e; injection e with e; omega))
  have Y := Lib.hid ((Y.out.on hb.out).off hg (by intro e; injection e with e; omega))
  have X := Lib.hid ((X.out.on hb.out).off hg (by intro e; injection e with e; omega))
  have Z := Lib.hid ((Z.out.on hb.out).off hg (by intro e; injection e with e; omega))
  have Z2 := Lib.hid (Z2a.out.off hg (by intro e; injection e with e; omega))
  have q := Lib.hid (q.out.trans (hb.out.mono q.out.size))
  have q := Lib.hid (below_row q.out hg (by omega) q.out.size)
  have X2 := Lib.hid z
  clear z hg hb X2a Z2a
  go_wp2_with (first | ((with_reducible refine list_store49 _ _ _ #[.string ⟨#[]⟩, .string ⟨#[98]⟩, .int .i64 1, .int .i64 0, .string ⟨#[]⟩, (.slice a10 2 c10), .slice none 0 0, .slice none 0 0, .string ⟨#[]⟩, .int .i64 0] Z2.out rfl ?_ ?_ ?_ ?_ ?_ ?_ ?_); all_goals try rfl; all_goals try (simp [Value.oneCell']; done)))
  case refine_4 => simp [Value.oneCell']
  intro w15 z hg
  have e3 := Lib.hid (e3.out.off Z2.out (by simp) hg)
  have e4 := Lib.hid (e4.out.off Z2.out (by simp) hg)
  have eu := Lib.hid (eu.out.off Z2.out (by simp) hg)
  have B := Lib.hid (B.out.off hg (by intro e; injection e with e; omega))
  have P := Lib.hid (P.out.off hg (by intro e; injection e with e; omega))
  have Y := Lib.hid (Y.out.off hg (by intro e; injection e with e; omega))
  have X := Lib.hid (X.out.off hg (by intro e; injection e with e; omega))
  have Z := Lib.hid (Z.out.off hg (by intro e; injection e with e; omega))
  have X2 := Lib.hid (X2.out.off hg (by intro e; injection e with e; omega))
  have q := Lib.hid (below_row q.out hg (by omega) q.out.size)
  have Z2 := Lib.hid z
  clear z hg
  clear X Z X2 Z2
  have d0 := B.out.cell 0
  have d1 := B.out.cell 1
  have d2 := B.out.cell 2
  have d3 := B.out.cell 3
  have d4 := B.out.cell 4
  have d5 := B.out.cell 5
  simp at d0 d1 d2 d3 d4 d5
  have dl := B.out.lt
  go_wp2_with fail
  clear d0 d1 d2 d3 d4 d5 dl
  refine (live7 _ _ _ e3.out e4.out).mono ?_
  rintro x w16 ⟨rfl, hb⟩
  have B := Lib.hid (B.out.on hb)
  have P := Lib.hid (P.out.on hb)
  have Y := Lib.hid (Y.out.on hb)
  have e3 := Lib.hid (e3.out.on hb)
  have e4 := Lib.hid (e4.out.on hb)
  have eu := Lib.hid (eu.out.on hb)
  have q := Lib.hid (q.out.trans (hb.mono q.out.size))
  clear hb
  go_wp2_with fail
  refine (live8 _ _ _ e3.out e4.out).mono ?_
  rintro x w17 ⟨rfl, hb⟩
  have B := Lib.hid (B.out.on hb)
  have P := Lib.hid (P.out.on hb)
  have Y := Lib.hid (Y.out.on hb)
  have e3 := Lib.hid (e3.out.on hb)
  have e4 := Lib.hid (e4.out.on hb)
  have eu := Lib.hid (eu.out.on hb)
  have q := Lib.hid (q.out.trans (hb.mono q.out.size))
  clear hb
  have hu := eu.out.on (below_new (o := .cells #[.string ⟨#[98]⟩, .int .i64 1, (.slice a3 0 c3), .slice none 0 0, .int .i64 0, .int .i64 0] 24))
  obtain ⟨bu, ou, hau, hlu, hru, _⟩ := Evs.at_ (es := [evz 5, evz 3]) hu.evs (k := 0) (by decide)
  have hcu := hru 0 (.int .i64 5) rfl
  simp at hcu
  clear hu hru hlu
  subst hau
  have hb := below_new (w := w17) (o := .cells #[.string ⟨#[98]⟩, .int .i64 1, (.slice a3 0 c3), .slice none 0 0, .int .i64 0, .int .i64 0] 24)
  have hb := Lib.hid hb
  have Bz := Lib.hid (B.out.on hb.out)
  have Pz := Lib.hid (P.out.on hb.out)
  have d0 := Bz.out.cell 0
  have d1 := Bz.out.cell 1
  have d2 := Bz.out.cell 2
  have d3 := Bz.out.cell 3
  have d4 := Bz.out.cell 4
  have d5 := Bz.out.cell 5
  simp at d0 d1 d2 d3 d4 d5
  have dl := Bz.out.lt
  have p0 := Pz.out.cell 0
  have p1 := Pz.out.cell 1
  have p2 := Pz.out.cell 2
  have p3 := Pz.out.cell 3
  have p4 := Pz.out.cell 4
  have p5 := Pz.out.cell 5
  have p6 := Pz.out.cell 6
  have p7 := Pz.out.cell 7
  have p8 := Pz.out.cell 8
  have p9 := Pz.out.cell 9
  simp at p0 p1 p2 p3 p4 p5 p6 p7 p8 p9
  have pl := Pz.out.lt
  go_wp2_with fail
  clear Bz Pz hb hcu
  clear d0 d1 d2 d3 d4 d5 p0 p1 p2 p3 p4 p5 p6 p7 p8 p9 dl pl
  have hb : Below w17.heap.size w17 (w17.alloc (.cells #[.string ⟨#[98]⟩, .int .i64 1, (.slice a3 0 c3), .slice none 0 0, .int .i64 0, .int .i64 0] 24)) := by repeat (first | exact Below.refl _ _ | refine Below.alloc ?_ (by first | (simp; done) | (simp; omega)) _)
  have Aa : Whole (w17.alloc (.cells #[.string ⟨#[98]⟩, .int .i64 1, (.slice a3 0 c3), .slice none 0 0, .int .i64 0, .int .i64 0] 24)) (w17.heap.size) 24 #[.string ⟨#[98]⟩, .int .i64 1, (.slice a3 0 c3), .slice none 0 0, .int .i64 0, .int .i64 0] := by
    have h0 := Whole.new w17 24 #[.string ⟨#[98]⟩, .int .i64 1, (.slice a3 0 c3), .slice none 0 0, .int .i64 0, .int .i64 0]
    simpa using h0
  have Aa := Lib.hid Aa
  have hb := Lib.hid hb
  have lww17 : w.heap.size ≤ w17.heap.size := q.out.size
  have xBw17 : (w1.heap.size) < w17.heap.size := B.out.lt
  have xPw17 : (w5.heap.size) < w17.heap.size := P.out.lt
  have xYw17 : (w8.heap.size) < w17.heap.size := Y.out.lt
  have B := Lib.hid (B.out.on hb.out)
  have P := Lib.hid (P.out.on hb.out)
  have Y := Lib.hid (Y.out.on hb.out)
  have e3 := Lib.hid (e3.out.on hb.out)
  have e4 := Lib.hid (e4.out.on hb.out)
  have eu := Lib.hid (eu.out.on hb.out)
  have q := Lib.hid (q.out.trans (hb.out.mono q.out.size))
  have A := Aa
  obtain ⟨w18, hw⟩ : ∃ w18, w18 = (w17.alloc (.cells #[.string ⟨#[98]⟩, .int .i64 1, (.slice a3 0 c3), .slice none 0 0, .int .i64 0, .int .i64 0] 24)) := ⟨_, rfl⟩
  clear hb Aa
  rw [← hw] at B P Y A e3 e4 eu q ⊢
  clear hw
  refine (live9 _ _ _ e3.out e4.out).mono ?_
  rintro x w19 ⟨rfl, hb⟩
  have B := Lib.hid (B.out.on hb)
  have P := Lib.hid (P.out.on hb)
  have Y := Lib.hid (Y.out.on hb)
  have A := Lib.hid (A.out.on hb)
  have e3 := Lib.hid (e3.out.on hb)
  have e4 := Lib.hid (e4.out.on hb)
  have eu := Lib.hid (eu.out.on hb)
  have q := Lib.hid (q.out.trans (hb.mono q.out.size))
  clear hb
  have d0 := Y.out.cell 0
  have d1 := Y.out.cell 1
  have d2 := Y.out.cell 2
  have d3 := Y.out.cell 3
  have d4 := Y.out.cell 4
  have d5 := Y.out.cell 5
  simp at d0 d1 d2 d3 d4 d5
  have dl := Y.out.lt
  go_wp2_with fail
  clear d0 d1 d2 d3 d4 d5 dl
  refine (live10 _ _ _ e3.out e4.out).mono ?_
  rintro x w20 ⟨rfl, hb⟩
  have B := Lib.hid (B.out.on hb)
  have P := Lib.hid (P.out.on hb)
  have Y := Lib.hid (Y.out.on hb)
  have A := Lib.hid (A.out.on hb)
  have e3 := Lib.hid (e3.out.on hb)
  have e4 := Lib.hid (e4.out.on hb)
  have eu := Lib.hid (eu.out.on hb)
  have q := Lib.hid (q.out.trans (hb.mono q.out.size))
  clear hb
  have f5 := field5 (.slice a3 0 c3) (.slice a4 2 c4)
  have d0 := A.out.cell 0
  have d1 := A.out.cell 1
  have d2 := A.out.cell 2
  have d3 := A.out.cell 3
  have d4 := A.out.cell 4
  have d5 := A.out.cell 5
  simp at d0 d1 d2 d3 d4 d5
  have dl := A.out.lt
  go_wp2_with fail
  clear d0 d1 d2 d3 d4 d5 dl
  refine (live11 _ _ e3.out).mono ?_
  rintro x w21 ⟨rfl, hb⟩
  have B := Lib.hid (B.out.on hb)
  have P := Lib.hid (P.out.on hb)
  have Y := Lib.hid (Y.out.on hb)
  have A := Lib.hid (A.out.on hb)
  have e3 := Lib.hid (e3.out.on hb)
  have e4 := Lib.hid (e4.out.on hb)
  have eu := Lib.hid (eu.out.on hb)
  have q := Lib.hid (q.out.trans (hb.mono q.out.size))
  clear hb
  have d0 := A.out.cell 0
  have d1 := A.out.cell 1
  have d2 := A.out.cell 2
  have d3 := A.out.cell 3
  have d4 := A.out.cell 4
  have d5 := A.out.cell 5
  simp at d0 d1 d2 d3 d4 d5
  have dl := A.out.lt
  have b0 := B.out.cell 0
  have b1 := B.out.cell 1
  have b2 := B.out.cell 2
  have b3 := B.out.cell 3
  have b4 := B.out.cell 4
  have b5 := B.out.cell 5
  simp at b0 b1 b2 b3 b4 b5
  have bl := B.out.lt
  go_wp2_with fail
  clear d0 d1 d2 d3 d4 d5 b0 b1 b2 b3 b4 b5 dl bl
  refine (live12 _ _ _ e3.out e4.out).mono ?_
  rintro x w22 ⟨rfl, hb⟩
  have B := Lib.hid (B.out.on hb)
  have P := Lib.hid (P.out.on hb)
  have Y := Lib.hid (Y.out.on hb)
  have A := Lib.hid (A.out.on hb)
  have e3 := Lib.hid (e3.out.on hb)
  have e4 := Lib.hid (e4.out.on hb)
  have eu := Lib.hid (eu.out.on hb)
  have q := Lib.hid (q.out.trans (hb.mono q.out.size))
  clear hb
  go_wp2_with fail
  go_ret
  exact ⟨rfl, q.out⟩

end Go.Proofs.Ytfebldoplobkdaa
