/- Ask: the first hundred. -/
import Derived.Test.YtkagjfgjcbanpaaGreatCl
import Derived.Test.YtkagjfgjcbanpaaGreatBm

section
namespace Go.Proofs.R29
open Go.ChangeShapes Go.WideShapes Go.ChangeAt Go.RowKit Go.Shelf

theorem ints_take {w : World} {ao : Option Addr} {cap : Nat} {xs : List Int} (h : Ints w (.slice ao xs.length cap) xs) {m : Nat} (hm : m ≤ xs.length) : Ints w (.slice ao m cap) (xs.take m) := by
  obtain ⟨ao', cap', e, h2, h3, h4, h5⟩ := h
  cases e
  have hl : (xs.take m).length = m := by rw [List.length_take]; omega
  refine ⟨ao, cap, by rw [hl], by rw [hl]; omega, h3, by simp, fun h0 => ?_⟩
  obtain ⟨b, off, e, hb, hc⟩ := h5 (by omega)
  refine ⟨b, off, e, hb, fun j u hu => hc j u ?_⟩
  rw [List.map_take] at hu
  have hj : j < m := by
    have := (List.getElem?_eq_some_iff.1 hu).1
    rw [List.length_take] at this
    omega
  rwa [List.getElem?_take, if_pos hj] at hu

theorem StrCol.on {w w' : World} {ao : Option Addr} {n size r : Nat} (h : StrCol w ao n size r) (q : Below w.heap.size w w') : StrCol w' ao n size r := fun k hk => by
  obtain ⟨b, off, s, e, hc⟩ := h k hk
  exact ⟨b, off, s, e, fun w2 q2 => hc w2 (q.trans (q2.mono q.size))⟩

set_option maxRecDepth 100000 in
set_option maxHeartbeats 2000000 in
theorem qAsk (cs : List Value) (es ws : List (List Value)) (re rv : List (List Int × List Int)) (w : World) (h : RoomOK w cs es ws) (hre : AllRefs w es re) (hrv : AllRefs w ws rv) (l1 : (allRefs re).length ≤ 100000) (l2 : (allRefs rv).length ≤ 100000) :
    Calls Tryz.prog 22 #[.agg cs.toArray] w (IntsPost ((wantOf es ws re rv).take 100) w) := by
  obtain ⟨id, ev, ra, rn, rc, wt, ha, hn, hc, sa, sn, sc, nx, ca, cn, cc, ta, tn, tc, rfl, hev, hwt, hs, hct, ht⟩ := h
  have q0 : Below w.heap.size w (w.alloc (.cells #[.string id, ev, .slice ra rn rc, wt, .slice ha hn hc, .slice sa sn sc, .int .i64 nx, .slice ca cn cc, .slice ta tn tc] 30)) := (Below.refl _ _).alloc (Nat.le_refl _) _
  have hcall := qMissing _ es ws re rv (w.alloc (.cells #[.string id, ev, .slice ra rn rc, wt, .slice ha hn hc, .slice sa sn sc, .int .i64 nx, .slice ca cn cc, .slice ta tn tc] 30)) ⟨id, ev, ra, rn, rc, wt, ha, hn, hc, sa, sn, sc, nx, ca, cn, cc, ta, tn, tc, rfl, hev.on q0, hwt.on q0, hs.on q0, hct.on q0, ht.on q0⟩ (hre.on q0) (hrv.on q0) l1 l2
  have Hcall := Lib.hid hcall
  have Q0 := Lib.hid q0
  clear hcall q0 hev hwt hs hct ht hre hrv l1 l2
  go_enter Tryz.func22, Tryz.ntmps22
  go_wp2_with fail
  refine Calls.mono Hcall ?_
  rintro e w2 ⟨g, o, c, rfl, hI, q2⟩
  have Q2 := Lib.hid (Below.trans Q0 (q2.mono (Below.size Q0)))
  generalize wantOf es ws re rv = xs at *
  obtain ⟨_, _, eform, hcap1, hcap2⟩ := hI.form
  cases eform
  have HI := Lib.hid hI
  clear hI q2 Hcall
  by_cases hl : xs.length ≤ 100
  · have e1 : xs.take 100 = xs := List.take_of_length_le hl
    have E1 := Lib.hid e1
    clear e1
    go_wp2_with fail
    go_ret
    refine ⟨_, rfl, ?_, Q2⟩
    rw [(E1 : xs.take 100 = xs)]
    show Ints w2 (.slice (some ⟨g, o, none⟩) (min ((xs.length : Nat) : Int) 100).toNat c) xs
    rw [show (min ((xs.length : Nat) : Int) 100).toNat = xs.length by omega]
    exact HI
  · have hI2 := ints_take HI (m := 100) (by omega)
    have HI2 := Lib.hid hI2
    clear hI2
    go_wp2_with fail
    go_ret
    refine ⟨_, rfl, ?_, Q2⟩
    show Ints w2 (.slice (some ⟨g, o, none⟩) (min ((xs.length : Nat) : Int) 100).toNat c) (xs.take 100)
    rw [show (min ((xs.length : Nat) : Int) 100).toNat = 100 by omega]
    exact HI2

set_option maxRecDepth 100000 in
set_option maxHeartbeats 2000000 in
theorem rAsk (cs : List Value) (es ws : List (List Value)) (re rv : List (List Int × List Int)) (w : World) (h : RoomOK w cs es ws) (hre : AllRefs w es re) (hrv : AllRefs w ws rv) (l1 : (allRefs re).length ≤ 100000) (l2 : (allRefs rv).length ≤ 100000) :
    Calls Tryz.prog 23 #[.agg cs.toArray] w (IntsPost ((wantOf es ws re rv).take 100) w) := by
  obtain ⟨id, ev, ra, rn, rc, wt, ha, hn, hc, sa, sn, sc, nx, ca, cn, cc, ta, tn, tc, rfl, hev, hwt, hs, hct, ht⟩ := h
  have q0 : Below w.heap.size w (w.alloc (.cells #[.string id, ev, .slice ra rn rc, wt, .slice ha hn hc, .slice sa sn sc, .int .i64 nx, .slice ca cn cc, .slice ta tn tc] 30)) := (Below.refl _ _).alloc (Nat.le_refl _) _
  have hcall := rMissing _ es ws re rv (w.alloc (.cells #[.string id, ev, .slice ra rn rc, wt, .slice ha hn hc, .slice sa sn sc, .int .i64 nx, .slice ca cn cc, .slice ta tn tc] 30)) ⟨id, ev, ra, rn, rc, wt, ha, hn, hc, sa, sn, sc, nx, ca, cn, cc, ta, tn, tc, rfl, hev.on q0, hwt.on q0, hs.on q0, hct.on q0, ht.on q0⟩ (hre.on q0) (hrv.on q0) l1 l2
  have Hcall := Lib.hid hcall
  have Q0 := Lib.hid q0
  clear hcall q0 hev hwt hs hct ht hre hrv l1 l2
  go_enter Tryz.func23, Tryz.ntmps23
  go_wp2_with fail
  refine Calls.mono Hcall ?_
  rintro e w2 ⟨v, rfl, hI, q2⟩
  have Q2 := Lib.hid (Below.trans Q0 (q2.mono (Below.size Q0)))
  generalize wantOf es ws re rv = xs at *
  obtain ⟨ao, c, rfl, hcap1, hcap2⟩ := hI.form
  have HI := Lib.hid hI
  clear hI q2 Hcall
  by_cases hl : xs.length ≤ 100
  · have e1 : xs.take 100 = xs := List.take_of_length_le hl
    have E1 := Lib.hid e1
    clear e1
    go_wp2_with fail
    go_ret
    exact ⟨_, rfl, by rw [(E1 : xs.take 100 = xs)]; exact HI, Q2⟩
  · have hI2 := ints_take HI (m := 100) (by omega)
    have HI2 := Lib.hid hI2
    obtain ⟨b, o, rfl, _, _⟩ := Ints.at_ HI (k := 0) (by omega)
    clear hI2
    go_wp2_with fail
    go_ret
    exact ⟨_, rfl, HI2, Q2⟩
end Go.Proofs.R29
end

/- The law GapsAsks, walked. -/
section
namespace Go.Proofs.R29
open Go.ChangeShapes Go.WideShapes Go.ChangeAt Go.RowKit Go.Shelf

/-- The worked example comes to true. -/
theorem live_ok (w : World) : Calls Tryz.prog 12 #[] w fun x w' => x = .returned (.bool true) ∧ Below w.heap.size w w' := by
  have h := Go.Abs.R29.m48.2
  refine (h w (fun _ _ => False) (fun _ => False) [] (fun _ _ h => h.elim) (fun _ h => h.elim) .nil).mono ?_
  rintro e w' ⟨hb, I', J', _, _, _, _, ho⟩
  cases e with
  | returned v =>
    have ho : Go.Abs.TV w' I' J' (.sc (.bool true)) v := ho
    cases ho
    exact ⟨rfl, hb⟩
  | panicked c => exact absurd ho (fun h => h)
  | outgrown => exact absurd ho (fun h => h)
end Go.Proofs.R29
end
