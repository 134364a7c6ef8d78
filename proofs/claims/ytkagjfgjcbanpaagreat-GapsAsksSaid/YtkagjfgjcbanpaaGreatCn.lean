/- The law GapsAsks: true for every room. -/
import Derived.Test.YtkagjfgjcbanpaaGreatCm

section
namespace Go.Proofs.R29
open Go.ChangeShapes Go.WideShapes Go.ChangeAt Go.RowKit Go.Shelf

theorem under30 : Tryz.prog.underlying 30 = some (.struct (Tryz.prog.underlying 30 |>.elim #[] fun | .struct fs => fs | _ => #[])) := by kernel_rfl
theorem size30 : (Tryz.prog.info? 30).map (·.size) = some 9 := by kernel_rfl
theorem load30 {w : World} {b o : Nat} {cs : List Value} (h : w.rangeAt b o cs) (hl : cs.length = 9) : (Instr.loadAt 30 (.pointer (some ⟨b, o, none⟩))).run Tryz.prog w = .ok (.agg cs.toArray) w :=
  run_loadAt_mid w b o 30 cs _ h under30 rfl (by rw [size30, hl])
theorem Whole.range {w : World} {g : Nat} {t : TypeId} {cs : List Value} (h : Whole w g t cs.toArray) : w.rangeAt g 0 cs := fun j v hv => by
  rw [Nat.zero_add, h.cell j]
  simpa using hv
theorem list_load30 {ops : Array Oper} {rest : List Oper} {a : Act} {w : World} {Q : Exit → Act → World → Prop} {dst : Option Tmp} {x : Operand} {ty : TypeId} {ps : String} {af : Array Edge}
    (b o : Nat) (cs : List Value) (hr : Hid (w.rangeAt b o cs)) {t : TypeId} {gd : Option (Tmp × Bool)} (ht : t = 30) (hg : gd = none) (hl : Hid (cs.length = 9)) (hx : a.eval x = .pointer (some ⟨b, o, none⟩)) (h : wpList Tryz.prog ops Q rest (a.put dst (.agg cs.toArray)) w) :
    wpList Tryz.prog ops Q ({ dst := dst, op := .load t x, type := ty, pos := ps, after := af, guard := gd } :: rest) a w := by
  subst ht hg
  exact wpList_load_mid rfl 30 x rfl b o hx cs _ hr under30 rfl (by rw [size30, hl]) h

theorem RoomOK.len {w : World} {cs : List Value} {es ws : List (List Value)} (h : RoomOK w cs es ws) : cs.length = 9 := by
  obtain ⟨_, _, _, _, _, _, _, _, _, _, _, _, _, _, _, _, _, _, _, rfl, _⟩ := h
  rfl
theorem RoomOK.on {w w' : World} {cs : List Value} {es ws : List (List Value)} (h : RoomOK w cs es ws) (q : Below w.heap.size w w') : RoomOK w' cs es ws := by
  obtain ⟨id, ev, ra, rn, rc, wt, ha, hn, hc, sa, sn, sc, nx, ca, cn, cc, ta, tn, tc, rfl, hev, hwt, hs, hct, ht⟩ := h
  exact ⟨id, ev, ra, rn, rc, wt, ha, hn, hc, sa, sn, sc, nx, ca, cn, cc, ta, tn, tc, rfl, hev.on q, hwt.on q, hs.on q, hct.on q, ht.on q⟩
theorem RoomOK.one {w : World} {cs : List Value} {es ws : List (List Value)} (h : RoomOK w cs es ws) : Evs w (cs.getD 1 undef) es ∧ Evs w (cs.getD 3 undef) ws := by
  obtain ⟨_, _, _, _, _, _, _, _, _, _, _, _, _, _, _, _, _, _, _, rfl, h1, h2, _⟩ := h
  exact ⟨h1, h2⟩

theorem refs_short {w : World} : ∀ {es : List (List Value)} {rs : List (List Int × List Int)}, AllRefs w es rs → (∀ c ∈ es, Lim c) → (allRefs rs).length ≤ 80 * es.length
  | _, _, .nil, _ => by simp [allRefs]
  | _, _, .cons (c := c) (cs := cs) (r := r) (rs := rs) h hs, hl => by
    have h1 := refs_short hs (fun d hd => hl d (List.mem_cons_of_mem _ hd))
    obtain ⟨pv, av, e8, e9, hp, ha⟩ := h
    obtain ⟨a1, c1, rfl, _⟩ := hp.form
    obtain ⟨a2, c2, rfl, _⟩ := ha.form
    have h2 := hl c (List.mem_cons_self ..) _ _ _ (.inl e8)
    have h3 := hl c (List.mem_cons_self ..) _ _ _ (.inr e9)
    have e : (allRefs (r :: rs)).length = r.1.length + r.2.length + (allRefs rs).length := by
      show (((r.1 ++ r.2) ++ allRefs rs : List Int)).length = _
      rw [List.length_append, List.length_append]
    rw [e, List.length_cons]
    omega

def lF (xs : List Int) : Nat → World → List Value → Prop
  | 0, _, _ => True
  | 1, w, ν => ∃ v, ν = [v] ∧ Ints w v xs
  | 2, w, ν => ∃ v u, ν = [v, u] ∧ Ints w v xs ∧ Ints w u xs
  | 3, _, ν => ∃ v u, ν = [v, u, .bool true]
  | 4, _, ν => ∃ v u, ν = [v, u, .bool true, .bool true]
  | 5, _, ν => ∃ v u, ν = [v, u, .bool true, .bool true, .bool true]
  | 6, _, ν => ∃ v u, ν = [v, u, .bool true, .bool true, .bool true, .bool true]
  | _, _, ν => ∃ v u, ν = [v, u, .bool true, .bool true, .bool true, .bool true, .bool true]
theorem lF_on {xs : List Int} : ∀ (p : Nat) (w w' : World) (ν : List Value), lF xs p w ν → Below w.heap.size w w' → lF xs p w' ν
  | 0, _, _, _, _, _ => trivial
  | 1, _, _, _, ⟨v, h, o⟩, hb => ⟨v, h, Row.on o hb⟩
  | 2, _, _, _, ⟨v, u, h, o, o2⟩, hb => ⟨v, u, h, Row.on o hb, Row.on o2 hb⟩
  | 3, _, _, _, h, _ => h
  | 4, _, _, _, h, _ => h
  | 5, _, _, _, h, _ => h
  | 6, _, _, _, h, _ => h
  | _ + 7, _, _, _, h, _ => h

set_option maxRecDepth 100000 in
set_option maxHeartbeats 2000000 in
theorem gapsAsks (cs : List Value) (es ws : List (List Value)) (w : World) (h : RoomOK w cs es ws) : Calls Tryz.prog 5 #[.agg cs.toArray] w fun x w' => x = .returned (.bool true) ∧ Below w.heap.size w w' := by
  obtain ⟨re, hre⟩ := allRefs_of (fun c hc => h.one.1.2 c hc)
  obtain ⟨rv, hrv⟩ := allRefs_of (fun c hc => h.one.2.2 c hc)
  have hl := h.len
  have q0 : Below w.heap.size w (w.alloc (.cells cs.toArray 30)) := (Below.refl _ _).alloc (Nat.le_refl _) _
  have B1 := Whole.new w 30 cs.toArray
  have h1 := h.on q0
  have hre1 := hre.on q0
  have hrv1 := hrv.on q0
  have hone : ∀ u ∈ cs, u.oneCell' = true := by
    obtain ⟨id, ev, ra, rn, rc, wt, ha, hn, hc, sa, sn, sc, nx, ca, cn, cc, ta, tn, tc, rfl, hev, hwt, _⟩ := h
    obtain ⟨_, _, rfl, _⟩ := hev.form
    obtain ⟨_, _, rfl, _⟩ := hwt.form
    intro u hu
    simp only [List.mem_cons, List.not_mem_nil, or_false] at hu
    rcases hu with rfl | rfl | rfl | rfl | rfl | rfl | rfl | rfl | rfl <;> rfl
  have hr1 := B1.range
  have H1 := Lib.hid h1
  have Hre := Lib.hid hre1
  have Hrv := Lib.hid hrv1
  have Q0 := Lib.hid q0
  have HB := Lib.hid B1
  have Hl := Lib.hid hl
  have Hr1 := Lib.hid hr1
  have Hone := Lib.hid hone
  clear h hre hrv q0 B1 h1 hre1 hrv1 hone hl hr1
  go_enter Tryz.func5, Tryz.ntmps5
  go_wp2_with (first | ((with_reducible refine list_load30 w.heap.size 0 cs Hr1 ?_ ?_ Hl ?_ ?_); all_goals try rfl))
  refine (great27_any cs es ws 14 _ H1).mono ?_
  rintro x w2 ⟨r, rfl, hr, hb2⟩
  have Q2 := Lib.hid (Below.trans Q0 (hb2.mono (by simp)))
  cases r with
  | true =>
    clear hr
    go_wp2_with fail
    go_ret
    exact ⟨rfl, Q2⟩
  | false =>
    obtain ⟨⟨s1, s2⟩, s3, s4⟩ := hr rfl
    have l1 := refs_short (Hre : AllRefs _ es re) s2
    have l2 := refs_short (Hrv : AllRefs _ ws rv) s4
    have L1 : (allRefs re).length ≤ 100000 := by omega
    have L2 : (allRefs rv).length ≤ 100000 := by omega
    have h2 := RoomOK.on H1 hb2
    have hre2 := AllRefs.on Hre hb2
    have hrv2 := AllRefs.on Hrv hb2
    have B2 := Whole.on HB hb2
    have hl : cs.length = 9 := Hl
    clear hr s1 s2 s3 s4 l1 l2 H1 Hre Hrv HB Hr1 hb2 Q0
    go_wp2_with fail
    refine wp_region_net [1, 3, 4, 5, 6, 7, 8] none (lF ((wantOf es ws re rv).take 100)) (by kernel_rfl) (by kernel_rfl) (by kernel_rfl) trivial ?_
    apply Exists.intro
    apply And.intro
    · intro W1 hW
      have hb := below_of_grown hW
      have hld : ∀ (X : Ext W1), (Instr.loadAt 30 (.pointer (some ⟨w.heap.size, 0, none⟩))).run Tryz.prog X.val = .ok (.agg cs.toArray) X.val := fun X => load30 (Whole.range ((B2.on hb).on X.below)) hl
      simp only [quietOps, List.contains_cons, List.contains_nil]
      simp
      repeat (first | go_big_quiet_skip | (go_big_quiet_want; (first | (refine quiet_load 30 _ rfl _ rfl _ hld ?_; simp only [Act.put, List.setIfInBounds_toArray, List.set_cons_succ, List.set_cons_zero]; go_big_quiet_on) | (go_big_quiet_op; (first | go_big_quiet_on | go_big_quiet_call (fail))))))
      exact wpQuiet_nil rfl
    refine ⟨⟨lF_on, fun j hj => ?_⟩, ?_⟩
    · match j, hj with
      | 0, _ =>
        refine ⟨_, rfl, .inl rfl, fun w3 ν hν hw3 _ => ?_⟩
        obtain rfl : ν = [] := List.eq_nil_of_length_eq_zero hν
        have hb := below_of_grown hw3
        refine leaves_fn 22 [.tmp 5] _ [.agg cs.toArray] (by kernel_rfl) rfl rfl (qAsk cs es ws re rv _ (h2.on hb) (hre2.on hb) (hrv2.on hb) L1 L2) ?_
        rintro e w4 ⟨v, rfl, hI, q4⟩
        exact ⟨_, rfl, grownBy_trans hw3 (grownBy_of_below q4), _, rfl, hI⟩
      | 1, _ =>
        refine ⟨_, rfl, .inl rfl, fun w3 ν hν hw3 hf => ?_⟩
        obtain ⟨v, rfl, hv⟩ := hf
        have hb := below_of_grown hw3
        refine leaves_fn 23 [.tmp 7] _ [.agg cs.toArray] (by kernel_rfl) rfl rfl (rAsk cs es ws re rv _ (h2.on hb) (hre2.on hb) (hrv2.on hb) L1 L2) ?_
        rintro e w4 ⟨u, rfl, hI, q4⟩
        exact ⟨_, rfl, grownBy_trans hw3 (grownBy_of_below q4), _, _, rfl, Row.on hv q4, hI⟩
      | 2, _ =>
        refine ⟨_, rfl, .inl rfl, fun w3 ν hν hw3 hf => ?_⟩
        obtain ⟨v, u, rfl, hv, hu⟩ := hf
        refine leaves_fn 21 [.tmp 6, .tmp 8] _ [v, u] (by kernel_rfl) rfl rfl (same_ok v u _ _ hv hu) ?_
        rintro e w4 ⟨rfl, q4⟩
        exact ⟨_, rfl, grownBy_trans hw3 (grownBy_of_below q4), _, _, rfl⟩
      | 3, _ =>
        refine ⟨_, rfl, .inl rfl, fun w3 ν hν hw3 hf => ?_⟩
        obtain ⟨v, u, rfl⟩ := hf
        exact ⟨hw3, v, u, rfl⟩
      | 4, _ =>
        refine ⟨_, rfl, .inr fun w3 ν hν hf => ?_, fun w3 ν hν hw3 hf => ?_⟩
        · obtain ⟨v, u, rfl⟩ := hf
          rfl
        · obtain ⟨v, u, rfl⟩ := hf
          refine leaves_fn 12 [] _ [] (by kernel_rfl) rfl rfl (live_ok _) ?_
          rintro e w4 ⟨rfl, q4⟩
          exact ⟨_, rfl, grownBy_trans hw3 (grownBy_of_below q4), _, _, rfl⟩
      | 5, _ =>
        refine ⟨_, rfl, .inl rfl, fun w3 ν hν hw3 hf => ?_⟩
        obtain ⟨v, u, rfl⟩ := hf
        exact ⟨hw3, v, u, rfl⟩
      | 6, _ =>
        refine ⟨_, rfl, .inl rfl, fun w3 ν hν hw3 hf => ?_⟩
        obtain ⟨v, u, rfl⟩ := hf
        exact ⟨hw3, v, u, rfl⟩
    · intro ν w3 hν hw3 hf
      obtain ⟨v, u, rfl⟩ := hf
      have hb := below_of_grown hw3
      have q3 : Below w.heap.size w w3 := Below.trans Q2 (hb.mono (Below.size Q2))
      simp only [dstsOfS, dstAt, List.map_cons, List.map_nil, fillA]
      simp [Act.put]
      go_wp2_with fail
      go_ret
      exact ⟨rfl, q3⟩
end Go.Proofs.R29
end
