/- The missing ids of a room, in the program and in the reference. -/
import Derived.Test.YtkagjfgjcbanpaaGreatCk
import Derived.Test.YtkagjfgjcbanpaaGreatCh

section
namespace Go.Proofs.R29
open Go.ChangeShapes Go.WideShapes Go.ChangeAt Go.RowKit Go.Shelf

section
variable {P : Program}
theorem below_of_grown {w w' : World} (h : w.grownBy w' none) : Below w.heap.size w w' := below_of_grownBy h
theorem leaves_value {o : Oper} {a : Act} {W w w' : World} {row : Option Nat} {G : Value → World → Prop} {u : Value} (h : (execOp a.eval o).run P w = .ok (.value u) w') (hg : W.grownBy w' row) (hG : G u w') : Leaves P o a W w row G := by
  unfold Leaves
  rw [h]
  exact ⟨hg, hG⟩
/-- A call of a function, as a special operation of a region that draws its order. -/
theorem leaves_call {o : Oper} {a : Act} {W w : World} {row : Option Nat} {G : Value → World → Prop} {R : Ending → World → Prop} (f : Nat) (us : Array Operand) (ts : Array TypeId) (vs : Array Value)
    (fn : Func) (hf : P.funcs[f]? = some fn) (hn : fn.name ≠ "runtime.NumGoroutine") (hb : fn.body ≠ none) (ho : o.op = .call { callee := .value (.func f), args := us, argTypes := ts }) (hv : us.map a.eval = vs) (hc : Calls P f vs w R) (k : ∀ x w', R x w' → ∃ u, x = .returned u ∧ W.grownBy w' row ∧ G u w') : Leaves P o a W w row G := by
  have : (execOp a.eval o).run P w = .ok (.enter f vs) w := by
    unfold execOp
    simp only [ho]
    subst hv
    simp [resolve, invoke, Act.eval, Deferred.ofValue, callFunc, hf, hn, hb]
  unfold Leaves
  rw [this]
  exact hc.mono k
theorem leaves_fn {o : Oper} {a : Act} {W w : World} {row : Option Nat} {G : Value → World → Prop} {R : Ending → World → Prop} (f : Nat) (us : List Operand) (ts : Array TypeId) (vs : List Value)
    (hf : (P.funcs[f]?).map (fun fn => (fn.name == "runtime.NumGoroutine", fn.body.isSome)) = some (false, true)) (ho : o.op = .call { callee := .value (.func f), args := us.toArray, argTypes := ts }) (hv : us.map a.eval = vs) (hc : Calls P f vs.toArray w R) (k : ∀ x w', R x w' → ∃ u, x = .returned u ∧ W.grownBy w' row ∧ G u w') : Leaves P o a W w row G := by
  cases hq : P.funcs[f]? with
  | none => simp [hq] at hf
  | some fn =>
    simp only [hq, Option.map_some, Option.some.injEq, Prod.mk.injEq] at hf
    exact leaves_call f us.toArray ts vs.toArray fn hq (by simpa using hf.1) (fun e => by rw [e] at hf; cases hf.2) ho (by rw [← hv]; simp) hc k
end

/-- A result that shows a list of numbers. -/
def IntsPost (ys : List Int) (w : World) (x : Ending) (w' : World) : Prop := ∃ v', x = .returned v' ∧ Ints w' v' ys ∧ Below w.heap.size w w'

/-- What is behind the operations of the first region, and of the second. -/
def mF (R : World → Value → List Int → Prop) (A B U : List Int) : Nat → World → List Value → Prop
  | 0, _, _ => True
  | 1, w, ν => ∃ v, ν = [v] ∧ R w v A
  | 2, w, ν => ∃ v u, ν = [v, u] ∧ R w v A ∧ R w u B
  | 3, w, ν => ∃ v u x, ν = [v, u, x] ∧ Ints w x U
  | _, w, ν => ∃ v u x, ν = [v, u, x, x] ∧ Ints w x U
def nF (R : World → Value → List Int → Prop) (A B : List Int) : Nat → World → List Value → Prop
  | 0, _, _ => True
  | 1, w, ν => ∃ v, ν = [v] ∧ R w v A
  | 2, w, ν => ∃ v u, ν = [v, u] ∧ R w u B
  | _, w, ν => ∃ v u, ν = [v, u, u] ∧ R w u B
theorem mF_on {R : World → Value → List Int → Prop} (hR : ∀ w w' v l, R w v l → Below w.heap.size w w' → R w' v l) {A B U : List Int} : ∀ (p : Nat) (w w' : World) (ν : List Value), mF R A B U p w ν → Below w.heap.size w w' → mF R A B U p w' ν
  | 0, _, _, _, _, _ => trivial
  | 1, _, _, _, ⟨v, h, o⟩, hb => ⟨v, h, hR _ _ _ _ o hb⟩
  | 2, _, _, _, ⟨v, u, h, o, o2⟩, hb => ⟨v, u, h, hR _ _ _ _ o hb, hR _ _ _ _ o2 hb⟩
  | 3, _, _, _, ⟨v, u, x, h, o⟩, hb => ⟨v, u, x, h, Row.on o hb⟩
  | _ + 4, _, _, _, ⟨v, u, x, h, o⟩, hb => ⟨v, u, x, h, Row.on o hb⟩
theorem nF_on {R : World → Value → List Int → Prop} (hR : ∀ w w' v l, R w v l → Below w.heap.size w w' → R w' v l) {A B : List Int} : ∀ (p : Nat) (w w' : World) (ν : List Value), nF R A B p w ν → Below w.heap.size w w' → nF R A B p w' ν
  | 0, _, _, _, _, _ => trivial
  | 1, _, _, _, ⟨v, h, o⟩, hb => ⟨v, h, hR _ _ _ _ o hb⟩
  | 2, _, _, _, ⟨v, u, h, o⟩, hb => ⟨v, u, h, hR _ _ _ _ o hb⟩
  | _ + 3, _, _, _, ⟨v, u, h, o⟩, hb => ⟨v, u, h, hR _ _ _ _ o hb⟩

theorem ints_stab (w w' : World) (v : Value) (l : List Int) (h : Ints w v l) (q : Below w.heap.size w w') : Ints w' v l := Row.on h q
theorem ints_self {w : World} {v : Value} {l : List Int} (h : Ints w v l) : Ints w v l := h
theorem shown_stab (w w' : World) (v : Value) (l : List Int) (h : Shown w v l) (q : Below w.heap.size w w') : Shown w' v l := Shown.on h q

abbrev unionOf (re rv : List (List Int × List Int)) : List Int := ordered (ordered (allRefs re) ++ ordered (allRefs rv))
abbrev lack1 (es : List (List Value)) (re rv : List (List Int × List Int)) : List Int := ordered (lackOf es (unionOf re rv))
/-- The ids that a room misses. -/
def wantOf (es ws : List (List Value)) (re rv : List (List Int × List Int)) : List Int := ordered (lackOf ws (lack1 es re rv))

theorem lackOf_len (es : List (List Value)) (xs : List Int) : (lackOf es xs).length ≤ xs.length := List.length_filter_le _ _
theorem unionOf_len {re rv : List (List Int × List Int)} (h1 : (allRefs re).length ≤ 100000) (h2 : (allRefs rv).length ≤ 100000) : (unionOf re rv).length ≤ 200000 := by
  have h3 := ordered_len (ordered (allRefs re) ++ ordered (allRefs rv))
  have h4 := ordered_len (allRefs re)
  have h5 := ordered_len (allRefs rv)
  rw [List.length_append] at h3
  show (ordered (ordered (allRefs re) ++ ordered (allRefs rv))).length ≤ 200000
  omega
theorem lack1_len {es : List (List Value)} {re rv : List (List Int × List Int)} (h1 : (allRefs re).length ≤ 100000) (h2 : (allRefs rv).length ≤ 100000) : (lack1 es re rv).length ≤ 200000 := by
  have h3 := ordered_len (lackOf es (unionOf re rv))
  have h4 := lackOf_len es (unionOf re rv)
  have h5 := unionOf_len h1 h2
  show (ordered (lackOf es (unionOf re rv))).length ≤ 200000
  omega

theorem Shown.ints {w : World} {s : Value} {xs : List Int} (h : Shown w s xs) : Ints w s xs := by
  obtain ⟨g, o, c, rfl, h⟩ := h
  exact h

set_option maxRecDepth 100000 in
set_option maxHeartbeats 2000000 in
theorem qMissing (cs : List Value) (es ws : List (List Value)) (re rv : List (List Int × List Int)) (w : World) (h : RoomOK w cs es ws) (hre : AllRefs w es re) (hrv : AllRefs w ws rv) (l1 : (allRefs re).length ≤ 100000) (l2 : (allRefs rv).length ≤ 100000) :
    Calls Tryz.prog 58 #[.agg cs.toArray] w (PutPost (wantOf es ws re rv) w) := by
  obtain ⟨id, ev, ra, rn, rc, wt, ha, hn, hc, sa, sn, sc, nx, ca, cn, cc, ta, tn, tc, rfl, hev, hwt, _, _, _⟩ := h
  go_enter Tryz.func58, Tryz.ntmps58
  go_wp2_with fail
  have q0 : Below w.heap.size w (w.alloc (.cells #[.string id, ev, .slice ra rn rc, wt, .slice ha hn hc, .slice sa sn sc, .int .i64 nx, .slice ca cn cc, .slice ta tn tc] 30)) := (Below.refl _ _).alloc (Nat.le_refl _) _
  have B1 := Whole.new w 30 #[.string id, ev, .slice ra rn rc, wt, .slice ha hn hc, .slice sa sn sc, .int .i64 nx, .slice ca cn cc, .slice ta tn tc]
  have hev1 := hev.on q0
  have hwt1 := hwt.on q0
  have hre1 := hre.on q0
  have hrv1 := hrv.on q0
  obtain ⟨w1, hw1⟩ : ∃ w1, w1 = w.alloc (.cells #[.string id, ev, .slice ra rn rc, wt, .slice ha hn hc, .slice sa sn sc, .int .i64 nx, .slice ca cn cc, .slice ta tn tc] 30) := ⟨_, rfl⟩
  rw [← hw1] at B1 hev1 hwt1 hre1 hrv1 q0 ⊢
  clear hw1 hev hwt hre hrv
  refine wp_region_net [2, 5, 6, 7] none (mF Shown (ordered (allRefs re)) (ordered (allRefs rv)) (unionOf re rv)) (by kernel_rfl) (by kernel_rfl) (by kernel_rfl) trivial ?_
  apply Exists.intro
  apply And.intro
  · intro W1 hW
    have hb := below_of_grown hW
    have hx : ∀ (X : Ext W1) (o : Nat), X.val.cell? ⟨w.heap.size, o, none⟩ = (#[.string id, ev, .slice ra rn rc, wt, .slice ha hn hc, .slice sa sn sc, .int .i64 nx, .slice ca cn cc, .slice ta tn tc] : Array Value)[o]? := fun X o => ((B1.on hb).on X.below).cell o
    simp only [quietOps, List.contains_cons, List.contains_nil]
    simp
    repeat (first | go_big_quiet_skip | (go_big_quiet_want; (first | (go_big_quiet_op; (first | go_big_quiet_on | go_big_quiet_call (fail))))))
    exact wpQuiet_nil rfl
  refine ⟨⟨mF_on shown_stab, fun j hj => ?_⟩, ?_⟩
  · match j, hj with
    | 0, _ =>
      refine ⟨_, rfl, .inl rfl, fun w2 ν hν hw2 _ => ?_⟩
      obtain rfl : ν = [] := List.eq_nil_of_length_eq_zero hν
      have hb := below_of_grown hw2
      refine leaves_fn 112 [.tmp 5] _ [ev] (by kernel_rfl) rfl rfl (srefs_ok _ es re _ (hev1.on hb) (hre1.on hb) (by omega)) ?_
      rintro e w3 ⟨g, o, c, rfl, hI, q3⟩
      exact ⟨_, rfl, grownBy_trans hw2 (grownBy_of_below (q3.mono (Nat.le_refl _))), _, rfl, ⟨g, o, c, rfl, hI⟩⟩
    | 1, _ =>
      refine ⟨_, rfl, .inl rfl, fun w2 ν hν hw2 hf => ?_⟩
      obtain ⟨v, rfl, hv⟩ := hf
      have hb := below_of_grown hw2
      refine leaves_fn 112 [.tmp 8] _ [wt] (by kernel_rfl) rfl rfl (srefs_ok _ ws rv _ (hwt1.on hb) (hrv1.on hb) (by omega)) ?_
      rintro e w3 ⟨g, o, c, rfl, hI, q3⟩
      exact ⟨_, rfl, grownBy_trans hw2 (grownBy_of_below (q3.mono (Nat.le_refl _))), _, _, rfl, shown_stab _ _ _ _ hv q3, ⟨g, o, c, rfl, hI⟩⟩
    | 2, _ =>
      refine ⟨_, rfl, .inl rfl, fun w2 ν hν hw2 hf => ?_⟩
      obtain ⟨v, u, rfl, hv, hu⟩ := hf
      have hb := below_of_grown hw2
      obtain ⟨g2, o2, c2, rfl, hu⟩ := hu
      refine leaves_fn 111 [.tmp 6, .tmp 9] _ [v, .slice (some ⟨g2, o2, none⟩) (ordered (allRefs rv)).length c2] (by kernel_rfl) rfl rfl (union_ok v _ g2 o2 _ c2 (ordered (allRefs rv)) _ (Shown.ints hv) hu (by have := ordered_len (allRefs re); omega) (by have := ordered_len (allRefs rv); omega)) ?_
      rintro e w3 ⟨v3, rfl, hI, q3⟩
      exact ⟨_, rfl, grownBy_trans hw2 (grownBy_of_below (q3.mono (Nat.le_refl _))), _, _, _, rfl, hI⟩
    | 3, _ =>
      refine ⟨_, rfl, .inl rfl, fun w2 ν hν hw2 hf => ?_⟩
      obtain ⟨v, u, x, rfl, hx⟩ := hf
      exact ⟨hw2, v, u, x, rfl, hx⟩
  · intro ν w2 hν hw2 hf
    obtain ⟨v, u, x, rfl, hx⟩ := hf
    have hb := below_of_grown hw2
    have hev2 := hev1.on hb
    have hwt2 := hwt1.on hb
    have B2 := B1.on hb
    have q2 := q0.trans (hb.mono q0.size)
    simp only [dstsOfS, dstAt, List.map_cons, List.map_nil, fillA]
    simp [Act.put]
    clear hev1 hwt1 hre1 hrv1 B1 hw2 hb
    have hux := unionOf_len l1 l2
    go_wp2_with fail
    refine wp_region_net [5, 6, 7] none (nF Shown (lack1 es re rv) (wantOf es ws re rv)) (by kernel_rfl) (by kernel_rfl) (by kernel_rfl) trivial ?_
    apply Exists.intro
    apply And.intro
    · intro W1 hW
      have hb := below_of_grown hW
      have hx : ∀ (X : Ext W1) (o : Nat), X.val.cell? ⟨w.heap.size, o, none⟩ = (#[.string id, ev, .slice ra rn rc, wt, .slice ha hn hc, .slice sa sn sc, .int .i64 nx, .slice ca cn cc, .slice ta tn tc] : Array Value)[o]? := fun X o => ((B2.on hb).on X.below).cell o
      simp only [quietOps, List.contains_cons, List.contains_nil]
      simp
      repeat (first | go_big_quiet_skip | (go_big_quiet_want; (first | (go_big_quiet_op; (first | go_big_quiet_on | go_big_quiet_call (fail))))))
      exact wpQuiet_nil rfl
    refine ⟨⟨nF_on shown_stab, fun j hj => ?_⟩, ?_⟩
    · match j, hj with
      | 0, _ =>
        refine ⟨_, rfl, .inl rfl, fun w3 ν hν hw3 _ => ?_⟩
        obtain rfl : ν = [] := List.eq_nil_of_length_eq_zero hν
        have hb := below_of_grown hw3
        refine leaves_fn 113 [.tmp 14, .tmp 15] _ [ev, x] (by kernel_rfl) rfl rfl (smiss_ok _ _ es (unionOf re rv) _ (hev2.on hb) (ints_stab _ _ _ _ hx hb) (by omega)) ?_
        rintro e w4 ⟨g, o, c, rfl, hI, q3⟩
        exact ⟨_, rfl, grownBy_trans hw3 (grownBy_of_below (q3.mono (Nat.le_refl _))), _, rfl, ⟨g, o, c, rfl, hI⟩⟩
      | 1, _ =>
        refine ⟨_, rfl, .inl rfl, fun w3 ν hν hw3 hf => ?_⟩
        obtain ⟨v4, rfl, hv4⟩ := hf
        have hb := below_of_grown hw3
        have hl := lack1_len (es := es) l1 l2
        refine leaves_fn 113 [.tmp 12, .tmp 16] _ [wt, v4] (by kernel_rfl) rfl rfl (smiss_ok _ _ ws (lack1 es re rv) _ (hwt2.on hb) (Shown.ints hv4) (by omega)) ?_
        rintro e w4 ⟨g, o, c, rfl, hI, q3⟩
        exact ⟨_, rfl, grownBy_trans hw3 (grownBy_of_below (q3.mono (Nat.le_refl _))), _, _, rfl, ⟨g, o, c, rfl, hI⟩⟩
      | 2, _ =>
        refine ⟨_, rfl, .inl rfl, fun w3 ν hν hw3 hf => ?_⟩
        obtain ⟨v4, u4, rfl, hu4⟩ := hf
        exact ⟨hw3, v4, u4, rfl, hu4⟩
    · intro ν w3 hν hw3 hf
      obtain ⟨v4, u4, rfl, hu4⟩ := hf
      have hb := below_of_grown hw3
      have q3 := q2.trans (hb.mono q2.size)
      have Hu := Lib.hid hu4
      clear hev2 hwt2 B2 hw3 hb hu4 hx
      simp only [dstsOfS, dstAt, List.map_cons, List.map_nil, fillA]
      simp [Act.put]
      go_wp2_with fail
      go_ret
      obtain ⟨g, o, c, rfl, hI⟩ := (Hu : Shown _ _ _)
      exact ⟨g, o, c, rfl, hI, q3⟩

set_option maxRecDepth 100000 in
set_option maxHeartbeats 2000000 in
theorem rMissing (cs : List Value) (es ws : List (List Value)) (re rv : List (List Int × List Int)) (w : World) (h : RoomOK w cs es ws) (hre : AllRefs w es re) (hrv : AllRefs w ws rv) (l1 : (allRefs re).length ≤ 100000) (l2 : (allRefs rv).length ≤ 100000) :
    Calls Tryz.prog 59 #[.agg cs.toArray] w (IntsPost (wantOf es ws re rv) w) := by
  obtain ⟨id, ev, ra, rn, rc, wt, ha, hn, hc, sa, sn, sc, nx, ca, cn, cc, ta, tn, tc, rfl, hev, hwt, _, _, _⟩ := h
  go_enter Tryz.func59, Tryz.ntmps59
  go_wp2_with fail
  have q0 : Below w.heap.size w (w.alloc (.cells #[.string id, ev, .slice ra rn rc, wt, .slice ha hn hc, .slice sa sn sc, .int .i64 nx, .slice ca cn cc, .slice ta tn tc] 30)) := (Below.refl _ _).alloc (Nat.le_refl _) _
  have B1 := Whole.new w 30 #[.string id, ev, .slice ra rn rc, wt, .slice ha hn hc, .slice sa sn sc, .int .i64 nx, .slice ca cn cc, .slice ta tn tc]
  have hev1 := hev.on q0
  have hwt1 := hwt.on q0
  have hre1 := hre.on q0
  have hrv1 := hrv.on q0
  obtain ⟨w1, hw1⟩ : ∃ w1, w1 = w.alloc (.cells #[.string id, ev, .slice ra rn rc, wt, .slice ha hn hc, .slice sa sn sc, .int .i64 nx, .slice ca cn cc, .slice ta tn tc] 30) := ⟨_, rfl⟩
  rw [← hw1] at B1 hev1 hwt1 hre1 hrv1 q0 ⊢
  clear hw1 hev hwt hre hrv
  refine wp_region_net [2, 5, 6, 7] none (mF Ints (ordered (allRefs re)) (ordered (allRefs rv)) (unionOf re rv)) (by kernel_rfl) (by kernel_rfl) (by kernel_rfl) trivial ?_
  apply Exists.intro
  apply And.intro
  · intro W1 hW
    have hb := below_of_grown hW
    have hx : ∀ (X : Ext W1) (o : Nat), X.val.cell? ⟨w.heap.size, o, none⟩ = (#[.string id, ev, .slice ra rn rc, wt, .slice ha hn hc, .slice sa sn sc, .int .i64 nx, .slice ca cn cc, .slice ta tn tc] : Array Value)[o]? := fun X o => ((B1.on hb).on X.below).cell o
    simp only [quietOps, List.contains_cons, List.contains_nil]
    simp
    repeat (first | go_big_quiet_skip | (go_big_quiet_want; (first | (go_big_quiet_op; (first | go_big_quiet_on | go_big_quiet_call (fail))))))
    exact wpQuiet_nil rfl
  refine ⟨⟨mF_on ints_stab, fun j hj => ?_⟩, ?_⟩
  · match j, hj with
    | 0, _ =>
      refine ⟨_, rfl, .inl rfl, fun w2 ν hν hw2 _ => ?_⟩
      obtain rfl : ν = [] := List.eq_nil_of_length_eq_zero hν
      have hb := below_of_grown hw2
      refine leaves_fn 93 [.tmp 5] _ [ev] (by kernel_rfl) rfl rfl (refs_ok _ es re _ (hev1.on hb) (hre1.on hb) (by omega)) ?_
      rintro e w3 ⟨g, rfl, hI, q3⟩
      rw [withAll_ordered] at hI
      exact ⟨_, rfl, grownBy_trans hw2 (grownBy_of_below (q3.mono (Nat.le_refl _))), _, rfl, hI⟩
    | 1, _ =>
      refine ⟨_, rfl, .inl rfl, fun w2 ν hν hw2 hf => ?_⟩
      obtain ⟨v, rfl, hv⟩ := hf
      have hb := below_of_grown hw2
      refine leaves_fn 93 [.tmp 8] _ [wt] (by kernel_rfl) rfl rfl (refs_ok _ ws rv _ (hwt1.on hb) (hrv1.on hb) (by omega)) ?_
      rintro e w3 ⟨g, rfl, hI, q3⟩
      rw [withAll_ordered] at hI
      exact ⟨_, rfl, grownBy_trans hw2 (grownBy_of_below (q3.mono (Nat.le_refl _))), _, _, rfl, ints_stab _ _ _ _ hv q3, hI⟩
    | 2, _ =>
      refine ⟨_, rfl, .inl rfl, fun w2 ν hν hw2 hf => ?_⟩
      obtain ⟨v, u, rfl, hv, hu⟩ := hf
      have hb := below_of_grown hw2
      skip
      refine leaves_fn 60 [.tmp 6, .tmp 9] _ [v, u] (by kernel_rfl) rfl rfl (rUnion_ok v u _ _ _ hv hu (by have := ordered_len (allRefs re); omega) (by have := ordered_len (allRefs rv); omega)) ?_
      rintro e w3 ⟨g, o, c, rfl, hI, q3⟩
      exact ⟨_, rfl, grownBy_trans hw2 (grownBy_of_below (q3.mono (Nat.le_refl _))), _, _, _, rfl, hI⟩
    | 3, _ =>
      refine ⟨_, rfl, .inl rfl, fun w2 ν hν hw2 hf => ?_⟩
      obtain ⟨v, u, x, rfl, hx⟩ := hf
      exact ⟨hw2, v, u, x, rfl, hx⟩
  · intro ν w2 hν hw2 hf
    obtain ⟨v, u, x, rfl, hx⟩ := hf
    have hb := below_of_grown hw2
    have hev2 := hev1.on hb
    have hwt2 := hwt1.on hb
    have B2 := B1.on hb
    have q2 := q0.trans (hb.mono q0.size)
    simp only [dstsOfS, dstAt, List.map_cons, List.map_nil, fillA]
    simp [Act.put]
    clear hev1 hwt1 hre1 hrv1 B1 hw2 hb
    have hux := unionOf_len l1 l2
    go_wp2_with fail
    refine wp_region_net [5, 6, 7] none (nF Ints (lack1 es re rv) (wantOf es ws re rv)) (by kernel_rfl) (by kernel_rfl) (by kernel_rfl) trivial ?_
    apply Exists.intro
    apply And.intro
    · intro W1 hW
      have hb := below_of_grown hW
      have hx : ∀ (X : Ext W1) (o : Nat), X.val.cell? ⟨w.heap.size, o, none⟩ = (#[.string id, ev, .slice ra rn rc, wt, .slice ha hn hc, .slice sa sn sc, .int .i64 nx, .slice ca cn cc, .slice ta tn tc] : Array Value)[o]? := fun X o => ((B2.on hb).on X.below).cell o
      simp only [quietOps, List.contains_cons, List.contains_nil]
      simp
      repeat (first | go_big_quiet_skip | (go_big_quiet_want; (first | (go_big_quiet_op; (first | go_big_quiet_on | go_big_quiet_call (fail))))))
      exact wpQuiet_nil rfl
    refine ⟨⟨nF_on ints_stab, fun j hj => ?_⟩, ?_⟩
    · match j, hj with
      | 0, _ =>
        refine ⟨_, rfl, .inl rfl, fun w3 ν hν hw3 _ => ?_⟩
        obtain rfl : ν = [] := List.eq_nil_of_length_eq_zero hν
        have hb := below_of_grown hw3
        refine leaves_fn 27 [.tmp 14, .tmp 15] _ [ev, x] (by kernel_rfl) rfl rfl (miss_ok _ _ es (unionOf re rv) _ (hev2.on hb) (ints_stab _ _ _ _ hx hb) (by omega)) ?_
        rintro e w4 ⟨g, rfl, hI, q3⟩
        unfold missOf at hI
        rw [withAll_ordered] at hI
        exact ⟨_, rfl, grownBy_trans hw3 (grownBy_of_below (q3.mono (Nat.le_refl _))), _, rfl, hI⟩
      | 1, _ =>
        refine ⟨_, rfl, .inl rfl, fun w3 ν hν hw3 hf => ?_⟩
        obtain ⟨v4, rfl, hv4⟩ := hf
        have hb := below_of_grown hw3
        have hl := lack1_len (es := es) l1 l2
        refine leaves_fn 27 [.tmp 12, .tmp 16] _ [wt, v4] (by kernel_rfl) rfl rfl (miss_ok _ _ ws (lack1 es re rv) _ (hwt2.on hb) (ints_self hv4) (by omega)) ?_
        rintro e w4 ⟨g, rfl, hI, q3⟩
        unfold missOf at hI
        rw [withAll_ordered] at hI
        exact ⟨_, rfl, grownBy_trans hw3 (grownBy_of_below (q3.mono (Nat.le_refl _))), _, _, rfl, hI⟩
      | 2, _ =>
        refine ⟨_, rfl, .inl rfl, fun w3 ν hν hw3 hf => ?_⟩
        obtain ⟨v4, u4, rfl, hu4⟩ := hf
        exact ⟨hw3, v4, u4, rfl, hu4⟩
    · intro ν w3 hν hw3 hf
      obtain ⟨v4, u4, rfl, hu4⟩ := hf
      have hb := below_of_grown hw3
      have q3 := q2.trans (hb.mono q2.size)
      have Hu := Lib.hid hu4
      clear hev2 hwt2 B2 hw3 hb hu4 hx
      simp only [dstsOfS, dstAt, List.map_cons, List.map_nil, fillA]
      simp [Act.put]
      go_wp2_with fail
      go_ret
      exact ⟨_, rfl, Hu, q3⟩
end Go.Proofs.R29
end
