/- Lists of acts; content and same of the law: a list is the same as one that shows the same. -/
import Derived.Test.YtojknjmcmadhcaaGreatDoorCj
import Derived.Deep.MidRow

section
namespace Go.Proofs.R50
open Go.ChangeShapes Go.WideShapes Go.ChangeAt Go.RowKit

def bodyC (tx : ByteArray) (cn tg : Int) : Array Value := #[.string tx, .int .i64 cn, .int .i64 tg, .bool false, .string ⟨#[]⟩, .slice none 0 0, .slice none 0 0, .slice none 0 0, .slice none 0 0, .int .i64 0, .int .i64 0, .int .i64 0, .int .i64 0, .int .i64 0, .int .i64 0, .int .i64 0]

set_option maxRecDepth 100000 in
set_option maxHeartbeats 1000000 in
theorem content_ok (tx : ByteArray) (cn tg : Int) (w : World) : Calls Tryz.prog 9 #[.agg (bodyC tx cn tg), .agg (bodyC tx cn tg)] w fun e w' => e = .returned (.bool true) ∧ Below w.heap.size w w' := by
  have hb := ((Below.refl w.heap.size w).alloc (Nat.le_refl _) (.cells (bodyC tx cn tg) 35)).alloc (by rw [World.size_alloc]; omega) (.cells (bodyC tx cn tg) 35)
  have Hb := Lib.hid hb
  clear hb
  unfold bodyC
  go_enter Tryz.func9, Tryz.ntmps9
  go_wp2_with fail
  go_ret
  exact ⟨rfl, Hb⟩

/-- The slice v shows acts. -/
structure Acts (w : World) (v : Value) (ts : List (Value × PA)) : Prop where
  row : Row w v 19 ts.length (actsC ts)
  names : ∀ t ∈ ts, Strs w t.1 t.2.2.1.names
theorem Acts.on {w w' : World} {v : Value} {ts : List (Value × PA)} (h : Acts w v ts) (hb : Below w.heap.size w w') : Acts w' v ts := ⟨h.row.on hb, fun t ht => (h.names t ht).on hb⟩
theorem ActsOwn.acts {w : World} {base : Nat} {v : Value} {ts : List (Value × PA)} (h : ActsOwn w base v ts) : Acts w v ts := ⟨Row.of_own h.row, fun t ht => Strs.of_own (h.names t ht)⟩
theorem Acts.nil {w : World} : Acts w (.slice none 0 0) [] := ⟨Row.nil, fun t ht => by cases ht⟩
theorem acts_at : ∀ (ts : List (Value × PA)) (k : Nat) (t : Value × PA) (j : Nat), ts[k]? = some t → j < 19 → (actsC ts)[k * 19 + j]? = (cellsT t)[j]?
  | [], k, t, j, h, _ => by simp at h
  | y :: ys, 0, t, j, h, hj => by
    simp at h
    subst h
    have hl : (cellsT y).toList.length = 19 := rfl
    show ((cellsT y).toList ++ actsC ys)[0 * 19 + j]? = _
    rw [Nat.zero_mul, Nat.zero_add, List.getElem?_append_left (by rw [hl]; exact hj), Array.getElem?_toList]
  | y :: ys, k + 1, t, j, h, hj => by
    have hl : (cellsT y).toList.length = 19 := rfl
    show ((cellsT y).toList ++ actsC ys)[(k + 1) * 19 + j]? = _
    rw [List.getElem?_append_right (by rw [hl]; omega), hl, show (k + 1) * 19 + j - 19 = k * 19 + j by omega]
    exact acts_at ys k t j (by simpa using h) hj
theorem Acts.form {w : World} {v : Value} {ts : List (Value × PA)} (h : Acts w v ts) : ∃ ao cap, v = .slice ao ts.length cap ∧ ts.length ≤ cap ∧ cap ≤ 9223372036854775807 := by
  obtain ⟨ao, cap, h1, h2, h3, _⟩ := h.row
  exact ⟨ao, cap, h1, h2, h3⟩
theorem Acts.at_ {w : World} {ao : Option Addr} {n cap : Nat} {ts : List (Value × PA)} (h : Acts w (.slice ao n cap) ts) {k : Nat} (hk : k < ts.length) :
    ∃ b off, ao = some ⟨b, off, none⟩ ∧ b < w.heap.size ∧ (∀ j v, (cellsT ts[k])[j]? = some v → w.cell? ⟨b, off + k * 19 + j, none⟩ = some v) := by
  obtain ⟨ao', cap', h1, _, _, _, h5⟩ := h.row
  obtain ⟨b, off, e, hb, hc⟩ := h5 (by omega)
  have e1 : ao = ao' := by injection h1
  refine ⟨b, off, e1.trans e, hb, fun j v hv => ?_⟩
  have hj : j < 19 := by have := (Array.getElem?_eq_some_iff.1 hv).1; exact this
  rw [Nat.add_assoc]
  exact hc _ _ ((acts_at ts k ts[k] j (by simp [hk]) hj).trans hv)
theorem under35 : ∃ fs, Tryz.prog.underlying 35 = some (.struct fs) := ⟨_, Tryz.underlying35⟩
theorem size35 : (Tryz.prog.info? 35).map (·.size) = some 16 := by kernel_rfl
theorem load35 {w : World} {b o : Nat} (tx : ByteArray) (cn tg : Int) (h : w.rangeAt b o (bodyC tx cn tg).toList) : (Instr.loadAt 35 (.pointer (some ⟨b, o, none⟩))).run Tryz.prog w = .ok (.agg (bodyC tx cn tg)) w := by
  obtain ⟨fs, hu⟩ := under35
  exact run_loadAt_mid w b o 35 (bodyC tx cn tg).toList _ h hu rfl (by rw [size35]; rfl)

set_option maxRecDepth 100000 in
set_option maxHeartbeats 1000000 in
theorem same_ok (v1 v2 : Value) (ts1 ts2 : List (Value × PA)) (w : World) (h1 : Acts w v1 ts1) (h2 : Acts w v2 ts2) (heq : ts1.map (·.2) = ts2.map (·.2)) :
    Calls Tryz.prog 8 #[v1, v2] w fun x w' => x = .returned (.bool true) ∧ Below w.heap.size w w' := by
  obtain ⟨a1, c1, rfl, hl1, hc1⟩ := h1.form
  obtain ⟨a2, c2, rfl, hl2, hc2⟩ := h2.form
  have hlen : ts1.length = ts2.length := by simpa using congrArg List.length heq
  have q0 := Below.refl w.heap.size w
  have H1 := Lib.hid h1
  have H2 := Lib.hid h2
  have Heq := Lib.hid heq
  obtain ⟨L, hL⟩ : ∃ L, ts1.length = L := ⟨_, rfl⟩
  rw [← hlen] at hl2 H2 ⊢
  rw [hL] at hl1 hl2 H1 H2 ⊢
  have HL := Lib.hid hL
  have HL2 := Lib.hid (hlen.symm.trans hL)
  clear h1 h2 hlen hL heq
  go_enter Tryz.func8, Tryz.ntmps8
  go_wp2_with fail
  go_loopw [5] (fun i wr => ∃ k : Nat, k ≤ L ∧ i = .int .i64 k ∧ Below w.heap.size w wr) (fun i _ => L - (intOf i).toNat)
  case atStart => exact ⟨0, Nat.zero_le _, rfl, q0⟩
  case round =>
    clear q0
    obtain ⟨k, hk, rfl, q⟩ := hrel
    by_cases hlt : k < L
    · have hk1 : k < ts1.length := by rw [(HL : _ = L)]; exact hlt
      have hk2 : k < ts2.length := by rw [(HL2 : _ = L)]; exact hlt
      obtain ⟨b1, o1, rfl, hb1, hr1⟩ := Acts.at_ H1 hk1
      obtain ⟨b2, o2, rfl, hb2, hr2⟩ := Acts.at_ H2 hk2
      have hn1 := Acts.names H1 ts1[k] (List.getElem_mem hk1)
      have hn2 := Acts.names H2 ts2[k] (List.getElem_mem hk2)
      have hp : ts1[k].2 = ts2[k].2 := by
        have := congrArg (·[k]?) (Heq : _ = _)
        simpa [hk1, hk2] using this
      obtain ⟨⟨nv1, wd, A, tx⟩, ht1⟩ : ∃ t, ts1[k] = t := ⟨_, rfl⟩
      obtain ⟨⟨nv2, p2⟩, ht2⟩ : ∃ t, ts2[k] = t := ⟨_, rfl⟩
      rw [ht1] at hr1 hn1 hp
      rw [ht2] at hr2 hn2 hp
      obtain rfl : (wd, A, tx) = p2 := hp
      clear ht1 ht2
      replace hn1 : Strs w nv1 A.names := hn1
      replace hn2 : Strs w nv2 A.names := hn2
      obtain ⟨no1, nc1, rfl, hm1, hm2⟩ := hn1.form
      obtain ⟨no2, nc2, rfl, -, -⟩ := hn2.form
      have g1 : ∀ (X : Ext wr) j v, (actC wd (.slice no1 A.names.length nc1) A.n tx A.cn A.tg)[j]? = some v → X.val.cell? ⟨b1, o1 + k * 19 + j, none⟩ = some v := fun X j v hv => (ext_cell q hb1 X _).trans (hr1 j v hv)
      have g2 : ∀ (X : Ext wr) j v, (actC wd (.slice no2 A.names.length nc2) A.n tx A.cn A.tg)[j]? = some v → X.val.cell? ⟨b2, o2 + k * 19 + j, none⟩ = some v := fun X j v hv => (ext_cell q hb2 X _).trans (hr2 j v hv)
      have x0 : ∀ X : Ext wr, X.val.cell? ⟨b1, o1 + k * 19, none⟩ = some (.string wd) := fun X => g1 X 0 (.string wd) rfl
      have x1 : ∀ X : Ext wr, X.val.cell? ⟨b1, o1 + k * 19 + 1, none⟩ = some (.slice no1 A.names.length nc1) := fun X => g1 X 1 _ rfl
      have x2 : ∀ X : Ext wr, X.val.cell? ⟨b1, o1 + k * 19 + 2, none⟩ = some (.int .i64 A.n) := fun X => g1 X 2 _ rfl
      have y0 : ∀ X : Ext wr, X.val.cell? ⟨b2, o2 + k * 19, none⟩ = some (.string wd) := fun X => g2 X 0 (.string wd) rfl
      have y1 : ∀ X : Ext wr, X.val.cell? ⟨b2, o2 + k * 19 + 1, none⟩ = some (.slice no2 A.names.length nc2) := fun X => g2 X 1 _ rfl
      have y2 : ∀ X : Ext wr, X.val.cell? ⟨b2, o2 + k * 19 + 2, none⟩ = some (.int .i64 A.n) := fun X => g2 X 2 _ rfl
      have hx : ∀ X : Ext wr, (Instr.loadAt 35 (.pointer (some ⟨b1, o1 + k * 19 + 3, none⟩))).run Tryz.prog X.val = .ok (.agg (bodyC tx A.cn A.tg)) X.val := fun X => load35 tx A.cn A.tg fun j v hv => by
        rw [Nat.add_assoc]
        refine g1 X (3 + j) v ?_
        rw [← hv]
        have : (actC wd (.slice no1 A.names.length nc1) A.n tx A.cn A.tg).toList = [.string wd, .slice no1 A.names.length nc1, .int .i64 A.n] ++ (bodyC tx A.cn A.tg).toList := rfl
        rw [← Array.getElem?_toList, this, List.getElem?_append_right (by simp)]
        simp
      have hy : ∀ X : Ext wr, (Instr.loadAt 35 (.pointer (some ⟨b2, o2 + k * 19 + 3, none⟩))).run Tryz.prog X.val = .ok (.agg (bodyC tx A.cn A.tg)) X.val := fun X => load35 tx A.cn A.tg fun j v hv => by
        rw [Nat.add_assoc]
        refine g2 X (3 + j) v ?_
        rw [← hv]
        have : (actC wd (.slice no2 A.names.length nc2) A.n tx A.cn A.tg).toList = [.string wd, .slice no2 A.names.length nc2, .int .i64 A.n] ++ (bodyC tx A.cn A.tg).toList := rfl
        rw [← Array.getElem?_toList, this, List.getElem?_append_right (by simp)]
        simp
      have hC := fun (X : Ext wr) => content_ok tx A.cn A.tg X.val
      have HN1 := Lib.hid hn1
      have HN2 := Lib.hid hn2
      have hw1 : w.cell? ⟨b1, o1 + k * 19 + 1, none⟩ = some (.slice no1 A.names.length nc1) := hr1 1 _ rfl
      have hw2 : w.cell? ⟨b2, o2 + k * 19 + 1, none⟩ = some (.slice no2 A.names.length nc2) := hr2 1 _ rfl
      have Hw1 := Lib.hid hw1
      have Hw2 := Lib.hid hw2
      clear g1 g2 hr1 hr2 hn1 hn2 hw1 hw2
      go_wp2_with fail
      refine wp_region_ext (by kernel_rfl) (by kernel_rfl) ?_
      repeat (first | go_big_quiet_skip | (go_big_quiet_want; (first | (refine quiet_load 35 _ rfl _ rfl _ hx ?_; simp only [Act.put, List.setIfInBounds_toArray, List.set_cons_succ, List.set_cons_zero]; go_big_quiet_on) | (refine quiet_load 35 _ rfl _ rfl _ hy ?_; simp only [Act.put, List.setIfInBounds_toArray, List.set_cons_succ, List.set_cons_zero]; go_big_quiet_on) | (go_big_quiet_op; (first | go_big_quiet_on | go_big_quiet_call (with_reducible exact ext_of (hC _)))))))
      refine wpQuiet_nil ?_
      intro X
      have q' := q.trans (X.below.mono q.size)
      clear hx hy hC
      obtain ⟨M, hM⟩ : ∃ M, A.names.length = M := ⟨_, rfl⟩
      rw [hM] at x1 y1 Hw1 Hw2 HN1 HN2 hm1 ⊢
      have hMx : M ≤ 9223372036854775807 := Nat.le_trans hm1 hm2
      clear hm1 hm2
      have HM := Lib.hid hM
      clear hM x0 x1 x2 y0 y1 y2
      obtain ⟨w2, hw2⟩ : ∃ w2, X.val = w2 := ⟨_, rfl⟩
      rw [hw2] at q' ⊢
      clear hw2 X
      go_wp2_with fail
      go_loopw [6] (fun i wx => ∃ m : Nat, m ≤ M ∧ i = .int .i64 m ∧ Below w.heap.size w wx) (fun i _ => M - (intOf i).toNat)
      case atStart => exact ⟨0, Nat.zero_le _, rfl, q'⟩
      case round =>
        clear q'
        obtain ⟨m, hm, rfl, q2⟩ := hrel
        have z1 : wr.cell? ⟨b1, o1 + k * 19 + 1, none⟩ = some (.slice no1 M nc1) := (q2.cell (p := ⟨b1, o1 + k * 19 + 1, none⟩) hb1).trans Hw1
        by_cases hlt2 : m < M
        · obtain ⟨d1, f1, rfl, hd1, hs1⟩ := Strs.at_ HN1 (k := m) (by rw [(HM : _ = M)]; exact hlt2)
          obtain ⟨d2, f2, rfl, hd2, hs2⟩ := Strs.at_ HN2 (k := m) (by rw [(HM : _ = M)]; exact hlt2)
          generalize A.names[m]'(by rw [(HM : _ = M)]; exact hlt2) = nm at *
          have e1 : ∀ X : Ext wr, X.val.cell? ⟨b1, o1 + k * 19 + 1, none⟩ = some (.slice (some ⟨d1, f1, none⟩) M nc1) := fun X => (ext_cell q2 hb1 X _).trans Hw1
          have e2 : ∀ X : Ext wr, X.val.cell? ⟨b2, o2 + k * 19 + 1, none⟩ = some (.slice (some ⟨d2, f2, none⟩) M nc2) := fun X => (ext_cell q2 hb2 X _).trans Hw2
          have e3 : ∀ X : Ext wr, X.val.cell? ⟨d1, f1 + m, none⟩ = some (.string nm) := fun X => hs1 _ (q2.trans (X.below.mono q2.size))
          have e4 : ∀ X : Ext wr, X.val.cell? ⟨d2, f2 + m, none⟩ = some (.string nm) := fun X => hs2 _ (q2.trans (X.below.mono q2.size))
          clear hs1 hs2
          go_wp2_with fail
          refine wp_region_ext (by kernel_rfl) (by kernel_rfl) ?_
          repeat (first | go_big_quiet_skip | (go_big_quiet_want; (go_big_quiet_op; go_big_quiet_on)))
          refine wpQuiet_nil ?_
          intro X
          have q3 := q2.trans (X.below.mono q2.size)
          clear e1 e2 e3 e4
          go_wp2_with fail
          exact ⟨⟨m + 1, by omega, by go_num, q3⟩, by simp [intOf]; omega⟩
        · go_wp2_with fail
          exact ⟨⟨k + 1, by omega, by go_num, q2⟩, by simp [intOf]; omega⟩
    · go_wp2_with fail
      go_ret
      exact ⟨rfl, q⟩
end Go.Proofs.R50
end
