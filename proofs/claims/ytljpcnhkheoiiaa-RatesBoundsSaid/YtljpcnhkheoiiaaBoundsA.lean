/- The law RatesBounds: the walk. -/
import Derived.Test.YtljpcnhkheoiiaaWalkL
import Derived.Test.YtljpcnhkheoiiaaPlain
import Derived.Test.YtljpcnhkheoiiaaRegb
namespace Go.Proofs.Ytljpcnhkheoiiaa
open Go.ChangeShapes Go.WideShapes Go.ChangeAt Go.RowKit

theorem alloc23 (W : World) : (Instr.alloc 23 true (.tuple #[])).run Try.prog W = .ok (.pointer (some ⟨W.heap.size, 0, none⟩)) (W.alloc (.cells #[.int .i64 0, .int .i64 0, .int .i64 0, .int .i64 0] 23)) := by kernel_rfl
theorem size23 : (Try.prog.info? 23).map (·.size) = some (#[Value.int .i64 0, .int .i64 0, .int .i64 0, .int .i64 0] : Array Value).size := by kernel_rfl

theorem size23' (c0 c1 c2 c3 : Value) : (Try.prog.info? 23).map (·.size) = some (#[c0, c1, c2, c3] : Array Value).size := by kernel_rfl
theorem below_off {B g : Nat} {a b c : World} (h : Below B a b) (hk : b.grownBy c (some g)) (hB : B ≤ b.heap.size) (hg : B ≤ g) : Below B a c :=
  ⟨hk.os.trans h.os, hk.tape.trans h.tape, hk.output.trans h.output, Nat.le_trans h.size hk.size, fun i hi => (hk.block i (by omega) (by simp; omega)).trans (h.block i hi)⟩

/-- What holds at the head of a round. -/
structure Rnd (l a m e : Int) (W wr : World) (B : Nat) (tk ls x y : Int) : Prop where
  b1 : 0 ≤ x
  b2 : x ≤ m
  b3 : a ≤ y
  b4 : y ≤ ls
  b5 : ls ≤ 1000000000
  b6 : 0 ≤ tk
  b7 : tk + x ≤ l + (y - a) / e
  below : Below W.heap.size W wr
  arg : Whole wr W.heap.size 23 #[.int .i64 l, .int .i64 a, .int .i64 m, .int .i64 e]
  var : Whole wr B 23 #[.int .i64 x, .int .i64 y, .int .i64 m, .int .i64 e]
  old : W.heap.size < B

theorem take_two (l a m e t n : Int) (h1 : 1 ≤ m) (h2 : m ≤ 1000000) (h3 : 1 ≤ e) (h4 : e ≤ 1000000000) (h5 : 0 ≤ l) (h6 : l ≤ m) (h7 : 0 ≤ a) (h8 : a ≤ 1000000000) :
    ((1 ≤ n ∧ 0 ≤ t ∧ t ≤ 1000000000 ∧ n ≤ adL l a m e t) ∧ ∀ w, Calls Try.prog 15 #[.agg #[.int .i64 l, .int .i64 a, .int .i64 m, .int .i64 e], .int .i64 t, .int .i64 n] w fun x w' => x = .returned (.tuple #[.agg #[.int .i64 (adL l a m e t - n), .int .i64 (adA l a m e t), .int .i64 m, .int .i64 e], .int .i64 0]) ∧ Below w.heap.size w w') ∨
    ∃ c, (c != 0) = true ∧ ∀ w, Calls Try.prog 15 #[.agg #[.int .i64 l, .int .i64 a, .int .i64 m, .int .i64 e], .int .i64 t, .int .i64 n] w fun x w' => x = .returned (.tuple #[.agg #[.int .i64 0, .int .i64 0, .int .i64 0, .int .i64 0], .int .i64 c]) ∧ Below w.heap.size w w' := by
  by_cases hg : 1 ≤ n ∧ 0 ≤ t ∧ t ≤ 1000000000
  · obtain ⟨g1, g2, g3⟩ := hg
    by_cases hq : n ≤ adL l a m e t
    · exact .inl ⟨⟨g1, g2, g3, hq⟩, fun w => take_ok l a m e t n w h1 h2 h3 h4 h5 h6 h7 h8 g2 g3 g1 hq⟩
    · exact .inr ⟨25, rfl, fun w => take_rate l a m e t n w h1 h2 h3 h4 h5 h6 h7 h8 g2 g3 g1 (by omega)⟩
  · exact .inr ⟨2, rfl, fun w => take_range l a m e t n w (fun h => hg h.2)⟩

set_option maxRecDepth 100000 in
set_option maxHeartbeats 2000000 in
theorem bounds_walk (l a m e : Int) (ao : Option Addr) (len cap : Nat) (cs : List (Int × Int)) (w : World) (h60 : len ≤ 60)
    (hcell : ∀ i, i < len → ∃ b off, ao = some ⟨b, off, none⟩ ∧ b < w.heap.size ∧ w.cell? ⟨b, off + i * 2, none⟩ = some (.int .i64 (cs.getD i (0, 0)).1) ∧ w.cell? ⟨b, off + i * 2 + 1, none⟩ = some (.int .i64 (cs.getD i (0, 0)).2) ∧
      -9223372036854775808 ≤ (cs.getD i (0, 0)).1 ∧ (cs.getD i (0, 0)).1 ≤ 9223372036854775807 ∧ -9223372036854775808 ≤ (cs.getD i (0, 0)).2 ∧ (cs.getD i (0, 0)).2 ≤ 9223372036854775807)
    (hlc : len ≤ cap) (hcap : cap ≤ 9223372036854775807)
    (h1 : 1 ≤ m) (h2 : m ≤ 1000000) (h3 : 1 ≤ e) (h4 : e ≤ 1000000000) (h5 : 0 ≤ l) (h6 : l ≤ m) (h7 : 0 ≤ a) (h8 : a ≤ 1000000000) :
    Calls Try.prog 8 #[.agg #[.int .i64 l, .int .i64 a, .int .i64 m, .int .i64 e], .slice ao len cap] w fun x w' => x = .returned (.bool true) ∧ Below w.heap.size w w' := by
  have q0 := Below.refl w.heap.size w
  go_enter Try.func8, Try.ntmps8
  go_wp2_with fail
  refine (check_yes l a m e _ h1 h2 h3 h4 h5 h6 h7 h8).mono ?_
  rintro x w1 ⟨rfl, hb⟩
  have W0 := (Whole.new w 23 #[.int .i64 l, .int .i64 a, .int .i64 m, .int .i64 e]).on hb
  obtain ⟨q1, z0, k0, old⟩ := step_box q0 hb
  clear old hb q0
  go_wp2_with fail
  refine (rcheck_yes l a m e _ h1 h2 h3 h4 h5 h6 h7 h8).mono ?_
  rintro x w2 ⟨rfl, hb⟩
  replace W0 := W0.on hb
  obtain ⟨q2, old⟩ := step_same q1 hb
  replace k0 := fun o => ((old _ z0).2 o).trans (k0 o)
  replace z0 := (old _ z0).1
  clear old hb q1
  go_wp2_with fail
  refine wp_region_box 3 (t := 23) (x := .tmp 25) (by kernel_rfl) (by kernel_rfl) (by kernel_rfl) rfl rfl rfl rfl rfl rfl rfl rfl (by simp) alloc23 size23 (by simp) ?_
  apply Exists.intro
  apply And.intro
  · intro W1 hW
    have hx : ∀ (x : Ext W1) (o : Nat), x.val.cell? ⟨w.heap.size, o, none⟩ = #[Value.int .i64 l, .int .i64 a, .int .i64 m, .int .i64 e][o]? := fun x o => ((x.cell _ _ (Nat.lt_of_lt_of_le z0 hW.size)).trans (hW.cell (p := ⟨w.heap.size, o, none⟩) z0)).trans (k0 o)
    simp only [List.take_succ_cons, List.take_zero, List.drop_succ_cons, List.drop_zero, List.cons_append, List.nil_append]
    repeat (go_big_quiet_step (fail))
    exact wpQuiet_nil rfl
  refine ⟨_, rfl, rfl, by simp [Value.oneCell'], fun g5 w3 hb hg H5 => ?_⟩
  replace W0 := W0.on hb
  obtain ⟨q3, old⟩ := step_same q2 hb
  have hg' : w.heap.size < g5 := by omega
  clear old hb k0 z0 q2 hg
  go_wp2_with fail
  go_loopw [6, 7, 8] (fun tk ls i wr => ∃ (k : Nat) (TK LS x y : Int), k ≤ len ∧ i = .int .i64 k ∧ tk = .int .i64 TK ∧ ls = .int .i64 LS ∧ Rnd l a m e w wr g5 TK LS x y) (fun _ _ i _ => len - (intOf i).toNat)
  case atStart => exact ⟨0, 0, a, l, a, Nat.zero_le _, rfl, rfl, rfl, ⟨h5, h6, Int.le_refl _, Int.le_refl _, h8, Int.le_refl _, by simp, q3, W0, H5, hg'⟩⟩
  case round =>
    clear W0 H5 q3
    obtain ⟨k, TK, LS, x, y, hk, rfl, rfl, rfl, R⟩ := hrel
    by_cases hkl : k < len
    · obtain ⟨b, off, rfl, hbw, hc0, hc1, hb1, hb2, hb3, hb4⟩ := hcell k hkl
      clear hcell
      generalize (cs.getD k (0, 0)).1 = t at *
      generalize (cs.getD k (0, 0)).2 = n at *
      obtain ⟨B1, B2, B3, B4, B5, B6, B7, BL, RA, RV, RO⟩ := R
      have ss : ∀ o, wr.cell? ⟨b, o, none⟩ = w.cell? ⟨b, o, none⟩ := fun o => BL.cell (p := ⟨b, o, none⟩) hbw
      have sz := BL.size
      rcases take_two x y m e t n h1 h2 h3 h4 B1 B2 (by omega) (by omega) with ⟨⟨g1, g2, g3, g4⟩, hT⟩ | ⟨c, hc, hT⟩
      · have s1 := adL_bd x y m e t h3 B2
        have s2 := adA_bd (l := x) (a := y) (m := m) (n := t) h3
        have s3 := adL_step (l := x) (a := y) (m := m) (e := e) (n := t) h3 B2
        have s4 := div_add_le (x := y - a) (y := adA x y m e t - y) h3
        have s5 : (y - a) + (adA x y m e t - y) = adA x y m e t - a := by omega
        rw [s5] at s4
        clear s5
        have s6 : TK + n + (adL x y m e t - n) ≤ l + (adA x y m e t - a) / e := by omega
        have s7 : (adA x y m e t - a) / e ≤ adA x y m e t - a := Int.ediv_le_self _ (by omega)
        generalize adL x y m e t = p at *
        generalize adA x y m e t = q at *
        have HT := hT
        clear hT
        have d1 : decide (n < 1) = false := by simp; omega
        have d2 : decide (m < n) = false := by simp; omega
        have d3 : decide (t < 0) = false := by simp; omega
        have d4 : decide (1000000000 < t) = false := by simp; omega
        have g5l := RV.lt
        go_wp2_with fail
        refine wp_region_box 15 (t := 23) (x := .tmp 47) (by kernel_rfl) (by kernel_rfl) (by kernel_rfl) rfl rfl rfl rfl rfl rfl rfl rfl (by simp) alloc23 size23 (by simp) ?_
        apply Exists.intro
        apply And.intro
        · intro W1 hW
          have hx : ∀ (X : Ext W1) (o : Nat), X.val.cell? ⟨g5, o, none⟩ = #[Value.int .i64 x, .int .i64 y, .int .i64 m, .int .i64 e][o]? := fun X o => ((RV.on hW).on X.below).cell o
          have hy0 : ∀ (X : Ext W1), X.val.cell? ⟨b, off + k * 2, none⟩ = some (.int .i64 t) := fun X => ((X.cell _ _ (Nat.lt_of_lt_of_le (Nat.lt_of_lt_of_le hbw sz) hW.size)).trans (hW.cell (p := ⟨b, _, none⟩) (Nat.lt_of_lt_of_le hbw sz))).trans ((ss _).trans hc0)
          have hy1 : ∀ (X : Ext W1), X.val.cell? ⟨b, off + k * 2 + 1, none⟩ = some (.int .i64 n) := fun X => ((X.cell _ _ (Nat.lt_of_lt_of_le (Nat.lt_of_lt_of_le hbw sz) hW.size)).trans (hW.cell (p := ⟨b, _, none⟩) (Nat.lt_of_lt_of_le hbw sz))).trans ((ss _).trans hc1)
          simp only [List.take_succ_cons, List.take_zero, List.drop_succ_cons, List.drop_zero, List.cons_append, List.nil_append]
          repeat (go_big_quiet_step (with_reducible exact ext_of (HT _)))
          exact wpQuiet_nil rfl
        refine ⟨_, rfl, rfl, by simp [Value.oneCell'], fun g9 w3 hb hg H9 => ?_⟩
        go_wp2_with fail
        have hRA := RA.on hb
        have hy0 : ∀ (X : Ext w3), X.val.cell? ⟨b, off + k * 2, none⟩ = some (.int .i64 t) := fun X => ((X.cell _ _ (Nat.lt_of_lt_of_le (Nat.lt_of_lt_of_le hbw sz) hb.size)).trans (hb.cell (p := ⟨b, _, none⟩) (Nat.lt_of_lt_of_le hbw sz))).trans ((ss _).trans hc0)
        have hy1 : ∀ (X : Ext w3), X.val.cell? ⟨b, off + k * 2 + 1, none⟩ = some (.int .i64 n) := fun X => ((X.cell _ _ (Nat.lt_of_lt_of_le (Nat.lt_of_lt_of_le hbw sz) hb.size)).trans (hb.cell (p := ⟨b, _, none⟩) (Nat.lt_of_lt_of_le hbw sz))).trans ((ss _).trans hc1)
        have hx2 : ∀ (X : Ext w3) (o : Nat), X.val.cell? ⟨w.heap.size, o, none⟩ = #[Value.int .i64 l, .int .i64 a, .int .i64 m, .int .i64 e][o]? := fun X o => (hRA.on X.below).cell o
        refine wp_region_ext (by kernel_rfl) (by kernel_rfl) ?_
        repeat (go_big_quiet_step (fail))
        refine wpQuiet_nil ?_
        intro X
        clear hy0 hy1 hx2 hRA
        obtain ⟨w4, b4⟩ := X
        dsimp only at *
        have hb4 : Below wr.heap.size wr w4 := hb.trans (b4.mono hb.size)
        replace H9 := H9.on b4
        clear b4 hb w3
        go_wp2_with fail
        by_cases hLS : LS < t
        all_goals
          refine wp_region_fill 15 (t := 23) (p := .tmp 5) (x := .tmp 83) (g := g5) (by kernel_rfl) (by kernel_rfl) (by kernel_rfl) rfl rfl rfl rfl (size23' _ _ _ _) (RV.on hb4) ?_
          apply Exists.intro
          apply And.intro
          · intro W1 hW
            have hn9 : some g9 ≠ some g5 := by simp; omega
            have hx : ∀ (X : Ext W1) (o : Nat), X.val.cell? ⟨g9, o, none⟩ = #[Value.int .i64 (p - n), .int .i64 q, .int .i64 m, .int .i64 e][o]? := fun X o => ((H9.off hW hn9).on X.below).cell o
            have hbb : ∀ o, W1.cell? ⟨b, o, none⟩ = w.cell? ⟨b, o, none⟩ := fun o => (World.cell?_of_block (a := ⟨b, o, none⟩) (hW.block b (Nat.lt_of_lt_of_le (Nat.lt_of_lt_of_le hbw sz) hb4.size) (by simp; omega))).trans ((hb4.cell (p := ⟨b, o, none⟩) (Nat.lt_of_lt_of_le hbw sz)).trans (ss o))
            have hbl : b < W1.heap.size := Nat.lt_of_lt_of_le (Nat.lt_of_lt_of_le (Nat.lt_of_lt_of_le hbw sz) hb4.size) hW.size
            have hy0 : ∀ (X : Ext W1), X.val.cell? ⟨b, off + k * 2, none⟩ = some (.int .i64 t) := fun X => (X.cell _ _ hbl).trans ((hbb _).trans hc0)
            have hy1 : ∀ (X : Ext W1), X.val.cell? ⟨b, off + k * 2 + 1, none⟩ = some (.int .i64 n) := fun X => (X.cell _ _ hbl).trans ((hbb _).trans hc1)
            simp only [List.take_succ_cons, List.take_zero, List.drop_succ_cons, List.drop_zero, List.cons_append, List.nil_append]
            repeat (go_big_quiet_step (fail))
            exact wpQuiet_nil rfl
          refine ⟨rfl, _, rfl, rfl, by simp [Value.oneCell'], fun w5 hb5 H5 => ?_⟩
          have hB5 := below_off (BL.trans (hb4.mono sz)) hb5 (by have := hb4.size; omega) (by omega)
          have RA5 := (RA.on hb4).off hb5 (by simp; omega)
          clear hb5 hb4 H9 RV RA BL HT d1 d2 d3 d4
          go_wp2_with fail
          go_roundw
          case rel => exact ⟨k + 1, TK + n, _, p - n, q, by omega, by go_num, rfl, rfl, ⟨by omega, by omega, by omega, by omega, by omega, by omega, s6, hB5, RA5, H5, RO⟩⟩
          case measure => simp [intOf]; omega
      · have HT := hT
        clear hT
        go_wp2_with fail
        refine wp_region_box 15 (t := 23) (x := .tmp 47) (by kernel_rfl) (by kernel_rfl) (by kernel_rfl) rfl rfl rfl rfl rfl rfl rfl rfl (by simp) alloc23 size23 (by simp) ?_
        apply Exists.intro
        apply And.intro
        · intro W1 hW
          have hx : ∀ (X : Ext W1) (o : Nat), X.val.cell? ⟨g5, o, none⟩ = #[Value.int .i64 x, .int .i64 y, .int .i64 m, .int .i64 e][o]? := fun X o => ((RV.on hW).on X.below).cell o
          have hy0 : ∀ (X : Ext W1), X.val.cell? ⟨b, off + k * 2, none⟩ = some (.int .i64 t) := fun X => ((X.cell _ _ (Nat.lt_of_lt_of_le (Nat.lt_of_lt_of_le hbw sz) hW.size)).trans (hW.cell (p := ⟨b, _, none⟩) (Nat.lt_of_lt_of_le hbw sz))).trans ((ss _).trans hc0)
          have hy1 : ∀ (X : Ext W1), X.val.cell? ⟨b, off + k * 2 + 1, none⟩ = some (.int .i64 n) := fun X => ((X.cell _ _ (Nat.lt_of_lt_of_le (Nat.lt_of_lt_of_le hbw sz) hW.size)).trans (hW.cell (p := ⟨b, _, none⟩) (Nat.lt_of_lt_of_le hbw sz))).trans ((ss _).trans hc1)
          simp only [List.take_succ_cons, List.take_zero, List.drop_succ_cons, List.drop_zero, List.cons_append, List.nil_append]
          repeat (go_big_quiet_step (with_reducible exact ext_of (HT _)))
          exact wpQuiet_nil rfl
        refine ⟨_, rfl, rfl, by simp [Value.oneCell'], fun g9 w3 hb hg H9 => ?_⟩
        go_wp2_with fail
        go_roundw
        case rel => exact ⟨k + 1, TK, LS, x, y, by omega, by go_num, rfl, rfl, ⟨B1, B2, B3, B4, B5, B6, B7, BL.trans (hb.mono sz), RA.on hb, RV.on hb, RO⟩⟩
        case measure => simp [intOf]; omega
    · obtain ⟨B1, B2, B3, B4, B5, B6, B7, BL, RA, RV, RO⟩ := R
      have e0 : 0 ≤ (LS - a) / e := Int.ediv_nonneg (by omega) (by omega)
      have e1 : (LS - a) / e ≤ LS - a := Int.ediv_le_self _ (by omega)
      have e2 : (y - a) / e ≤ (LS - a) / e := div_mono h3 (by omega)
      have e3 : decide (TK ≤ l + (LS - a) / e) = true := by simp; omega
      clear hcell
      go_wp2_with fail
      have hx2 : ∀ (X : Ext wr) (o : Nat), X.val.cell? ⟨w.heap.size, o, none⟩ = #[Value.int .i64 l, .int .i64 a, .int .i64 m, .int .i64 e][o]? := fun X o => (RA.on X.below).cell o
      refine wp_region_ext (by kernel_rfl) (by kernel_rfl) ?_
      repeat (go_big_quiet_step (with_reducible exact ext_of (live_true _)))
      refine wpQuiet_nil ?_
      intro X
      go_wp2_with fail
      go_ret
      exact ⟨rfl, BL.trans (X.below.mono BL.size)⟩
end Go.Proofs.Ytljpcnhkheoiiaa
