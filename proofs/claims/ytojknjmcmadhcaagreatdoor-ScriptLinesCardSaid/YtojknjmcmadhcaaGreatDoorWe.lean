/- The law ScriptLines, walked: the frame. -/
import Derived.Test.YtojknjmcmadhcaaGreatDoorWc
import Derived.Test.YtojknjmcmadhcaaGreatDoorWd
import Derived.Test.YtojknjmcmadhcaaGreatDoorCj
import Derived.Test.YtojknjmcmadhcaaGreatDoorCi
import Derived.Test.YtojknjmcmadhcaaGreatDoorCm

section
namespace Go.Proofs.R50
open Go.ChangeShapes Go.WideShapes Go.ChangeAt Go.RowKit

set_option maxRecDepth 100000
theorem tail_u (l : List Value) (h : l.length = 147) : ∃ u : Nat → Value, l = u 0 :: u 1 :: u 2 :: u 3 :: u 4 :: u 5 :: u 6 :: u 7 :: u 8 :: u 9 :: u 10 :: u 11 :: u 12 :: u 13 :: u 14 :: u 15 :: u 16 :: u 17 :: u 18 :: u 19 :: u 20 :: u 21 :: u 22 :: u 23 :: u 24 :: u 25 :: u 26 :: u 27 :: u 28 :: u 29 :: u 30 :: u 31 :: u 32 :: u 33 :: u 34 :: u 35 :: u 36 :: u 37 :: u 38 :: u 39 :: u 40 :: u 41 :: u 42 :: u 43 :: u 44 :: u 45 :: u 46 :: u 47 :: u 48 :: u 49 :: u 50 :: u 51 :: u 52 :: u 53 :: u 54 :: u 55 :: u 56 :: u 57 :: u 58 :: u 59 :: u 60 :: u 61 :: u 62 :: u 63 :: u 64 :: u 65 :: u 66 :: u 67 :: u 68 :: u 69 :: u 70 :: u 71 :: u 72 :: u 73 :: u 74 :: u 75 :: u 76 :: u 77 :: u 78 :: u 79 :: u 80 :: u 81 :: u 82 :: u 83 :: u 84 :: u 85 :: u 86 :: u 87 :: u 88 :: u 89 :: u 90 :: u 91 :: u 92 :: u 93 :: u 94 :: u 95 :: u 96 :: u 97 :: u 98 :: u 99 :: u 100 :: u 101 :: u 102 :: u 103 :: u 104 :: u 105 :: u 106 :: u 107 :: u 108 :: u 109 :: u 110 :: u 111 :: u 112 :: u 113 :: u 114 :: u 115 :: u 116 :: u 117 :: u 118 :: u 119 :: u 120 :: u 121 :: u 122 :: u 123 :: u 124 :: u 125 :: u 126 :: u 127 :: u 128 :: u 129 :: u 130 :: u 131 :: u 132 :: u 133 :: u 134 :: u 135 :: u 136 :: u 137 :: u 138 :: u 139 :: u 140 :: u 141 :: u 142 :: u 143 :: u 144 :: u 145 :: u 146 :: [] := by
 refine ⟨fun i => l.getD i (.int .i64 0), ?_⟩
 have e : l = (List.range' 0 147).map fun i => l.getD i (.int .i64 0) := by
  apply List.ext_getElem (by rw [List.length_map, List.length_range', h])
  intro i h1 h2
  rw [List.getElem_map, List.getElem_range', List.getD_eq_getElem?_getD, Nat.zero_add, Nat.one_mul, List.getElem?_eq_getElem h1]
  rfl
 exact e
/-- The frame of ScriptLines between its parts. -/
def FI (cs : Array Value) (w : World) (v3 v4 v5 : Value) (a : Act) (w' : World) : Prop :=
 ∃ (v2 v6 v7 v8 : Value) (l : List Value), a = ⟨(.agg cs :: .pointer (some ⟨w.heap.size, 0, none⟩) :: v2 :: v3 :: v4 :: v5 :: v6 :: v7 :: v8 :: l).toArray, []⟩ ∧ l.length = 147 ∧ Whole w' w.heap.size 37 cs ∧ Below w.heap.size w w'
end Go.Proofs.R50
end

/- The law ScriptLines, walked. -/
section
namespace Go.Proofs.R50
open Go.ChangeShapes Go.WideShapes Go.ChangeAt Go.RowKit

theorem wp_cut2 {P : Program} {x y : Code} {Q : Exit → Act → World → Prop} {a : Act} {w : World} (I : Act → World → Prop) (h1 : x.wp P (Exit.then I Q) a w) (h2 : ∀ a w, I a w → y.wp P Q a w) : (x.seq y).wp P Q a w :=
 wp_seq (wp_mono h1 fun e a w h => by cases e <;> first | exact h2 _ _ h | exact h)
/-- What the law asks of an act's numbers. -/
def right0 (n cn tg : Int) (c : Bool) : Bool := decide (-1000000000000 ≤ n) && decide (n ≤ 1000000000000) && decide (-1000000000000 ≤ cn) && decide (cn ≤ 1000000000000) && decide (0 ≤ tg) && decide (tg < 4611686018427387904) && c
theorem list_load35W {ops : Array Oper} {rest : List Oper} {a : Act} {w : World} {Q : Exit → Act → World → Prop} {dst : Option Tmp} {x : Operand} {ty : TypeId} {ps : String} {af : Array Edge} {gd : Option (Tmp × Bool)}
  (b o : Nat) (cs : Array Value) (hr : Hid (w.rangeAt b o cs.toList)) (hl : Hid (cs.size = 16)) (hx : a.eval x = .pointer (some ⟨b, o, none⟩)) (hw : Region.wanted { dst := dst, op := .load 35 x, type := ty, pos := ps, after := af, guard := gd } (yielded ops a.tmps) = true) (h : wpList Tryz.prog ops Q rest (a.put dst (.agg cs)) w) :
  wpList Tryz.prog ops Q ({ dst := dst, op := .load 35 x, type := ty, pos := ps, after := af, guard := gd } :: rest) a w := by
 obtain ⟨fs, hu⟩ := under35
 have h' : wpList Tryz.prog ops Q rest (a.put dst (.agg cs.toList.toArray)) w := by simpa using h
 exact BigFrame.wpList_want hw fun K hK => wp_load_mid 35 x rfl b o hx cs.toList _ hr hu rfl (by rw [size35, Array.length_toList, (hl : _ = _)]) (hK _ _ h')
theorem list_load37W {ops : Array Oper} {rest : List Oper} {a : Act} {w : World} {Q : Exit → Act → World → Prop} {dst : Option Tmp} {x : Operand} {ty : TypeId} {ps : String} {af : Array Edge} {gd : Option (Tmp × Bool)}
  (b o : Nat) (cs : Array Value) (hr : Hid (w.rangeAt b o cs.toList)) (hl : Hid (cs.size = 19)) (hx : a.eval x = .pointer (some ⟨b, o, none⟩)) (hw : Region.wanted { dst := dst, op := .load 37 x, type := ty, pos := ps, after := af, guard := gd } (yielded ops a.tmps) = true) (h : wpList Tryz.prog ops Q rest (a.put dst (.agg cs)) w) :
  wpList Tryz.prog ops Q ({ dst := dst, op := .load 37 x, type := ty, pos := ps, after := af, guard := gd } :: rest) a w := by
 obtain ⟨fs, hu⟩ := under37
 have h' : wpList Tryz.prog ops Q rest (a.put dst (.agg cs.toList.toArray)) w := by simpa using h
 exact BigFrame.wpList_want hw fun K hK => wp_load_mid 37 x rfl b o hx cs.toList _ hr hu rfl (by rw [size37, Array.length_toList, (hl : _ = _)]) (hK _ _ h')

theorem ract_any (line : ByteArray) (w : World) (hs : line.size ≤ 100000) : Calls Tryz.prog 13 #[.string line] w fun e w' => ∃ E : Array Value, e = .returned (.tuple #[.agg E, .bool (actOf line).isSome]) ∧ E.size = 19 ∧ E.all (·.oneCell') = true ∧ Below w.heap.size w w' := by
 refine Calls.mono (ract_ok line w hs) ?_
 intro e w' h
 unfold ActPost at h
 cases hact : actOf line with
 | none =>
  rw [hact] at h
  obtain ⟨rfl, hb⟩ := h
  exact ⟨zeroC, rfl, rfl, zero_one, hb⟩
 | some p =>
  obtain ⟨wd, A, tx⟩ := p
  rw [hact] at h
  obtain ⟨nv, rfl, hnv, hb⟩ := h
  obtain ⟨ao, cap, rfl, -, -⟩ := (Strs.of_own hnv).form
  exact ⟨_, rfl, rfl, actC_one _ _ _ _ _ _ _ _, hb⟩

theorem build23G (e : Operand → Value) (o : Oper) (x : Operand) (ho : o.op = .buildSlice 23 1 #[(0, x)]) (wd : ByteArray) (nv : Value) (n : Int) (tx : ByteArray) (cn tg : Int) (th : Bool) (via : ByteArray) (al dn us kd : Value) (i1 i2 i3 i4 i5 i6 i7 : Int) (hx : e x = .agg (actG wd nv n tx cn tg th via al dn us kd i1 i2 i3 i4 i5 i6 i7)) (w : World) :
  (execOp e o).run Tryz.prog w = .ok (.value (.slice (some ⟨w.heap.size, 0, none⟩) 1 1)) (w.alloc (.cells (actG wd nv n tx cn tg th via al dn us kd i1 i2 i3 i4 i5 i6 i7) 37)) := by
 unfold execOp
 rw [ho]
 simp only [List.map_toArray, List.map_cons, List.map_nil, hx]
 kernel_rfl
theorem list_build23W {ops : Array Oper} {rest : List Oper} {o : Oper} {a : Act} {w : World} {Q : Exit → Act → World → Prop} (hwt : Region.wanted o (yielded ops a.tmps) = true) (x : Operand) (ho : o.op = .buildSlice 23 1 #[(0, x)])
  (wd : ByteArray) (nv : Value) (n : Int) (tx : ByteArray) (cn tg : Int) (th : Bool) (via : ByteArray) (al dn us kd : Value) (i1 i2 i3 i4 i5 i6 i7 : Int) (cs : Array Value) (hcs : Hid (actG wd nv n tx cn tg th via al dn us kd i1 i2 i3 i4 i5 i6 i7 = cs)) (hx : a.eval x = .agg cs)
  (h : ∀ w', Whole w' w.heap.size 37 cs → Below w.heap.size w w' → w'.heap.size = w.heap.size + 1 → wpList Tryz.prog ops Q rest (a.put o.dst (.slice (some ⟨w.heap.size, 0, none⟩) 1 1)) w') : wpList Tryz.prog ops Q (o :: rest) a w := by
 have e : actG wd nv n tx cn tg th via al dn us kd i1 i2 i3 i4 i5 i6 i7 = cs := hcs
 subst e
 refine BigFrame.wpList_want hwt fun K' hK' => ?_
 unfold Oper.wp
 rw [build23G a.eval o x ho wd nv n tx cn tg th via al dn us kd i1 i2 i3 i4 i5 i6 i7 hx w]
 exact hK' _ _ (h _ (Whole.new w 37 _) ((Below.refl _ _).alloc (Nat.le_refl _) _) (World.size_alloc _ _))
theorem lineB_size {wd : ByteArray} {n : Int} {tx : ByteArray} {cn tg : Int} {names : List ByteArray} (hn8 : names.length ≤ 8) (hn200 : ∀ z ∈ names, z.size ≤ 200) (hwd : wd.size ≤ 200) (htx : tx.size ≤ 1000)
  (hn : -9223372036854775808 ≤ n ∧ n ≤ 9223372036854775807) (hcn : -9223372036854775808 ≤ cn ∧ cn ≤ 9223372036854775807) : (lineB wd names n cn tg tx).size ≤ 20000 := by
 have h1 := optN_le (m := [110, 61]) (by decide) hn
 have h2 := optN_le (m := [99, 61]) (by decide) hcn
 have h3 := optH_le (n := tg)
 have h4 := optT_le htx
 have h5 := lineL_size 1100 wd (restB names n cn tg tx) (fun p hp => by
  unfold restB at hp
  simp only [List.mem_append] at hp
  rcases hp with (((hp | hp) | hp) | hp) | hp
  ·have := hn200 p hp; omega
  ·exact h1.2 p hp
  ·exact h2.2 p hp
  ·exact h3.2 p hp
  ·exact h4.2 p hp)
 have h6 : (restB names n cn tg tx).length ≤ 12 := by
  unfold restB
  simp only [List.length_append]
  omega
 have h7 : (restB names n cn tg tx).length * 1101 ≤ 12 * 1101 := Nat.mul_le_mul_right _ h6
 show (lineL wd (restB names n cn tg tx)).size ≤ _
 omega
/-- What Parse answers to the line of an act that can be written. -/
theorem parse_mine {wd LB : ByteArray} {n : Int} {tx : ByteArray} {cn tg : Int} {names : List ByteArray} {cB R0 R1 : Bool} (hLB : Hid (lineB wd names n cn tg tx = LB)) (h0 : Hid (right0 n cn tg cB = R0)) (h1 : Hid ((R0 && names.all plainB) = R1)) (h2 : Hid ((R1 && tx.data.toList.all fun b => b != 10) = true)) (hk : Hid ((actOf wd).isSome = true)) (hp : Hid (plainB wd = true))
  (hn8 : names.length ≤ 8) (hn200 : Hid (∀ z ∈ names, z.size ≤ 200)) (hwd : wd.size ≤ 200) (htx : tx.size ≤ 1000)
  (hn : Hid (-9223372036854775808 ≤ n ∧ n ≤ 9223372036854775807)) (hcn : Hid (-9223372036854775808 ≤ cn ∧ cn ≤ 9223372036854775807)) (w : World) :
  Calls Tryz.prog 6 #[.string LB] w fun e w' => ∃ v t1, e = .returned (.tuple #[v, .int .i64 0, .int .i64 0]) ∧ Acts w' v [t1] ∧ t1.2 = (wd, ⟨names, n, cn, tg, flagB n, flagB cn, flagB tg⟩, tx) ∧ Below w.heap.size w w' := by
 have hLB' : _ = LB := hLB
 have h0' : _ = R0 := h0
 have h1' : _ = R1 := h1
 have h2' : _ = true := h2
 have hk' : _ = true := hk
 have hp' : _ = true := hp
 subst hLB' h0' h1'
 unfold right0 at h2'
 simp only [Bool.and_eq_true, decide_eq_true_eq, List.all_eq_true] at h2'
 obtain ⟨⟨⟨⟨⟨⟨⟨⟨c0, c1⟩, c2⟩, c3⟩, c4⟩, c5⟩, -⟩, hnm⟩, htx2⟩ := h2'
 have hwd2 := plainB_parts hp'
 have hsp : splitB 32 wd = [wd] := by
  have := splitB_line (ps := []) hwd2.1 (by simp)
  rwa [lineL_nil] at this
 have hw : isWord wd = true := by
  unfold actOf at hk'
  rw [hsp] at hk'
  by_cases h : isWord wd = true
  ·exact h
  ·simp [h] at hk'
 have hpl := parse_line (tx := tx) hp' hw hnm (n := n) (cn := cn) (by omega) (by omega) c4 c5 (fun h => by simpa using htx2 10 h)
 refine Calls.mono (parse_any _ w) ?_
 intro e w' h
 unfold ParsePost at h
 rw [if_neg (by have := lineB_size (tg := tg) hn8 hn200 hwd htx hn hcn; omega), hpl] at h
 obtain ⟨v, ts, rfl, ho, hts, hb⟩ := h
 obtain ⟨t1, rfl⟩ : ∃ t1, ts = [t1] := by
  cases ts with
  | nil => simp at hts
  | cons t r => cases r with
   | nil => exact ⟨t, rfl⟩
   | cons t2 r => simp at hts
 exact ⟨v, t1, rfl, ho.acts, by simpa using hts, hb⟩


set_option maxRecDepth 100000
set_option maxHeartbeats 8000000
theorem scriptLines (wd : ByteArray) (nv : Value) (n : Int) (tx : ByteArray) (cn tg : Int) (th : Bool) (via : ByteArray) (la ca ld cd lu cu lk ck : Nat) (oa od ou ok : Option Addr) (i1 i2 i3 i4 i5 i6 i7 : Int) (names : List ByteArray) (w : World) (hS : Strs w nv names)
  (hn : -9223372036854775808 ≤ n ∧ n ≤ 9223372036854775807) (hcn : -9223372036854775808 ≤ cn ∧ cn ≤ 9223372036854775807) :
  Calls Tryz.prog 4 #[.agg (actG wd nv n tx cn tg th via (.slice oa la ca) (.slice od ld cd) (.slice ou lu cu) (.slice ok lk ck) i1 i2 i3 i4 i5 i6 i7)] w fun e w' => e = .returned (.bool true) ∧ Below w.heap.size w w' := by
 have HS := Lib.hid hS
 have Hn := Lib.hid hn
 have Hcn := Lib.hid hcn
 have Haw := Lib.hid awake_ok
 obtain ⟨na, nc, rfl, -, -⟩ := hS.form
 clear hS hn hcn
 go_enter Tryz.func4, Tryz.ntmps4
 obtain ⟨cs, hcs⟩ : ∃ cs, actG wd (.slice na names.length nc) n tx cn tg th via (.slice oa la ca) (.slice od ld cd) (.slice ou lu cu) (.slice ok lk ck) i1 i2 i3 i4 i5 i6 i7 = cs := ⟨_, rfl⟩
 rw [hcs]
 have HW0 := Lib.hid (Whole.new w 37 cs)
 have Hcs := Lib.hid hcs
 have Hsz : Hid (cs.size = 19) := by show _ = _; rw [← hcs]; rfl
 have k0 : cs[0]? = some (.string wd) := by rw [← hcs]; rfl
 have k1 : cs[1]? = some (.slice na names.length nc) := by rw [← hcs]; rfl
 have k2 : cs[2]? = some (.int .i64 n) := by rw [← hcs]; rfl
 have k3 : cs[3]? = some (.string tx) := by rw [← hcs]; rfl
 have k4 : cs[4]? = some (.int .i64 cn) := by rw [← hcs]; rfl
 have k5 : cs[5]? = some (.int .i64 tg) := by rw [← hcs]; rfl
 have K0 := Lib.hid k0
 have K1 := Lib.hid k1
 have K2 := Lib.hid k2
 have K3 := Lib.hid k3
 have K4 := Lib.hid k4
 have K5 := Lib.hid k5
 have KB : Hid (∃ l3, cs.toList = l3 ++ (bodyG tx cn tg th via (.slice oa la ca) (.slice od ld cd) (.slice ou lu cu) (.slice ok lk ck) i1 i2 i3 i4 i5 i6 i7).toList ∧ l3.length = 3) := by
  show ∃ l3, _
  rw [← hcs]
  exact ⟨[.string wd, .slice na names.length nc, .int .i64 n], rfl, rfl⟩
 clear hcs k0 k1 k2 k3 k4 k5
 refine wp_cut2 (fun a w' => ∃ v3 v4 v5, FI cs w v3 v4 v5 a w') ?_ ?_
 ·have hbox : (Instr.box 37 (.agg cs)).run Tryz.prog w = .ok (.pointer (some ⟨w.heap.size, 0, none⟩)) (w.alloc (.cells cs 37)) := by
   rw [← (Hcs : _ = cs)]
   kernel_rfl
  have HB0 := Lib.hid ((Below.refl w.heap.size w).alloc (Nat.le_refl _) (.cells cs 37))
  go_wp2_with fail
  exact ⟨_, _, _, _, _, _, _, _, rfl, rfl, HW0, HB0⟩
 clear HW0
 rintro a wA ⟨v3, v4, v5, hI⟩
 obtain ⟨v2, v6, v7, v8, l, rfl, hl, hW, hB⟩ := hI
 obtain ⟨u, rfl⟩ := tail_u l hl
 clear hl
 refine wp_cut2 (fun a w' => names.length ≤ 8 ∧ wd.size ≤ 200 ∧ tx.size ≤ 1000 ∧ ∃ v3 v4 v5, FI cs w v3 v4 v5 a w') ?_ ?_
 ·skip
  have h0 : wA.cell? ⟨w.heap.size, 0, none⟩ = some (.string wd) := (hW.cell 0).trans K0
  have h1 : wA.cell? ⟨w.heap.size, 1, none⟩ = some (.slice na names.length nc) := (hW.cell 1).trans K1
  have h3 : wA.cell? ⟨w.heap.size, 3, none⟩ = some (.string tx) := (hW.cell 3).trans K3
  have HW := Lib.hid hW
  have HB := Lib.hid hB
  have hbw : w.heap.size ≤ wA.heap.size := hB.size
  have Hc := Lib.hid ((Haw : ∀ w, _) wA)
  clear hW hB
  by_cases c0 : 8 < names.length
  ·have c0' : (8 : Int) < names.length := by omega
   go_wp2_with fail
   refine Calls.mono Hc ?_
   rintro e w5 ⟨rfl, hb5⟩
   have HB5 := Lib.hid ((HB : Below w.heap.size w wA).trans (hb5.mono hbw))
   clear hb5
   go_wp2_with fail
   go_ret
   exact ⟨rfl, HB5⟩
  ·have c0' : ¬ (8 : Int) < names.length := by omega
   by_cases c1 : 200 < wd.size
   ·have c1' : (200 : Int) < wd.size := by omega
    go_wp2_with fail
    refine Calls.mono Hc ?_
    rintro e w5 ⟨rfl, hb5⟩
    have HB5 := Lib.hid ((HB : Below w.heap.size w wA).trans (hb5.mono hbw))
    clear hb5
    go_wp2_with fail
    go_ret
    exact ⟨rfl, HB5⟩
   ·have c1' : ¬ (200 : Int) < wd.size := by omega
    by_cases c2 : 1000 < tx.size
    ·have c2' : (1000 : Int) < tx.size := by omega
     go_wp2_with fail
     refine Calls.mono Hc ?_
     rintro e w5 ⟨rfl, hb5⟩
     have HB5 := Lib.hid ((HB : Below w.heap.size w wA).trans (hb5.mono hbw))
     clear hb5
     go_wp2_with fail
     go_ret
     exact ⟨rfl, HB5⟩
    ·have c2' : ¬ (1000 : Int) < tx.size := by omega
     go_wp2_with fail
     exact ⟨by omega, by omega, by omega, _, _, _, _, _, _, _, _, rfl, rfl, HW, HB⟩
 clear hW hB v2 v3 v4 v5 v6 v7 v8 u wA
 rintro a wA ⟨hn8, hwd200, htx, v3, v4, v5, hI⟩
 obtain ⟨v2, v6, v7, v8, l, rfl, hl, hW, hB⟩ := hI
 obtain ⟨u, rfl⟩ := tail_u l hl
 clear hl
 have hC := content_self tx cn tg th via la ca ld cd lu cu lk ck oa od ou ok i1 i2 i3 i4 i5 i6 i7
 obtain ⟨cB, hcB⟩ : ∃ cB, contentB th via la ld lu lk = cB := ⟨_, rfl⟩
 rw [hcB] at hC
 have HC := Lib.hid hC
 have HcB := Lib.hid hcB
 clear hC hcB
 obtain ⟨R0, hR0⟩ : ∃ R0, right0 n cn tg cB = R0 := ⟨_, rfl⟩
 have HR0 := Lib.hid hR0
 clear hR0
 refine wp_cut2 (fun a w' => ∃ v4 v5, FI cs w (.bool R0) v4 v5 a w') ?_ ?_
 ·have h2 : wA.cell? ⟨w.heap.size, 2, none⟩ = some (.int .i64 n) := (hW.cell 2).trans K2
  have h4 : wA.cell? ⟨w.heap.size, 4, none⟩ = some (.int .i64 cn) := (hW.cell 4).trans K4
  have h5 : wA.cell? ⟨w.heap.size, 5, none⟩ = some (.int .i64 tg) := (hW.cell 5).trans K5
  have hra : wA.rangeAt w.heap.size 3 (bodyG tx cn tg th via (.slice oa la ca) (.slice od ld cd) (.slice ou lu cu) (.slice ok lk ck) i1 i2 i3 i4 i5 i6 i7).toList := fun j v hv => by
   obtain ⟨l3, e1, e2⟩ := (KB : ∃ l3, _)
   rw [Whole.cell hW (3 + j), ← Array.getElem?_toList, e1, List.getElem?_append_right (by omega), e2, Nat.add_sub_cancel_left]
   exact hv
  have Hra := Lib.hid hra
  have Hbs : Hid ((bodyG tx cn tg th via (.slice oa la ca) (.slice od ld cd) (.slice ou lu cu) (.slice ok lk ck) i1 i2 i3 i4 i5 i6 i7).size = 16) := rfl
  have HW := Lib.hid hW
  have HB := Lib.hid hB
  have hbw : w.heap.size ≤ wA.heap.size := hB.size
  have hcall := (HC : ∀ w, _) wA
  obtain ⟨bs, hbs⟩ : ∃ bs, bodyG tx cn tg th via (.slice oa la ca) (.slice od ld cd) (.slice ou lu cu) (.slice ok lk ck) i1 i2 i3 i4 i5 i6 i7 = bs := ⟨_, rfl⟩
  rw [hbs] at Hra Hbs hcall
  have Hcall := Lib.hid hcall
  clear hW hB hra hbs hcall
  by_cases c0 : -1000000000000 ≤ n
  ·skip
   by_cases c1 : n ≤ 1000000000000
   ·skip
    by_cases c2 : -1000000000000 ≤ cn
    ·skip
     by_cases c3 : cn ≤ 1000000000000
     ·skip
      by_cases c4 : 0 ≤ tg
      ·skip
       by_cases c5 : tg < 4611686018427387904
       ·skip
        have hR : R0 = cB := by rw [← (HR0 : _ = R0)]; unfold right0; rw [decide_eq_true c0, decide_eq_true c1, decide_eq_true c2, decide_eq_true c3, decide_eq_true c4, decide_eq_true c5]; rfl
        have HR := Lib.hid hR
        clear hR
        go_wp2_with ((with_reducible refine list_load35W w.heap.size 3 bs Hra Hbs ?_ ?_ ?_); all_goals try rfl)
        refine Calls.mono Hcall ?_
        rintro e w5 ⟨rfl, hb5⟩
        have HB5 := Lib.hid ((HB : Below w.heap.size w wA).trans (hb5.mono hbw))
        have HW5 := Lib.hid (Whole.on HW hb5)
        clear hb5
        go_wp2_with fail
        exact ⟨_, _, _, _, _, _, _, by rw [(HR : R0 = cB)], rfl, HW5, HB5⟩
       ·have hR : R0 = false := by rw [← (HR0 : _ = R0)]; unfold right0; rw [decide_eq_false c5]; simp
        have HR := Lib.hid hR
        clear hR
        go_wp2_with fail
        exact ⟨_, _, _, _, _, _, _, by rw [(HR : R0 = false)], rfl, HW, HB⟩
      ·have hR : R0 = false := by rw [← (HR0 : _ = R0)]; unfold right0; rw [decide_eq_false c4]; simp
       have HR := Lib.hid hR
       clear hR
       go_wp2_with fail
       exact ⟨_, _, _, _, _, _, _, by rw [(HR : R0 = false)], rfl, HW, HB⟩
     ·have hR : R0 = false := by rw [← (HR0 : _ = R0)]; unfold right0; rw [decide_eq_false c3]; simp
      have HR := Lib.hid hR
      clear hR
      go_wp2_with fail
      exact ⟨_, _, _, _, _, _, _, by rw [(HR : R0 = false)], rfl, HW, HB⟩
    ·have hR : R0 = false := by rw [← (HR0 : _ = R0)]; unfold right0; rw [decide_eq_false c2]; simp
     have HR := Lib.hid hR
     clear hR
     go_wp2_with fail
     exact ⟨_, _, _, _, _, _, _, by rw [(HR : R0 = false)], rfl, HW, HB⟩
   ·have hR : R0 = false := by rw [← (HR0 : _ = R0)]; unfold right0; rw [decide_eq_false c1]; simp
    have HR := Lib.hid hR
    clear hR
    go_wp2_with fail
    exact ⟨_, _, _, _, _, _, _, by rw [(HR : R0 = false)], rfl, HW, HB⟩
  ·have hR : R0 = false := by rw [← (HR0 : _ = R0)]; unfold right0; rw [decide_eq_false c0]; simp
   have HR := Lib.hid hR
   clear hR
   go_wp2_with fail
   exact ⟨_, _, _, _, _, _, _, by rw [(HR : R0 = false)], rfl, HW, HB⟩
 clear hW hB v2 v3 v4 v5 v6 v7 v8 u wA HC
 rintro a wA ⟨v4, v5, hI⟩
 obtain ⟨v2, v6, v7, v8, l, rfl, hl, hW, hB⟩ := hI
 obtain ⟨u, rfl⟩ := tail_u l hl
 clear hl
 obtain ⟨R1, hR1⟩ : ∃ R1, (R0 && names.all plainB) = R1 := ⟨_, rfl⟩
 have HR1 := Lib.hid hR1
 clear hR1
 refine wp_cut2 (fun a w' => (∀ z ∈ names, z.size ≤ 200) ∧ ∃ v4 v5, FI cs w (.bool R1) v4 v5 a w') ?_ ?_
 ·have HW := Lib.hid hW
  have HB := Lib.hid hB
  clear hW hB
  go_wp2_with fail
  go_loopw [3, 4] (fun t i wr => ∃ k, k ≤ names.length ∧ i = .int .i64 k ∧ t = .bool (R0 && (names.take k).all plainB) ∧ (∀ z ∈ names.take k, z.size ≤ 200) ∧ Whole wr w.heap.size 37 cs ∧ Below w.heap.size w wr) (fun _ i _ => names.length - (intOf i).toNat)
  case atStart => exact ⟨0, Nat.zero_le _, rfl, by rw [List.take_zero, List.all_nil, Bool.and_true], by simp, HW, HB⟩
  case round =>
   clear HW HB
   obtain ⟨k, hk, rfl, rfl, hsz, hW, hB⟩ := hrel
   have hc1 : wr.cell? ⟨w.heap.size, 1, none⟩ = some (.slice na names.length nc) := (hW.cell 1).trans K1
   have HW := Lib.hid hW
   have HB := Lib.hid hB
   have Hszk := Lib.hid hsz
   have hbw : w.heap.size ≤ wr.heap.size := hB.size
   have Hc := Lib.hid ((Haw : ∀ w, _) wr)
   clear hW hB hsz
   by_cases hlt : k < names.length
   ·obtain ⟨b, off, rfl, _, hc⟩ := Strs.at_ HS hlt
    have hc2 := hc wr HB
    obtain ⟨z, hz⟩ : ∃ z, names[k] = z := ⟨_, rfl⟩
    rw [hz] at hc2
    have htk : names.take (k + 1) = names.take k ++ [z] := by
     rw [List.take_add_one, List.getElem?_eq_getElem hlt, hz]
     rfl
    obtain ⟨T, hT⟩ : ∃ T, (R0 && (names.take k).all plainB) = T := ⟨_, rfl⟩
    have hT2 : (R0 && (names.take (k + 1)).all plainB) = (T && plainB z) := by
     rw [htk, List.all_append, ← hT, List.all_cons, List.all_nil, Bool.and_true, Bool.and_assoc]
    have Hsz2 : Hid (z.size ≤ 200 → ∀ y ∈ names.take (k + 1), y.size ≤ 200) := fun h y hy => by
     rw [htk, List.mem_append, List.mem_singleton] at hy
     rcases hy with hy | rfl
     ·exact (Hszk : ∀ z ∈ names.take k, _) y hy
     ·exact h
    rw [hT]
    have HT2 := Lib.hid hT2
    clear htk hT hT2 hz hc Hszk
    by_cases hbig : 200 < z.size
    ·have hbig' : (200 : Int) < z.size := by omega
     go_wp2_with fail
     refine Calls.mono Hc ?_
     rintro e w5 ⟨rfl, hb5⟩
     have HB5 := Lib.hid ((HB : Below w.heap.size w wr).trans (hb5.mono hbw))
     clear hb5
     go_wp2_with fail
     go_ret
     exact ⟨rfl, HB5⟩
    ·have hbig' : ¬ (200 : Int) < z.size := by omega
     have Hpl := Lib.hid (plain_ok z wr (by omega))
     cases T
     ·go_wp2_with fail
      exact ⟨⟨k + 1, by omega, by go_num, by rw [(HT2 : _ = (false && plainB z))]; rfl, (Hsz2 : _ → _) (by omega), HW, HB⟩, by simp [intOf]; omega⟩
     ·go_wp2_with fail
      refine Calls.mono Hpl ?_
      rintro e w5 ⟨rfl, rfl⟩
      go_wp2_with fail
      exact ⟨⟨k + 1, by omega, by go_num, by rw [(HT2 : _ = (true && plainB z))]; rfl, (Hsz2 : _ → _) (by omega), HW, HB⟩, by simp [intOf]; omega⟩
   ·obtain rfl : k = names.length := by omega
    rw [List.take_length] at Hszk
    rw [List.take_length, (HR1 : _ = R1)]
    go_wp2_with fail
    exact ⟨Hszk, _, _, _, _, _, _, _, rfl, rfl, HW, HB⟩
 clear hW hB v2 v4 v5 v6 v7 v8 u wA
 rintro a wA ⟨hn200, v4, v5, hI⟩
 obtain ⟨v2, v6, v7, v8, l, rfl, hl, hW, hB⟩ := hI
 obtain ⟨u, rfl⟩ := tail_u l hl
 clear hl
 obtain ⟨R2, hR2⟩ : ∃ R2, (R1 && tx.data.toList.all fun b => b != 10) = R2 := ⟨_, rfl⟩
 have HR2 := Lib.hid hR2
 have Hn200 := Lib.hid hn200
 clear hR2 hn200
 refine wp_cut2 (fun a w' => ∃ v4 v5, FI cs w (.bool R2) v4 v5 a w') ?_ ?_
 ·have HW := Lib.hid hW
  have HB := Lib.hid hB
  clear hW hB
  go_wp2_with fail
  go_loopw [3, 5] (fun t i wr => ∃ k, k ≤ tx.size ∧ i = .int .i64 k ∧ t = .bool (R1 && (tx.data.toList.take k).all fun b => b != 10) ∧ Whole wr w.heap.size 37 cs ∧ Below w.heap.size w wr) (fun _ i _ => tx.size - (intOf i).toNat)
  case atStart => exact ⟨0, Nat.zero_le _, rfl, by rw [List.take_zero, List.all_nil, Bool.and_true], HW, HB⟩
  case round =>
   clear HW HB
   obtain ⟨k, hk, rfl, rfl, hW, hB⟩ := hrel
   have hc3 : wr.cell? ⟨w.heap.size, 3, none⟩ = some (.string tx) := (hW.cell 3).trans K3
   have HW := Lib.hid hW
   have HB := Lib.hid hB
   clear hW hB
   by_cases hlt : k < tx.size
   ·have hbt := byte_at hlt
    obtain ⟨b, hb⟩ : ∃ b, tx[k]'hlt = b := ⟨_, rfl⟩
    rw [hb] at hbt
    have hix := run_index9i tx (k : Int) b wr (by omega) (by rw [Int.toNat_natCast]; exact hbt)
    have hbn : (tx[k]'hlt).toNat = b.toNat := by rw [hb]
    obtain ⟨T, hT⟩ : ∃ T, (R1 && (tx.data.toList.take k).all fun b => b != 10) = T := ⟨_, rfl⟩
    have hT2 : (R1 && (tx.data.toList.take (k + 1)).all fun b => b != 10) = (T && b != 10) := by
     rw [List.take_add_one, hbt, List.all_append, ← hT, Option.toList_some, List.all_cons, List.all_nil, Bool.and_true, Bool.and_assoc]
    rw [hT]
    have HT2 := Lib.hid hT2
    have hb10 : (b != 10) = !((b.toNat : Int) == 10) := by
     by_cases h : b = 10
     ·subst h; rfl
     ·have h2 : ¬ (b.toNat : Int) = 10 := fun q => h (u8_eq (n := 10) (by decide) (by omega))
      rw [bne_iff_ne.2 h, beq_eq_false_iff_ne.2 h2]
      rfl
    have Hb10 := Lib.hid hb10
    obtain ⟨B, hB2⟩ : ∃ B : Nat, b.toNat = B := ⟨_, rfl⟩
    rw [hB2] at hix hbn Hb10
    clear hT hT2 hb10 hbt hb hB2
    cases T
    ·go_wp2_with fail
     exact ⟨⟨k + 1, by omega, by go_num, by rw [(HT2 : _ = (false && b != 10))]; rfl, HW, HB⟩, by simp [intOf]; omega⟩
    ·by_cases h2 : (B : Int) = 10
     ·have h2b : ((B : Int) == 10) = true := beq_iff_eq.2 h2
      have Hf : Hid ((true && b != 10) = false) := by show _ = _; rw [(Hb10 : _ = _), h2b]; rfl
      obtain rfl : B = 10 := by omega
      go_wp2_with fail
      exact ⟨⟨k + 1, by omega, by go_num, by rw [(HT2 : _ = (true && b != 10)), (Hf : _ = false)], HW, HB⟩, by simp [intOf]; omega⟩
     ·have h2b : ((B : Int) == 10) = false := beq_eq_false_iff_ne.2 h2
      have Hf : Hid ((true && b != 10) = true) := by show _ = _; rw [(Hb10 : _ = _), h2b]; rfl
      go_wp2_with fail
      exact ⟨⟨k + 1, by omega, by go_num, by rw [(HT2 : _ = (true && b != 10)), (Hf : _ = true), bne_iff_ne.2 h2], HW, HB⟩, by simp [intOf]; omega⟩
   ·obtain rfl : k = tx.size := by omega
    have htk : tx.data.toList.take tx.size = tx.data.toList := List.take_of_length_le (by rw [Array.length_toList]; exact Nat.le_refl _)
    rw [htk, (HR2 : _ = R2)]
    clear htk
    go_wp2_with fail
    exact ⟨_, _, _, _, _, _, _, rfl, rfl, HW, HB⟩
 clear hW hB v2 v4 v5 v6 v7 v8 u wA
 rintro a wA ⟨v4, v5, hI⟩
 obtain ⟨v2, v6, v7, v8, l, rfl, hl, hW, hB⟩ := hI
 obtain ⟨u, rfl⟩ := tail_u l hl
 clear hl
 have hra : wA.rangeAt w.heap.size 0 cs.toList := fun j v hv => by
  rw [Nat.zero_add, Whole.cell hW j, ← Array.getElem?_toList]
  exact hv
 have Hra := Lib.hid hra
 have HW := Lib.hid hW
 have HB := Lib.hid hB
 have hbw : w.heap.size ≤ wA.heap.size := hB.size
 have hline := line_ok wd (.slice na names.length nc) n tx cn tg th via (.slice oa la ca) (.slice od ld cd) (.slice ou lu cu) (.slice ok lk ck) i1 i2 i3 i4 i5 i6 i7 names wA (Strs.on HS HB) hn8 Hn200 hwd200 htx Hn Hcn
 rw [(Hcs : _ = cs)] at hline
 obtain ⟨LB, hLB⟩ : ∃ LB, lineB wd names n cn tg tx = LB := ⟨_, rfl⟩
 rw [hLB] at hline
 have HLB := Lib.hid hLB
 have Hline := Lib.hid hline
 clear hra hW hB hline hLB
 go_wp2_with ((with_reducible refine list_load37W w.heap.size 0 cs Hra Hsz ?_ ?_ ?_); all_goals try rfl)
 refine Calls.mono Hline ?_
 rintro e w1 ⟨rfl, hb1⟩
 have hB1 : Below w.heap.size w w1 := Below.trans HB (hb1.mono hbw)
 have hW1 := Whole.on HW hb1
 clear HW HB hb1 hbw Hra Hline
 have hra : w1.rangeAt w.heap.size 0 cs.toList := fun j v hv => by
  rw [Nat.zero_add, Whole.cell hW1 j, ← Array.getElem?_toList]
  exact hv
 have Hra := Lib.hid hra
 have HW := Lib.hid hW1
 have HB := Lib.hid hB1
 have hbw : w.heap.size ≤ w1.heap.size := hB1.size
 have hrline := rline_ok wd (.slice na names.length nc) n tx cn tg th via (.slice oa la ca) (.slice od ld cd) (.slice ou lu cu) (.slice ok lk ck) i1 i2 i3 i4 i5 i6 i7 names w1 (Strs.on HS HB) hn8 Hn200 hwd200 htx Hn Hcn
 rw [(Hcs : _ = cs), (HLB : _ = LB)] at hrline
 have Hrline := Lib.hid hrline
 clear hra hW1 hB1 hrline
 go_wp2_with ((with_reducible refine list_load37W w.heap.size 0 cs Hra Hsz ?_ ?_ ?_); all_goals try rfl)
 refine Calls.mono Hrline ?_
 rintro e w2 ⟨rfl, hb2⟩
 have hB2 : Below w.heap.size w w2 := Below.trans HB (hb2.mono hbw)
 have hW2 := Whole.on HW hb2
 clear HW HB hb2 hbw Hra Hrline w1
 have hc0 : w2.cell? ⟨w.heap.size, 0, none⟩ = some (.string wd) := (hW2.cell 0).trans K0
 have Hract := Lib.hid (ract_any wd w2 (by omega))
 have HW := Lib.hid hW2
 have HB := Lib.hid hB2
 have hbw : w.heap.size ≤ w2.heap.size := hB2.size
 clear hW2 hB2
 go_wp2_with fail
 refine Calls.mono Hract ?_
 rintro e w3 ⟨E, rfl, hE1, hE2, hb3⟩
 obtain ⟨kn, hkn⟩ : ∃ kn, (actOf wd).isSome = kn := ⟨_, rfl⟩
 rw [hkn]
 have Hkn := Lib.hid hkn
 have hB3 : Below w.heap.size w w3 := Below.trans HB (hb3.mono hbw)
 have hW3 := Whole.on HW hb3
 have hbw3 : w.heap.size ≤ w3.heap.size := hB3.size
 clear HW HB hb3 hbw Hract hc0 hkn
 have hwz := Whole.new w3 37 zeroC
 have hzs : zeroC.size = 19 := rfl
 have hbz : Below w3.heap.size w3 (w3.alloc (.cells zeroC 37)) := (Below.refl w3.heap.size w3).alloc (Nat.le_refl _) _
 have hsb : w3.heap.size ≤ (w3.alloc (.cells zeroC 37)).heap.size := hbz.size
 have HE1 := Lib.hid hE1
 have HE2 := Lib.hid hE2
 obtain ⟨Z, hZ⟩ : ∃ Z, E = Z := ⟨_, rfl⟩
 have Hee := Lib.hid hZ
 have HW3 := Lib.hid hW3
 have HB3 := Lib.hid hB3
 unfold zeroC actC at hwz hbz hsb hzs
 have Hwz := Lib.hid hwz
 have Hzs := Lib.hid hzs
 have Hbz := Lib.hid hbz
 have Hsb := Lib.hid hsb
 clear hwz hzs hbz hsb hE1 hE2 hB3 hW3 hZ
 go_wp2_with ((with_reducible refine list_storeN w3.heap.size _ Z _ Hee Hwz Hzs HE1 HE2 ?_ ?_ ?_ ?_ ?_); all_goals try rfl)
 intro W6 hW6 hg6 hz6
 have hb6 := below_row Hbz hg6 (Nat.le_refl _) Hsb
 have hB6 : Below w.heap.size w W6 := Below.trans HB3 (hb6.mono hbw3)
 have hW7 : Whole W6 w.heap.size 37 cs := Whole.on HW3 hb6
 have hbw6 : w.heap.size ≤ W6.heap.size := hB6.size
 have hc0 : W6.cell? ⟨w.heap.size, 0, none⟩ = some (.string wd) := (hW7.cell 0).trans K0
 have HB := Lib.hid hB6
 have HW := Lib.hid hW7
 have Hc := Lib.hid ((Haw : ∀ w, _) W6)
 clear hb6 hB6 hW7 hW6 hg6 hz6 Hbz Hsb Hwz Hzs Hee HE1 HE2 HB3 HW3
 by_cases hr : R2 = false
 ·subst hr
  go_wp2_with fail
  refine Calls.mono Hc ?_
  rintro e w5 ⟨rfl, hb5⟩
  have HB5 := Lib.hid ((HB : Below w.heap.size w W6).trans (hb5.mono hbw6))
  clear hb5
  go_wp2_with fail
  go_ret
  exact ⟨rfl, HB5⟩
 ·obtain rfl : R2 = true := by simpa using hr
  by_cases hk : kn = false
  ·subst hk
   go_wp2_with fail
   refine Calls.mono Hc ?_
   rintro e w5 ⟨rfl, hb5⟩
   have HB5 := Lib.hid ((HB : Below w.heap.size w W6).trans (hb5.mono hbw6))
   clear hb5
   go_wp2_with fail
   go_ret
   exact ⟨rfl, HB5⟩
  ·obtain rfl : kn = true := by simpa using hk
   have Hpl := Lib.hid (plain_ok wd W6 (by omega))
   obtain ⟨pb, hpb⟩ : ∃ pb, plainB wd = pb := ⟨_, rfl⟩
   rw [hpb] at Hpl
   have Hpb := Lib.hid hpb
   clear hpb hr hk
   go_wp2_with fail
   refine Calls.mono Hpl ?_
   rintro e w5 ⟨rfl, h5⟩
   rw [h5]
   clear Hpl h5 w5
   cases pb
   ·go_wp2_with fail
    refine Calls.mono Hc ?_
    rintro e w5 ⟨rfl, hb5⟩
    have HB5 := Lib.hid ((HB : Below w.heap.size w W6).trans (hb5.mono hbw6))
    clear hb5
    go_wp2_with fail
    go_ret
    exact ⟨rfl, HB5⟩
   ·have Hps := Lib.hid (parse_mine HLB HR0 HR1 HR2 Hkn Hpb hn8 Hn200 hwd200 htx Hn Hcn W6)
    clear hc0 Hc
    go_wp2_with fail
    refine Calls.mono Hps ?_
    rintro e w7 ⟨v, t1, rfl, hacts, ht1, hb7⟩
    have hB7 : Below w.heap.size w w7 := Below.trans HB (hb7.mono hbw6)
    have hW7 : Whole w7 w.heap.size 37 cs := Whole.on HW hb7
    clear HB HW hb7 hbw6 Hps
    have hra : w7.rangeAt w.heap.size 0 cs.toList := fun j v hv => by
     rw [Nat.zero_add, Whole.cell hW7 j, ← Array.getElem?_toList]
     exact hv
    have Hra := Lib.hid hra
    have HB := Lib.hid hB7
    have Hacts := Lib.hid hacts
    have Ht1 := Lib.hid ht1
    have hbw7 : w.heap.size ≤ w7.heap.size := hB7.size
    obtain ⟨a1, c1, rfl, -, -⟩ := hacts.form
    clear hra hB7 hW7 hacts ht1
    go_wp2_with (first | ((with_reducible refine list_load37W w.heap.size 0 cs Hra Hsz ?_ ?_ ?_); all_goals try rfl) | (refine list_build23W rfl _ rfl _ _ _ _ _ _ _ _ _ _ _ _ _ _ _ _ _ _ _ cs Hcs rfl ?_))
    intro w8 hw8 hb8 hz8
    have hsame := same_one _ (.slice na names.length nc) t1 wd tx via ⟨names, n, cn, tg, flagB n, flagB cn, flagB tg⟩ th (.slice oa la ca) (.slice od ld cd) (.slice ou lu cu) (.slice ok lk ck) i1 i2 i3 i4 i5 i6 i7 w7.heap.size w8 (Acts.on Hacts hb8) Ht1 (Strs.on HS (Below.trans HB (hb8.mono hbw7))) (by rw [(Hcs : _ = cs)]; exact hw8)
    have hB8 : Below w.heap.size w w8 := Below.trans HB (hb8.mono hbw7)
    have HB8 := Lib.hid hB8
    have hbw8 : w.heap.size ≤ w8.heap.size := hB8.size
    have Hsame := Lib.hid hsame
    clear hsame hw8 hb8 hz8 hB8 HB Hra Hacts Ht1
    go_wp2_with fail
    refine Calls.mono Hsame ?_
    rintro e w9 ⟨rfl, hb9⟩
    have hB9 : Below w.heap.size w w9 := Below.trans HB8 (hb9.mono hbw8)
    have HB9 := Lib.hid hB9
    have hbw9 : w.heap.size ≤ w9.heap.size := hB9.size
    have Hc := Lib.hid ((Haw : ∀ w, _) w9)
    clear Hsame hb9 hB9 HB8
    go_wp2_with fail
    refine Calls.mono Hc ?_
    rintro e w10 ⟨rfl, hb10⟩
    have HB10 := Lib.hid (Below.trans HB9 (hb10.mono hbw9))
    clear hb10
    go_wp2_with fail
    go_ret
    exact ⟨rfl, HB10⟩
end Go.Proofs.R50
end
