/- What the walks of both Parse lean on. -/
import Derived.Test.YtojknjmcmadhcaaGreatDoorCi

section
namespace Go.Proofs.R50
open Go.ChangeShapes Go.WideShapes Go.ChangeAt Go.RowKit

theorem build23 (e : Operand → Value) (o : Oper) (x : Operand) (ho : o.op = .buildSlice 23 1 #[(0, x)]) (wd tx : ByteArray) (nv : Value) (n cn tg : Int) (hx : e x = .agg (actC wd nv n tx cn tg)) (w : World) :
    (execOp e o).run Tryz.prog w = .ok (.value (.slice (some ⟨w.heap.size, 0, none⟩) 1 1)) (w.alloc (.cells (actC wd nv n tx cn tg) 37)) := by
  unfold execOp
  rw [ho]
  simp only [List.map_toArray, List.map_cons, List.map_nil, hx]
  kernel_rfl
theorem Tryz.info37' : (Tryz.prog.info? 37).map (fun i => (i.zero, i.size, i.bytes)) = some (some (.agg zeroC), 19, 256) := by kernel_rfl
theorem under23 : Tryz.prog.underlying 23 = some (.slice 37) := by kernel_rfl
/-- A slice of one act whose cells are kept under a name. -/
theorem list_build23 {ops : Array Oper} {rest : List Oper} {o : Oper} {a : Act} {w : World} {Q : Exit → Act → World → Prop} (hgd : o.guard = none) (x : Operand) (ho : o.op = .buildSlice 23 1 #[(0, x)])
    (wd tx : ByteArray) (nv : Value) (n cn tg : Int) (cs : Array Value) (hcs : Hid (actC wd nv n tx cn tg = cs)) (hx : a.eval x = .agg cs)
    (h : ∀ w', Whole w' w.heap.size 37 cs → Below w.heap.size w w' → w'.heap.size = w.heap.size + 1 → wpList Tryz.prog ops Q rest (a.put o.dst (.slice (some ⟨w.heap.size, 0, none⟩) 1 1)) w') : wpList Tryz.prog ops Q (o :: rest) a w := by
  have e : actC wd nv n tx cn tg = cs := hcs
  subst e
  refine wpList_plain hgd fun K' hK' => ?_
  unfold Oper.wp
  rw [build23 a.eval o x ho wd tx nv n cn tg hx w]
  exact hK' _ _ (h _ (Whole.new w 37 _) ((Below.refl _ _).alloc (Nat.le_refl _) _) (World.size_alloc _ _))

/-- A line that says nothing: empty, or a remark. -/
def skipL (l : ByteArray) : Bool := match l.data.toList with
  | [] => true
  | b :: _ => b == 35
abbrev PA : Type := ByteArray × AS × ByteArray
/-- The acts of lines; the number of the first bad line. -/
def parseGo : List ByteArray → Nat → List PA → List PA ⊕ Nat
  | [], _, acc => .inl acc
  | l :: r, i, acc => if skipL l then parseGo r (i + 1) acc else match actOf l with
    | none => .inr (i + 1)
    | some p => parseGo r (i + 1) (acc ++ [p])
def cellsT (t : Value × PA) : Array Value := actC t.2.1 t.1 t.2.2.1.n t.2.2.2 t.2.2.1.cn t.2.2.1.tg
def namesOwn (w : World) (base : Nat) (t : Value × PA) : Prop := w.ownsRow base 9 1 t.1 t.2.2.1.names.length (t.2.2.1.names.map Value.string)
def actsC (ts : List (Value × PA)) : List Value := ts.flatMap fun t => (cellsT t).toList
/-- A row of acts of one's own. -/
structure ActsOwn (w : World) (base : Nat) (v : Value) (ts : List (Value × PA)) : Prop where
  row : w.ownsRow base 37 19 v ts.length (actsC ts)
  names : ∀ t ∈ ts, namesOwn w base t
theorem ActsOwn.on {w w' : World} {base : Nat} {v : Value} {ts : List (Value × PA)} (h : ActsOwn w base v ts) (hb : Below w.heap.size w w') : ActsOwn w' base v ts :=
  ⟨own_on h.row hb, fun t ht => own_on (h.names t ht) hb⟩
theorem ActsOwn.base {w : World} {base base' : Nat} {v : Value} {ts : List (Value × PA)} (h : ActsOwn w base v ts) (hb : base' ≤ base) : ActsOwn w base' v ts :=
  ⟨own_base h.row hb, fun t ht => own_base (h.names t ht) hb⟩
def ParsePost (s : ByteArray) (w : World) (e : Ending) (w' : World) : Prop :=
  if 20000 < s.size then e = .returned (.tuple #[.slice none 0 0, .int .i64 0, .int .i64 7]) ∧ Below w.heap.size w w'
  else match parseGo (splitB 10 s) 0 [] with
    | .inr k => e = .returned (.tuple #[.slice none 0 0, .int .i64 k, .int .i64 10]) ∧ Below w.heap.size w w'
    | .inl ps => ∃ v ts, e = .returned (.tuple #[v, .int .i64 0, .int .i64 0]) ∧ ActsOwn w' w.heap.size v ts ∧ ts.map (·.2) = ps ∧ Below w.heap.size w w'
/-- Both loops of Parse: i lines are read. -/
structure PInv (s : ByteArray) (W1 : World) (v u : Value) (wr : World) (i : Nat) (ts : List (Value × PA)) : Prop where
  hi : i ≤ (splitB 10 s).length
  i_ : u = .int .i64 i
  own : ActsOwn wr W1.heap.size v ts
  below : Below W1.heap.size W1 wr
  few : ts.length ≤ i
  res : parseGo (splitB 10 s) 0 [] = parseGo ((splitB 10 s).drop i) i (ts.map (·.2))
theorem PInv.skip {s : ByteArray} {W1 : World} {v : Value} {wr : World} {i : Nat} {ts : List (Value × PA)} (h : PInv s W1 v (.int .i64 i) wr i ts) (hlt : i < (splitB 10 s).length) (hs : skipL (splitB 10 s)[i] = true) : PInv s W1 v (.int .i64 ((i : Int) + 1)) wr (i + 1) ts :=
  ⟨by omega, by rw [Int.natCast_add]; rfl, h.own, h.below, by have := h.few; omega, by rw [h.res, drop_at hlt, parseGo, if_pos hs]⟩
theorem PInv.bad {s : ByteArray} {W1 : World} {v u : Value} {wr : World} {i : Nat} {ts : List (Value × PA)} (h : PInv s W1 v u wr i ts) (hlt : i < (splitB 10 s).length) (hs : skipL (splitB 10 s)[i] = false) (ha : actOf (splitB 10 s)[i] = none) : parseGo (splitB 10 s) 0 [] = .inr (i + 1) := by
  rw [h.res, drop_at hlt, parseGo, if_neg (by rw [hs]; decide), ha]
theorem PInv.good {s : ByteArray} {W1 : World} {v u : Value} {wr : World} {i : Nat} {ts : List (Value × PA)} {p : PA} (h : PInv s W1 v u wr i ts) (hlt : i < (splitB 10 s).length) (hs : skipL (splitB 10 s)[i] = false) (ha : actOf (splitB 10 s)[i] = some p) : parseGo (splitB 10 s) 0 [] = parseGo ((splitB 10 s).drop (i + 1)) (i + 1) (ts.map (·.2) ++ [p]) := by
  rw [h.res, drop_at hlt, parseGo, if_neg (by rw [hs]; decide), ha]
theorem PInv.done {s : ByteArray} {W1 : World} {v u : Value} {wr : World} {ts : List (Value × PA)} (h : PInv s W1 v u wr (splitB 10 s).length ts) : parseGo (splitB 10 s) 0 [] = .inl (ts.map (·.2)) := by
  rw [h.res, List.drop_length, parseGo]
theorem post_long {s : ByteArray} {w w' : World} (h : 20000 < s.size) (hb : Below w.heap.size w w') : ParsePost s w (.returned (.tuple #[.slice none 0 0, .int .i64 0, .int .i64 7])) w' := by
  unfold ParsePost; rw [if_pos h]; exact ⟨rfl, hb⟩
theorem post_bad {s : ByteArray} {w w' : World} {k : Nat} {n : Int} (h : ¬ 20000 < s.size) (hp : parseGo (splitB 10 s) 0 [] = .inr k) (hn : n = k) (hb : Below w.heap.size w w') : ParsePost s w (.returned (.tuple #[.slice none 0 0, .int .i64 n, .int .i64 10])) w' := by
  unfold ParsePost; rw [if_neg h, hp, hn]; exact ⟨rfl, hb⟩
theorem post_good {s : ByteArray} {w w' : World} {v : Value} {ts : List (Value × PA)} (h : ¬ 20000 < s.size) (hp : parseGo (splitB 10 s) 0 [] = .inl (ts.map (·.2))) (ho : ActsOwn w' w.heap.size v ts) (hb : Below w.heap.size w w') : ParsePost s w (.returned (.tuple #[v, .int .i64 0, .int .i64 0])) w' := by
  unfold ParsePost; rw [if_neg h, hp]; exact ⟨v, ts, rfl, ho, rfl, hb⟩

theorem skip_empty : skipL ⟨#[]⟩ = true := rfl
theorem skip_cons {l : ByteArray} {b : UInt8} (h : l.data.toList[0]? = some b) : skipL l = (b == 35) := by
  unfold skipL
  cases e : l.data.toList with
  | nil => rw [e] at h; cases h
  | cons c r => rw [e] at h; injection h with h; rw [h]
theorem first_byte {l : ByteArray} (h : ¬ l = ⟨#[]⟩) : ∃ b, l.data.toList[0]? = some b := by
  cases e : l.data.toList with
  | nil => exact absurd (by rw [← ba_data l, e]; rfl) h
  | cons c r => exact ⟨c, rfl⟩
theorem run_index9i (s : ByteArray) (i : Int) (b : UInt8) (w : World) (h0 : 0 ≤ i) (h : s.data.toList[i.toNat]? = some b) : (Instr.index 9 (.string s) (.int .i64 i)).run Tryz.prog w = .ok (.int .u8 b.toNat) w := by
  have h2 : s[i.toNat]? = some b := by
    rw [← h, Array.getElem?_toList]; rfl
  simp [Instr.index, Sem.run_bind, asIntOf, Go.Abs.run_under Tryz.underlying9, Result.andThen, h0, h2]
theorem byte35 {b : UInt8} : ((b.toNat : Int) = 35) ↔ (b == 35) = true := by
  rw [beq_iff_eq]
  constructor
  · intro h
    exact UInt8.toNat_inj.1 (by have : b.toNat = 35 := by omega
                                rw [this]; rfl)
  · rintro rfl; rfl
/-- append of one act to a row of acts of one's own. -/
theorem list_pushA {ops : Array Oper} {rest : List Oper} {o : Oper} {a : Act} {w : World} {Q : Exit → Act → World → Prop} (hgd : o.guard = none) (s x : Operand)
    (ho : o.op = .call { callee := .builtin .append, args := #[s, x], argTypes := #[23, 23] })
    (base : Nat) (v : Value) (ts : List (Value × PA)) (hs : a.eval s = v) (hown : Hid (ActsOwn w base v ts)) (h c : Nat) (cs : Array Value) (t : Value × PA) (hx : a.eval x = .slice (some ⟨h, 0, none⟩) 1 c) (hnew : Hid (Whole w h 37 cs)) (hcs : Hid (cellsT t = cs)) (h1 : Hid (cs.all (·.oneCell') = true)) (hn : Hid (namesOwn w base t))
    (hm : ts.length ≤ 1000000) (hbase : base ≤ w.heap.size)
    (k : ∀ g cap w', ActsOwn w' base (.slice (some ⟨g, 0, none⟩) (ts.length + 1) cap) (ts ++ [t]) → w.grownBy w' v.ownBlock → wpList Tryz.prog ops Q rest (a.put o.dst (.slice (some ⟨g, 0, none⟩) (ts.length + 1) cap)) w') :
    wpList Tryz.prog ops Q (o :: rest) a w := by
  obtain ⟨i0, hi, hz0, hz1, hz2⟩ := info_parts Tryz.info37'
  have hcs' : cellsT t = cs := hcs
  have hown' : ActsOwn w base v ts := hown
  have h1' : cs.all (·.oneCell') = true := h1
  have hn' : namesOwn w base t := hn
  have hsz : cs.toList.length = 19 := by rw [← hcs']; rfl
  refine list_push hgd s x 23 ho base 37 i0 (.agg zeroC) 19 256 under23 hi hz0 hz1 hz2 rfl (by omega) v ts.length (actsC ts) hs hown'.row h c cs.toList hx hsz hnew (by
    intro u hu
    rw [Array.all_eq_true_iff_forall_mem] at h1'
    exact h1' u (Array.mem_toList_iff.1 hu)) (by unfold maxLen; omega) (by omega) hbase fun g cap w' h3 h4 => k g cap w' ⟨?_, ?_⟩ h4
  · rw [List.length_append]
    have e : actsC (ts ++ [t]) = actsC ts ++ cs.toList := by
      unfold actsC
      rw [List.flatMap_append, List.flatMap_cons, List.flatMap_nil, List.append_nil, hcs']
    rw [e]
    exact h3
  · intro t' ht'
    rcases List.mem_append.1 ht' with h' | h'
    · exact own_own (hown'.names t' h') hown'.row h4 (by decide)
    · obtain rfl : t' = t := by simpa using h'
      exact own_own hn' hown'.row h4 (by decide)
end Go.Proofs.R50
end

/- script.Parse, for texts of any length. -/
section
namespace Go.Proofs.R50
open Go.ChangeShapes Go.WideShapes Go.ChangeAt Go.RowKit

set_option maxRecDepth 100000 in
set_option maxHeartbeats 4000000 in
theorem parse_any (s : ByteArray) (w : World) : Calls Tryz.prog 6 #[.string s] w (ParsePost s w) := by
  by_cases hlong : 20000 < s.size
  · have hl2 : (20000 : Int) < s.size := by omega
    go_enter Tryz.func6, Tryz.ntmps6
    go_wp2_with fail
    go_ret3
    exact post_long hlong (Below.refl _ _)
  · have hs2 : s.size ≤ 20000 := by omega
    have hlines : (splitB 10 s).length ≤ 20001 := by have := splitB_count (c := 10) (s := s); omega
    have hpt : ∀ z ∈ splitB 10 s, z.size ≤ 20000 := fun z hz => Nat.le_trans (splitB_part hz) hs2
    have Hc := Lib.hid (split_ok s 10 w (by omega))
    have Hlong := Lib.hid hlong
    have hl2 : ¬ (20000 : Int) < s.size := by omega
    clear hlong
    go_enter Tryz.func6, Tryz.ntmps6
    go_wp2_with fail
    refine Calls.mono Hc ?_
    rintro e W1 ⟨lv, rfl, hst, hb1⟩
    obtain ⟨ao, cap, rfl, -, -⟩ := hst.form
    have Hst := Lib.hid hst
    have HB1 := Lib.hid hb1
    have Hpt := Lib.hid hpt
    have hs1 : w.heap.size ≤ W1.heap.size := hb1.size
    clear hst hb1 hpt Hc
    go_wp2_with fail
    go_loopw [5, 16] (fun v u wr => ∃ i ts, PInv s W1 v u wr i ts) (fun _ u _ => (splitB 10 s).length - (intOf u).toNat)
    case atStart => exact ⟨0, [], ⟨Nat.zero_le _, rfl, ⟨⟨rfl, .inl ⟨rfl, rfl⟩⟩, fun t ht => by cases ht⟩, Below.refl _ _, Nat.le_refl _, rfl⟩⟩
    case round =>
      obtain ⟨i, ts, hI⟩ := hrel
      obtain ⟨vo, vcap, rfl⟩ := own_slice hI.own.row
      obtain rfl := hI.i_
      have hi := hI.hi
      have HI := Lib.hid hI
      clear hI
      by_cases hlt : i < (splitB 10 s).length
      · obtain ⟨b, off, rfl, _, hc⟩ := Strs.at_ Hst hlt
        have hbr : Below W1.heap.size W1 wr := PInv.below HI
        have hsr : W1.heap.size ≤ wr.heap.size := hbr.size
        have hcr := hc wr hbr
        have hskp := PInv.skip HI hlt
        have hbad := PInv.bad HI hlt
        have hgood := fun p => PInv.good (p := p) HI hlt
        obtain ⟨l, hl⟩ : ∃ l, (splitB 10 s)[i] = l := ⟨_, rfl⟩
        have hll : l.size ≤ 20000 := (Hpt : ∀ z ∈ _, _) l (hl ▸ List.getElem_mem hlt)
        rw [hl] at hcr hskp hbad hgood
        have Hskp := Lib.hid hskp
        have Hbad := Lib.hid hbad
        have Hgood := Lib.hid hgood
        have Hbr := Lib.hid hbr
        have Hlt := Lib.hid hlt
        have hfew : ts.length ≤ i := PInv.few HI
        clear hskp hbad hgood hc hl hbr
        by_cases hle : l = ⟨#[]⟩
        · subst hle
          go_wp2_with fail
          exact ⟨⟨i + 1, ts, (Hskp : _ → _) skip_empty⟩, by simp [intOf]; omega⟩
        · obtain ⟨c, hcb⟩ := first_byte hle
          have hlne := isEmpty_no hle
          have hix := run_index9i l 0 c wr (Int.le_refl _) hcb
          by_cases h35 : (c.toNat : Int) = 35
          · have hsk : skipL l = true := by rw [skip_cons hcb]; exact byte35.1 h35
            have Hn := Lib.hid ((Hskp : _ → _) hsk)
            clear hsk hcb hle
            rw [h35] at hix
            go_wp2_with fail
            exact ⟨⟨i + 1, ts, Hn⟩, by simp [intOf]; omega⟩
          · have hsk : skipL l = false := by
              rw [skip_cons hcb]
              cases hh : (c == 35) with
              | true => exact absurd (byte35.2 hh) h35
              | false => rfl
            obtain ⟨C, hC⟩ : ∃ C : Int, (c.toNat : Int) = C := ⟨_, rfl⟩
            rw [hC] at hix h35
            have hca := act_ok l wr (by omega)
            have Hca := Lib.hid hca
            have hbad2 := (Hbad : _ → _) hsk
            have hgood2 := fun p => (Hgood : ∀ p, _ → _) p hsk
            clear hsk hcb hle hC hca Hskp Hbad Hgood
            have Hbad := Lib.hid hbad2
            have Hgood := Lib.hid hgood2
            clear hbad2 hgood2
            go_wp2_with fail
            refine Calls.mono Hca ?_
            intro e w5 hpost
            unfold ActPost at hpost
            cases hact : actOf l with
            | none =>
              rw [hact] at hpost
              obtain ⟨rfl, hb5⟩ := hpost
              have Hp := Lib.hid ((Hbad : _ → _) hact)
              have Hb5 := Lib.hid ((Hbr : Below W1.heap.size W1 wr).trans (hb5.mono hsr))
              clear hact hb5 Hbad Hgood
              have hwz := Whole.new w5 37 zeroC
              have hzs : zeroC.size = 19 := rfl
              have hbz : Below W1.heap.size W1 (w5.alloc (.cells zeroC 37)) := (Hb5 : Below W1.heap.size W1 w5).alloc (Below.size Hb5) _
              have hsb : W1.heap.size ≤ (w5.alloc (.cells zeroC 37)).heap.size := hbz.size
              have Hone : Hid (zeroC.all (·.oneCell') = true) := zero_one
              have Hsz : Hid (zeroC.size = 19) := rfl
              have hg5 : W1.heap.size ≤ w5.heap.size := Below.size Hb5
              obtain ⟨cs, hcs⟩ : ∃ cs, zeroC = cs := ⟨_, rfl⟩
              have Hcs := Lib.hid hcs
              clear hcs
              unfold zeroC actC at hwz hbz hsb hzs
              have Hwz := Lib.hid hwz
              have Hzs := Lib.hid hzs
              have Hbz := Lib.hid hbz
              have Hsb := Lib.hid hsb
              clear hwz hzs hbz hsb
              go_wp2_with ((with_reducible refine list_storeN w5.heap.size _ cs _ Hcs Hwz Hzs Hsz Hone ?_ ?_ ?_ ?_ ?_); all_goals try rfl)
              intro W6 hW6 hg6 hz6
              have Hbf := Lib.hid ((HB1 : Below w.heap.size w W1).trans ((below_row Hbz hg6 hg5 Hsb).mono hs1))
              clear hW6 hg6 hz6
              go_wp2_with fail
              go_ret3
              exact post_bad Hlong Hp (by omega) Hbf
            | some p =>
              obtain ⟨wd, A, tx⟩ := p
              rw [hact] at hpost
              obtain ⟨nv, rfl, hnv, hb5⟩ := hpost
              have Hp := Lib.hid ((Hgood : ∀ p, _ → _) _ hact)
              have Hb5 := Lib.hid ((Hbr : Below W1.heap.size W1 wr).trans (hb5.mono hsr))
              have Hnv := Lib.hid (own_base hnv hsr)
              have Hown := Lib.hid ((PInv.own HI).on hb5)
              have Howk := Hown
              clear hact hb5 Hbad Hgood hnv
              have hwz := Whole.new w5 37 zeroC
              have hzs : zeroC.size = 19 := rfl
              have hba := (Below.refl w5.heap.size w5).alloc (Nat.le_refl _) (.cells zeroC 37)
              have hbz : Below W1.heap.size W1 (w5.alloc (.cells zeroC 37)) := (Hb5 : Below W1.heap.size W1 w5).alloc (Below.size Hb5) _
              have hsb : W1.heap.size ≤ (w5.alloc (.cells zeroC 37)).heap.size := hbz.size
              have hoz := ActsOwn.on Hown hba
              have hnz : (w5.alloc (.cells zeroC 37)).ownsRow W1.heap.size 9 1 nv A.names.length (A.names.map Value.string) := own_on Hnv hba
              obtain ⟨no, ncap, rfl⟩ := own_slice hnz
              have Hone : Hid ((actC wd (.slice no A.names.length ncap) A.n tx A.cn A.tg).all (·.oneCell') = true) := actC_one _ _ _ _ _ _ _ _
              have Hsz : Hid ((actC wd (.slice no A.names.length ncap) A.n tx A.cn A.tg).size = 19) := rfl
              have hg5 : W1.heap.size ≤ w5.heap.size := Below.size Hb5
              obtain ⟨cs, hcs⟩ : ∃ cs, actC wd (.slice no A.names.length ncap) A.n tx A.cn A.tg = cs := ⟨_, rfl⟩
              have Hcs := Lib.hid hcs
              clear hcs hba Hown Hnv
              have Hwf := Lib.hid hwz
              unfold zeroC actC at hwz hbz hsb hoz hnz hzs
              have Hwz := Lib.hid hwz
              have Hzs := Lib.hid hzs
              have Hbz := Lib.hid hbz
              have Hsb := Lib.hid hsb
              have Hoz := Lib.hid hoz
              have Hnz := Lib.hid hnz
              clear hwz hzs hbz hsb hoz hnz
              go_wp2_with ((with_reducible refine list_storeN w5.heap.size _ cs _ Hcs Hwz Hzs Hsz Hone ?_ ?_ ?_ ?_ ?_); all_goals try rfl)
              intro W6 hW6 hg6 hz6
              have hb6 := below_row Hbz hg6 hg5 Hsb
              have ho6 : ActsOwn W6 W1.heap.size (.slice vo ts.length vcap) ts := by
                refine ⟨?_, fun t ht => own_off (ActsOwn.names Hoz t ht) hg6 Hwf (by decide)⟩
                refine (ActsOwn.row Hoz).kept hg6 (.inr fun q => ?_)
                have h1 : some w5.heap.size = (Value.slice vo ts.length vcap).ownBlock := q.symm
                have h2 := (ActsOwn.row Howk).lt w5.heap.size h1.symm
                omega
              have hn6 := own_off Hnz hg6 Hwf (by decide)
              have hra : W6.rangeAt w5.heap.size 0 cs.toList := fun j v hv => by
                rw [Nat.zero_add]
                exact (Whole.cell hW6 j).trans (by simpa using hv)
              have Hra := Lib.hid hra
              have Ho6 := Lib.hid ho6
              have Hn6 := Lib.hid hn6
              have Hb6 := Lib.hid hb6
              have hsz6 : cs.size = 19 := by rw [← (Hcs : _ = cs)]; rfl
              have Hsx6 : Hid (W1.heap.size ≤ W6.heap.size) := hb6.size
              clear hW6 hg6 hz6 hra ho6 hn6 hb6
              go_wp2_with (first | ((with_reducible refine list_load37 w5.heap.size 0 cs Hra ?_ ?_ hsz6 ?_ ?_); all_goals try rfl) | (refine list_build23 rfl _ rfl wd tx (.slice no A.names.length ncap) A.n A.cn A.tg cs Hcs rfl ?_))
              intro W7 hW7 hb7 hz7
              have HW7 := Lib.hid hW7
              have Ho7 := Lib.hid (ActsOwn.on Ho6 hb7)
              have Hn7 : Hid (namesOwn W7 W1.heap.size (.slice no A.names.length ncap, wd, A, tx)) := own_on Hn6 hb7
              have Hb7 := Lib.hid ((Hb6 : Below W1.heap.size W1 W6).trans (hb7.mono Hsx6))
              have hs7 : W1.heap.size ≤ W7.heap.size := Below.size Hb7
              have Hcs2 : Hid (cellsT (.slice no A.names.length ncap, wd, A, tx) = cs) := Hcs
              have Hone2 : Hid (cs.all (·.oneCell') = true) := by show _ = _; rw [← (Hcs : _ = cs)]; exact Hone
              clear hW7 hb7 hz7
              go_wp2_with (at_builtin; go_loud (refine list_pushA rfl _ _ rfl W1.heap.size (.slice vo ts.length vcap) ts rfl Ho7 W6.heap.size 1 cs (.slice no A.names.length ncap, wd, A, tx) rfl HW7 Hcs2 Hone2 Hn7 (by omega) hs7 ?_))
              intro g8 cap8 W8 ho8 hg8
              have hb8 := below_append Hb7 hs7 (ActsOwn.row Ho7) hg8
              have HI2 : Hid (PInv s W1 (.slice (some ⟨g8, 0, none⟩) (ts.length + 1) cap8) (.int .i64 ((i : Int) + 1)) W8 (i + 1) (ts ++ [(.slice no A.names.length ncap, wd, A, tx)])) :=
                ⟨by have : i < _ := Hlt; omega, by go_num, ho8, hb8, by rw [List.length_append]; have h1 : ([(Value.slice no A.names.length ncap, wd, A, tx)] : List (Value × PA)).length = 1 := rfl; omega, by rw [(Hp : _ = _), List.map_append]; rfl⟩
              clear ho8 hg8 hb8
              go_wp2_with fail
              exact ⟨⟨i + 1, _, HI2⟩, by simp [intOf]; omega⟩
      · obtain rfl : i = (splitB 10 s).length := by omega
        have Hp := Lib.hid (PInv.done HI)
        have Hbf := Lib.hid ((HB1 : Below w.heap.size w W1).trans ((PInv.below HI).mono hs1))
        have Hown := Lib.hid (ActsOwn.base (PInv.own HI) hs1)
        go_wp2_with fail
        go_ret3
        exact post_good Hlong Hp Hown Hbf
end Go.Proofs.R50
end
