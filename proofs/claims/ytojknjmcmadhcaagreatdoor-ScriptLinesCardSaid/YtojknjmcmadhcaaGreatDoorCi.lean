/- What R.Act's walk leans on. -/
import Derived.Test.YtojknjmcmadhcaaGreatDoorCh
import Derived.Test.YtojknjmcmadhcaaGreatDoorCb

section
namespace Go.Proofs.R50
open Go.ChangeShapes Go.WideShapes Go.ChangeAt Go.RowKit

theorem T.leaves_value {P : Program} {o : Oper} {a : Act} {W w w' : World} {row : Option Nat} {G : Value → World → Prop} {u : Value} (h : (execOp a.eval o).run P w = .ok (.value u) w') (hG : G u w') : T.Leaves P o a W w row G := by
 unfold T.Leaves
 rw [h]
 exact ⟨trivial, hG⟩
theorem T.leaves_put {P : Program} {o : Oper} {a : Act} {W w : World} {row : Option Nat} {G : Value → World → Prop} (t te : TypeId) (p x : Operand) (g i : Nat) (cs : Array Value) (v : Value) (ho : o.op = .store t p x)
  (hp : a.eval p = .pointer (some ⟨g, i, none⟩)) (hx : a.eval x = v) (hs : (P.info? t).map (·.size) = some 1) (hv : v.cells = #[v]) (h1 : v.oneCell' = true) (hw : Whole w g te cs) (hi : i < cs.size)
  (k : ∀ w', Whole w' g te (cs.setIfInBounds i v) → w.grownBy w' (some g) → G undef w') : T.Leaves P o a W w row G := by
 unfold T.Leaves execOp
 simp only [ho, hp, hx, Sem.run_bind, run_store_one w g i t te cs v hw hi hs hv h1, Result.andThen_ok, Sem.run_pure]
 exact ⟨trivial, k _ (hw.put i v) (setCells_off _ _ _ _ _ (World.grownBy.refl w _) (.inr rfl))⟩
/-- append of one new text to a row of one's own, in a region that draws its order. -/
theorem T.leaves_pushS {o : Oper} {a : Act} {W w : World} {row : Option Nat} {G : Value → World → Prop} (s x : Operand) (ho : o.op = .call { callee := .builtin .append, args := #[s, x], argTypes := #[29, 29] })
  (base : Nat) (v : Value) (ss : List ByteArray) (hs : a.eval s = v) (hown : w.ownsRow base 9 1 v ss.length (ss.map Value.string)) (h c : Nat) (t : ByteArray) (hx : a.eval x = .slice (some ⟨h, 0, none⟩) 1 c) (hnew : Whole w h 9 #[.string t])
  (hm : ss.length ≤ 1000000) (hbase : base ≤ w.heap.size)
  (k : ∀ v' w', w'.ownsRow base 9 1 v' (ss.length + 1) (ss.map Value.string ++ [.string t]) → w.grownBy w' v.ownBlock → G v' w') : T.Leaves Tryz.prog o a W w row G := by
 obtain ⟨i0, hi, hz0, hz1, hz2⟩ := info_parts Tryz.info9'
 obtain ⟨v', w', hrun, h2, h3, _⟩ := run_append_own (P := Tryz.prog) w base 29 o.type 9 i0 (.string ByteArray.empty) 1 16 Tryz.underlying29 hi hz0 hz1 hz2 rfl (by omega) v ss.length (ss.map Value.string) hown ⟨h, 0, none⟩ 1 c [.string t] rfl (fun j u hu => by
  rw [Addr.add_lit, Nat.zero_add, Whole.cell hnew j]
  simpa using hu) (by intro u hu; simp at hu; subst hu; rfl) (by unfold maxLen; omega) (by omega) hbase
 unfold T.Leaves execOp
 simp only [ho, resolve, invoke, builtin, Sem.run_bind, Sem.run_pure, Result.andThen_ok, List.map_toArray, List.map_cons, List.map_nil, hs, hx, hrun]
 exact ⟨trivial, k v' w' h2 h3⟩
theorem build29 (e : Operand → Value) (o : Oper) (x : Operand) (ho : o.op = .buildSlice 29 1 #[(0, x)]) (t : ByteArray) (hx : e x = .string t) (w : World) :
  (execOp e o).run Tryz.prog w = .ok (.value (.slice (some ⟨w.heap.size, 0, none⟩) 1 1)) (w.alloc (.cells #[.string t] 9)) := by
 unfold execOp
 rw [ho]
 simp only [List.map_toArray, List.map_cons, List.map_nil, hx]
 kernel_rfl
/-- The store of an act whose cells are kept under a name. -/
theorem list_storeE {ops : Array Oper} {rest : List Oper} {a : Act} {w : World} {Q : Exit → Act → World → Prop} {dst : Option Tmp} {x y : Operand} {ty : TypeId} {ps : String} {af : Array Edge}
  (b o : Nat) (Z E : Array Value) (hZ : Hid (E = Z)) (hr : Hid (w.there b o 19)) (hl : Hid (E.size = 19)) (h1 : Hid (E.all (·.oneCell') = true)) {t : TypeId} {gd : Option (Tmp × Bool)} (ht : t = 37) (hg : gd = none) (hx : a.eval x = .pointer (some ⟨b, o, none⟩)) (hy : a.eval y = .agg E)
  (h : wpList Tryz.prog ops Q rest (a.put dst undef) (w.setCells b o Z.toList)) :
  wpList Tryz.prog ops Q ({ dst := dst, op := .store t x y, type := ty, pos := ps, after := af, guard := gd } :: rest) a w :=
 list_store37 b o E hr ht hg hl h1 hx hy (by rw [(hZ : _ = Z)]; exact h)

theorem setCells_size (g : Nat) : ∀ (vs : List Value) (o : Nat) (w : World), (w.setCells g o vs).heap.size = w.heap.size
 | [], _, _ => rfl
 | v :: vs, o, w => by
  show ((w.setCell ⟨g, o, none⟩ v).setCells g (o + 1) vs).heap.size = _
  rw [setCells_size g vs, World.size_setCell]
/-- The same, with the new world kept under a name. -/
theorem list_storeN {ops : Array Oper} {rest : List Oper} {a : Act} {w : World} {Q : Exit → Act → World → Prop} {dst : Option Tmp} {x y : Operand} {ty : TypeId} {ps : String} {af : Array Edge}
  (g : Nat) (old Z E : Array Value) (hZ : Hid (E = Z)) (hw : Hid (Whole w g 37 old)) (ho : Hid (old.size = 19)) (hl : Hid (E.size = 19)) (h1 : Hid (E.all (·.oneCell') = true)) {t : TypeId} {gd : Option (Tmp × Bool)} (ht : t = 37) (hg : gd = none) (hx : a.eval x = .pointer (some ⟨g, 0, none⟩)) (hy : a.eval y = .agg E)
  (h : ∀ w', Whole w' g 37 Z → w.grownBy w' (some g) → w'.heap.size = w.heap.size → wpList Tryz.prog ops Q rest (a.put dst undef) w') :
  wpList Tryz.prog ops Q ({ dst := dst, op := .store t x y, type := ty, pos := ps, after := af, guard := gd } :: rest) a w := by
 have hw' : Whole w g 37 old := hw
 have ho' : old.size = 19 := ho
 have hl' : E.size = 19 := hl
 refine list_storeE g 0 Z E hZ (there19 hw' ho') hl h1 ht hg hx hy ?_
 have hz : Z.size = old.size := by rw [ho', ← (hZ : E = Z), hl']
 exact h _ (Whole.fillAll hw' hz) (setCells_off _ _ _ _ _ (World.grownBy.refl w _) (.inr rfl)) (setCells_size _ _ _ _)

/-- Which fields have been seen, as R.Act keeps it. -/
def seenC (A : AS) : Array Value := #[.bool false, .bool A.s1, .bool A.s2, .bool A.s3, .bool false]
def anyS (A : AS) : Bool := A.s1 || A.s2 || A.s3

/-- R.Act's loop: i words are read. -/
structure RInv (line wd : ByteArray) (W1 : World) (G S : Nat) (u7 u8 : Value) (wr : World) (i : Nat) (A : AS) (nv : Value) : Prop where
 lo : 1 ≤ i
 hi : i ≤ (splitB 32 line).length
 i_ : u8 = .int .i64 i
 any : u7 = .bool (anyS A)
 act : Whole wr G 37 (actC wd nv A.n ⟨#[]⟩ A.cn A.tg)
 seen : Whole wr S 4 (seenC A)
 own : wr.ownsRow W1.heap.size 9 1 nv A.names.length (A.names.map Value.string)
 below : Below W1.heap.size W1 wr
 few : A.names.length + 1 ≤ i
 res : actOf line = (actGo ((splitB 32 line).drop i) A).map fun p => (wd, p.1, p.2)

theorem RInv.on {line wd : ByteArray} {W1 : World} {G S : Nat} {u7 u8 : Value} {w w' : World} {i : Nat} {A : AS} {nv : Value} (h : RInv line wd W1 G S u7 u8 w i A nv) (hb : Below w.heap.size w w') (hs : W1.heap.size ≤ w.heap.size) : RInv line wd W1 G S u7 u8 w' i A nv :=
 ⟨h.lo, h.hi, h.i_, h.any, h.act.on hb, h.seen.on hb, own_on h.own hb, h.below.trans (hb.mono hs), h.few, h.res⟩

/-- The region that puts a name to the names: what is known behind its special operations. -/
def nmF (W1 : World) (G S : Nat) (cs sc : Array Value) (nv : Value) (ss : List ByteArray) (t : ByteArray) : Nat → World → List Value → Prop
 | 0, w, _ => Below W1.heap.size W1 w ∧ Whole w S 4 sc ∧ Whole w G 37 cs ∧ w.ownsRow W1.heap.size 9 1 nv ss.length (ss.map Value.string)
 | 1, w, ν => Below W1.heap.size W1 w ∧ Whole w S 4 sc ∧ Whole w G 37 cs ∧ w.ownsRow W1.heap.size 9 1 nv ss.length (ss.map Value.string) ∧ ∃ h, ν = [.slice (some ⟨h, 0, none⟩) 1 1] ∧ Whole w h 9 #[.string t]
 | 2, w, ν => Below W1.heap.size W1 w ∧ Whole w S 4 sc ∧ Whole w G 37 cs ∧ ∃ x v', ν = [x, v'] ∧ w.ownsRow W1.heap.size 9 1 v' (ss.length + 1) (ss.map Value.string ++ [.string t])
 | _, w, ν => Below W1.heap.size W1 w ∧ Whole w S 4 sc ∧ ∃ x v', ν = [x, v', undef] ∧ Whole w G 37 (cs.setIfInBounds 1 v') ∧ w.ownsRow W1.heap.size 9 1 v' (ss.length + 1) (ss.map Value.string ++ [.string t])
theorem nmF_on {W1 : World} {G S : Nat} {cs sc : Array Value} {nv : Value} {ss : List ByteArray} {t : ByteArray} : ∀ (p : Nat) (w w' : World) (ν : List Value), nmF W1 G S cs sc nv ss t p w ν → Below w.heap.size w w' → nmF W1 G S cs sc nv ss t p w' ν
 | 0, _, _, _, ⟨h1, h2, h3, h4⟩, hb => ⟨h1.trans (hb.mono h1.size), h2.on hb, h3.on hb, own_on h4 hb⟩
 | 1, _, _, _, ⟨h1, h2, h3, h4, h, e, h5⟩, hb => ⟨h1.trans (hb.mono h1.size), h2.on hb, h3.on hb, own_on h4 hb, h, e, h5.on hb⟩
 | 2, _, _, _, ⟨h1, h2, h3, x, v', e, h4⟩, hb => ⟨h1.trans (hb.mono h1.size), h2.on hb, h3.on hb, x, v', e, own_on h4 hb⟩
 | _ + 3, _, _, _, ⟨h1, h2, x, v', e, h3, h4⟩, hb => ⟨h1.trans (hb.mono h1.size), h2.on hb, x, v', e, h3.on hb, own_on h4 hb⟩
theorem nmF_row {W1 : World} {G S : Nat} {cs sc : Array Value} {nv : Value} {ss : List ByteArray} {t : ByteArray} : ∀ (p : Nat) (w : World) (ν : List Value), p < 3 → nmF W1 G S cs sc nv ss t p w ν → Below W1.heap.size W1 w ∧ Whole w G 37 cs
 | 0, _, _, _, h => ⟨h.1, h.2.2.1⟩
 | 1, _, _, _, h => ⟨h.1, h.2.2.1⟩
 | 2, _, _, _, h => ⟨h.1, h.2.2.1⟩
/-- The region that puts a word to the text. -/
def txF (W1 : World) (G : Nat) (cs : Array Value) (nv : Value) (ss : List ByteArray) (z : ByteArray) : Nat → World → List Value → Prop
 | 0, w, _ => Below W1.heap.size W1 w ∧ Whole w G 37 cs ∧ w.ownsRow W1.heap.size 9 1 nv ss.length (ss.map Value.string)
 | _, w, ν => ν = [undef] ∧ Below W1.heap.size W1 w ∧ Whole w G 37 (cs.setIfInBounds 3 (.string z)) ∧ w.ownsRow W1.heap.size 9 1 nv ss.length (ss.map Value.string)
theorem txF_on {W1 : World} {G : Nat} {cs : Array Value} {nv : Value} {ss : List ByteArray} {z : ByteArray} : ∀ (p : Nat) (w w' : World) (ν : List Value), txF W1 G cs nv ss z p w ν → Below w.heap.size w w' → txF W1 G cs nv ss z p w' ν
 | 0, _, _, _, ⟨h1, h2, h3⟩, hb => ⟨h1.trans (hb.mono h1.size), h2.on hb, own_on h3 hb⟩
 | _ + 1, _, _, _, ⟨e, h1, h2, h3⟩, hb => ⟨e, h1.trans (hb.mono h1.size), h2.on hb, own_on h3 hb⟩

theorem drop_at {ws : List ByteArray} {i : Nat} (h : i < ws.length) : ws.drop i = ws[i] :: ws.drop (i + 1) := List.drop_eq_getElem_cons h

theorem ba_size (l : List UInt8) : (ba l).size = l.length := by simp [ba, ByteArray.size]
theorem data_len (s : ByteArray) : s.data.toList.length = s.size := by simp
theorem textOf_nil {a : ByteArray} (_h : 5 ≤ a.size) : textOf a [] = a.extract 5 a.size := by
 unfold textOf
 have e : (a.extract 5 a.size).data.toList = a.data.toList.drop 5 := by rw [Lib.extract_to_end]
 rw [List.flatMap_nil, List.append_nil, ← e, ba_data]
theorem cat_ba (x y : ByteArray) : x ++ y = ba (x.data.toList ++ y.data.toList) := by
 rw [← ba_data (x ++ y)]
 simp
theorem textOf_snoc (a : ByteArray) (r : List ByteArray) (z : ByteArray) : textOf a (r ++ [z]) = textOf a r ++ ⟨#[32]⟩ ++ z := by
 rw [cat_ba (textOf a r ++ ⟨#[32]⟩) z, cat_ba (textOf a r), data_ba]
 unfold textOf
 rw [data_ba]
 simp
theorem textOf_size (a : ByteArray) (N : Nat) : ∀ r : List ByteArray, (∀ z ∈ r, z.size ≤ N) → (textOf a r).size ≤ a.size + r.length * (N + 1) := by
 intro r h
 unfold textOf
 rw [ba_size, List.length_append, List.length_drop, data_len]
 have : (r.flatMap fun w => 32 :: w.data.toList).length ≤ r.length * (N + 1) := by
  induction r with
  | nil => simp
  | cons z r ih =>
   have h1 := h z (List.mem_cons_self ..)
   have h2 := ih fun y hy => h y (List.mem_cons_of_mem _ hy)
   rw [List.flatMap_cons, List.length_append, List.length_cons, data_len, List.length_cons, Nat.succ_mul]
   omega
 omega
theorem splitB_part {c : UInt8} {s z : ByteArray} (h : z ∈ splitB c s) : z.size ≤ s.size := by
 rw [← spl_all] at h
 exact spl_part h
theorem splitB_count {c : UInt8} {s : ByteArray} : (splitB c s).length ≤ s.size + 1 := by
 have := splitL_len c s.data.toList
 rw [data_len] at this
 unfold splitB
 rwa [List.length_map]
theorem fieldN_cases {s : ByteArray} {k : Nat} (hk : k < 4) (h : fieldN s = k + 1) : (mark k).size ≤ s.size ∧ fval s = s.extract (mark k).size s.size := by
 have hp : pre (mark k) s = true := by
  unfold fieldN at h
  split at h
  ·rename_i h0; obtain rfl : k = 0 := by omega
   exact h0
  ·split at h
   ·rename_i h0; obtain rfl : k = 1 := by omega
    exact h0
   ·split at h
    ·rename_i h0; obtain rfl : k = 2 := by omega
     exact h0
    ·split at h
     ·rename_i h0; obtain rfl : k = 3 := by omega
      exact h0
     ·omega
 refine ⟨?_, ?_⟩
 ·unfold pre at hp
  exact (of_decide_eq_true hp).1
 ·unfold fval
  rw [if_neg (by omega), h, Nat.add_sub_cancel]
  unfold behind2
  rw [if_pos hp]
end Go.Proofs.R50
end

/- R.Act. -/
section
namespace Go.Proofs.R50
open Go.ChangeShapes Go.WideShapes Go.ChangeAt Go.RowKit

set_option maxRecDepth 100000 in
set_option maxHeartbeats 4000000 in
theorem ract_ok (line : ByteArray) (w : World) (hs : line.size ≤ 100000) : Calls Tryz.prog 13 #[.string line] w (ActPost line w) := by
 have hw0 : Whole (w.alloc (.cells zeroC 37)) w.heap.size 37 zeroC := Whole.new w 37 zeroC
 have hb0 : Below w.heap.size w (w.alloc (.cells zeroC 37)) := (Below.refl w.heap.size w).alloc (Nat.le_refl _) _
 have hc := rcut_ok line 32 (w.alloc (.cells zeroC 37)) hs
 have Hw0 := Lib.hid hw0
 have Hb0 := Lib.hid hb0
 have Hc := Lib.hid hc
 clear hw0 hb0 hc
 go_enter Tryz.func13, Tryz.ntmps13
 go_wp2_with fail
 refine Calls.mono Hc ?_
 rintro e W1 ⟨lv, rfl, hst, hb1⟩
 obtain ⟨wd, r, hsp⟩ : ∃ wd r, splitB 32 line = wd :: r := List.exists_cons_of_ne_nil (by unfold splitB; simpa using splitL_ne 32 _)
 have hwl : (splitB 32 line).length ≤ 100001 := by have := splitB_count (c := 32) (s := line); omega
 have hpt : ∀ z ∈ splitB 32 line, z.size ≤ 100000 := fun z hz => Nat.le_trans (splitB_part hz) hs
 obtain ⟨ao, cap, rfl, hlc, hcap⟩ := hst.form
 have HW1 := Lib.hid (Whole.on Hw0 hb1)
 have hs0 : w.heap.size ≤ (w.alloc (.cells zeroC 37)).heap.size := by rw [World.size_alloc]; omega
 have HB1 := Lib.hid ((Hb0 : Below w.heap.size w _).trans (hb1.mono hs0))
 have hs1 : w.heap.size + 1 ≤ W1.heap.size := by have := hb1.size; rw [World.size_alloc] at this; exact this
 obtain ⟨b, off, hao, hbl, hcell⟩ := hst.at_ (k := 0) (by rw [hsp]; simp)
 have hc0 : ∀ w', Below W1.heap.size W1 w' → w'.cell? ⟨b, off, none⟩ = some (.string wd) := fun w' hw' => by
  have := hcell w' hw'
  rw [Nat.add_zero] at this
  rw [this]
  simp [hsp]
 obtain rfl := hao
 have Hst := Lib.hid hst
 have Hc0 := Lib.hid hc0
 have Hsp := Lib.hid hsp
 have Hpt := Lib.hid hpt
 have Hwl := Lib.hid hwl
 have Hlc := Lib.hid hlc
 have Hcap := Lib.hid hcap
 clear hst hcell hc0 hpt hlc hcap Hc Hb0 Hw0 hb1 hs0
 have hpos : 0 < (splitB 32 line).length := by rw [hsp]; simp
 have h1w := (Hc0 : ∀ w', _ → _) W1 (Below.refl _ _)
 have hwd := rword_ok wd W1
 have Hwd := Lib.hid hwd
 clear hsp hwd
 go_wp2_with fail
 refine Calls.mono Hwd ?_
 rintro e W2 ⟨rfl, hb2⟩
 have h2w := (Hc0 : ∀ w', _ → _) W2 hb2
 have Hb2 := Lib.hid hb2
 have hs2 : W1.heap.size ≤ W2.heap.size := hb2.size
 clear hb2
 cases hwd : isWord wd with
 | false =>
  have Hno := Lib.hid (actOf_no Hsp hwd)
  clear hwd
  have Hr2 := Lib.hid (Whole.on HW1 (Hb2 : Below W1.heap.size W1 W2))
  have Hbl2 := Lib.hid ((HB1 : Below w.heap.size w W1).trans ((Hb2 : Below W1.heap.size W1 W2).mono (by omega)))
  have Hs2 : Hid (w.heap.size ≤ W2.heap.size) := by show _ ≤ _; omega
  have Hth := Lib.hid (there19 Hr2 rfl)
  have hR3 := Whole.fillAll Hr2 (cs' := zeroC) rfl
  have hb3 := below_cells Hbl2 (Nat.le_refl _) Hs2 zeroC.toList
  have hzs := zero_sz
  generalize hZ : zeroC = Z at hR3 hb3 hzs
  have HZ := Lib.hid hZ
  have Hzs := Lib.hid hzs
  have HR3 := Lib.hid hR3
  have Hb3 := Lib.hid hb3
  clear hR3 hb3 hZ hzs
  go_wp2_with ((with_reducible refine list_storeZ w.heap.size 0 Z HZ Hth ?_ ?_ ?_ ?_ ?_); all_goals try rfl)
  show bodyPost Tryz.prog Tryz.f13 (ActPost line w) Exit.ret _ _
  refine bodyPost_ret (v := .tuple #[.agg Z, .bool false]) (results_act rfl _ _ w.heap.size Z _ rfl HR3 Hzs rfl) rfl ?_
  exact actPost_none Hno (by rw [(HZ : _ = Z)]) Hb3
 | true =>
  have Hgo := Lib.hid (actOf_go Hsp hwd)
  clear hwd
  have hwz := Whole.new W2 37 zeroC
  have Hone : Hid ((actC wd (.slice none 0 0) 0 ⟨#[]⟩ 0 0).all (·.oneCell') = true) := actC_one _ _ _ _ _ _ _ _
  have Hsz : Hid ((actC wd (.slice none 0 0) 0 ⟨#[]⟩ 0 0).size = 19) := rfl
  have hzs : zeroC.size = 19 := rfl
  obtain ⟨cs, hcs⟩ : ∃ cs, actC wd (.slice none 0 0) 0 ⟨#[]⟩ 0 0 = cs := ⟨_, rfl⟩
  have hb3 := (Hb2 : Below W1.heap.size W1 W2).alloc hs2 (.cells zeroC 37)
  have hsb3 : (W2.alloc (.cells zeroC 37)).heap.size = W2.heap.size + 1 := World.size_alloc _ _
  have Hcs := Lib.hid hcs
  clear hcs
  unfold zeroC actC at hwz hb3 hsb3 hzs
  have Hzs := Lib.hid hzs
  clear hzs
  have Hwz := Lib.hid hwz
  have Hb3 := Lib.hid hb3
  have Hsb3 := Lib.hid hsb3
  clear hwz hb3 hsb3
  go_wp2_with ((with_reducible refine list_storeN W2.heap.size _ cs _ Hcs Hwz Hzs Hsz Hone ?_ ?_ ?_ ?_ ?_); all_goals try rfl)
  intro W3 hW3 hg3 hz3
  rw [(Hsb3 : _ = _)] at hz3
  have hb4 := below_row Hb3 hg3 hs2 (by rw [(Hsb3 : _ = _)]; omega)
  rw [← (Hcs : _ = cs)] at hW3
  have HW4 := Lib.hid (Whole.on hW3 ((Below.refl _ _).alloc (Nat.le_refl _) (.cells #[.bool false, .bool false, .bool false, .bool false, .bool false] 4)))
  have HS4 := Lib.hid (Whole.new W3 4 #[.bool false, .bool false, .bool false, .bool false, .bool false])
  have hs3 : W1.heap.size ≤ W3.heap.size := by omega
  have Hb4 := Lib.hid (hb4.alloc hs3 (.cells #[.bool false, .bool false, .bool false, .bool false, .bool false] 4))
  have Hgo2 : Hid (actOf line = (actGo ((splitB 32 line).drop 1) AS.z).map fun p => (wd, p.1, p.2)) := by show _ = _; rw [(Hgo : _ = _), (Hsp : _ = _)]; rfl
  clear hW3 hg3 hb4 Hb3 Hwz Hgo h1w h2w Hwd Hone Hsz Hzs Hcs Hsb3
  obtain ⟨G, hG⟩ : ∃ G, G = W2.heap.size := ⟨_, rfl⟩
  obtain ⟨S, hS⟩ : ∃ S, S = W3.heap.size := ⟨_, rfl⟩
  rw [← hG] at HW4
  rw [← hS] at HS4
  have hGS : S = G + 1 := by omega
  have hS1 : W1.heap.size ≤ S := by omega
  have HGS := Lib.hid hGS
  have hG1 : W1.heap.size ≤ G := by omega
  have HGe := Lib.hid hG
  have HSe := Lib.hid hS
  clear hG hS hz3 hGS
  go_wp2_with fail
  rw [← (HGe : _ = W2.heap.size), ← (HSe : _ = W3.heap.size)]
  go_loopw [7, 8] (fun u7 u8 wr => ∃ i A nv, RInv line wd W1 G S u7 u8 wr i A nv) (fun _ u8 _ => (splitB 32 line).length - (intOf u8).toNat)
  case atStart => exact ⟨1, AS.z, .slice none 0 0, ⟨Nat.le_refl _, by rw [(Hsp : _ = _)]; simp, rfl, rfl, HW4, HS4, ⟨rfl, .inl ⟨rfl, rfl⟩⟩, Hb4, by simp [AS.z], Hgo2⟩⟩
  case round =>
   clear HW4 HS4 Hb4 Hgo2 HGe HSe hs3 Hb2 hs2
   obtain ⟨i, A, nv, hI⟩ := hrel
   obtain ⟨no, ncap, rfl⟩ := own_slice hI.own
   obtain rfl := hI.i_
   obtain rfl := hI.any
   have hi := hI.hi
   have HI := Lib.hid hI
   clear hI
   by_cases hlt : i < (splitB 32 line).length
   ·obtain ⟨b', off', e, _, hc⟩ := Strs.at_ Hst hlt
    cases e
    have hdr := drop_at hlt
    obtain ⟨a, ha⟩ : ∃ a, (splitB 32 line)[i] = a := ⟨_, rfl⟩
    rw [ha] at hc hdr
    have hal : a.size ≤ 100000 := (Hpt : ∀ z ∈ _, _) a (ha ▸ List.getElem_mem hlt)
    have hbr : Below W1.heap.size W1 wr := RInv.below HI
    have hsr : W1.heap.size ≤ wr.heap.size := hbr.size
    have hcr := hc wr hbr
    have hres := RInv.res HI
    rw [hdr] at hres
    have hf := rfield_ok a wr
    have hfew := RInv.few HI
    have Hf := Lib.hid hf
    have Hres := Lib.hid hres
    have Hcx := Lib.hid hc
    have Hfew := Lib.hid hfew
    have Ha := Lib.hid ha
    have Hlt := Lib.hid hlt
    clear hf hres hc hdr ha hbr hfew
    have hwl : (splitB 32 line).length ≤ 100001 := Hwl
    clear hpos
    go_wp2_with fail
    refine Calls.mono Hf ?_
    rintro e w4 ⟨rfl, hb4⟩
    have hI4 := RInv.on HI hb4 hsr
    have hbr4 : Below W1.heap.size W1 w4 := hI4.below
    have hsr4 : W1.heap.size ≤ w4.heap.size := hbr4.size
    have hc4 := (Hcx : ∀ w', _ → _) w4 hbr4
    have hr4 := Whole.on HW1 hbr4
    have hbl4 := (HB1 : Below w.heap.size w W1).trans (hbr4.mono (by omega))
    have hs4 : w.heap.size ≤ w4.heap.size := hbl4.size
    have hq0 : w4.cell? ⟨S, 0, none⟩ = some (.bool false) := hI4.seen.cell 0
    have hq1 : w4.cell? ⟨S, 1, none⟩ = some (.bool A.s1) := hI4.seen.cell 1
    have hq2 : w4.cell? ⟨S, 2, none⟩ = some (.bool A.s2) := hI4.seen.cell 2
    have hq3 : w4.cell? ⟨S, 3, none⟩ = some (.bool A.s3) := hI4.seen.cell 3
    have hq4 : w4.cell? ⟨S, 4, none⟩ = some (.bool false) := hI4.seen.cell 4
    have HI4 := Lib.hid hI4
    have Hr4 := Lib.hid hr4
    have Hbl4 := Lib.hid hbl4
    have Hbr4 := Lib.hid hbr4
    clear hI4 hr4 hbl4 hbr4 hb4 HI Hf
    rcases fieldN_le a with hk | hk | hk | hk | hk
    ·have hkI : ((fieldN a : Nat) : Int) = 0 := by rw [hk]; rfl
     rw [hkI]
     by_cases hae : a = ⟨#[]⟩
     ·subst hae
      have Hno : Hid (actOf line = none) := by show _ = _; rw [(Hres : _ = _), go_empty]; rfl
      clear hkI hk hq0 hq1 hq2 hq3 hq4 hcr
      have Hth := Lib.hid (there19 Hr4 rfl)
      have hR3 := Whole.fillAll Hr4 (cs' := zeroC) rfl
      have hb3 := below_cells Hbl4 (Nat.le_refl _) hs4 zeroC.toList
      have hzs := zero_sz
      generalize hZ : zeroC = Z at hR3 hb3 hzs
      have HZ := Lib.hid hZ
      have Hzs := Lib.hid hzs
      have HR3 := Lib.hid hR3
      have Hb3 := Lib.hid hb3
      clear hR3 hb3 hZ hzs
      go_wp2_with ((with_reducible refine list_storeZ w.heap.size 0 Z HZ Hth ?_ ?_ ?_ ?_ ?_); all_goals try rfl)
      show bodyPost Tryz.prog Tryz.f13 (ActPost line w) Exit.ret _ _
      refine bodyPost_ret (v := .tuple #[.agg Z, .bool false]) (results_act rfl _ _ w.heap.size Z _ rfl HR3 Hzs rfl) rfl ?_
      exact actPost_none Hno (by rw [(HZ : _ = Z)]) Hb3
     ·have hane := isEmpty_no hae
      by_cases hany : anyS A = true
      ·have Hno : Hid (actOf line = none) := by
        show _ = _
        rw [(Hres : _ = _), go_name_bad _ hk (fun q => by rw [anyS, q.1, q.2.1, q.2.2] at hany; cases hany)]
        rfl
       clear hkI hk hq0 hq1 hq2 hq3 hq4 hcr hae
       rw [hany]
       have Hth := Lib.hid (there19 Hr4 rfl)
       have hR3 := Whole.fillAll Hr4 (cs' := zeroC) rfl
       have hb3 := below_cells Hbl4 (Nat.le_refl _) hs4 zeroC.toList
       have hzs := zero_sz
       generalize hZ : zeroC = Z at hR3 hb3 hzs
       have HZ := Lib.hid hZ
       have Hzs := Lib.hid hzs
       have HR3 := Lib.hid hR3
       have Hb3 := Lib.hid hb3
       clear hR3 hb3 hZ hzs
       go_wp2_with ((with_reducible refine list_storeZ w.heap.size 0 Z HZ Hth ?_ ?_ ?_ ?_ ?_); all_goals try rfl)
       show bodyPost Tryz.prog Tryz.f13 (ActPost line w) Exit.ret _ _
       refine bodyPost_ret (v := .tuple #[.agg Z, .bool false]) (results_act rfl _ _ w.heap.size Z _ rfl HR3 Hzs rfl) rfl ?_
       exact actPost_none Hno (by rw [(HZ : _ = Z)]) Hb3
      ·have hany' : anyS A = false := by simpa using hany
       have hss : A.s1 = false ∧ A.s2 = false ∧ A.s3 = false := by
        unfold anyS at hany'
        cases h1 : A.s1 <;> cases h2 : A.s2 <;> cases h3 : A.s3 <;> simp_all
       have hgo : actOf line = (actGo ((splitB 32 line).drop (i + 1)) { A with names := A.names ++ [a] }).map fun p => (wd, p.1, p.2) := by rw [(Hres : _ = _), go_name _ hae hk hss]
       have Hgo := Lib.hid hgo
       have hF0 : nmF W1 G S (actC wd (.slice no A.names.length ncap) A.n ⟨#[]⟩ A.cn A.tg) (seenC A) (.slice no A.names.length ncap) A.names a 0 w4 [] := ⟨Hbr4, (RInv.seen HI4), (RInv.act HI4), (RInv.own HI4)⟩
       have HF0 := Lib.hid hF0
       have hnm : A.names.length ≤ 1000000 := by have h1 : A.names.length + 1 ≤ i := Hfew; omega
       have hsC : (seenC A).size = 5 := rfl
       rw [hany']
       clear hkI hk hany hss hgo hF0 hae
       have Hany := Lib.hid hany'
       have HsC := Lib.hid hsC
       clear hany' hsC hq1 hq2 hq3 hq4
       go_wp2_with fail
       clear hq0 hc4 hcr hane
       refine T.wp_region_net2 [6, 7, 9] none (nmF W1 G S (actC wd (.slice no A.names.length ncap) A.n ⟨#[]⟩ A.cn A.tg) (seenC A) (.slice no A.names.length ncap) A.names a) (by kernel_rfl) (by kernel_rfl) (by kernel_rfl) HF0 (by kernel_rfl) (by decide) ?_
       apply Exists.intro
       apply And.intro
       ·rintro Wx ⟨ν, hν, _, hF⟩
        obtain ⟨hB, hG⟩ := nmF_row _ _ _ hν hF
        have hx : ∀ (X : Ext Wx), X.val.cell? ⟨b, off + i, none⟩ = some (.string a) := fun X => (Hcx : ∀ w', _ → _) X.val (hB.trans (X.below.mono hB.size))
        have hy : ∀ (X : Ext Wx), X.val.cell? ⟨G, 1, none⟩ = some (.slice no A.names.length ncap) := fun X => (hG.on X.below).cell 1
        simp only [quietOps, List.contains_cons, List.contains_nil]
        simp
        clear hF hG
        repeat (first | go_big_quiet_skip | (go_big_quiet_want; (go_big_quiet_op; (first | go_big_quiet_on | fail))))
        exact wpQuiet_nil rfl
       refine ⟨⟨nmF_on, fun j hj => ?_⟩, ?_⟩
       ·match j, hj with
        | 0, _ =>
         refine ⟨_, rfl, .inl rfl, fun w5 ν hν _ hf => ?_⟩
         obtain rfl : ν = [] := List.eq_nil_of_length_eq_zero hν
         obtain ⟨f1, f2, f3, f4⟩ := hf
         have hba := (Below.refl w5.heap.size w5).alloc (Nat.le_refl _) (.cells #[.string a] 9)
         exact T.leaves_value (build29 (x := .tmp 63) (ho := rfl) (t := a) (hx := rfl) (w := w5)) ⟨f1.trans (hba.mono f1.size), f2.on hba, f3.on hba, own_on f4 hba, _, rfl, Whole.new _ _ _⟩
        | 1, _ =>
         refine ⟨_, rfl, .inl rfl, fun w5 ν hν _ hf => ?_⟩
         obtain ⟨f1, f2, f3, f4, h, rfl, f5⟩ := hf
         refine T.leaves_pushS (.tmp 59) (.tmp 64) rfl W1.heap.size (.slice no A.names.length ncap) A.names rfl f4 h 1 a rfl f5 hnm f1.size fun v' w6 h6 g6 => ?_
         exact ⟨below_append f1 f1.size f4 g6, f2.off g6 (own_ne f4 f2 (by decide)), f3.off g6 (own_ne f4 f3 (by decide)), _, v', rfl, h6⟩
        | 2, _ =>
         refine ⟨_, rfl, .inl rfl, fun w5 ν hν _ hf => ?_⟩
         obtain ⟨f1, f2, f3, x, v', rfl, f4⟩ := hf
         obtain ⟨vo, vc, rfl⟩ := own_slice f4
         refine T.leaves_put 29 37 _ _ G 1 _ (.slice vo (A.names.length + 1) vc) rfl rfl rfl size29 rfl rfl f3 (by show 1 < 19; decide) fun w6 z6 h6 => ?_
         exact ⟨below_row f1 h6 hG1 f1.size, f2.off h6 (by have : S = G + 1 := HGS; simp; omega), x, _, rfl, z6, own_off f4 h6 f3 (by decide)⟩
       ·intro ν w5 hν _ hf
        obtain ⟨f1, f2, x, v', rfl, f3, f4⟩ := hf
        obtain ⟨vo, vc, rfl⟩ := own_slice f4
        have hRI : RInv line wd W1 G S (.bool false) (.int .i64 ((i : Int) + 1)) w5 (i + 1) { A with names := A.names ++ [a] } (.slice vo (A.names.length + 1) vc) :=
         ⟨by omega, by have : i < _ := Hlt; omega, by go_num, by rw [← (Hany : _ = false)]; rfl, f3, f2, by
          rw [show ({ A with names := A.names ++ [a] } : AS).names = A.names ++ [a] from rfl, List.map_append, List.length_append]
          exact f4, f1, by
          show (A.names ++ [a]).length + 1 ≤ i + 1
          have h1 : A.names.length + 1 ≤ i := Hfew
          rw [List.length_append]
          simp
          omega, Hgo⟩
        have HRI := Lib.hid hRI
        clear hRI f1 f2 f3 f4
        simp only [dstsOfS, dstAt, List.map_cons, List.map_nil, fillA]
        simp [Act.put]
        go_wp2_with fail
        exact ⟨⟨i + 1, _, _, HRI⟩, by simp [intOf]; omega⟩
    ·have hane := isEmpty_no (fieldN_ne (s := a) (by omega))
     have hkI : ((fieldN a : Nat) : Int) = 1 := by rw [hk]; rfl
     rw [hkI]
     obtain ⟨hml, hfv⟩ := fieldN_cases (k := 0) (by decide) hk
     have hml2 : 2 ≤ a.size := hml
     have hfv2 : fval a = a.extract 2 a.size := hfv
     by_cases hs : A.s1 = true
     ·rw [hs] at hq1
      have Hno : Hid (actOf line = none) := by show _ = _; rw [(Hres : _ = _), go_n_bad _ hk hs]; rfl
      clear hkI hk hq0 hq2 hq3 hq4 hcr hml hml2 hfv hfv2 hs
      have Hth := Lib.hid (there19 Hr4 rfl)
      have hR3 := Whole.fillAll Hr4 (cs' := zeroC) rfl
      have hb3 := below_cells Hbl4 (Nat.le_refl _) hs4 zeroC.toList
      have hzs := zero_sz
      generalize hZ : zeroC = Z at hR3 hb3 hzs
      have HZ := Lib.hid hZ
      have Hzs := Lib.hid hzs
      have HR3 := Lib.hid hR3
      have Hb3 := Lib.hid hb3
      clear hR3 hb3 hZ hzs
      go_wp2_with ((with_reducible refine list_storeZ w.heap.size 0 Z HZ Hth ?_ ?_ ?_ ?_ ?_); all_goals try rfl)
      show bodyPost Tryz.prog Tryz.f13 (ActPost line w) Exit.ret _ _
      refine bodyPost_ret (v := .tuple #[.agg Z, .bool false]) (results_act rfl _ _ w.heap.size Z _ rfl HR3 Hzs rfl) rfl ?_
      exact actPost_none Hno (by rw [(HZ : _ = Z)]) Hb3
     ·have hs' : A.s1 = false := by simpa using hs
      rw [hs'] at hq1
      have hcc := rParse_ok (a.extract 2 a.size) w4
      obtain ⟨N, hN⟩ : ∃ N, (numP (a.extract 2 a.size).data.toList).getD 0 = N := ⟨_, rfl⟩
      obtain ⟨B, hB⟩ : ∃ B, (numP (a.extract 2 a.size).data.toList).isSome = B := ⟨_, rfl⟩
      rw [hN, hB] at hcc
      have hno : B = false → actOf line = none := fun e => by
       have hn : numP (fval a).data.toList = none := by
        rw [hfv2]
        exact Option.isNone_iff_eq_none.1 (Option.isSome_eq_false_iff.1 (hB.trans e))
       rw [(Hres : _ = _), go_n_no _ hk hs' hn]
       rfl
      have hyes : B = true → actOf line = (actGo ((splitB 32 line).drop (i + 1)) { A with n := N, s1 := true }).map fun p => (wd, p.1, p.2) := fun e => by
       obtain ⟨x, hx⟩ := Option.isSome_iff_exists.1 (hB.trans e)
       have hn : numP (fval a).data.toList = some N := by
        rw [hfv2, hx]
        rw [hx] at hN
        exact congrArg some hN
       rw [(Hres : _ = _), go_n_yes _ hk hs' hn]
      have Hcc := Lib.hid hcc
      have Hno := Lib.hid hno
      have Hyes := Lib.hid hyes
      clear hkI hk hq0 hq2 hq3 hq4 hcr hml hfv hfv2 hs hs' hcc hN hB hno hyes
      go_wp2_with fail
      refine Calls.mono Hcc ?_
      rintro e w5 ⟨rfl, hb5⟩
      have hI5 := RInv.on HI4 hb5 hsr4
      clear hb5
      have hg2 : w5.cell? ⟨G, 2, none⟩ = some (.int .i64 A.n) := hI5.act.cell 2
      have hf2 := hI5.act.free 2
      have hw6 : Whole (w5.setCell ⟨G, 2, none⟩ (.int .i64 N)) G 37 (actC wd (.slice no A.names.length ncap) N ⟨#[]⟩ A.cn A.tg) := hI5.act.put 2 (.int .i64 N)
      have hgr6 := grown_put (g := G) (w := w5) (w1 := w5) (Below.refl _ _) 2 (.int .i64 N)
      have hb6 := below_row hI5.below hgr6 hG1 hI5.below.size
      have hs6 := hI5.seen.off hgr6 (by have : S = G + 1 := HGS; simp; omega)
      have ho6 := own_off hI5.own hgr6 hI5.act (by decide)
      have hsq : (w5.setCell ⟨G, 2, none⟩ (.int .i64 N)).cell? ⟨S, 1, none⟩ = some (.bool A.s1) := hs6.cell 1
      have hsf := hs6.free 1
      have hr6 := Whole.on HW1 hb6
      have hbl6 := (HB1 : Below w.heap.size w W1).trans (hb6.mono (by omega))
      have hsl6 : w.heap.size ≤ (w5.setCell ⟨G, 2, none⟩ (.int .i64 N)).heap.size := hbl6.size
      have hw7 : Whole ((w5.setCell ⟨G, 2, none⟩ (.int .i64 N)).setCell ⟨S, 1, none⟩ (.bool true)) S 4 (seenC { A with n := N, s1 := true }) := hs6.put 1 (.bool true)
      have hgr7 := grown_put (g := S) (w := w5.setCell ⟨G, 2, none⟩ (.int .i64 N)) (w1 := w5.setCell ⟨G, 2, none⟩ (.int .i64 N)) (Below.refl _ _) 1 (.bool true)
      have hb7 := below_row hb6 hgr7 hS1 hb6.size
      have hx7 := hw6.off hgr7 (by have : S = G + 1 := HGS; simp; omega)
      have ho7 := own_off ho6 hgr7 hs6 (by decide)
      have Hx7 := Lib.hid hx7
      have Hw7 := Lib.hid hw7
      have Ho7 := Lib.hid ho7
      have Hb7 := Lib.hid hb7
      have Hr6 := Lib.hid hr6
      have Hbl6 := Lib.hid hbl6
      have Hsl6 := Lib.hid hsl6
      clear hx7 hw7 ho7 hb7 hgr7 hr6 hbl6 hsl6 hs6 ho6 hb6 hgr6 hw6 hI5
      cases B with
      | false =>
       have Hno2 := Lib.hid ((Hno : _ → _) rfl)
       clear hsq hsf
       have Hth := Lib.hid (there19 Hr6 rfl)
       have hR3 := Whole.fillAll Hr6 (cs' := zeroC) rfl
       have hb3 := below_cells Hbl6 (Nat.le_refl _) Hsl6 zeroC.toList
       have hzs := zero_sz
       generalize hZ : zeroC = Z at hR3 hb3 hzs
       have HZ := Lib.hid hZ
       have Hzs := Lib.hid hzs
       have HR3 := Lib.hid hR3
       have Hb3 := Lib.hid hb3
       clear hR3 hb3 hZ hzs
       go_wp2_with ((with_reducible refine list_storeZ w.heap.size 0 Z HZ Hth ?_ ?_ ?_ ?_ ?_); all_goals try rfl)
       show bodyPost Tryz.prog Tryz.f13 (ActPost line w) Exit.ret _ _
       refine bodyPost_ret (v := .tuple #[.agg Z, .bool false]) (results_act rfl _ _ w.heap.size Z _ rfl HR3 Hzs rfl) rfl ?_
       exact actPost_none Hno2 (by rw [(HZ : _ = Z)]) Hb3
      | true =>
       have Hgo := Lib.hid ((Hyes : _ → _) rfl)
       clear Hno Hyes
       go_wp2_with fail
       have hRI : RInv line wd W1 G S (.bool true) (.int .i64 ((i : Int) + 1)) ((w5.setCell ⟨G, 2, none⟩ (.int .i64 N)).setCell ⟨S, 1, none⟩ (.bool true)) (i + 1) { A with n := N, s1 := true } (.slice no A.names.length ncap) :=
        ⟨by omega, by have : i < _ := Hlt; omega, by go_num, by simp [anyS], Hx7, Hw7, Ho7, Hb7, by
         show A.names.length + 1 ≤ i + 1
         have h1 : A.names.length + 1 ≤ i := Hfew
         omega, Hgo⟩
       exact ⟨⟨i + 1, _, _, hRI⟩, by simp [intOf]; omega⟩
    ·have hane := isEmpty_no (fieldN_ne (s := a) (by omega))
     have hkI : ((fieldN a : Nat) : Int) = 2 := by rw [hk]; rfl
     rw [hkI]
     obtain ⟨hml, hfv⟩ := fieldN_cases (k := 1) (by decide) hk
     have hml2 : 2 ≤ a.size := hml
     have hfv2 : fval a = a.extract 2 a.size := hfv
     by_cases hs : A.s2 = true
     ·rw [hs] at hq2
      have Hno : Hid (actOf line = none) := by show _ = _; rw [(Hres : _ = _), go_c_bad _ hk hs]; rfl
      clear hkI hk hq0 hq1 hq3 hq4 hcr hml hml2 hfv hfv2 hs
      have Hth := Lib.hid (there19 Hr4 rfl)
      have hR3 := Whole.fillAll Hr4 (cs' := zeroC) rfl
      have hb3 := below_cells Hbl4 (Nat.le_refl _) hs4 zeroC.toList
      have hzs := zero_sz
      generalize hZ : zeroC = Z at hR3 hb3 hzs
      have HZ := Lib.hid hZ
      have Hzs := Lib.hid hzs
      have HR3 := Lib.hid hR3
      have Hb3 := Lib.hid hb3
      clear hR3 hb3 hZ hzs
      go_wp2_with ((with_reducible refine list_storeZ w.heap.size 0 Z HZ Hth ?_ ?_ ?_ ?_ ?_); all_goals try rfl)
      show bodyPost Tryz.prog Tryz.f13 (ActPost line w) Exit.ret _ _
      refine bodyPost_ret (v := .tuple #[.agg Z, .bool false]) (results_act rfl _ _ w.heap.size Z _ rfl HR3 Hzs rfl) rfl ?_
      exact actPost_none Hno (by rw [(HZ : _ = Z)]) Hb3
     ·have hs' : A.s2 = false := by simpa using hs
      rw [hs'] at hq2
      have hcc := rParse_ok (a.extract 2 a.size) w4
      obtain ⟨N, hN⟩ : ∃ N, (numP (a.extract 2 a.size).data.toList).getD 0 = N := ⟨_, rfl⟩
      obtain ⟨B, hB⟩ : ∃ B, (numP (a.extract 2 a.size).data.toList).isSome = B := ⟨_, rfl⟩
      rw [hN, hB] at hcc
      have hno : B = false → actOf line = none := fun e => by
       have hn : numP (fval a).data.toList = none := by
        rw [hfv2]
        exact Option.isNone_iff_eq_none.1 (Option.isSome_eq_false_iff.1 (hB.trans e))
       rw [(Hres : _ = _), go_c_no _ hk hs' hn]
       rfl
      have hyes : B = true → actOf line = (actGo ((splitB 32 line).drop (i + 1)) { A with cn := N, s2 := true }).map fun p => (wd, p.1, p.2) := fun e => by
       obtain ⟨x, hx⟩ := Option.isSome_iff_exists.1 (hB.trans e)
       have hn : numP (fval a).data.toList = some N := by
        rw [hfv2, hx]
        rw [hx] at hN
        exact congrArg some hN
       rw [(Hres : _ = _), go_c_yes _ hk hs' hn]
      have Hcc := Lib.hid hcc
      have Hno := Lib.hid hno
      have Hyes := Lib.hid hyes
      clear hkI hk hq0 hq1 hq3 hq4 hcr hml hfv hfv2 hs hs' hcc hN hB hno hyes
      go_wp2_with fail
      refine Calls.mono Hcc ?_
      rintro e w5 ⟨rfl, hb5⟩
      have hI5 := RInv.on HI4 hb5 hsr4
      clear hb5
      have hg2 : w5.cell? ⟨G, 4, none⟩ = some (.int .i64 A.cn) := hI5.act.cell 4
      have hf2 := hI5.act.free 4
      have hw6 : Whole (w5.setCell ⟨G, 4, none⟩ (.int .i64 N)) G 37 (actC wd (.slice no A.names.length ncap) A.n ⟨#[]⟩ N A.tg) := hI5.act.put 4 (.int .i64 N)
      have hgr6 := grown_put (g := G) (w := w5) (w1 := w5) (Below.refl _ _) 4 (.int .i64 N)
      have hb6 := below_row hI5.below hgr6 hG1 hI5.below.size
      have hs6 := hI5.seen.off hgr6 (by have : S = G + 1 := HGS; simp; omega)
      have ho6 := own_off hI5.own hgr6 hI5.act (by decide)
      have hsq : (w5.setCell ⟨G, 4, none⟩ (.int .i64 N)).cell? ⟨S, 2, none⟩ = some (.bool A.s2) := hs6.cell 2
      have hsf := hs6.free 2
      have hr6 := Whole.on HW1 hb6
      have hbl6 := (HB1 : Below w.heap.size w W1).trans (hb6.mono (by omega))
      have hsl6 : w.heap.size ≤ (w5.setCell ⟨G, 4, none⟩ (.int .i64 N)).heap.size := hbl6.size
      have hw7 : Whole ((w5.setCell ⟨G, 4, none⟩ (.int .i64 N)).setCell ⟨S, 2, none⟩ (.bool true)) S 4 (seenC { A with cn := N, s2 := true }) := hs6.put 2 (.bool true)
      have hgr7 := grown_put (g := S) (w := w5.setCell ⟨G, 4, none⟩ (.int .i64 N)) (w1 := w5.setCell ⟨G, 4, none⟩ (.int .i64 N)) (Below.refl _ _) 2 (.bool true)
      have hb7 := below_row hb6 hgr7 hS1 hb6.size
      have hx7 := hw6.off hgr7 (by have : S = G + 1 := HGS; simp; omega)
      have ho7 := own_off ho6 hgr7 hs6 (by decide)
      have Hx7 := Lib.hid hx7
      have Hw7 := Lib.hid hw7
      have Ho7 := Lib.hid ho7
      have Hb7 := Lib.hid hb7
      have Hr6 := Lib.hid hr6
      have Hbl6 := Lib.hid hbl6
      have Hsl6 := Lib.hid hsl6
      clear hx7 hw7 ho7 hb7 hgr7 hr6 hbl6 hsl6 hs6 ho6 hb6 hgr6 hw6 hI5
      cases B with
      | false =>
       have Hno2 := Lib.hid ((Hno : _ → _) rfl)
       clear hsq hsf
       have Hth := Lib.hid (there19 Hr6 rfl)
       have hR3 := Whole.fillAll Hr6 (cs' := zeroC) rfl
       have hb3 := below_cells Hbl6 (Nat.le_refl _) Hsl6 zeroC.toList
       have hzs := zero_sz
       generalize hZ : zeroC = Z at hR3 hb3 hzs
       have HZ := Lib.hid hZ
       have Hzs := Lib.hid hzs
       have HR3 := Lib.hid hR3
       have Hb3 := Lib.hid hb3
       clear hR3 hb3 hZ hzs
       go_wp2_with ((with_reducible refine list_storeZ w.heap.size 0 Z HZ Hth ?_ ?_ ?_ ?_ ?_); all_goals try rfl)
       show bodyPost Tryz.prog Tryz.f13 (ActPost line w) Exit.ret _ _
       refine bodyPost_ret (v := .tuple #[.agg Z, .bool false]) (results_act rfl _ _ w.heap.size Z _ rfl HR3 Hzs rfl) rfl ?_
       exact actPost_none Hno2 (by rw [(HZ : _ = Z)]) Hb3
      | true =>
       have Hgo := Lib.hid ((Hyes : _ → _) rfl)
       clear Hno Hyes
       go_wp2_with fail
       have hRI : RInv line wd W1 G S (.bool true) (.int .i64 ((i : Int) + 1)) ((w5.setCell ⟨G, 4, none⟩ (.int .i64 N)).setCell ⟨S, 2, none⟩ (.bool true)) (i + 1) { A with cn := N, s2 := true } (.slice no A.names.length ncap) :=
        ⟨by omega, by have : i < _ := Hlt; omega, by go_num, by simp [anyS], Hx7, Hw7, Ho7, Hb7, by
         show A.names.length + 1 ≤ i + 1
         have h1 : A.names.length + 1 ≤ i := Hfew
         omega, Hgo⟩
       exact ⟨⟨i + 1, _, _, hRI⟩, by simp [intOf]; omega⟩
    ·have hane := isEmpty_no (fieldN_ne (s := a) (by omega))
     have hkI : ((fieldN a : Nat) : Int) = 3 := by rw [hk]; rfl
     rw [hkI]
     obtain ⟨hml, hfv⟩ := fieldN_cases (k := 2) (by decide) hk
     have hml2 : 3 ≤ a.size := hml
     have hfv2 : fval a = a.extract 3 a.size := hfv
     by_cases hs : A.s3 = true
     ·rw [hs] at hq3
      have Hno : Hid (actOf line = none) := by show _ = _; rw [(Hres : _ = _), go_to_bad _ hk hs]; rfl
      clear hkI hk hq0 hq1 hq2 hq4 hcr hml hml2 hfv hfv2 hs
      have Hth := Lib.hid (there19 Hr4 rfl)
      have hR3 := Whole.fillAll Hr4 (cs' := zeroC) rfl
      have hb3 := below_cells Hbl4 (Nat.le_refl _) hs4 zeroC.toList
      have hzs := zero_sz
      generalize hZ : zeroC = Z at hR3 hb3 hzs
      have HZ := Lib.hid hZ
      have Hzs := Lib.hid hzs
      have HR3 := Lib.hid hR3
      have Hb3 := Lib.hid hb3
      clear hR3 hb3 hZ hzs
      go_wp2_with ((with_reducible refine list_storeZ w.heap.size 0 Z HZ Hth ?_ ?_ ?_ ?_ ?_); all_goals try rfl)
      show bodyPost Tryz.prog Tryz.f13 (ActPost line w) Exit.ret _ _
      refine bodyPost_ret (v := .tuple #[.agg Z, .bool false]) (results_act rfl _ _ w.heap.size Z _ rfl HR3 Hzs rfl) rfl ?_
      exact actPost_none Hno (by rw [(HZ : _ = Z)]) Hb3
     ·have hs' : A.s3 = false := by simpa using hs
      rw [hs'] at hq3
      have hcc := rUnhex_ok (a.extract 3 a.size) w4
      obtain ⟨N, hN⟩ : ∃ N, (hexP (a.extract 3 a.size).data.toList).getD 0 = N := ⟨_, rfl⟩
      obtain ⟨B, hB⟩ : ∃ B, (hexP (a.extract 3 a.size).data.toList).isSome = B := ⟨_, rfl⟩
      rw [hN, hB] at hcc
      have hno : B = false → actOf line = none := fun e => by
       have hn : hexP (fval a).data.toList = none := by
        rw [hfv2]
        exact Option.isNone_iff_eq_none.1 (Option.isSome_eq_false_iff.1 (hB.trans e))
       rw [(Hres : _ = _), go_to_no _ hk hs' hn]
       rfl
      have hyes : B = true → actOf line = (actGo ((splitB 32 line).drop (i + 1)) { A with tg := N, s3 := true }).map fun p => (wd, p.1, p.2) := fun e => by
       obtain ⟨x, hx⟩ := Option.isSome_iff_exists.1 (hB.trans e)
       have hn : hexP (fval a).data.toList = some N := by
        rw [hfv2, hx]
        rw [hx] at hN
        exact congrArg some hN
       rw [(Hres : _ = _), go_to_yes _ hk hs' hn]
      have Hcc := Lib.hid hcc
      have Hno := Lib.hid hno
      have Hyes := Lib.hid hyes
      clear hkI hk hq0 hq1 hq2 hq4 hcr hml hfv hfv2 hs hs' hcc hN hB hno hyes
      go_wp2_with fail
      refine Calls.mono Hcc ?_
      rintro e w5 ⟨rfl, hb5⟩
      subst hb5
      have hI5 : RInv line wd W1 G S _ _ w5 i A _ := HI4
      have hg2 : w5.cell? ⟨G, 5, none⟩ = some (.int .i64 A.tg) := hI5.act.cell 5
      have hf2 := hI5.act.free 5
      have hw6 : Whole (w5.setCell ⟨G, 5, none⟩ (.int .i64 N)) G 37 (actC wd (.slice no A.names.length ncap) A.n ⟨#[]⟩ A.cn N) := hI5.act.put 5 (.int .i64 N)
      have hgr6 := grown_put (g := G) (w := w5) (w1 := w5) (Below.refl _ _) 5 (.int .i64 N)
      have hb6 := below_row hI5.below hgr6 hG1 hI5.below.size
      have hs6 := hI5.seen.off hgr6 (by have : S = G + 1 := HGS; simp; omega)
      have ho6 := own_off hI5.own hgr6 hI5.act (by decide)
      have hsq : (w5.setCell ⟨G, 5, none⟩ (.int .i64 N)).cell? ⟨S, 3, none⟩ = some (.bool A.s3) := hs6.cell 3
      have hsf := hs6.free 3
      have hr6 := Whole.on HW1 hb6
      have hbl6 := (HB1 : Below w.heap.size w W1).trans (hb6.mono (by omega))
      have hsl6 : w.heap.size ≤ (w5.setCell ⟨G, 5, none⟩ (.int .i64 N)).heap.size := hbl6.size
      have hw7 : Whole ((w5.setCell ⟨G, 5, none⟩ (.int .i64 N)).setCell ⟨S, 3, none⟩ (.bool true)) S 4 (seenC { A with tg := N, s3 := true }) := hs6.put 3 (.bool true)
      have hgr7 := grown_put (g := S) (w := w5.setCell ⟨G, 5, none⟩ (.int .i64 N)) (w1 := w5.setCell ⟨G, 5, none⟩ (.int .i64 N)) (Below.refl _ _) 3 (.bool true)
      have hb7 := below_row hb6 hgr7 hS1 hb6.size
      have hx7 := hw6.off hgr7 (by have : S = G + 1 := HGS; simp; omega)
      have ho7 := own_off ho6 hgr7 hs6 (by decide)
      have Hx7 := Lib.hid hx7
      have Hw7 := Lib.hid hw7
      have Ho7 := Lib.hid ho7
      have Hb7 := Lib.hid hb7
      have Hr6 := Lib.hid hr6
      have Hbl6 := Lib.hid hbl6
      have Hsl6 := Lib.hid hsl6
      clear hx7 hw7 ho7 hb7 hgr7 hr6 hbl6 hsl6 hs6 ho6 hb6 hgr6 hw6 hI5
      cases B with
      | false =>
       have Hno2 := Lib.hid ((Hno : _ → _) rfl)
       clear hsq hsf
       have Hth := Lib.hid (there19 Hr6 rfl)
       have hR3 := Whole.fillAll Hr6 (cs' := zeroC) rfl
       have hb3 := below_cells Hbl6 (Nat.le_refl _) Hsl6 zeroC.toList
       have hzs := zero_sz
       generalize hZ : zeroC = Z at hR3 hb3 hzs
       have HZ := Lib.hid hZ
       have Hzs := Lib.hid hzs
       have HR3 := Lib.hid hR3
       have Hb3 := Lib.hid hb3
       clear hR3 hb3 hZ hzs
       go_wp2_with ((with_reducible refine list_storeZ w.heap.size 0 Z HZ Hth ?_ ?_ ?_ ?_ ?_); all_goals try rfl)
       show bodyPost Tryz.prog Tryz.f13 (ActPost line w) Exit.ret _ _
       refine bodyPost_ret (v := .tuple #[.agg Z, .bool false]) (results_act rfl _ _ w.heap.size Z _ rfl HR3 Hzs rfl) rfl ?_
       exact actPost_none Hno2 (by rw [(HZ : _ = Z)]) Hb3
      | true =>
       have Hgo := Lib.hid ((Hyes : _ → _) rfl)
       clear Hno Hyes
       go_wp2_with fail
       have hRI : RInv line wd W1 G S (.bool true) (.int .i64 ((i : Int) + 1)) ((w5.setCell ⟨G, 5, none⟩ (.int .i64 N)).setCell ⟨S, 3, none⟩ (.bool true)) (i + 1) { A with tg := N, s3 := true } (.slice no A.names.length ncap) :=
        ⟨by omega, by have : i < _ := Hlt; omega, by go_num, by simp [anyS], Hx7, Hw7, Ho7, Hb7, by
         show A.names.length + 1 ≤ i + 1
         have h1 : A.names.length + 1 ≤ i := Hfew
         omega, Hgo⟩
       exact ⟨⟨i + 1, _, _, hRI⟩, by simp [intOf]; omega⟩
    ·have hane := isEmpty_no (fieldN_ne (s := a) (by omega))
     have hkI : ((fieldN a : Nat) : Int) = 4 := by rw [hk]; rfl
     rw [hkI]
     have h5 := field_text hk
     have htx0 := textOf_nil h5
     have hgo : actOf line = some (wd, A, textOf a ((splitB 32 line).drop (i + 1))) := by rw [(Hres : _ = _), go_text _ A hk]; rfl
     have hg3 : w4.cell? ⟨G, 3, none⟩ = some (.string ⟨#[]⟩) := (RInv.act HI4).cell 3
     have hf3 := (RInv.act HI4).free 3
     have hw6 : Whole (w4.setCell ⟨G, 3, none⟩ (.string (a.extract 5 a.size))) G 37 (actC wd (.slice no A.names.length ncap) A.n (a.extract 5 a.size) A.cn A.tg) := (RInv.act HI4).put 3 _
     have hgr6 := grown_put (g := G) (w := w4) (w1 := w4) (Below.refl _ _) 3 (.string (a.extract 5 a.size))
     have hb6 := below_row Hbr4 hgr6 hG1 hsr4
     have ho6 := own_off (RInv.own HI4) hgr6 (RInv.act HI4) (by decide)
     rw [← htx0] at hw6 hgr6 hb6 ho6
     have Htx0 := Lib.hid htx0
     have Hgo := Lib.hid hgo
     have Hw6 := Lib.hid hw6
     have Hb6 := Lib.hid hb6
     have Ho6 := Lib.hid ho6
     clear hkI hk hq0 hq1 hq2 hq3 hcr hgo htx0 hw6 hb6 ho6 hgr6
     go_wp2_with fail
     rw [← (Htx0 : _ = a.extract 5 a.size)]
     clear hq4 hc4 hg3 hf3 hane h5
     clear hsr
     have hd1 : ((splitB 32 line).drop (i + 1)).length = (splitB 32 line).length - (i + 1) := List.length_drop
     have Hd1 := Lib.hid hd1
     clear hd1
     go_loopw [11] (fun u wx => ∃ n, i + 1 ≤ n ∧ n ≤ (splitB 32 line).length ∧ u = .int .i64 n ∧ Whole wx G 37 (actC wd (.slice no A.names.length ncap) A.n (textOf a (((splitB 32 line).drop (i + 1)).take (n - (i + 1)))) A.cn A.tg) ∧ Below W1.heap.size W1 wx ∧ wx.ownsRow W1.heap.size 9 1 (.slice no A.names.length ncap) A.names.length (A.names.map Value.string)) (fun u _ => (splitB 32 line).length - (intOf u).toNat)
     case atStart =>
      refine ⟨i + 1, Nat.le_refl _, Hlt, by go_num, ?_, Hb6, Ho6⟩
      rw [Nat.sub_self, List.take_zero]
      exact Hw6
     case round =>
      clear Hw6 Hb6 Ho6
      obtain ⟨n, hn1, hn2, rfl, hw, hb, ho⟩ := hrel
      by_cases hlt2 : n < (splitB 32 line).length
      ·obtain ⟨b', off', e, _, hc⟩ := Strs.at_ Hst hlt2
       cases e
       obtain ⟨z, hz⟩ : ∃ z, (splitB 32 line)[n] = z := ⟨_, rfl⟩
       rw [hz] at hc
       have hzl : z.size ≤ 100000 := (Hpt : ∀ z ∈ _, _) z (hz ▸ List.getElem_mem hlt2)
       have htk : ((splitB 32 line).drop (i + 1)).take (n + 1 - (i + 1)) = ((splitB 32 line).drop (i + 1)).take (n - (i + 1)) ++ [z] := by
        rw [show n + 1 - (i + 1) = n - (i + 1) + 1 by omega, List.take_add_one, List.getElem?_drop, show i + 1 + (n - (i + 1)) = n by omega, List.getElem?_eq_getElem hlt2, hz]
        rfl
       have hts := textOf_size a 100000 (((splitB 32 line).drop (i + 1)).take (n - (i + 1))) fun y hy => (Hpt : ∀ z ∈ _, _) y (List.mem_of_mem_drop (List.mem_of_mem_take hy))
       have hln : (((splitB 32 line).drop (i + 1)).take (n - (i + 1))).length ≤ 100001 := by
        rw [List.length_take, (Hd1 : _ = _)]
        omega
       have htx : textOf a (((splitB 32 line).drop (i + 1)).take (n + 1 - (i + 1))) = textOf a (((splitB 32 line).drop (i + 1)).take (n - (i + 1))) ++ ⟨#[32]⟩ ++ z := by rw [htk, textOf_snoc]
       obtain ⟨ty, hty⟩ : ∃ ty, textOf a (((splitB 32 line).drop (i + 1)).take (n + 1 - (i + 1))) = ty := ⟨_, rfl⟩
       rw [hty] at htx
       have Hty := Lib.hid hty
       clear hty htk hz
       generalize (((splitB 32 line).drop (i + 1)).take (n - (i + 1))).length = M at *
       obtain ⟨tx, htx2⟩ : ∃ tx, textOf a (((splitB 32 line).drop (i + 1)).take (n - (i + 1))) = tx := ⟨_, rfl⟩
       rw [htx2] at htx hw hts
       have Htx := Lib.hid htx
       clear htx2 htx
       have hM : M * (100000 + 1) ≤ 100001 * 100001 := Nat.mul_le_mul_right _ hln
       have htl : tx.size ≤ 20000000000 := by omega
       clear hts hln hM
       have hno1 : ¬ 9223372036854775807 < tx.size + 1 := by omega
       have hno2 : ¬ 9223372036854775807 < tx.size + 1 + z.size := by omega
       have hex1 : (⟨#[32]⟩ : ByteArray).size = 1 := rfl
       have hex2 : (tx ++ ⟨#[32]⟩).size = tx.size + 1 := by rw [ByteArray.size_append]; rfl
       have hF0 : txF W1 G (actC wd (.slice no A.names.length ncap) A.n tx A.cn A.tg) (.slice no A.names.length ncap) A.names ty 0 wr [] := ⟨hb, hw, ho⟩
       have HF0 := Lib.hid hF0
       have Hcz := Lib.hid hc
       clear hF0 hc hw hb ho
       go_wp2_with fail
       refine T.wp_region_net2 [11] none (txF W1 G (actC wd (.slice no A.names.length ncap) A.n tx A.cn A.tg) (.slice no A.names.length ncap) A.names ty) (by kernel_rfl) (by kernel_rfl) (by kernel_rfl) HF0 (by kernel_rfl) (by decide) ?_
       apply Exists.intro
       apply And.intro
       ·rintro Wx ⟨ν, hν, _, hF⟩
        obtain rfl : ν = [] := List.eq_nil_of_length_eq_zero (by have : ν.length < 1 := hν; omega)
        obtain ⟨hB, hG, _⟩ := hF
        have hx : ∀ (X : Ext Wx), X.val.cell? ⟨b, off + n, none⟩ = some (.string z) := fun X => (Hcz : ∀ w', _ → _) X.val (hB.trans (X.below.mono hB.size))
        have hy : ∀ (X : Ext Wx), X.val.cell? ⟨G, 3, none⟩ = some (.string tx) := fun X => (hG.on X.below).cell 3
        simp only [quietOps, List.contains_cons, List.contains_nil]
        simp
        clear hG
        repeat (first | go_big_quiet_skip | (go_big_quiet_want; (go_big_quiet_op; (first | go_big_quiet_on | fail))))
        exact wpQuiet_nil rfl
       refine ⟨⟨txF_on, fun j hj => ?_⟩, ?_⟩
       ·match j, hj with
        | 0, _ =>
         refine ⟨_, rfl, .inl rfl, fun w5 ν hν _ hf => ?_⟩
         obtain rfl : ν = [] := List.eq_nil_of_length_eq_zero hν
         obtain ⟨f1, f2, f3⟩ := hf
         refine T.leaves_put 9 37 _ _ G 3 _ (.string ty) rfl rfl (by rw [(Htx : ty = _)]; rfl) size9 rfl rfl f2 (by show 3 < 19; decide) fun w6 z6 h6 => ?_
         exact ⟨rfl, below_row f1 h6 hG1 f1.size, z6, own_off f3 h6 f2 (by decide)⟩
       ·intro ν w5 hν _ hf
        obtain ⟨rfl, f1, f2, f3⟩ := hf
        have F1 := Lib.hid f1
        have F2 := Lib.hid f2
        have F3 := Lib.hid f3
        clear f1 f2 f3
        simp only [dstsOfS, dstAt, List.map_cons, List.map_nil, fillA]
        simp [Act.put]
        go_wp2_with fail
        refine ⟨⟨n + 1, by omega, by omega, by go_num, ?_, F1, F3⟩, by simp [intOf]; omega⟩
        rw [(Hty : _ = ty)]
        exact F2
      ·obtain rfl : n = (splitB 32 line).length := by omega
       have htk : ((splitB 32 line).drop (i + 1)).take ((splitB 32 line).length - (i + 1)) = (splitB 32 line).drop (i + 1) := List.take_of_length_le (by rw [(Hd1 : _ = _)]; exact Nat.le_refl _)
       rw [htk] at hw
       obtain ⟨TX, hTX⟩ : ∃ TX, textOf a ((splitB 32 line).drop (i + 1)) = TX := ⟨_, rfl⟩
       rw [hTX] at hw
       have hgo : actOf line = some (wd, A, TX) := by rw [(Hgo : _ = _), hTX]
       clear hTX htk Hgo
       have hact : Whole wr G 37 (actC wd (.slice no A.names.length ncap) A.n TX A.cn A.tg) := hw
       have hra : wr.rangeAt G 0 (actC wd (.slice no A.names.length ncap) A.n TX A.cn A.tg).toList := fun j v hv => by
        rw [Nat.zero_add]
        exact (Whole.cell hact j).trans (by simpa using hv)
       have Hra := Lib.hid hra
       have hbw : Below W1.heap.size W1 wr := hb
       have hr := Whole.on HW1 hbw
       have hbl := (HB1 : Below w.heap.size w W1).trans (hbw.mono (by omega))
       have hown : wr.ownsRow W1.heap.size 9 1 (.slice no A.names.length ncap) A.names.length (A.names.map Value.string) := ho
       have Hth := Lib.hid (there19 hr rfl)
       have Hone : Hid ((actC wd (.slice no A.names.length ncap) A.n TX A.cn A.tg).all (·.oneCell') = true) := actC_one _ _ _ _ _ _ _ _
       have HR2 := Lib.hid (Whole.fillAll hr (cs' := (actC wd (.slice no A.names.length ncap) A.n TX A.cn A.tg)) rfl)
       have Hb2 := Lib.hid (below_cells hbl (Nat.le_refl _) hbl.size (actC wd (.slice no A.names.length ncap) A.n TX A.cn A.tg).toList)
       have HO2 := Lib.hid (own_base (own_off hown (setCells_off (actC wd (.slice no A.names.length ncap) A.n TX A.cn A.tg).toList 0 wr wr (some w.heap.size) (World.grownBy.refl wr _) (.inr rfl)) hr (by decide)) (show w.heap.size ≤ W1.heap.size by omega))
       have Hres2 : Hid (actOf line = some (wd, A, TX)) := hgo
       clear hra hact hbw hr hbl hown
       generalize hcs : (actC wd (.slice no A.names.length ncap) A.n TX A.cn A.tg) = cs at *
       have Hcs := Lib.hid hcs
       have hsz : cs.size = 19 := by rw [← hcs]; rfl
       clear hcs
       go_wp2_with (first | ((with_reducible refine list_load37 G 0 cs Hra ?_ ?_ hsz ?_ ?_); all_goals try rfl) | ((with_reducible refine list_store37 w.heap.size 0 cs Hth ?_ ?_ hsz Hone ?_ ?_ ?_); all_goals try rfl))
       refine bodyPost_ret (v := .tuple #[.agg cs, .bool true]) (results_act rfl _ _ w.heap.size cs _ rfl HR2 hsz rfl) rfl ?_
       exact actPost_some Hres2 (by rw [(Hcs : _ = cs)]) HO2 Hb2
   ·obtain rfl : i = (splitB 32 line).length := by omega
    have hres := RInv.res HI
    rw [List.drop_length] at hres
    have hact : Whole wr G 37 (actC wd (.slice no A.names.length ncap) A.n ⟨#[]⟩ A.cn A.tg) := RInv.act HI
    have hra : wr.rangeAt G 0 (actC wd (.slice no A.names.length ncap) A.n ⟨#[]⟩ A.cn A.tg).toList := fun j v hv => by
     rw [Nat.zero_add]
     exact (Whole.cell hact j).trans (by simpa using hv)
    have Hra := Lib.hid hra
    have hbw : Below W1.heap.size W1 wr := RInv.below HI
    have hr := Whole.on HW1 hbw
    have hbl := (HB1 : Below w.heap.size w W1).trans (hbw.mono (by omega))
    have hown : wr.ownsRow W1.heap.size 9 1 (.slice no A.names.length ncap) A.names.length (A.names.map Value.string) := RInv.own HI
    have Hth := Lib.hid (there19 hr rfl)
    have Hone : Hid ((actC wd (.slice no A.names.length ncap) A.n ⟨#[]⟩ A.cn A.tg).all (·.oneCell') = true) := actC_one _ _ _ _ _ _ _ _
    have HR2 := Lib.hid (Whole.fillAll hr (cs' := (actC wd (.slice no A.names.length ncap) A.n ⟨#[]⟩ A.cn A.tg)) rfl)
    have Hb2 := Lib.hid (below_cells hbl (Nat.le_refl _) hbl.size (actC wd (.slice no A.names.length ncap) A.n ⟨#[]⟩ A.cn A.tg).toList)
    have HO2 := Lib.hid (own_base (own_off hown (setCells_off (actC wd (.slice no A.names.length ncap) A.n ⟨#[]⟩ A.cn A.tg).toList 0 wr wr (some w.heap.size) (World.grownBy.refl wr _) (.inr rfl)) hr (by decide)) (show w.heap.size ≤ W1.heap.size by omega))
    have Hres2 : Hid (actOf line = some (wd, A, ⟨#[]⟩)) := hres
    clear hra hact hbw hr hbl hown
    generalize hcs : (actC wd (.slice no A.names.length ncap) A.n ⟨#[]⟩ A.cn A.tg) = cs at *
    have Hcs := Lib.hid hcs
    have hsz : cs.size = 19 := by rw [← hcs]; rfl
    clear hcs
    go_wp2_with (first | ((with_reducible refine list_load37 G 0 cs Hra ?_ ?_ hsz ?_ ?_); all_goals try rfl) | ((with_reducible refine list_store37 w.heap.size 0 cs Hth ?_ ?_ hsz Hone ?_ ?_ ?_); all_goals try rfl))
    refine bodyPost_ret (v := .tuple #[.agg cs, .bool true]) (results_act rfl _ _ w.heap.size cs _ rfl HR2 hsz rfl) rfl ?_
    exact actPost_some Hres2 (by rw [(Hcs : _ = cs)]) HO2 Hb2
end Go.Proofs.R50
end
