/- Rows of one's own: one more element; stores. -/
import Derived.Test.YtojknjmcmadhcaaGreatDoorCf

section
namespace Go.Proofs.R50
open Go.ChangeShapes Go.WideShapes Go.ChangeAt Go.RowKit

section
variable {P : Program}
theorem leaves_value {o : Oper} {a : Act} {W w w' : World} {row : Option Nat} {G : Value → World → Prop} {u : Value} (h : (execOp a.eval o).run P w = .ok (.value u) w') (hg : W.grownBy w' row) (hG : G u w') : Leaves P o a W w row G := by
  unfold Leaves
  rw [h]
  exact ⟨hg, hG⟩
/-- What was there ahead of a function: not its own block g. -/
theorem below_row {w w1 w2 : World} {b g : Nat} (q : Below b w w1) (hw : w1.grownBy w2 (some g)) (hb : b ≤ g) (hb1 : b ≤ w1.heap.size) : Below b w w2 :=
  ⟨hw.os.trans q.os, hw.tape.trans q.tape, hw.output.trans q.output, Nat.le_trans q.size hw.size, fun i hi => (hw.block i (by omega) (fun e => by injection e with e; omega)).trans (q.block i hi)⟩
theorem below_append {base : Nat} {w w1 w2 : World} {e : TypeId} {size n : Nat} {v : Value} {xs : List Value} (hb : Below base w w1) (h1 : base ≤ w1.heap.size) (hown : w1.ownsRow base e size v n xs) (hg : w1.grownBy w2 v.ownBlock) : Below base w w2 :=
  hb.grown hg h1 fun q hq => by
    rcases hown.2 with ⟨h0, _⟩ | ⟨_, _, _, h0, hbase', _⟩
    · subst h0; cases hq
    · subst h0; cases hq; exact hbase'
theorem run_store_one (w : World) (g i : Nat) (t te : TypeId) (cs : Array Value) (v : Value) (hw : Whole w g te cs) (hi : i < cs.size) (hs : (P.info? t).map (·.size) = some 1) (hv : v.cells = #[v]) (h1 : v.oneCell' = true) :
    (Instr.storeAt t (.pointer (some ⟨g, i, none⟩)) v).run P w = .ok () (w.setCells g i [v]) := by
  have := run_storeCells_cells (P := P) g i [v] 0 w (fun j hj => by
      have : j = 0 := by simpa using hj
      subst this
      have := hw.cell i
      simp only [Nat.add_zero]
      rw [this]; simp [hi]) (fun j hj => by
      have : j = 0 := by simpa using hj
      subst this
      exact hw.free _) (fun u hu => by
      obtain rfl : u = v := by simpa using hu
      exact h1)
  simp only [Nat.add_zero] at this
  cases hq : P.info? t with
  | none => simp [hq] at hs
  | some d =>
    have hd : d.size = 1 := by simpa [hq] using hs
    simp only [Instr.storeAt, Instr.sureAddr, Sem.run_bind, Sem.run_pure, Result.andThen_ok]
    simp [storeVar, sizeOf, typeInfo, hq, hd, hv, this]
/-- A store into one cell of a block, as a special operation. -/
theorem leaves_put {o : Oper} {a : Act} {W w : World} {row : Option Nat} {G : Value → World → Prop} (t te : TypeId) (p x : Operand) (g i : Nat) (cs : Array Value) (v : Value) (ho : o.op = .store t p x)
    (hp : a.eval p = .pointer (some ⟨g, i, none⟩)) (hx : a.eval x = v) (hs : (P.info? t).map (·.size) = some 1) (hv : v.cells = #[v]) (h1 : v.oneCell' = true) (hw : Whole w g te cs) (hi : i < cs.size)
    (hW : W.grownBy w row) (hg : W.heap.size ≤ g ∨ row = some g) (k : ∀ w', Whole w' g te (cs.setIfInBounds i v) → w.grownBy w' (some g) → G undef w') : Leaves P o a W w row G := by
  unfold Leaves execOp
  simp only [ho, hp, hx, Sem.run_bind, run_store_one w g i t te cs v hw hi hs hv h1, Result.andThen_ok, Sem.run_pure]
  exact ⟨setCells_off _ _ _ _ _ hW hg, k _ (hw.put i v) (setCells_off _ _ _ _ _ (World.grownBy.refl w _) (.inr rfl))⟩

theorem own_form {base : Nat} {w : World} {e : TypeId} {size n : Nat} {v : Value} {xs : List Value} (h : w.ownsRow base e size v n xs) (hne : v ≠ .slice none 0 0) : ∃ g cap cur, v = .slice (some ⟨g, 0, none⟩) n cap ∧ base ≤ g ∧ n ≤ cap ∧ cap ≤ maxLen ∧ Whole w g e cur ∧ cur.size = cap * size ∧ cur.toList.take (n * size) = xs := by
  rcases h.2 with ⟨h0, _⟩ | ⟨g, cap, cur, h0, hbase', h3, h4, h5, h6, h7⟩
  · exact absurd h0 hne
  · exact ⟨g, cap, cur, h0, hbase', h4, h5, h3, h6, h7⟩
theorem own_of {base : Nat} {w : World} {e : TypeId} {size n g cap : Nat} {cur : Array Value} (hb : base ≤ g) (hn : n ≤ cap) (hm : cap ≤ maxLen) (hw : Whole w g e cur) (hs : cur.size = cap * size) : w.ownsRow base e size (.slice (some ⟨g, 0, none⟩) n cap) n (cur.toList.take (n * size)) :=
  ⟨by rw [List.length_take, Array.length_toList, hs]; exact Nat.min_eq_left (Nat.mul_le_mul_right _ hn), .inr ⟨g, cap, cur, rfl, hb, hw, hn, hm, hs, rfl⟩⟩
theorem own_slice {w : World} {base : Nat} {e : TypeId} {size n : Nat} {v : Value} {xs : List Value} (h : w.ownsRow base e size v n xs) : ∃ ao cap, v = .slice ao n cap := by
  obtain ⟨_, h⟩ := h
  rcases h with ⟨rfl, rfl⟩ | ⟨g, cap, cur, rfl, _⟩
  · exact ⟨_, _, rfl⟩
  · exact ⟨_, _, rfl⟩
theorem own_base {w : World} {base base' : Nat} {e : TypeId} {size n : Nat} {v : Value} {xs : List Value} (h : w.ownsRow base e size v n xs) (hb : base' ≤ base) : w.ownsRow base' e size v n xs := by
  obtain ⟨hl, h⟩ := h
  rcases h with h | ⟨g, cap, cur, rfl, h1, h2⟩
  · exact ⟨hl, .inl h⟩
  · exact ⟨hl, .inr ⟨g, cap, cur, rfl, Nat.le_trans hb h1, h2⟩⟩
theorem own_on {w w' : World} {base : Nat} {e : TypeId} {size n : Nat} {v : Value} {xs : List Value} (h : w.ownsRow base e size v n xs) (hb : Below w.heap.size w w') : w'.ownsRow base e size v n xs :=
  h.kept (row := none) (grownBy_of_below hb) (by cases hv : v.ownBlock <;> simp)
theorem Row.of_own {w : World} {base : Nat} {e : TypeId} {size n : Nat} {v : Value} {xs : List Value} (h : w.ownsRow base e size v n xs) : Row w v size n xs := by
  obtain ⟨hlen, h⟩ := h
  rcases h with ⟨rfl, rfl⟩ | ⟨g, cap, cur, rfl, hb, hg, hn, hm, hs, ht⟩
  · exact ⟨none, 0, rfl, Nat.le_refl _, by omega, hlen, fun h => by omega⟩
  · refine ⟨some ⟨g, 0, none⟩, cap, rfl, hn, by simpa [maxLen] using hm, hlen, fun _ => ⟨g, 0, rfl, (Array.getElem?_eq_some_iff.1 hg).1, fun j u hu => ?_⟩⟩
    rw [Nat.zero_add, cell_of_row w g j cur e (0, 0) hg]
    rw [← ht, List.getElem?_take] at hu
    split at hu
    · simpa using hu
    · cases hu
/-- The own block of a row is no block of another type. -/
theorem own_ne {w : World} {base g : Nat} {e t : TypeId} {size n : Nat} {v : Value} {xs : List Value} {cs : Array Value} (h : w.ownsRow base e size v n xs) (hw : Whole w g t cs) (hne : e ≠ t) : some g ≠ v.ownBlock := fun q => by
  rcases h.2 with ⟨rfl, _⟩ | ⟨g', cap, cur, rfl, _, hg, _⟩
  · cases q
  · obtain rfl : g = g' := by injection q
    unfold Whole at hw
    rw [hw] at hg
    injection hg with hg
    injection hg with _ h2
    exact hne h2.symm
theorem own_off {w w' : World} {base g : Nat} {e t : TypeId} {size n : Nat} {v : Value} {xs : List Value} {cs : Array Value} (h : w.ownsRow base e size v n xs) (hb : w.grownBy w' (some g)) (hw : Whole w g t cs) (hne : e ≠ t) : w'.ownsRow base e size v n xs :=
  h.kept hb (.inr fun e' => own_ne h hw hne e'.symm)
/-- Two rows of different types. -/
theorem own_own {w w' : World} {base base' : Nat} {e e' : TypeId} {size size' n n' : Nat} {v v' : Value} {xs xs' : List Value} (h : w.ownsRow base e size v n xs) (h' : w.ownsRow base' e' size' v' n' xs') (hb : w.grownBy w' v'.ownBlock) (hne : e ≠ e') : w'.ownsRow base e size v n xs := by
  refine h.kept hb ?_
  cases hv : v.ownBlock with
  | none => exact .inl rfl
  | some g =>
    refine .inr fun q => ?_
    rcases h.2 with ⟨rfl, _⟩ | ⟨g1, cap, cur, rfl, _, hg, _⟩
    · cases hv
    · obtain rfl : g1 = g := by injection hv
      exact own_ne h' (show Whole w g1 e cur from hg) hne.symm q

/-- append of one new element to a row of one's own. -/
theorem list_push {ops : Array Oper} {rest : List Oper} {o : Oper} {a : Act} {w : World} {Q : Exit → Act → World → Prop} (hgd : o.guard = none) (s x : Operand) (t : TypeId)
    (ho : o.op = .call { callee := .builtin .append, args := #[s, x], argTypes := #[t, t] })
    (base : Nat) (e : TypeId) (i : TypeInfo) (z : Value) (size bytes : Nat) (ht : P.underlying t = some (.slice e)) (hi : P.info? e = some i) (hz : i.zero = some z)
    (hsize : i.size = size) (hby : i.bytes = bytes) (hzs : z.cells.size = size) (hsz : 0 < size)
    (v : Value) (n : Nat) (xs : List Value) (hs : a.eval s = v) (hown : Hid (w.ownsRow base e size v n xs))
    (h c : Nat) (cs : List Value) (hx : a.eval x = .slice (some ⟨h, 0, none⟩) 1 c) (hl : cs.length = size) (hnew : Hid (Whole w h e cs.toArray)) (h1 : ∀ u ∈ cs, u.oneCell' = true)
    (h63 : n + 1 ≤ maxLen) (hbytes : (n + 1) * bytes ≤ 140737488355328) (hbase : base ≤ w.heap.size)
    (k : ∀ g cap w', w'.ownsRow base e size (.slice (some ⟨g, 0, none⟩) (n + 1) cap) (n + 1) (xs ++ cs) → w.grownBy w' v.ownBlock → wpList P ops Q rest (a.put o.dst (.slice (some ⟨g, 0, none⟩) (n + 1) cap)) w') :
    wpList P ops Q (o :: rest) a w := by
  refine wpList_append_own w hgd s x t ho base e i z size bytes ht hi hz hsize hby hzs hsz v n xs hs hown ⟨h, 0, none⟩ 1 c cs hx (by rw [hl, Nat.one_mul]) (fun j u hu => ?_) h1 h63 hbytes hbase ?_
  · rw [Addr.add_lit, Nat.zero_add, Whole.cell hnew j]
    simpa using hu
  · intro v' w' hown' hg hnil
    have hne : v' ≠ .slice none 0 0 := fun e => by have := (hnil.1 e).2; omega
    obtain ⟨g, cap, cur, rfl, _⟩ := own_form hown' hne
    exact k g cap w' hown' hg
end

theorem Tryz.info9' : (Tryz.prog.info? 9).map (fun i => (i.zero, i.size, i.bytes)) = some (some (.string ByteArray.empty), 1, 16) := by kernel_rfl
theorem size9 : (Tryz.prog.info? 9).map (·.size) = some 1 := by kernel_rfl
theorem size29 : (Tryz.prog.info? 29).map (·.size) = some 1 := by kernel_rfl

/-- append of one new text to a list of texts of one's own. -/
theorem list_pushS {ops : Array Oper} {rest : List Oper} {o : Oper} {a : Act} {w : World} {Q : Exit → Act → World → Prop} (hgd : o.guard = none) (s x : Operand)
    (ho : o.op = .call { callee := .builtin .append, args := #[s, x], argTypes := #[29, 29] })
    (base : Nat) (v : Value) (ss tt : List ByteArray) (hs : a.eval s = v) (hown : Hid (w.ownsRow base 9 1 v ss.length (ss.map Value.string)))
    (h c : Nat) (t : ByteArray) (hx : a.eval x = .slice (some ⟨h, 0, none⟩) 1 c) (hnew : Hid (Whole w h 9 #[.string t])) (htt : Hid (tt = ss ++ [t]))
    (hm : ss.length ≤ 1000000) (hbase : base ≤ w.heap.size)
    (k : ∀ g cap w', w'.ownsRow base 9 1 (.slice (some ⟨g, 0, none⟩) tt.length cap) tt.length (tt.map Value.string) → w.grownBy w' v.ownBlock → wpList Tryz.prog ops Q rest (a.put o.dst (.slice (some ⟨g, 0, none⟩) tt.length cap)) w') :
    wpList Tryz.prog ops Q (o :: rest) a w := by
  obtain ⟨i0, hi, hz0, hz1, hz2⟩ := info_parts Tryz.info9'
  refine list_push hgd s x 29 ho base 9 i0 (.string ByteArray.empty) 1 16 Tryz.underlying29 hi hz0 hz1 hz2 rfl (by omega) v ss.length (ss.map Value.string) hs hown h c [.string t] hx rfl hnew (by intro u hu; simp at hu; subst hu; rfl) (by unfold maxLen; omega) (by omega) hbase fun g cap w' h1 h2 => ?_
  have htt' : tt = ss ++ [t] := htt
  have e1 : tt.length = ss.length + 1 := by rw [htt']; simp
  have e2 : tt.map Value.string = ss.map Value.string ++ [.string t] := by rw [htt']; simp
  have := k g cap w'
  rw [e1, e2] at this
  exact this h1 h2
theorem Strs.of_own {w : World} {base : Nat} {v : Value} {ss : List ByteArray} (h : w.ownsRow base 9 1 v ss.length (ss.map Value.string)) : Strs w v ss := Row.of_own h
end Go.Proofs.R50
end

/- The reference's cut. -/
section
namespace Go.Proofs.R50
open Go.ChangeShapes Go.WideShapes Go.ChangeAt Go.RowKit

theorem splitL_len (c : UInt8) : ∀ l : List UInt8, (splitL c l).length ≤ l.length + 1
  | [] => by simp [splitL]
  | b :: r => by
    have ih := splitL_len c r
    by_cases h : b = c
    · simp [splitL, h]; omega
    · obtain ⟨w, ws, e⟩ := List.exists_cons_of_ne_nil (splitL_ne c r)
      rw [splitL_cons_ne h e]
      rw [e] at ih
      simp at ih ⊢; omega
theorem splitL_part (c : UInt8) : ∀ (l w : List UInt8), w ∈ splitL c l → w.length ≤ l.length
  | [], w, h => by
    have : w = [] := by simpa [splitL] using h
    simp [this]
  | b :: r, w, h => by
    obtain ⟨x, xs, e⟩ := List.exists_cons_of_ne_nil (splitL_ne c r)
    have ih := splitL_part c r
    by_cases hb : b = c
    · subst hb
      have e2 : splitL b (b :: r) = [] :: splitL b r := by simp [splitL]
      rw [e2, List.mem_cons] at h
      rcases h with rfl | h
      · simp
      · have := ih w h
        simp; omega
    · rw [splitL_cons_ne hb e, List.mem_cons] at h
      rcases h with rfl | h
      · have := ih x (by simp [e])
        simp; omega
      · have := ih w (by simp [e, h])
        simp; omega
/-- The parts of the first k bytes. -/
def spl (c : UInt8) (s : ByteArray) (k : Nat) : List ByteArray := (splitL c (s.data.toList.take k)).map ba
theorem spl_len (c : UInt8) (s : ByteArray) (k : Nat) : (spl c s k).length ≤ k + 1 := by
  unfold spl
  rw [List.length_map]
  have := splitL_len c (s.data.toList.take k)
  have : (s.data.toList.take k).length ≤ k := by rw [List.length_take]; omega
  omega
theorem spl_all (c : UInt8) (s : ByteArray) : spl c s s.size = splitB c s := by
  unfold spl splitB
  rw [List.take_of_length_le (by simp)]
theorem take_next {s : ByteArray} {k : Nat} (h : k < s.size) : s.data.toList.take (k + 1) = s.data.toList.take k ++ [s[k]] := by
  have hl : k < s.data.toList.length := by simpa using h
  rw [List.take_succ_eq_append_getElem hl]
  simp [ByteArray.getElem_eq_getElem_data]
theorem spl_eq {c : UInt8} {s : ByteArray} {k : Nat} (h : k < s.size) (hb : s[k] = c) : spl c s (k + 1) = spl c s k ++ [⟨#[]⟩] := by
  unfold spl
  rw [take_next h, hb, splitL_snoc_eq, List.map_append]
  rfl
theorem spl_ne {c : UInt8} {s : ByteArray} {k : Nat} (h : k < s.size) (hb : ¬ s[k] = c) : ∃ (i : List ByteArray) (z : ByteArray), spl c s k = i ++ [z] ∧ spl c s (k + 1) = i ++ [z ++ s.extract k (k + 1)] := by
  obtain ⟨e1, e2⟩ : ∃ (i : List (List UInt8)), ∃ z, splitL c (s.data.toList.take k) = i ++ [z] := ⟨_, _, (List.dropLast_concat_getLast (splitL_ne c _)).symm⟩
  obtain ⟨z, e2⟩ := e2
  refine ⟨e1.map ba, ba z, ?_, ?_⟩
  · unfold spl
    rw [e2, List.map_append]
    rfl
  · unfold spl
    rw [take_next h, splitL_snoc_ne hb]
    simp only [e2, List.dropLast_concat, List.getLast_concat, List.map_append, List.map_cons, List.map_nil]
    congr 2
    have hx : (s.extract k (k + 1)).data.toList = [s[k]] := by
      rw [Lib.extract_data]
      have hl : k < s.data.toList.length := by simpa using h
      rw [show k + 1 - k = 1 from by omega, List.drop_eq_getElem_cons hl]
      simp [ByteArray.getElem_eq_getElem_data]
    have inj : ∀ a b : ByteArray, a.data.toList = b.data.toList → a = b := fun a b q => by rw [← ba_data a, ← ba_data b, q]
    apply inj
    rw [data_ba, ByteArray.data_append, Array.toList_append, hx, data_ba]

theorem spl_part {c : UInt8} {s : ByteArray} {k : Nat} {z : ByteArray} (h : z ∈ spl c s k) : z.size ≤ s.size := by
  unfold spl at h
  obtain ⟨l, hl, rfl⟩ := List.mem_map.1 h
  have := splitL_part c _ l hl
  rw [List.length_take] at this
  have e : (ba l).size = l.length := by simp [ba, ByteArray.size]
  have e2 : s.data.toList.length = s.size := by simp
  rw [e]; omega

def cutF (g m : Nat) (cur : Array Value) (v : Value) : Nat → World → List Value → Prop
  | 0, w, _ => Whole w g 9 cur
  | _, w, ν => ν = [undef] ∧ Whole w g 9 (cur.setIfInBounds m v)
theorem cutF_on {g m : Nat} {cur : Array Value} {v : Value} : ∀ (p : Nat) (w w' : World) (ν : List Value), cutF g m cur v p w ν → Below w.heap.size w w' → cutF g m cur v p w' ν
  | 0, _, _, _, h, hb => Whole.on h hb
  | _ + 1, _, _, _, h, hb => ⟨h.1, Whole.on h.2 hb⟩

set_option maxRecDepth 100000 in
set_option maxHeartbeats 2000000 in
theorem rcut_ok (s : ByteArray) (c : UInt8) (w : World) (hs : s.size ≤ 100000) :
    Calls Tryz.prog 17 #[.string s, .int .u8 c.toNat] w fun e w' => ∃ v, e = .returned v ∧ Strs w' v (splitB c s) ∧ Below w.heap.size w w' := by
  have hown0 : (w.alloc (.cells #[.string ⟨#[]⟩] 9)).ownsRow w.heap.size 9 1 (.slice (some ⟨w.heap.size, 0, none⟩) 1 1) 1 ((spl c s 0).map Value.string) :=
    ⟨rfl, .inr ⟨w.heap.size, 1, #[.string ⟨#[]⟩], rfl, Nat.le_refl _, Whole.new w 9 _, Nat.le_refl _, by unfold maxLen; omega, rfl, rfl⟩⟩
  have hb0 := (Below.refl w.heap.size w).alloc (Nat.le_refl _) (.cells #[.string ⟨#[]⟩] 9)
  have Hown0 := Lib.hid hown0
  have Hb0 := Lib.hid hb0
  clear hown0 hb0
  obtain ⟨C, hC⟩ : ∃ C, c.toNat = C := ⟨_, rfl⟩
  rw [hC]
  go_enter Tryz.func17, Tryz.ntmps17
  go_wp2_with fail
  go_loopw [5, 6] (fun u i wr => ∃ k g cap : Nat, k ≤ s.size ∧ i = .int .i64 k ∧ u = .slice (some ⟨g, 0, none⟩) (spl c s k).length cap ∧ wr.ownsRow w.heap.size 9 1 (.slice (some ⟨g, 0, none⟩) (spl c s k).length cap) (spl c s k).length ((spl c s k).map Value.string) ∧ Below w.heap.size w wr) (fun _ i _ => s.size - (intOf i).toNat)
  case atStart => exact ⟨0, w.heap.size, 1, Nat.zero_le _, rfl, rfl, Hown0, Hb0⟩
  case round =>
    clear Hown0 Hb0
    obtain ⟨k, g, cap, hk, rfl, rfl, hown, hb⟩ := hrel
    have hle := spl_len c s k
    by_cases hlt : k < s.size
    · obtain ⟨b, hbe⟩ : ∃ b, s[k]'hlt = b := ⟨_, rfl⟩
      have hbn : (s[k]'hlt).toNat = b.toNat := by rw [hbe]
      by_cases hbc : b = c
      · have hsp := Lib.hid (spl_eq hlt (hbe.trans hbc))
        have hsz : (spl c s k).length ≤ 1000000 := by omega
        generalize spl c s k = ss at *
        have HownB := Lib.hid (World.ownsRow.alloc hown (.cells #[.string ⟨#[]⟩] 9))
        have HnewB := Lib.hid (Whole.new wr 9 #[.string ⟨#[]⟩])
        have hbs : w.heap.size ≤ (wr.alloc (.cells #[.string ⟨#[]⟩] 9)).heap.size := by have := hb.size; rw [World.size_alloc]; omega
        have HbB := Lib.hid (hb.alloc hb.size (.cells #[.string ⟨#[]⟩] 9))
        have HbC : b.toNat = C := by rw [hbc]; exact hC
        rw [HbC] at hbn
        clear hown hb hC hbe hbc hle HbC
        have hkz : (k : Int) < s.size := by omega
        go_wp2_with (at_builtin; go_loud (refine list_pushS rfl _ _ rfl w.heap.size _ ss (spl c s (k + 1)) rfl HownB wr.heap.size 1 ⟨#[]⟩ rfl HnewB hsp hsz hbs ?_))
        intro g2 cap2 w2 hown2 hg2
        have hb2 := below_append HbB hbs HownB hg2
        have Hown2 := Lib.hid hown2
        have Hb2 := Lib.hid hb2
        clear hown2 hb2 hg2
        go_wp2_with fail
        go_roundw
        case rel => exact ⟨k + 1, g2, cap2, by omega, by go_num, by trivial, Hown2, Hb2⟩
        case measure => first | (simp [intOf]; done) | (simp [intOf]; omega)
      · have hbC : ¬ b.toNat = C := fun q => hbc (UInt8.toNat_inj.1 (q.trans hC.symm))
        obtain ⟨ini, z, hz, hz2⟩ := spl_ne hlt (by rw [hbe]; exact hbc)
        have hbi : ¬ (b.toNat : Int) = C := by omega
        obtain ⟨B, hB⟩ : ∃ B, b.toNat = B := ⟨_, rfl⟩
        rw [hB] at hbn hbi
        have hzl : (spl c s k).length = ini.length + 1 := by rw [hz]; simp
        rw [hzl, hz] at hown
        rw [hzl] at hle ⊢
        obtain ⟨g', cap', cur, e, hbg, hn, hcm, hW, hcs, hct⟩ := own_form hown (by intro e; cases e)
        injection e with e1 e2 e3
        injection e1 with e1
        injection e1 with e1
        subst e1 e3
        generalize hm : ini.length = m at *
        have hzs : z.size ≤ s.size := spl_part (c := c) (k := k) (by rw [hz]; simp)
        clear hC hbe hbc hbC hzl hB
        have Hz2 := Lib.hid hz2
        clear hz2
        have hcz : cur[m]? = some (.string z) := by
          have h1 := congrArg (·[m]?) hct
          simp only [List.getElem?_take, Array.getElem?_toList] at h1
          rw [if_pos (by omega)] at h1
          rw [h1, List.getElem?_map, ← hm, List.getElem?_concat_length]
          rfl
        have hcm2 : m < cur.size := (Array.getElem?_eq_some_iff.1 hcz).1
        have hset : (cur.setIfInBounds m (.string (z ++ s.extract k (k + 1)))).toList.take ((m + 1) * 1) = (ini ++ [z ++ s.extract k (k + 1)]).map Value.string := by
          rw [Array.toList_setIfInBounds, List.take_set, hct, ← hm, List.map_append, List.map_append, List.map_cons, List.map_nil, List.map_cons, List.map_nil]
          rw [List.set_append_right _ _ (by simp)]
          simp
        have Hset := Lib.hid hset
        have Hb := Lib.hid hb
        have Hcs := Lib.hid hcs
        have Hcm2 := Lib.hid hcm2
        have HW := Lib.hid hW
        have Hcz := Lib.hid hcz
        have Hini := Lib.hid hm
        have Hcm := Lib.hid hcm
        have Hbg := Lib.hid hbg
        clear hset hb hcs hct hown hz hW hm hcz hcm2 hcm hbg
        have hwr1 : wrap64 (m : Int) = (m : Int) := by unfold wrap64; omega
        have hwr2 : wrap64 ((k : Int) + 1) = (k : Int) + 1 := by unfold wrap64; omega
        have hkz : (k : Int) < s.size := by omega
        have hk1 : (k : Int) + 1 ≤ s.size := by omega
        have hk0 : (0 : Int) ≤ (k : Int) + 1 := by omega
        have hkk : (k : Int) ≤ (k : Int) + 1 := by omega
        have htn : ((k : Int) + 1).toNat = k + 1 := by omega
        have hm1 : (m : Int) < (m : Int) + 1 := by omega
        have hno : ¬ 9223372036854775807 < z.size + (s.extract k (k + 1)).size := by
          have hex : (s.extract k (k + 1)).size = 1 := by rw [ByteArray.size_extract, Nat.min_eq_left (by omega)]; omega
          rw [hex]
          omega
        clear hle hzs
        go_wp2_with fail
        refine wp_region_net2 [17] (some g) (cutF g m cur (.string (z ++ s.extract k (k + 1)))) (by kernel_rfl) (by kernel_rfl) (by kernel_rfl) HW (by kernel_rfl) (by decide) ?_
        apply Exists.intro
        apply And.intro
        · rintro W1 ⟨ν, hν, hWg, hF⟩
          have hF1 : Whole W1 g 9 cur := by
            have hν' : ν.length < 1 := hν
            have : ν.length = 0 := by omega
            rw [this] at hF
            exact hF
          have hx : ∀ (X : Ext W1), X.val.cell? ⟨g, m, none⟩ = some (.string z) := fun X => ((hF1.on X.below).cell m).trans Hcz
          simp only [quietOps, List.contains_cons, List.contains_nil]
          simp
          clear hF hF1
          repeat (first | go_big_quiet_skip | (go_big_quiet_want; (go_big_quiet_op; (try rw [hwr1]); (try rw [hwr2]); (first | go_big_quiet_on | fail))))
          exact wpQuiet_nil rfl
        refine ⟨⟨cutF_on, fun j hj => ?_⟩, ?_⟩
        · match j, hj with
          | 0, _ =>
            refine ⟨_, rfl, .inl rfl, fun w5 ν hν hw5 hf => ?_⟩
            obtain rfl : ν = [] := List.eq_nil_of_length_eq_zero hν
            exact leaves_put 9 9 _ _ g m _ (.string (z ++ s.extract k (k + 1))) rfl rfl rfl size9 rfl rfl hf Hcm2 hw5 (.inr rfl) fun w6 z6 h6 => ⟨rfl, z6⟩
        · intro ν w5 hν hw5 hf
          obtain ⟨rfl, z5⟩ := hf
          have hb5 := below_row Hb hw5 Hbg (Below.size Hb)
          have hown5 := own_of (base := w.heap.size) (n := m + 1) (cap := cap) (size := 1) Hbg hn Hcm z5 (by rw [Array.size_setIfInBounds]; exact Hcs)
          rw [(Hset : _ = _)] at hown5
          have Hown5 := Lib.hid hown5
          have Hb5 := Lib.hid hb5
          clear hown5 hb5 z5
          simp only [dstsOfS, dstAt, List.map_cons, List.map_nil, fillA]
          simp [Act.put]
          go_wp2_with fail
          have hl2 : (spl c s (k + 1)).length = m + 1 := by rw [(Hz2 : _ = _), List.length_append, (Hini : _ = m)]; rfl
          refine ⟨⟨k + 1, g, cap, by omega, by go_num, by rw [hl2], ?_, Hb5⟩, by simp [intOf]; omega⟩
          rw [hl2, (Hz2 : _ = _)]
          exact Hown5
    · have he : spl c s k = splitB c s := by
        obtain rfl : k = s.size := by omega
        exact spl_all c s
      have hS := Strs.of_own hown
      rw [he] at hS ⊢
      have HS := Lib.hid hS
      have Hb := Lib.hid hb
      clear hown hb hC he hle hS
      go_wp2_with fail
      go_ret
      exact ⟨_, rfl, HS, Hb⟩
end Go.Proofs.R50
end

/- script.set. -/
section
namespace Go.Proofs.R50
open Go.ChangeShapes Go.WideShapes Go.ChangeAt Go.RowKit

def actC (wd : ByteArray) (nv : Value) (n : Int) (tx : ByteArray) (cn tg : Int) : Array Value := #[.string wd, nv, .int .i64 n, .string tx, .int .i64 cn, .int .i64 tg, .bool false, .string ⟨#[]⟩, .slice none 0 0, .slice none 0 0, .slice none 0 0, .slice none 0 0, .int .i64 0, .int .i64 0, .int .i64 0, .int .i64 0, .int .i64 0, .int .i64 0, .int .i64 0]

theorem grown_put {w w1 : World} {g : Nat} (hb : Below w.heap.size w w1) (i : Nat) (v : Value) : w.grownBy (w1.setCell ⟨g, i, none⟩ v) (some g) :=
  grownBy_trans (grownBy_of_below hb) (setCells_off [v] i _ _ _ (World.grownBy.refl w1 _) (.inr rfl))

set_option maxRecDepth 100000 in
set_option maxHeartbeats 2000000 in
theorem set_n (g : Nat) (wd tx : ByteArray) (nv : Value) (n cn tg : Int) (v : ByteArray) (w : World) (hw : Whole w g 37 (actC wd nv n tx cn tg)) :
    Calls Tryz.prog 33 #[.pointer (some ⟨g, 0, none⟩), .string ⟨#[110, 61]⟩, .string v] w fun e w' => e = .returned (.bool (numP v.data.toList).isSome) ∧ Whole w' g 37 (actC wd nv ((numP v.data.toList).getD 0) tx cn tg) ∧ w.grownBy w' (some g) := by
  have hc := parse_ok v w
  obtain ⟨N, hN⟩ : ∃ N, (numP v.data.toList).getD 0 = N := ⟨_, rfl⟩
  obtain ⟨B, hB⟩ : ∃ B, (numP v.data.toList).isSome = B := ⟨_, rfl⟩
  rw [hN, hB] at hc ⊢
  have Hc := Lib.hid hc
  have Hw := Lib.hid hw
  clear hc hN hB hw
  go_enter Tryz.func33, Tryz.ntmps33
  go_wp2_with fail
  refine Calls.mono Hc ?_
  rintro e w1 ⟨rfl, hb⟩
  have hw1 := Whole.on Hw hb
  have hc2 : w1.cell? ⟨g, 2, none⟩ = some (.int .i64 n) := hw1.cell 2
  have hf2 := hw1.free 2
  have HW := Lib.hid (Whole.put hw1 2 (.int .i64 N))
  have Hb := Lib.hid (grown_put (g := g) hb 2 (.int .i64 N))
  clear hw1 hb
  go_wp2_with fail
  go_ret
  exact ⟨rfl, HW, Hb⟩

set_option maxRecDepth 100000 in
set_option maxHeartbeats 2000000 in
theorem set_c (g : Nat) (wd tx : ByteArray) (nv : Value) (n cn tg : Int) (v : ByteArray) (w : World) (hw : Whole w g 37 (actC wd nv n tx cn tg)) :
    Calls Tryz.prog 33 #[.pointer (some ⟨g, 0, none⟩), .string ⟨#[99, 61]⟩, .string v] w fun e w' => e = .returned (.bool (numP v.data.toList).isSome) ∧ Whole w' g 37 (actC wd nv n tx ((numP v.data.toList).getD 0) tg) ∧ w.grownBy w' (some g) := by
  have hc := parse_ok v w
  obtain ⟨N, hN⟩ : ∃ N, (numP v.data.toList).getD 0 = N := ⟨_, rfl⟩
  obtain ⟨B, hB⟩ : ∃ B, (numP v.data.toList).isSome = B := ⟨_, rfl⟩
  rw [hN, hB] at hc ⊢
  have Hc := Lib.hid hc
  have Hw := Lib.hid hw
  clear hc hN hB hw
  go_enter Tryz.func33, Tryz.ntmps33
  go_wp2_with fail
  refine Calls.mono Hc ?_
  rintro e w1 ⟨rfl, hb⟩
  have hw1 := Whole.on Hw hb
  have hc2 : w1.cell? ⟨g, 4, none⟩ = some (.int .i64 cn) := hw1.cell 4
  have hf2 := hw1.free 4
  have HW := Lib.hid (Whole.put hw1 4 (.int .i64 N))
  have Hb := Lib.hid (grown_put (g := g) hb 4 (.int .i64 N))
  clear hw1 hb
  go_wp2_with fail
  go_ret
  exact ⟨rfl, HW, Hb⟩

set_option maxRecDepth 100000 in
set_option maxHeartbeats 2000000 in
theorem set_to (g : Nat) (wd tx : ByteArray) (nv : Value) (n cn tg : Int) (v : ByteArray) (w : World) (hw : Whole w g 37 (actC wd nv n tx cn tg)) :
    Calls Tryz.prog 33 #[.pointer (some ⟨g, 0, none⟩), .string ⟨#[116, 111, 61]⟩, .string v] w fun e w' => e = .returned (.bool (hexP v.data.toList).isSome) ∧ Whole w' g 37 (actC wd nv n tx cn ((hexP v.data.toList).getD 0)) ∧ w.grownBy w' (some g) := by
  have hc := unhex_ok v w
  obtain ⟨N, hN⟩ : ∃ N, (hexP v.data.toList).getD 0 = N := ⟨_, rfl⟩
  obtain ⟨B, hB⟩ : ∃ B, (hexP v.data.toList).isSome = B := ⟨_, rfl⟩
  rw [hN, hB] at hc ⊢
  have Hc := Lib.hid hc
  have Hw := Lib.hid hw
  clear hc hN hB hw
  go_enter Tryz.func33, Tryz.ntmps33
  go_wp2_with fail
  refine Calls.mono Hc ?_
  rintro e w1 ⟨rfl, hb⟩
  have hw1 := Whole.on Hw hb
  have hc2 : w1.cell? ⟨g, 5, none⟩ = some (.int .i64 tg) := hw1.cell 5
  have hf2 := hw1.free 5
  have HW := Lib.hid (Whole.put hw1 5 (.int .i64 N))
  have Hb := Lib.hid (grown_put (g := g) hb 5 (.int .i64 N))
  clear hw1 hb
  go_wp2_with fail
  go_ret
  exact ⟨rfl, HW, Hb⟩

set_option maxRecDepth 100000 in
set_option maxHeartbeats 2000000 in
theorem set_text (g : Nat) (wd tx : ByteArray) (nv : Value) (n cn tg : Int) (v : ByteArray) (w : World) (hw : Whole w g 37 (actC wd nv n tx cn tg)) :
    Calls Tryz.prog 33 #[.pointer (some ⟨g, 0, none⟩), .string ⟨#[116, 101, 120, 116, 61]⟩, .string v] w fun e w' => e = .returned (.bool true) ∧ Whole w' g 37 (actC wd nv n v cn tg) ∧ w.grownBy w' (some g) := by
  have hc2 : w.cell? ⟨g, 3, none⟩ = some (.string tx) := hw.cell 3
  have hf2 := hw.free 3
  have HW := Lib.hid (Whole.put hw 3 (.string v))
  have Hb := Lib.hid (grown_put (g := g) (w := w) (w1 := w) (Below.refl _ _) 3 (.string v))
  clear hw
  go_enter Tryz.func33, Tryz.ntmps33
  go_wp2_with fail
  go_ret
  exact ⟨rfl, HW, Hb⟩
end Go.Proofs.R50
end

/- What a line says, step by step; plain. -/
section
namespace Go.Proofs.R50
open Go.ChangeShapes Go.WideShapes Go.ChangeAt Go.RowKit

def zeroC : Array Value := actC ⟨#[]⟩ (.slice none 0 0) 0 ⟨#[]⟩ 0 0
/-- The act of a line: its word, what is read, the text. -/
def actOf (line : ByteArray) : Option (ByteArray × AS × ByteArray) :=
  match splitB 32 line with
  | [] => none
  | w :: r => if isWord w then (actGo r AS.z).map fun p => (w, p.1, p.2) else none
def ActPost (line : ByteArray) (w : World) (e : Ending) (w' : World) : Prop :=
  match actOf line with
  | none => e = .returned (.tuple #[.agg zeroC, .bool false]) ∧ Below w.heap.size w w'
  | some (wd, A, tx) => ∃ nv, e = .returned (.tuple #[.agg (actC wd nv A.n tx A.cn A.tg), .bool true]) ∧ w'.ownsRow w.heap.size 9 1 nv A.names.length (A.names.map Value.string) ∧ Below w.heap.size w w'
theorem actPost_none {line : ByteArray} {w w' : World} {e : Ending} (h : actOf line = none) (h1 : e = .returned (.tuple #[.agg zeroC, .bool false])) (h2 : Below w.heap.size w w') : ActPost line w e w' := by
  unfold ActPost; rw [h]; exact ⟨h1, h2⟩
theorem actPost_some {line wd tx : ByteArray} {A : AS} {w w' : World} {e : Ending} {nv : Value} (h : actOf line = some (wd, A, tx)) (h1 : e = .returned (.tuple #[.agg (actC wd nv A.n tx A.cn A.tg), .bool true])) (h2 : w'.ownsRow w.heap.size 9 1 nv A.names.length (A.names.map Value.string)) (h3 : Below w.heap.size w w') : ActPost line w e w' := by
  unfold ActPost; rw [h]; exact ⟨nv, h1, h2, h3⟩

theorem under37 : ∃ fs, Tryz.prog.underlying 37 = some (.struct fs) := ⟨_, Tryz.underlying37⟩
theorem size37 : (Tryz.prog.info? 37).map (·.size) = some 19 := by kernel_rfl
/-- The results of an act's reader. -/
theorem results_act {fn : Func} (h : fn.results = #[.cell 2 37, .tmp 3]) (tmps : Array Value) (w : World) (g : Nat) (cs : Array Value) (b : Value)
    (hp : tmps.getD 2 undef = .pointer (some ⟨g, 0, none⟩)) (hw : Whole w g 37 cs) (hs : cs.size = 19) (hb : tmps.getD 3 undef = b) : (results fn tmps).run Tryz.prog w = .ok (.tuple #[.agg cs, b]) w := by
  obtain ⟨fs, hu⟩ := under37
  rw [results_cell_tmp h, hp, hb]
  simp only [asAddr, Sem.run_pure, Result.andThen_ok]
  rw [run_loadVar_row w g 37 37 cs (0, 0) (.struct fs) hw hu rfl (by rw [size37, hs])]
  rfl

theorem actC_one (wd : ByteArray) (ao : Option Addr) (k cap : Nat) (n : Int) (tx : ByteArray) (cn tg : Int) : (actC wd (.slice ao k cap) n tx cn tg).all (·.oneCell') = true := by simp [actC, Value.oneCell']
theorem list_load37 {ops : Array Oper} {rest : List Oper} {a : Act} {w : World} {Q : Exit → Act → World → Prop} {dst : Option Tmp} {x : Operand} {ty : TypeId} {ps : String} {af : Array Edge}
    (b o : Nat) (cs : Array Value) (hr : Hid (w.rangeAt b o cs.toList)) {t : TypeId} {gd : Option (Tmp × Bool)} (ht : t = 37) (hg : gd = none) (hl : cs.size = 19) (hx : a.eval x = .pointer (some ⟨b, o, none⟩)) (h : wpList Tryz.prog ops Q rest (a.put dst (.agg cs)) w) :
    wpList Tryz.prog ops Q ({ dst := dst, op := .load t x, type := ty, pos := ps, after := af, guard := gd } :: rest) a w := by
  subst ht hg
  obtain ⟨fs, hu⟩ := under37
  have h' : wpList Tryz.prog ops Q rest (a.put dst (.agg cs.toList.toArray)) w := by simpa using h
  exact wpList_load_mid rfl 37 x rfl b o hx cs.toList _ hr hu rfl (by rw [size37, Array.length_toList, hl]) h'
theorem list_store37 {ops : Array Oper} {rest : List Oper} {a : Act} {w : World} {Q : Exit → Act → World → Prop} {dst : Option Tmp} {x y : Operand} {ty : TypeId} {ps : String} {af : Array Edge}
    (b o : Nat) (cs : Array Value) (hr : Hid (w.there b o 19)) {t : TypeId} {gd : Option (Tmp × Bool)} (ht : t = 37) (hg : gd = none) (hl : cs.size = 19) (h1 : Hid (cs.all (·.oneCell') = true)) (hx : a.eval x = .pointer (some ⟨b, o, none⟩)) (hy : a.eval y = .agg cs)
    (h : wpList Tryz.prog ops Q rest (a.put dst undef) (w.setCells b o cs.toList)) :
    wpList Tryz.prog ops Q ({ dst := dst, op := .store t x y, type := ty, pos := ps, after := af, guard := gd } :: rest) a w := by
  subst ht hg
  exact wpList_store_mid rfl 37 x y rfl b o cs hx hy (by rw [hl]; exact hr) (by rw [size37, hl]) h1 h

/-- The store of an empty act; Z: its cells. -/
theorem list_storeZ {ops : Array Oper} {rest : List Oper} {a : Act} {w : World} {Q : Exit → Act → World → Prop} {dst : Option Tmp} {x y : Operand} {ty : TypeId} {ps : String} {af : Array Edge}
    (b o : Nat) (Z : Array Value) (hZ : Hid (zeroC = Z)) (hr : Hid (w.there b o 19)) {t : TypeId} {gd : Option (Tmp × Bool)} (ht : t = 37) (hg : gd = none) (hx : a.eval x = .pointer (some ⟨b, o, none⟩)) (hy : a.eval y = .agg zeroC)
    (h : wpList Tryz.prog ops Q rest (a.put dst undef) (w.setCells b o Z.toList)) :
    wpList Tryz.prog ops Q ({ dst := dst, op := .store t x y, type := ty, pos := ps, after := af, guard := gd } :: rest) a w :=
  list_store37 b o zeroC hr ht hg rfl (actC_one _ _ _ _ _ _ _ _) hx hy (by rw [(hZ : _ = Z)]; exact h)
theorem wpList_update_str {P : Program} {ops : Array Oper} {rest : List Oper} {o : Oper} {a : Act} {w : World} {Q : Exit → Act → World → Prop} (hg : o.guard = none) (m x v : Operand) (t k e : TypeId) (hop : o.op = Op.mapUpdate t m x v)
    (ht : P.underlying t = some (.map k e)) (hk : P.underlying k = some .string) (b : Nat) (ks : List ByteArray) (hown : Hid (StrKeys w b ks)) (hm : a.eval m = .map (some b)) (z : ByteArray) (hx : a.eval x = .string z) (hz : Hid (z ∉ ks)) (hv : a.eval v = .bool true)
    (hK : ∀ w', StrKeys w' b (ks ++ [z]) → w.grownBy w' (some b) → wpList P ops Q rest (a.put o.dst undef) w') : wpList P ops Q (o :: rest) a w := by
  refine wpList_plain hg fun K' hK' => ?_
  obtain ⟨w', hrun, r1, r2, _⟩ := run_update_str ht hk hown z hz
  unfold Oper.wp
  simp [execOp, hop, hm, hx, hv, hrun, Result.andThen]
  exact hK' _ _ (hK w' r1 r2)

/-- Which marks have been seen. -/
def KeysOf (A : AS) (ks : List ByteArray) : Prop := (mark 0 ∈ ks ↔ A.s1 = true) ∧ (mark 1 ∈ ks ↔ A.s2 = true) ∧ (mark 2 ∈ ks ↔ A.s3 = true) ∧ mark 3 ∉ ks ∧ (ks = [] ↔ A.s1 = false ∧ A.s2 = false ∧ A.s3 = false)
def ActInv (line : ByteArray) (w : World) (u6 u7 u8 : Value) (wr : World) : Prop :=
  ∃ (rest : ByteArray) (more : Bool), u7 = .string rest ∧ u8 = .bool more ∧ Whole wr w.heap.size 37 zeroC ∧ Below w.heap.size w wr ∧
  ((u6 = .bool true ∧ more = true ∧ rest = line ∧ Whole wr (w.heap.size + 1) 37 zeroC ∧ StrKeys wr (w.heap.size + 2) []) ∨
   (u6 = .bool false ∧ ∃ wd A tx nv ks, Whole wr (w.heap.size + 1) 37 (actC wd nv A.n tx A.cn A.tg) ∧ wr.ownsRow w.heap.size 9 1 nv A.names.length (A.names.map Value.string) ∧ StrKeys wr (w.heap.size + 2) ks ∧ (more = true → KeysOf A ks) ∧ A.names.length + rest.size ≤ line.size ∧
     (more = true → tx = ⟨#[]⟩ ∧ actOf line = (actGo (splitB 32 rest) A).map fun p => (wd, p.1, p.2)) ∧ (more = false → actOf line = some (wd, A, tx))))
def strOf : Value → ByteArray
  | .string s => s
  | _ => ByteArray.empty
def actM (u7 u8 : Value) : Nat := match u8 with
  | .bool true => (strOf u7).size + 1
  | _ => 0

theorem zero_sz : zeroC.size = 19 := rfl
theorem zero_one : zeroC.all (·.oneCell') = true := actC_one _ _ _ _ _ _ _ _
theorem zero_at (w : World) : Whole ((w.alloc (.cells zeroC 37)).alloc (.cells zeroC 37)) w.heap.size 37 zeroC :=
  Whole.on (Whole.new w 37 zeroC) ((Below.refl _ _).alloc (Nat.le_refl _) _)
theorem there19 {w : World} {g : Nat} {cs : Array Value} (h : Whole w g 37 cs) (hs : cs.size = 19) : w.there g 0 19 := by
  have := h.there
  rwa [hs] at this
theorem below_cells {b g : Nat} {w w1 : World} (h : Below b w w1) (hg : b ≤ g) (hb1 : b ≤ w1.heap.size) (vs : List Value) : Below b w (w1.setCells g 0 vs) :=
  below_row h (setCells_off vs 0 w1 w1 (some g) (World.grownBy.refl w1 _) (.inr rfl)) hg hb1

theorem cut_parts {s a b : ByteArray} {m : Bool} (h : cut3 32 s = (a, b, m)) : ∃ r, splitB 32 s = a :: r ∧ (m = true → r = splitB 32 b ∧ b.size < s.size) ∧ (m = false → r = [] ∧ a = s ∧ b = ⟨#[]⟩) := by
  cases m with
  | true =>
    have h1 : (cut3 32 s).2.2 = true := by rw [h]
    obtain ⟨h2, h3⟩ := cut3_yes h1
    rw [h] at h2 h3
    exact ⟨_, h2, fun _ => ⟨rfl, h3⟩, (fun q => by cases q)⟩
  | false =>
    have h1 : (cut3 32 s).2.2 = false := by rw [h]
    obtain ⟨h2, h3⟩ := cut3_no h1
    have h4 : b = ⟨#[]⟩ := by
      by_cases hx : Lib.indexByte s.data.toList 32 = -1
      · have e : cut3 32 s = (s, ByteArray.empty, false) := by unfold cut3; rw [if_pos hx]
        rw [e] at h
        injection h with _ h
        injection h with h _
        exact h.symm
      · have e : (cut3 32 s).2.2 = true := by unfold cut3; rw [if_neg hx]
        rw [h] at e
        cases e
    rw [h] at h2 h3
    exact ⟨[], h2, (fun q => by cases q), fun _ => ⟨rfl, h3, h4⟩⟩
theorem actOf_no {line a : ByteArray} {r : List ByteArray} (h : splitB 32 line = a :: r) (hw : isWord a = false) : actOf line = none := by
  unfold actOf
  rw [h]
  simp [hw]
theorem actOf_go {line a : ByteArray} {r : List ByteArray} (h : splitB 32 line = a :: r) (hw : isWord a = true) : actOf line = (actGo r AS.z).map fun p => (a, p.1, p.2) := by
  unfold actOf
  rw [h]
  simp [hw]

theorem actM_lt {b s : ByteArray} {m : Bool} (h : m = true → b.size < s.size) : actM (.string b) (.bool m) < actM (.string s) (.bool true) := by
  cases m with
  | true => have := h rfl; simp [actM, strOf]; omega
  | false => simp [actM]
theorem fieldN_le (s : ByteArray) : fieldN s = 0 ∨ fieldN s = 1 ∨ fieldN s = 2 ∨ fieldN s = 3 ∨ fieldN s = 4 := by
  unfold fieldN
  split
  · simp
  · split
    · simp
    · split
      · simp
      · split <;> simp
theorem fieldN_ne {s : ByteArray} (h : fieldN s ≠ 0) : s ≠ ⟨#[]⟩ := fun e => by
  subst e
  exact h (by decide)
theorem field_text {s : ByteArray} (h : fieldN s = 4) : 5 ≤ s.size := by
  unfold fieldN at h
  split at h
  · cases h
  · split at h
    · cases h
    · split at h
      · cases h
      · split at h
        · rename_i hp
          unfold pre at hp
          exact (of_decide_eq_true hp).1
        · cases h
theorem part_le {c : UInt8} {s a : ByteArray} {r : List ByteArray} (h : splitB c s = a :: r) : a.size ≤ s.size := by
  have hm : a ∈ spl c s s.size := by rw [spl_all, h]; simp
  exact spl_part hm
theorem textOf_eq {s a : ByteArray} {r : List ByteArray} (h : splitB 32 s = a :: r) (h5 : 5 ≤ a.size) : s.extract 5 s.size = textOf a r := by
  unfold splitB at h
  obtain ⟨x, xs, e⟩ := List.exists_cons_of_ne_nil (splitL_ne 32 s.data.toList)
  rw [e, List.map_cons] at h
  injection h with h1 h2
  have hj := splitL_join 32 _ x xs e
  have hx : 5 ≤ x.length := by
    have : (ba x).size = x.length := by simp [ba, ByteArray.size]
    rw [h1] at this
    omega
  have inj : ∀ a b : ByteArray, a.data.toList = b.data.toList → a = b := fun a b q => by rw [← ba_data a, ← ba_data b, q]
  apply inj
  unfold textOf
  rw [Lib.extract_to_end, data_ba, hj, List.drop_append_of_le_length hx, ← h1, data_ba, ← h2, List.flatMap_map]
  congr 1

theorem ne_empty {a : ByteArray} (h : ¬ a = ⟨#[]⟩) : ¬ a = ByteArray.empty := h
theorem go_empty (r : List ByteArray) (A : AS) : actGo (⟨#[]⟩ :: r) A = none := by
  rw [actGo, if_pos (show (⟨#[]⟩ : ByteArray) = ByteArray.empty from rfl)]
theorem go_name {a : ByteArray} (r : List ByteArray) {A : AS} (ha : ¬ a = ⟨#[]⟩) (hk : fieldN a = 0) (h : A.s1 = false ∧ A.s2 = false ∧ A.s3 = false) : actGo (a :: r) A = actGo r { A with names := A.names ++ [a] } := by
  rw [actGo, if_neg (ne_empty ha), if_pos hk, if_neg (by simp [h.1, h.2.1, h.2.2])]
theorem go_name_bad {a : ByteArray} (r : List ByteArray) {A : AS} (hk : fieldN a = 0) (h : ¬ (A.s1 = false ∧ A.s2 = false ∧ A.s3 = false)) : actGo (a :: r) A = none := by
  by_cases ha : a = ⟨#[]⟩
  · subst ha; exact go_empty r A
  · rw [actGo, if_neg (ne_empty ha), if_pos hk, if_pos]
    cases h1 : A.s1 <;> cases h2 : A.s2 <;> cases h3 : A.s3 <;> simp_all
theorem go_n_bad {a : ByteArray} (r : List ByteArray) {A : AS} (hk : fieldN a = 1) (h : A.s1 = true) : actGo (a :: r) A = none := by
  rw [actGo, if_neg (ne_empty (fieldN_ne (by omega))), if_neg (by omega), if_pos hk, if_pos h]
theorem go_n_no {a : ByteArray} (r : List ByteArray) {A : AS} (hk : fieldN a = 1) (h : A.s1 = false) (hn : numP (fval a).data.toList = none) : actGo (a :: r) A = none := by
  rw [actGo, if_neg (ne_empty (fieldN_ne (by omega))), if_neg (by omega), if_pos hk, if_neg (by rw [h]; decide), hn]
theorem go_n_yes {a : ByteArray} (r : List ByteArray) {A : AS} (hk : fieldN a = 1) (h : A.s1 = false) {N : Int} (hn : numP (fval a).data.toList = some N) : actGo (a :: r) A = actGo r { A with n := N, s1 := true } := by
  rw [actGo, if_neg (ne_empty (fieldN_ne (by omega))), if_neg (by omega), if_pos hk, if_neg (by rw [h]; decide), hn]
theorem go_c_bad {a : ByteArray} (r : List ByteArray) {A : AS} (hk : fieldN a = 2) (h : A.s2 = true) : actGo (a :: r) A = none := by
  rw [actGo, if_neg (ne_empty (fieldN_ne (by omega))), if_neg (by omega), if_neg (by omega), if_pos hk, if_pos h]
theorem go_c_no {a : ByteArray} (r : List ByteArray) {A : AS} (hk : fieldN a = 2) (h : A.s2 = false) (hn : numP (fval a).data.toList = none) : actGo (a :: r) A = none := by
  rw [actGo, if_neg (ne_empty (fieldN_ne (by omega))), if_neg (by omega), if_neg (by omega), if_pos hk, if_neg (by rw [h]; decide), hn]
theorem go_c_yes {a : ByteArray} (r : List ByteArray) {A : AS} (hk : fieldN a = 2) (h : A.s2 = false) {N : Int} (hn : numP (fval a).data.toList = some N) : actGo (a :: r) A = actGo r { A with cn := N, s2 := true } := by
  rw [actGo, if_neg (ne_empty (fieldN_ne (by omega))), if_neg (by omega), if_neg (by omega), if_pos hk, if_neg (by rw [h]; decide), hn]
theorem go_to_bad {a : ByteArray} (r : List ByteArray) {A : AS} (hk : fieldN a = 3) (h : A.s3 = true) : actGo (a :: r) A = none := by
  rw [actGo, if_neg (ne_empty (fieldN_ne (by omega))), if_neg (by omega), if_neg (by omega), if_neg (by omega), if_pos hk, if_pos h]
theorem go_to_no {a : ByteArray} (r : List ByteArray) {A : AS} (hk : fieldN a = 3) (h : A.s3 = false) (hn : hexP (fval a).data.toList = none) : actGo (a :: r) A = none := by
  rw [actGo, if_neg (ne_empty (fieldN_ne (by omega))), if_neg (by omega), if_neg (by omega), if_neg (by omega), if_pos hk, if_neg (by rw [h]; decide), hn]
theorem go_to_yes {a : ByteArray} (r : List ByteArray) {A : AS} (hk : fieldN a = 3) (h : A.s3 = false) {N : Int} (hn : hexP (fval a).data.toList = some N) : actGo (a :: r) A = actGo r { A with tg := N, s3 := true } := by
  rw [actGo, if_neg (ne_empty (fieldN_ne (by omega))), if_neg (by omega), if_neg (by omega), if_neg (by omega), if_pos hk, if_neg (by rw [h]; decide), hn]
theorem go_text {a : ByteArray} (r : List ByteArray) (A : AS) (hk : fieldN a = 4) : actGo (a :: r) A = some (A, textOf a r) := by
  rw [actGo, if_neg (ne_empty (fieldN_ne (by omega))), if_neg (by omega), if_neg (by omega), if_neg (by omega), if_neg (by omega)]

theorem mark01 : mark 0 ≠ mark 1 := by decide
theorem mark02 : mark 0 ≠ mark 2 := by decide
theorem mark03 : mark 0 ≠ mark 3 := by decide
theorem mark12 : mark 1 ≠ mark 2 := by decide
theorem mark13 : mark 1 ≠ mark 3 := by decide
theorem mark23 : mark 2 ≠ mark 3 := by decide
theorem keys_n {A : AS} {ks : List ByteArray} (h : KeysOf A ks) (N : Int) : KeysOf { A with n := N, s1 := true } (ks ++ [mark 0]) := by
  obtain ⟨h1, h2, h3, h4, h5⟩ := h
  refine ⟨by simp, ?_, ?_, ?_, by simp⟩
  · rw [List.mem_append, List.mem_singleton]; exact ⟨fun q => q.elim h2.1 (fun e => absurd e.symm mark01), fun q => .inl (h2.2 q)⟩
  · rw [List.mem_append, List.mem_singleton]; exact ⟨fun q => q.elim h3.1 (fun e => absurd e.symm mark02), fun q => .inl (h3.2 q)⟩
  · rw [List.mem_append, List.mem_singleton]; exact fun q => q.elim h4 (fun e => mark03 e.symm)
theorem keys_c {A : AS} {ks : List ByteArray} (h : KeysOf A ks) (N : Int) : KeysOf { A with cn := N, s2 := true } (ks ++ [mark 1]) := by
  obtain ⟨h1, h2, h3, h4, h5⟩ := h
  refine ⟨?_, by simp, ?_, ?_, by simp⟩
  · rw [List.mem_append, List.mem_singleton]; exact ⟨fun q => q.elim h1.1 (fun e => absurd e mark01), fun q => .inl (h1.2 q)⟩
  · rw [List.mem_append, List.mem_singleton]; exact ⟨fun q => q.elim h3.1 (fun e => absurd e.symm mark12), fun q => .inl (h3.2 q)⟩
  · rw [List.mem_append, List.mem_singleton]; exact fun q => q.elim h4 (fun e => mark13 e.symm)
theorem keys_to {A : AS} {ks : List ByteArray} (h : KeysOf A ks) (N : Int) : KeysOf { A with tg := N, s3 := true } (ks ++ [mark 2]) := by
  obtain ⟨h1, h2, h3, h4, h5⟩ := h
  refine ⟨?_, ?_, by simp, ?_, by simp⟩
  · rw [List.mem_append, List.mem_singleton]; exact ⟨fun q => q.elim h1.1 (fun e => absurd e mark02), fun q => .inl (h1.2 q)⟩
  · rw [List.mem_append, List.mem_singleton]; exact ⟨fun q => q.elim h2.1 (fun e => absurd e mark12), fun q => .inl (h2.2 q)⟩
  · rw [List.mem_append, List.mem_singleton]; exact fun q => q.elim h4 (fun e => mark23 e.symm)
/-- A map is no row. -/
theorem keys_ne_own {w : World} {base b : Nat} {e : TypeId} {size n : Nat} {v : Value} {xs : List Value} {ks : List ByteArray} (h : w.ownsRow base e size v n xs) (hk : StrKeys w b ks) : some b ≠ v.ownBlock := fun q => by
  rcases h.2 with ⟨rfl, _⟩ | ⟨g', cap, cur, rfl, _, hg, _⟩
  · cases q
  · obtain rfl : b = g' := by injection q
    obtain ⟨es, clock, hb, _⟩ := hk
    rw [hb] at hg
    cases hg
theorem keys_ne_whole {w : World} {g b : Nat} {t : TypeId} {cs : Array Value} {ks : List ByteArray} (h : Whole w g t cs) (hk : StrKeys w b ks) : g ≠ b := fun q => by
  subst q
  obtain ⟨es, clock, hb, _⟩ := hk
  unfold Whole at h
  rw [hb] at h
  cases h
theorem own_keys {w w' : World} {base b : Nat} {e : TypeId} {size n : Nat} {v : Value} {xs : List Value} {ks : List ByteArray} (h : w.ownsRow base e size v n xs) (hk : StrKeys w b ks) (hg : w.grownBy w' (some b)) : w'.ownsRow base e size v n xs :=
  h.kept hg (.inr fun e' => keys_ne_own h hk e'.symm)

theorem under9 : Tryz.prog.underlying 9 = some .string := by kernel_rfl
theorem zeroT4 (w : World) : (zeroValue 4).run Tryz.prog w = .ok (.bool false) w := by kernel_rfl
theorem look_mark {w : World} {b : Nat} {ks : List ByteArray} (h : StrKeys w b ks) (m : ByteArray) : (Instr.lookup 70 (.map (some b)) (.string m) false).run Tryz.prog w = .ok (.bool (decide (m ∈ ks))) w := run_lookup_str Tryz.underlying70 under9 (zeroT4 w) h m
theorem isEmpty_no_size {a : ByteArray} (h : a.toList.isEmpty = false) : a.size ≠ 0 := fun e => by
  have : a = ⟨#[]⟩ := by cases a with | mk d => exact congrArg ByteArray.mk (Array.size_eq_zero_iff.1 e)
  subst this
  rw [Lib.toList_data] at h
  simp at h
theorem isEmpty_no {a : ByteArray} (h : ¬ a = ⟨#[]⟩) : a.toList.isEmpty = false := by
  cases hq : a.toList with
  | nil =>
    rw [Lib.toList_data] at hq
    exact absurd (by rw [← ba_data a, hq]; rfl) h
  | cons b r => rfl
end Go.Proofs.R50
end
