/- ModerateSpares, plain: the law's function gives true. -/
import Derived.Test.YthbenojbjjgnaaaGreatTAq
import Derived.Test.YthbenojbjjgnaaaGreatTBn
import Derived.Test.YthbenojbjjgnaaaGreatTBo
import Derived.Test.YthbenojbjjgnaaaGreatTBp
import Derived.Test.YthbenojbjjgnaaaGreatTBq
import Derived.Test.YthbenojbjjgnaaaGreatTBr
set_option linter.unusedVariables false
set_option linter.unusedSimpArgs false
set_option linter.unusedSectionVars false
section
namespace Go.Abs.RM
open Go.Proofs.RMH
variable (fuel : Nat) (hfu : 18446744073709551616 ≤ fuel)
def RmOK (r : S30) : Prop := r.f1.length ≤ 12 ∧ (∀ e ∈ r.f1, EB e) ∧ r.f5.length ≤ 220024
def stS (r : S30) : List S65 := evsS r.f1 r.f5
theorem stS_len {r : S30} (h : RmOK r) : (stS r).length ≤ 220024 := Nat.le_trans (evsS_len ..) h.2.2
theorem stS_eb {r : S30} (h : RmOK r) : ∀ e ∈ stS r, EB e := fun e he => h.2.1 e (evsS_mem he)
include hfu in
theorem e73 (r : S30) (h : RmOK r) : d73 fuel ⟨r⟩ = some (stS r) := by
 have := h.1; have := h.2.2
 unfold d73
 rw [e138 fuel hfu _ _ (show r.f1.length ≤ _ by omega) (show r.f5.length ≤ _ by omega)]; rfl
include hfu in
theorem e27 (r : S30) (h : RmOK r) : d27 fuel r = some (stS r) := by
 have := h.1; have := h.2.2
 unfold d27
 rw [e76 fuel hfu _ _ (by omega) (by omega)]; rfl
def fltS (own : ByteArray) (w : List ByteArray) : List ByteArray := w.filter fun x => !((srvOf x).toList == own.toList)
def Small (w : List ByteArray) : Prop := ∀ x ∈ w, x.size ≤ 80
theorem WithS_small {r : S30} (h : RmOK r) {m : Int} {n : Nat} {w : List ByteArray} (hw : SetP (WithS (stS r) m) n w) : Small w := fun x hx => by
 obtain ⟨e, he, hk⟩ := ((hw.mem x).1 hx).1
 have := (stS_eb h e he).2.2.1
 rw [(memK_iff.1 hk).2] at this
 exact this
include hfu in
theorem e65_1 (a0 : S112) (own : ByteArray) (pol : List S103) (z1 : List S65) (s3 : Int) (w : List ByteArray) (k0 : List ByteArray → Int → Option (List S65)) (hw : w.length ≤ 220024) (hs : Small w) : ∀ (n : Nat) (o : List ByteArray) (i : Int), 0 ≤ i → i ≤ w.length → (w.length : Int) < n + i → (o.length : Int) + w.length ≤ 1000000 + i →
  d65_1 fuel a0 own pol z1 s3 w k0 n o i = k0 (o ++ fltS own (w.drop i.toNat)) (nx s3) := by
 intro n
 induction n with
 | zero => intro o i h0 h1 h2; omega
 | succ n ih =>
  intro o i h0 h1 h2 h3
  rw [d65_1]
  by_cases h : i < (w.length : Int)
  ·obtain ⟨x, hx, _, hm, hk⟩ := at1_cons h0 h (by omega)
   have := hs x hm
   have hn := fun o' h' => ih o' (nx i) (by rw [nx_eq] <;> omega) (by rw [nx_eq] <;> omega) (by rw [nx_eq] <;> omega) h'
   rw [decide_eq_true h, cond_true, hk, e123 fuel hfu x (by omega), Option.bind_some, hx]
   have ef : fltS own (x :: w.drop (nx i).toNat) = (bif !((srvOf x).toList == own.toList) then [x] else []) ++ fltS own (w.drop (nx i).toNat) := by
    unfold fltS
    rw [List.filter_cons]
    cases (srvOf x).toList == own.toList <;> rfl
   rw [ef]
   cases (srvOf x).toList == own.toList with
   | true =>
    simp only [Bool.not_true, cond_false, List.nil_append]
    rw [hn _ (by rw [nx_eq (by omega) (by omega)]; omega)]
   | false =>
    simp only [Bool.not_false, cond_true]
    rw [rm_eq (by omega) (by rw [List.length_singleton]; omega), hn _ (by rw [nx_eq (by omega) (by omega), List.length_append, List.length_singleton]; omega), List.append_assoc]
  ·rw [decide_eq_false h, cond_false, List.drop_eq_nil_of_le (by omega)]
   simp [fltS]
inductive Cands (l : List S65) (own : ByteArray) : List Int → List ByteArray → List ByteArray → Prop
 | nil {o : List ByteArray} : Cands l own [] o o
 | cons {m : Int} {ms : List Int} {o c w : List ByteArray} (h : SetP (WithS l m) l.length w) (hs : Cands l own ms (o ++ fltS own w) c) : Cands l own (m :: ms) o c
theorem Cands.sub {l : List S65} {own : ByteArray} : ∀ {ms : List Int} {o c : List ByteArray}, Cands l own ms o c → (∀ x ∈ o, srvOf x ≠ own) → ∀ x ∈ c, srvOf x ≠ own
 | _, _, _, .nil, h => h
 | _, _, _, .cons h hs, ho => hs.sub fun x hx => by
  rcases List.mem_append.1 hx with hx | hx
  ·exact ho x hx
  ·have := (List.mem_filter.1 hx).2
   rw [tl_eq] at this
   intro e
   rw [decide_eq_true e] at this
   cases this
theorem Cands.small {r : S30} (hr : RmOK r) {own : ByteArray} : ∀ {ms : List Int} {o c : List ByteArray}, Cands (stS r) own ms o c → Small o → Small c
 | _, _, _, .nil, h => h
 | _, _, _, .cons h hs, ho => hs.small hr fun x hx => by
  rcases List.mem_append.1 hx with hx | hx
  ·exact ho x hx
  ·exact WithS_small hr h x (List.mem_filter.1 hx).1
theorem fltS_len (own : ByteArray) (w : List ByteArray) : (fltS own w).length ≤ w.length := List.length_filter_le ..
theorem Cands.len {l : List S65} {own : ByteArray} : ∀ {ms : List Int} {o c : List ByteArray}, Cands l own ms o c → c.length ≤ o.length + ms.length * l.length
 | _, _, _, .nil => Nat.le_add_right ..
 | _, _, _, .cons (w := w) (ms := ms) h hs => by
  have := hs.len
  have h1 := fltS_len own w
  have h2 := h.len
  rw [List.length_append] at this
  rw [List.length_cons, Nat.add_mul]
  omega
noncomputable def reaS (pol : List S103) (u : ByteArray) : ByteArray := bif (matchS pol 2 u).2 then (matchS pol 2 u).1.f2 else (matchS pol 6 (srvOf u)).1.f2
noncomputable def banE (room : ByteArray) (pol : List S103) (u : ByteArray) : S65 := ⟨0, room, zS, 2, true, u, 0, 0, [], [], ⟨reaS pol u, 4, 0, false, zS, [], [], ze59⟩, 0, ze63⟩
include hfu in
theorem e65_2 (r : S30) (pol : List S103) (us : List ByteArray) (hp : PolB pol) (hu : us.length ≤ 1000000) (hs : Small us) : ∀ (n : Nat) (o : List S65) (i : Int), 0 ≤ i → i ≤ us.length → (us.length : Int) < n + i → (o.length : Int) ≤ i →
  d65_2 fuel ⟨r⟩ pol us n o i = some (o ++ (us.drop i.toNat).map (banE r.f0 pol)) := by
 intro n
 induction n with
 | zero => intro o i h0 h1 h2; omega
 | succ n ih =>
  intro o i h0 h1 h2 h3
  rw [d65_2]
  by_cases h : i < (us.length : Int)
  ·obtain ⟨x, hx, _, hm, hk⟩ := at1_cons h0 h (by omega)
   have := hs x hm
   have h4 := srvOf_size x
   have go : ∀ e : S65, e = banE r.f0 pol x → (rm 376 o [e] (d65_2 fuel ⟨r⟩ pol us n (o ++ [e]) (nx i))) = some (o ++ (us.drop i.toNat).map (banE r.f0 pol)) := fun e he => by
    rw [rm_eq (by omega) (by rw [List.length_singleton]; omega), ih _ _ (by rw [nx_eq] <;> omega) (by rw [nx_eq] <;> omega) (by rw [nx_eq] <;> omega) (by rw [nx_eq (by omega) (by omega), List.length_append, List.length_singleton]; omega), hx, List.map_cons, List.append_assoc, he]
    rfl
   rw [decide_eq_true h, cond_true, hk, e128 fuel hfu pol 2 x hp (by omega), Option.bind_some]
   cases hc : (matchS pol 2 x).2 with
   | true =>
    simp only [Bool.not_true, cond_false]
    exact go _ (by unfold banE reaS; rw [hc]; rfl)
   | false =>
    simp only [Bool.not_false, cond_true]
    rw [e123 fuel hfu x (by omega), Option.bind_some, e128 fuel hfu pol 6 _ hp (by omega), Option.bind_some]
    exact go _ (by unfold banE reaS; rw [hc]; rfl)
  ·rw [decide_eq_false h, cond_false, List.drop_eq_nil_of_le (by omega)]
   simp
def BansP (r : S30) (own : ByteArray) (pol : List S103) (b : List S65) : Prop := ∃ c us, Cands (stS r) own [1, 2, 3] [] c ∧ SetP (fun x => x ∈ c ∧ metS pol x = true) c.length us ∧ b = us.map (banE r.f0 pol)
include hfu in
theorem t65_0 (r : S30) (own : ByteArray) (pol : List S103) (hr : RmOK r) (hp : PolB pol) (C : List ByteArray → Prop) : ∀ (n : Nat) (o : List ByteArray) (i : Int), 0 ≤ i → i ≤ 3 → 1000003 < (n : Int) + i → (o.length : Int) ≤ i * 220024 → Small o → (∀ c, Cands (stS r) own ([1, 2, 3].drop i.toNat) o c → C c) →
  Tot (d65_0 fuel ⟨r⟩ own pol (stS r) n o i) (fun b => ∃ c us, C c ∧ SetP (fun x => x ∈ c ∧ metS pol x = true) c.length us ∧ b = us.map (banE r.f0 pol)) := by
 intro n
 induction n with
 | zero => intro o i h0 h1 h2; omega
 | succ n ih =>
  intro o i h0 h1 h2 h4 h5 h6
  have hl := stS_len hr
  rw [d65_0]
  refine Tot.dec (fun h => ?_) fun h => ?_
  ·have h : i < 3 := h
   rw [inB_eq h0 (show i < ([(1 : Int), 2, 3].length : Int) from h)]
   have hlt : i.toNat < [(1 : Int), 2, 3].length := by show i.toNat < 3; omega
   rw [List.getElem?_eq_getElem hlt, Option.bind_some]
   refine Tot.bind (t72 fuel hfu (stS r) _ (by omega)) fun w hw => ?_
   have hwl := hw.len
   have hws := WithS_small hr hw
   rw [e65_1 fuel hfu _ _ _ _ _ w _ (by omega) hws n o 0 (by omega) (by omega) (by omega) (by omega)]
   have hf := fltS_len own w
   refine ih _ _ (by rw [nx_eq] <;> omega) (by rw [nx_eq] <;> omega) (by rw [nx_eq] <;> omega) ?_ ?_ ?_
   ·rw [nx_eq (by omega) (by omega), List.length_append]; show ((o.length + (fltS own w).length : Nat) : Int) ≤ _; omega
   ·intro x hx
    rcases List.mem_append.1 hx with hx | hx
    ·exact h5 x hx
    ·exact hws x (List.mem_filter.1 hx).1
   ·intro c hc
    refine h6 c ?_
    rw [List.drop_eq_getElem_cons hlt]
    refine .cons hw ?_
    rw [nx_eq (by omega) (by omega), show (i + 1).toNat = i.toNat + 1 by omega] at hc
    exact hc
  ·have h : ¬ i < 3 := h
   have hi : i.toNat = 3 := by omega
   rw [hi] at h6
   refine Tot.bind (t127 fuel hfu pol o hp (by omega) fun x hx => by have := h5 x hx; omega) fun us hu => ?_
   have hul := hu.len
   rw [e65_2 fuel hfu r pol us hp (by omega) (fun x hx => h5 x ((hu.mem x).1 hx).1) fuel [] 0 (by omega) (by omega) (by omega) (by simp)]
   exact Tot.ret ⟨o, us, h6 o .nil, hu, rfl⟩
end Go.Abs.RM
end
section
namespace Go.Abs.RM
open Go.Proofs
noncomputable section
def d6_1 (fuel : Nat) (a0 : S30) (a1 : ByteArray) (z6 : List S65) (z8 : (List ByteArray) × (List ByteArray)) (o9 : List ByteArray) (s10 : Int) (x11 : S65) (z12 : ByteArray) (z13 : Bool) (k0 : (List ByteArray) → Int → Option Bool) : Nat → Int → Option Bool
 | 0, _ => none
 | n + 1, s14 => (bif decide (s14 < (x11.f10.f6.length : Int)) then (at1 x11.f10.f6 s14 fun x15 => ((d30 fuel x15 a1).bind fun z16 => (bif z16 then (at1 x11.f10.f6 s14 fun x17 => ((d29 fuel z8.2 x17).bind fun z18 => (bif !z18 then some false else d6_1 fuel a0 a1 z6 z8 o9 s10 x11 z12 z13 k0 n (nx s14)))) else d6_1 fuel a0 a1 z6 z8 o9 s10 x11 z12 z13 k0 n (nx s14)))) else (bif (!(x11.f3 == 2)) then (bif (!(x11.f3 == 6)) then some false else (bif (!(x11.f1.toList == a0.f0.toList)) then some false else (bif !x11.f4 then some false else (bif (!(x11.f2.toList == zS.toList)) then some false else k0 (o9 ++ [x11.f5]) (nx s10))))) else (bif (!(x11.f1.toList == a0.f0.toList)) then some false else (bif !x11.f4 then some false else (bif (!(x11.f2.toList == zS.toList)) then some false else k0 (o9 ++ [x11.f5]) (nx s10))))))
def d6_2 (fuel : Nat) (a0 : S30) (a1 : ByteArray) (z6 : List S65) (z8 : (List ByteArray) × (List ByteArray)) (o9 : List ByteArray) (s10 : Int) (x11 : S65) (k0 : (List ByteArray) → Int → Option Bool) : Nat → Int → Option Bool
 | 0, _ => none
 | n + 1, s19 => (bif decide (s19 < (x11.f10.f6.length : Int)) then (at1 x11.f10.f6 s19 fun x20 => ((d30 fuel x20 a1).bind fun z21 => (bif z21 then (at1 x11.f10.f6 s19 fun x22 => ((d29 fuel z8.2 x22).bind fun z23 => (bif !z23 then some false else d6_2 fuel a0 a1 z6 z8 o9 s10 x11 k0 n (nx s19)))) else d6_2 fuel a0 a1 z6 z8 o9 s10 x11 k0 n (nx s19)))) else (bif (!(x11.f3 == 2)) then (bif (!(x11.f3 == 6)) then some false else (bif (!(x11.f1.toList == a0.f0.toList)) then some false else (bif !x11.f4 then some false else (bif (!(x11.f2.toList == zS.toList)) then some false else k0 (o9 ++ [x11.f5]) (nx s10))))) else (bif (!(x11.f1.toList == a0.f0.toList)) then some false else (bif !x11.f4 then some false else (bif (!(x11.f2.toList == zS.toList)) then some false else k0 (o9 ++ [x11.f5]) (nx s10))))))
def d6_0 (fuel : Nat) (a0 : S30) (a1 : ByteArray) (z6 : List S65) (z8 : (List ByteArray) × (List ByteArray)) : Nat → (List ByteArray) → Int → Option Bool
 | 0, _, _ => none
 | n + 1, o9, s10 => (bif decide (s10 < (z6.length : Int)) then (at1 z6 s10 fun x11 => (bif (x11.f3 == 2) then (bif (!(x11.f10.f1 == 4)) then some false else ((d28 fuel x11.f5).bind fun z12 => (bif (z12.toList == a1.toList) then some false else ((d29 fuel o9 x11.f5).bind fun z13 => (bif z13 then some false else (rm 16 o9 [x11.f5] (d6_1 fuel a0 a1 z6 z8 o9 s10 x11 z12 z13 (d6_0 fuel a0 a1 z6 z8 n) n (0 : Int)))))))) else (rm 16 o9 [x11.f5] (d6_2 fuel a0 a1 z6 z8 o9 s10 x11 (d6_0 fuel a0 a1 z6 z8 n) n (0 : Int))))) else some true)
@[irreducible] def d6 (fuel : Nat) (z1 : Bool) (a0 : S30) (a1 : ByteArray) (a2 : List S103) : Option Bool := (bif !z1 then some true else (bif decide ((a1.size : Int) > (100 : Int)) then some true else ((d19 fuel a2).bind fun z4 => (bif !z4 then some true else ((d21 fuel a0 a1 a2).bind fun z6 => ((d27 fuel a0).bind fun z7 => ((d26 fuel z7).bind fun z8 => d6_0 fuel a0 a1 z6 z8 fuel ([] : List ByteArray) (0 : Int))))))))
end
end Go.Abs.RM
end
section
namespace Go.Abs.RM
open Go.Proofs.RMH
variable (fuel : Nat) (hfu : 18446744073709551616 ≤ fuel)
include hfu in
theorem t65 (r : S30) (own : ByteArray) (pol : List S103) (hr : RmOK r) (hp : PolB pol) : Tot (d65 fuel ⟨r⟩ own pol) (BansP r own pol) := by
 unfold d65
 rw [e73 fuel hfu r hr, Option.bind_some]
 exact t65_0 fuel hfu r own pol hr hp (fun c => Cands (stS r) own [1, 2, 3] [] c) fuel [] 0 (by omega) (by omega) (by omega) (by simp) (fun x hx => by cases hx) fun c hc => hc
noncomputable def denS (own : ByteArray) (old : List ByteArray) : List ByteArray → List ByteArray → List ByteArray
 | [], o => o
 | p :: l, o => bif decide (patC p = 0) && !gm p own && !memS old p && decide (o.length < 100) then denS own old l (o ++ [p]) else denS own old l o
theorem denS_mem (own : ByteArray) (old : List ByteArray) : ∀ (l o : List ByteArray), ∀ p ∈ denS own old l o, p ∈ o ∨ gm p own = false
 | [], o, p, h => .inl h
 | q :: l, o, p, h => by
  unfold denS at h
  cases hc : (decide (patC q = 0) && !gm q own && !memS old q && decide (o.length < 100)) with
  | true =>
   rw [hc, cond_true] at h
   rcases denS_mem own old l _ p h with h | h
   ·rcases List.mem_append.1 h with h | h
    ·exact .inl h
    ·simp only [Bool.and_eq_true, Bool.not_eq_true'] at hc
     rw [List.mem_singleton.1 h]
     exact .inr hc.1.1.2
   ·exact .inr h
  | false =>
   rw [hc, cond_false] at h
   exact denS_mem own old l o p h
theorem denS_len (own : ByteArray) (old : List ByteArray) : ∀ (l o : List ByteArray), (denS own old l o).length ≤ o.length + l.length
 | [], o => Nat.le_refl _
 | q :: l, o => by
  unfold denS
  cases (decide (patC q = 0) && !gm q own && !memS old q && decide (o.length < 100))
  ·have := denS_len own old l o; rw [cond_false, List.length_cons]; omega
  ·have := denS_len own old l (o ++ [q]); rw [List.length_append, List.length_singleton] at this; rw [cond_true, List.length_cons]; omega
include hfu in
theorem e66_0 (own : ByteArray) (old : List ByteArray) (ho : old.length ≤ 100) (hs : (own.size : Int) ≤ 1000) : ∀ (l o : List ByteArray), (∀ p ∈ l, p.size ≤ 100) → o.length ≤ 1000000 → l.length ≤ 1000 → d66_0 fuel own old l o = some (denS own old l o) := by
 intro l
 induction l with
 | nil => intro o _ _ _; rfl
 | cons p l ih =>
  intro o hp h1 h2
  have hpp := hp p List.mem_cons_self
  have hp' := fun q hq => hp q (List.mem_cons_of_mem _ hq)
  rw [List.length_cons] at h2
  rw [d66_0, e132 fuel hfu p (by omega), Option.bind_some, e133 fuel hfu p own (by omega) (by omega), Option.bind_some]
  obtain ⟨c, hc, hc2⟩ := t134 fuel hfu old p (by omega)
  have hc2 : c = memS old p := Bool.eq_iff_iff.2 (hc2.trans memS_iff.symm)
  unfold denS
  rw [hc, Option.bind_some, hc2, ih _ hp' h1 (by omega)]
  have hz : (patC p == 0) = decide (patC p = 0) := by rw [Bool.eq_iff_iff, beq_iff_eq, decide_eq_true_eq]
  rw [hz]
  by_cases hl : o.length < 100
  ·have hrm := rm_eq (b := 16) (l := o) (m := [p]) (by omega) (by rw [List.length_singleton]; omega) (d66_0 fuel own old l (o ++ [p]))
   unfold rm at hrm
   rw [hrm, ih _ hp' (by rw [List.length_append, List.length_singleton]; omega) (by omega), decide_eq_true hl, decide_eq_true (show (o.length : Int) < 100 by omega)]
   cases decide (patC p = 0) <;> cases gm p own <;> cases memS old p <;> rfl
  ·rw [decide_eq_false hl, decide_eq_false (show ¬ (o.length : Int) < 100 by omega)]
   cases decide (patC p = 0) <;> cases gm p own <;> cases memS old p <;> rfl
theorem lstS_ok {l : List S65} (h : ∀ e ∈ l, EB e) : (lstS l).1.length ≤ 100 ∧ (lstS l).2.length ≤ 100 ∧ (∀ x ∈ (lstS l).2, x.size ≤ 400) := by
 unfold lstS accS
 cases hf : l.find? (fun e => e.f3 == 6) with
 | none => exact ⟨by decide, by decide, fun x hx => (by cases hx)⟩
 | some e =>
  have := (h e (List.mem_of_find?_eq_some hf)).2.2.2.2.2
  exact ⟨this.2.2.1, this.2.2.2.1, this.2.2.2.2.2.2.2.1⟩
theorem denyL_size {pol : List S103} (h : PolB pol) : ∀ x ∈ denyL pol, x.size ≤ 100 := fun x hx => by
 obtain ⟨p, hp, rfl⟩ := List.mem_map.1 hx
 exact h.2 p (List.mem_filter.1 hp).1
def DensP (r : S30) (own : ByteArray) (pol : List S103) (z : S65 × Bool) : Prop := ∃ l, SetP (· ∈ denyL pol) 12 l ∧
 z = (e66 ⟨r⟩ (lstS (stS r)).1 (denS own (lstS (stS r)).2 l (lstS (stS r)).2), decide ((lstS (stS r)).2.length < (denS own (lstS (stS r)).2 l (lstS (stS r)).2).length))
theorem e130 (l : List ByteArray) (h : l.length ≤ 1000000) : d130 fuel l = some l := by
 have := rm_eq (b := 16) (l := ([] : List ByteArray)) (m := l) (by omega) (by rw [List.length_nil]; omega) (some l)
 unfold rm at this
 unfold d130
 exact this
include hfu in
theorem t66 (r : S30) (own : ByteArray) (pol : List S103) (hr : RmOK r) (hp : PolB pol) (hs : (own.size : Int) ≤ 1000) : Tot (d66 fuel ⟨r⟩ own pol) (DensP r own pol) := by
 have hl := stS_len hr
 have hk := lstS_ok (stS_eb hr)
 have dec : ∀ a b : List ByteArray, decide ((a.length : Int) > (b.length : Int)) = decide (b.length < a.length) := fun a b => decide_eq_decide.2 (by omega)
 unfold d66
 rw [e73 fuel hfu r hr, Option.bind_some, e129 fuel hfu _ (by omega), Option.bind_some]
 have fin : ∀ z, SetP (· ∈ denyL pol) 12 z → Tot (bif decide (z.length ≤ 1000000) then ((d66_0 fuel own (lstS (stS r)).2 z (lstS (stS r)).2).bind fun o => some (e66 ⟨r⟩ (lstS (stS r)).1 o, decide ((o.length : Int) > ((lstS (stS r)).2.length : Int)))) else none) (DensP r own pol) := fun z hz => by
  have := hz.len
  rw [decide_eq_true (show z.length ≤ 1000000 by omega), cond_true, e66_0 fuel hfu own _ hk.2.1 hs z _ (fun p hp' => denyL_size hp p ((hz.mem p).1 hp')) (by omega) (by omega), Option.bind_some, dec]
  exact Tot.ret ⟨z, hz, rfl⟩
 cases h2 : (accS (stS r)).2 with
 | true =>
  have e : lstS (stS r) = ((accS (stS r)).1.f5, (accS (stS r)).1.f6) := by unfold lstS; rw [h2]; rfl
  rw [e] at fin hk
  rw [cond_true, e130 fuel _ (by have := hk.1; dsimp only at this; omega), Option.bind_some, e130 fuel _ (by have := hk.2.1; dsimp only at this; omega), Option.bind_some]
  exact Tot.bind (t131 fuel hfu pol hp) fin
 | false =>
  have e : lstS (stS r) = ([(⟨#[42]⟩ : ByteArray)], []) := by unfold lstS; rw [h2]; rfl
  rw [e] at fin
  rw [cond_false]
  exact Tot.bind (t131 fuel hfu pol hp) fin
def PlanP (r : S30) (own : ByteArray) (pol : List S103) (p : List S65) : Prop := ∃ b z, BansP r own pol b ∧ DensP r own pol z ∧ p = (bif z.2 then b ++ [z.1] else b)
include hfu in
theorem t21 (r : S30) (own : ByteArray) (pol : List S103) (hr : RmOK r) (hp : PolB pol) (hs : (own.size : Int) ≤ 1000) : Tot (d21 fuel r own pol) (PlanP r own pol) := by
 unfold d21
 refine Tot.bind (t65 fuel hfu r own pol hr hp) fun b hb => Tot.bind (t66 fuel hfu r own pol hr hp hs) fun z hz => ?_
 have hlen : b.length ≤ 1000000 := by
  obtain ⟨c, us, h1, h2, rfl⟩ := hb
  have := h1.len
  have := h2.len
  have := stS_len hr
  rw [List.length_map]
  simp only [List.length_nil, List.length_cons] at *
  omega
 cases h : z.2 with
 | true =>
  rw [cond_true, rm_eq (by omega) (by rw [List.length_singleton]; omega)]
  exact Tot.ret ⟨b, z, hb, hz, by rw [h]; rfl⟩
 | false => rw [cond_false]; exact Tot.ret ⟨b, z, hb, hz, by rw [h]; rfl⟩
def EvOk (r : S30) (own : ByteArray) (old : List ByteArray) (us : List ByteArray) (x : S65) : Prop :=
 (x.f3 = 2 → x.f10.f1 = 4 ∧ srvOf x.f5 ≠ own ∧ x.f5 ∉ us) ∧ (∀ d ∈ x.f10.f6, d.size ≤ 400 ∧ (gm d own = true → d ∈ old)) ∧ x.f10.f6.length ≤ 1000 ∧ (x.f3 = 2 ∨ x.f3 = 6) ∧ x.f1 = r.f0 ∧ x.f4 = true ∧ x.f2 = zS ∧ x.f5.size ≤ 80
def PlanOk (r : S30) (own : ByteArray) (old : List ByteArray) : List ByteArray → List S65 → Prop
 | _, [] => True
 | us, x :: l => EvOk r own old us x ∧ PlanOk r own old (us ++ [x.f5]) l
theorem planOk_bans {r : S30} {own : ByteArray} {old : List ByteArray} {pol : List S103} : ∀ {us : List ByteArray} {l : List S65} {ks : List ByteArray}, (ks ++ us).Nodup → (∀ u ∈ us, srvOf u ≠ own) → Small us → (∀ ks, PlanOk r own old ks l) → PlanOk r own old ks (us.map (banE r.f0 pol) ++ l)
 | [], l, ks, _, _, _, hl => hl ks
 | u :: us, l, ks, hn, hs, hm, hl => by
  have hn' : ((ks ++ [u]) ++ us).Nodup := by rw [List.append_assoc]; exact hn
  refine ⟨⟨fun _ => ⟨rfl, hs u List.mem_cons_self, fun h => ?_⟩, fun d hd => (by cases hd), Nat.zero_le _, .inl rfl, rfl, rfl, rfl, hm u List.mem_cons_self⟩, planOk_bans hn' (fun x hx => hs x (List.mem_cons_of_mem _ hx)) (fun x hx => hm x (List.mem_cons_of_mem _ hx)) hl⟩
  exact (List.nodup_append.1 hn).2.2 u h u List.mem_cons_self rfl
theorem plan_ok {r : S30} {own : ByteArray} {pol : List S103} {p : List S65} (hr : RmOK r) (hp : PolB pol) (h : PlanP r own pol p) : PlanOk r own (lstS (stS r)).2 [] p ∧ p.length ≤ 1000001 := by
 obtain ⟨b, z, ⟨c, us, h1, h2, rfl⟩, ⟨l, hl, rfl⟩, rfl⟩ := h
 have hk := lstS_ok (stS_eb hr)
 have hsv : ∀ u ∈ us, srvOf u ≠ own := fun u hu => h1.sub (fun x hx => (by cases hx)) u ((h2.mem u).1 hu).1
 have hsm : Small us := fun u hu => h1.small hr (fun x hx => (by cases hx)) u ((h2.mem u).1 hu).1
 have hlen : us.length ≤ 1000000 := by
  have := h1.len
  have := h2.len
  have := stS_len hr
  simp only [List.length_nil, List.length_cons] at *
  omega
 have fin : ∀ t : List S65, (∀ ks, PlanOk r own (lstS (stS r)).2 ks t) → t.length ≤ 1 → PlanOk r own (lstS (stS r)).2 [] (us.map (banE r.f0 pol) ++ t) ∧ (us.map (banE r.f0 pol) ++ t).length ≤ 1000001 := fun t ht hl =>
  ⟨planOk_bans (ks := []) h2.nodup hsv hsm ht, by rw [List.length_append, List.length_map]; omega⟩
 dsimp only
 cases decide ((lstS (stS r)).2.length < (denS own (lstS (stS r)).2 l (lstS (stS r)).2).length) with
 | false => have := fin [] (fun _ => trivial) (by simp); rw [List.append_nil] at this; exact this
 | true =>
  refine fin _ (fun ks => ⟨⟨fun h => absurd (show (6 : Int) = 2 from h) (by decide), fun d hd => ?_, ?_, .inr rfl, rfl, rfl, rfl, Nat.zero_le 80⟩, trivial⟩) (by simp)
  ·have hd : d ∈ denS own (lstS (stS r)).2 l (lstS (stS r)).2 := hd
   rcases denS_mem own _ l _ d hd with h | h
   ·exact ⟨hk.2.2 d h, fun _ => h⟩
   ·refine ⟨?_, fun e => by rw [e] at h; cases h⟩
    have : ∀ (l o : List ByteArray), ∀ p ∈ denS own (lstS (stS r)).2 l o, p ∈ o ∨ p ∈ l := by
     intro l
     induction l with
     | nil => intro o p h; exact .inl h
     | cons q l ih =>
      intro o p h
      unfold denS at h
      cases hc : (decide (patC q = 0) && !gm q own && !memS (lstS (stS r)).2 q && decide (o.length < 100)) with
      | true =>
       rw [hc, cond_true] at h
       rcases ih _ p h with h | h
       ·rcases List.mem_append.1 h with h | h
        ·exact .inl h
        ·rw [List.mem_singleton.1 h]; exact .inr List.mem_cons_self
       ·exact .inr (List.mem_cons_of_mem _ h)
      | false =>
       rw [hc, cond_false] at h
       exact (ih o p h).imp id (List.mem_cons_of_mem _)
    rcases this l _ d hd with h | h
    ·exact hk.2.2 d h
    ·have := denyL_size hp d ((hl.mem d).1 h); omega
  ·have := denS_len own (lstS (stS r)).2 l (lstS (stS r)).2
   have := hl.len
   have := hk.2.1
   show (denS own (lstS (stS r)).2 l (lstS (stS r)).2).length ≤ 1000
   omega
theorem eqS_t {a b : ByteArray} (h : a = b) : (a.toList == b.toList) = true := by rw [tl_eq, decide_eq_true h]
theorem eqS_f {a b : ByteArray} (h : a ≠ b) : (a.toList == b.toList) = false := by rw [tl_eq, decide_eq_false h]
include hfu in
theorem e6_in (r : S30) (own : ByteArray) (old us : List ByteArray) (x : S65) (hx : EvOk r own old us x) (ho : old.length ≤ 100) (hs : (own.size : Int) ≤ 1000) (hh : gm = gm) {F : Nat → Int → Option Bool} {K : Option Bool}
  (hF : ∀ n i, F (n + 1) i = (bif decide (i < (x.f10.f6.length : Int)) then (at1 x.f10.f6 i fun x15 => ((d30 fuel x15 own).bind fun z16 => (bif z16 then (at1 x.f10.f6 i fun x17 => ((d29 fuel old x17).bind fun z18 => (bif !z18 then some false else F n (nx i)))) else F n (nx i)))) else (bif (!(x.f3 == 2)) then (bif (!(x.f3 == 6)) then some false else (bif (!(x.f1.toList == r.f0.toList)) then some false else (bif !x.f4 then some false else (bif (!(x.f2.toList == zS.toList)) then some false else K)))) else (bif (!(x.f1.toList == r.f0.toList)) then some false else (bif !x.f4 then some false else (bif (!(x.f2.toList == zS.toList)) then some false else K)))))) :
  ∀ (n : Nat) (i : Int), 0 ≤ i → i ≤ x.f10.f6.length → (x.f10.f6.length : Int) < n + i → F n i = K := by
 obtain ⟨_, hd, hl, hk, hroom, hst, hsd, _⟩ := hx
 intro n
 induction n with
 | zero => intro i h0 h1 h2; omega
 | succ n ih =>
  intro i h0 h1 h2
  rw [hF]
  by_cases h : i < (x.f10.f6.length : Int)
  ·obtain ⟨d, _, _, hm, hk⟩ := at1_cons h0 h (by omega)
   have hdd := hd d hm
   rw [decide_eq_true h, cond_true, hk, e30 fuel hfu d own (by omega) (by omega), Option.bind_some, hk, ih _ (by rw [nx_eq] <;> omega) (by rw [nx_eq] <;> omega) (by rw [nx_eq] <;> omega)]
   cases hg : gm d own with
   | false => rfl
   | true =>
    obtain ⟨c, hc, hc2⟩ := t29 fuel hfu old d (by omega)
    rw [hc, Option.bind_some, hc2.2 (hdd.2 hg)]; rfl
  ·rw [decide_eq_false h, cond_false, eqS_t hroom, hst, eqS_t hsd]
   rcases hk with hk | hk
   ·rw [hk]; rfl
   ·rw [hk]; rfl
include hfu in
theorem e6_0 (r : S30) (own : ByteArray) (old : List ByteArray) (pl : List S65) (al : List ByteArray) (hpl : pl.length ≤ 1000001) (ho : old.length ≤ 100) (hs : (own.size : Int) ≤ 1000) : ∀ (n : Nat) (us : List ByteArray) (i : Int), 0 ≤ i → i ≤ pl.length → (pl.length : Int) + 10000 < n + i → (us.length : Int) ≤ i → PlanOk r own old us (pl.drop i.toNat) →
  d6_0 fuel r own pl (al, old) n us i = some true := by
 intro n
 induction n with
 | zero => intro us i h0 h1 h2; omega
 | succ n ih =>
  intro us i h0 h1 h2 h3 h4
  rw [d6_0]
  by_cases h : i < (pl.length : Int)
  ·obtain ⟨x, hx, _, hm, hk⟩ := at1_cons h0 h (by omega)
   rw [hx] at h4
   obtain ⟨hev, hrest⟩ := h4
   have hs5 := hev.2.2.2.2.2.2.2
   have hl6 := hev.2.2.1
   have hnext : d6_0 fuel r own pl (al, old) n (us ++ [x.f5]) (nx i) = some true := ih _ _ (by rw [nx_eq] <;> omega) (by rw [nx_eq] <;> omega) (by rw [nx_eq] <;> omega) (by rw [nx_eq (by omega) (by omega), List.length_append, List.length_singleton]; omega) hrest
   have hrm : ∀ z : Option Bool, rm 16 us [x.f5] z = z := fun z => rm_eq (by omega) (by rw [List.length_singleton]; omega) z
   rw [decide_eq_true h, cond_true, hk]
   simp only [hrm]
   have i2 := e6_in fuel hfu r own old us x hev ho hs rfl (F := d6_2 fuel r own pl (al, old) us i x (d6_0 fuel r own pl (al, old) n)) (K := d6_0 fuel r own pl (al, old) n (us ++ [x.f5]) (nx i)) (fun n i => by rw [d6_2]) n 0 (by omega) (by omega) (by omega)
   have i1 := fun z12 z13 => e6_in fuel hfu r own old us x hev ho hs rfl (F := d6_1 fuel r own pl (al, old) us i x z12 z13 (d6_0 fuel r own pl (al, old) n)) (K := d6_0 fuel r own pl (al, old) n (us ++ [x.f5]) (nx i)) (fun n i => by rw [d6_1]) n 0 (by omega) (by omega) (by omega)
   by_cases h2k : x.f3 = 2
   ·obtain ⟨q1, q2, q3⟩ := hev.1 h2k
    obtain ⟨c, hc, hc2⟩ := t29 fuel hfu us x.f5 (by omega)
    have hcf : c = false := by cases c with
     | false => rfl
     | true => exact absurd (hc2.1 rfl) q3
    rw [show (x.f3 == 2) = true by rw [h2k]; rfl, cond_true, show (x.f10.f1 == 4) = true by rw [q1]; rfl, e28 fuel hfu _ (by omega), Option.bind_some, eqS_f q2, hc, Option.bind_some, hcf, i1]
    exact hnext
   ·rw [show (x.f3 == 2) = false by simpa using h2k, cond_false, i2]
    exact hnext
  ·rw [decide_eq_false h, cond_false]
end Go.Abs.RM
end
section
namespace Go.Abs.RM
variable (fuel : Nat) (hfu : 18446744073709551616 ≤ fuel)
theorem t19_0 (l : List S103) (hl : l.length ≤ 12) : ∀ (n : Nat) (i : Int), 0 ≤ i → i ≤ l.length → (l.length : Int) < n + i → Tot (d19_0 fuel l n i) (fun r => r = true → ∀ p ∈ l.drop i.toNat, p.f1.size ≤ 100) := by
 intro n
 induction n with
 | zero => intro i h0 h1 h2; omega
 | succ n ih =>
  intro i h0 h1 h2
  rw [d19_0]
  refine Tot.dec (fun h => ?_) fun h => Tot.ret fun _ p hp => ?_
  ·obtain ⟨x, hx, _, _, hk⟩ := at1_cons h0 h (by omega)
   rw [hk, hk, hx]
   refine Tot.dec (fun _ => Tot.ret fun e => by cases e) fun hs => Tot.dec (fun _ => Tot.ret fun e => by cases e) fun _ => ?_
   refine Tot.mono (ih _ (by rw [nx_eq] <;> omega) (by rw [nx_eq] <;> omega) (by rw [nx_eq] <;> omega)) fun r hr e p hp => ?_
   rcases List.mem_cons.1 hp with rfl | hp
   ·omega
   ·exact hr e p hp
  ·rw [List.drop_eq_nil_of_le (by omega)] at hp; cases hp
include hfu in
theorem t19 (l : List S103) : Tot (d19 fuel l) (fun r => r = true → PolB l) := by
 unfold d19
 refine Tot.dec (fun _ => Tot.ret fun e => by cases e) fun h => ?_
 exact Tot.mono (t19_0 fuel l (by omega) fuel 0 (by omega) (by omega) (by omega)) fun r hr e => ⟨by omega, hr e⟩
def RawR (r : S30) : Prop := r.f0.size ≤ 9223372036854775807 ∧ (∀ e ∈ r.f1, EM e) ∧ (∀ e ∈ r.f3, EM e) ∧ r.f4.length ≤ 9223372036854775807 ∧ r.f5.length ≤ 9223372036854775807
include hfu in
theorem spares (r : S30) (own : ByteArray) (pol : List S103) (b : Bool) (h2 : b = true → RmOK r) : d6 fuel b r own pol = some true := by
 unfold d6
 cases b with
 | false => rfl
 | true =>
  have hok := h2 rfl
  rw [Bool.not_true, cond_false]
  by_cases hs : (own.size : Int) > 100
  ·rw [decide_eq_true hs, cond_true]
  ·rw [decide_eq_false hs, cond_false]
   obtain ⟨c, h3, h4⟩ := t19 fuel hfu pol
   rw [h3, Option.bind_some]
   cases c with
   | false => rfl
   | true =>
    have hp := h4 rfl
    obtain ⟨pl, h5, h6⟩ := t21 fuel hfu r own pol hok hp (by omega)
    have hl := stS_len hok
    have hk := lstS_ok (stS_eb hok)
    obtain ⟨q1, q2⟩ := plan_ok hok hp h6
    rw [Bool.not_true, cond_false, h5, Option.bind_some, e27 fuel hfu r hok, Option.bind_some, e26 fuel hfu _ (by omega), Option.bind_some]
    exact e6_0 fuel hfu r own (lstS (stS r)).2 pl (lstS (stS r)).1 q2 hk.2.1 (by omega) fuel [] 0 (by omega) (by omega) (by omega) (by simp) q1
end Go.Abs.RM
end
