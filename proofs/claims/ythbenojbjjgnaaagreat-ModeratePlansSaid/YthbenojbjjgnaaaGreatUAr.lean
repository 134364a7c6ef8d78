/- Functions that are known as Lean functions, as walks to a property. -/
import Derived.Test.YthbenojbjjgnaaaGreatUAq
import Derived.Test.YthbenojbjjgnaaaGreatUBo
import Derived.Test.YthbenojbjjgnaaaGreatUBp
import Derived.Test.YthbenojbjjgnaaaGreatUBq
import Derived.Test.YthbenojbjjgnaaaGreatUBr
import Derived.Test.YthbenojbjjgnaaaGreatUBs
import Derived.Sort.Walk0
import Derived.Test.YthbenojbjjgnaaaGreatUAm
set_option linter.unusedVariables false
set_option linter.unusedSimpArgs false
set_option linter.unusedSectionVars false
section
namespace Go.Abs.RM
open Go.Proofs.RMH
variable (fuel : Nat) (hfu : 18446744073709551616 ≤ fuel)
def RmOK (r : S30) : Prop := r.f1.length ≤ 12 ∧ (∀ e ∈ r.f1,EB e) ∧ r.f5.length ≤ 220024
def stS (r : S30) : List S65 := evsS r.f1 r.f5
theorem stS_len {r : S30} (h : RmOK r) : (stS r).length ≤ 220024 := Nat.le_trans (evsS_len ..) h.2.2
theorem stS_eb {r : S30} (h : RmOK r) : ∀ e ∈ stS r,EB e := fun e he => h.2.1 e (evsS_mem he)
include hfu in
theorem e73 (r : S30) (h : RmOK r) : d73 fuel ⟨r⟩ = some (stS r) := by
 have := h.1; have := h.2.2
 unfold d73
 rw [e138 fuel hfu _ _ (show r.f1.length ≤ _ by omega) (show r.f5.length ≤ _ by omega)]; rfl
include hfu in
theorem e27 (r : S30) (h : RmOK r) : d27 fuel r = some (stS r) := by
 have := h.1; have := h.2.2
 unfold d27
 rw [e76 fuel hfu _ _ (by omega) (by omega)]; rfl
def fltS (own : ByteArray) (w : List ByteArray) : List ByteArray := w.filter fun x => !((srvOf x).toList == own.toList)
def Small (w : List ByteArray) : Prop := ∀ x ∈ w,x.size ≤ 80
theorem WithS_small {r : S30} (h : RmOK r) {m : Int} {n : Nat} {w : List ByteArray} (hw : SetP (WithS (stS r) m) n w) : Small w := fun x hx => by
 obtain ⟨e,he,hk⟩ := ((hw.mem x).1 hx).1
 have := (stS_eb h e he).2.2.1
 rw [(memK_iff.1 hk).2] at this
 exact this
include hfu in
theorem e65_1 (a0 : S112) (own : ByteArray) (pol : List S103) (z1 : List S65) (s3 : Int) (w : List ByteArray) (k0 : List ByteArray → Int → Option (List S65)) (hw : w.length ≤ 220024) (hs : Small w) : ∀ (n : Nat) (o : List ByteArray) (i : Int),0 ≤ i → i ≤ w.length → (w.length : Int) < n + i → (o.length : Int) + w.length ≤ 1000000 + i →
  d65_1 fuel a0 own pol z1 s3 w k0 n o i = k0 (o ++ fltS own (w.drop i.toNat)) (nx s3) := by
 intro n
 induction n with
 | zero => intro o i h0 h1 h2; omega
 | succ n ih =>
  intro o i h0 h1 h2 h3
  rw [d65_1]
  by_cases h : i < (w.length : Int)
  ·obtain ⟨x,hx,_,hm,hk⟩ := at1_cons h0 h (by omega)
   have := hs x hm
   have hn := fun o' h' => ih o' (nx i) (by rw [nx_eq] <;> omega) (by rw [nx_eq] <;> omega) (by rw [nx_eq] <;> omega) h'
   rw [decide_eq_true h,cond_true,hk,e123 fuel hfu x (by omega),Option.bind_some,hx]
   have ef : fltS own (x :: w.drop (nx i).toNat) = (bif !((srvOf x).toList == own.toList) then [x] else []) ++ fltS own (w.drop (nx i).toNat) := by
    unfold fltS
    rw [List.filter_cons]
    cases (srvOf x).toList == own.toList <;> rfl
   rw [ef]
   cases (srvOf x).toList == own.toList with
   | true =>
    simp only [Bool.not_true,cond_false,List.nil_append]
    rw [hn _ (by rw [nx_eq (by omega) (by omega)]; omega)]
   | false =>
    simp only [Bool.not_false,cond_true]
    rw [rm_eq (by omega) (by rw [List.length_singleton]; omega),hn _ (by rw [nx_eq (by omega) (by omega),List.length_append,List.length_singleton]; omega),List.append_assoc]
  ·rw [decide_eq_false h,cond_false,List.drop_eq_nil_of_le (by omega)]
   simp [fltS]
inductive Cands (l : List S65) (own : ByteArray) : List Int → List ByteArray → List ByteArray → Prop
 | nil {o : List ByteArray} : Cands l own [] o o
 | cons {m : Int} {ms : List Int} {o c w : List ByteArray} (h : SetP (WithS l m) l.length w) (hs : Cands l own ms (o ++ fltS own w) c) : Cands l own (m :: ms) o c
theorem Cands.small {r : S30} (hr : RmOK r) {own : ByteArray} : ∀ {ms : List Int} {o c : List ByteArray},Cands (stS r) own ms o c → Small o → Small c
 | _,_,_,.nil,h => h
 | _,_,_,.cons h hs,ho => hs.small hr fun x hx => by
  rcases List.mem_append.1 hx with hx | hx
  ·exact ho x hx
  ·exact WithS_small hr h x (List.mem_filter.1 hx).1
theorem fltS_len (own : ByteArray) (w : List ByteArray) : (fltS own w).length ≤ w.length := List.length_filter_le ..
theorem Cands.len {l : List S65} {own : ByteArray} : ∀ {ms : List Int} {o c : List ByteArray},Cands l own ms o c → c.length ≤ o.length + ms.length * l.length
 | _,_,_,.nil => Nat.le_add_right ..
 | _,_,_,.cons (w := w) (ms := ms) h hs => by
  have := hs.len
  have h1 := fltS_len own w
  have h2 := h.len
  rw [List.length_append] at this
  rw [List.length_cons,Nat.add_mul]
  omega
noncomputable def reaS (pol : List S103) (u : ByteArray) : ByteArray := bif (matchS pol 2 u).2 then (matchS pol 2 u).1.f2 else (matchS pol 6 (srvOf u)).1.f2
noncomputable def banE (room : ByteArray) (pol : List S103) (u : ByteArray) : S65 := ⟨0,room,zS,2,true,u,0,0,[],[],⟨reaS pol u,4,0,false,zS,[],[],ze59⟩,0,ze63⟩
include hfu in
theorem e65_2 (r : S30) (pol : List S103) (us : List ByteArray) (hp : PolB pol) (hu : us.length ≤ 1000000) (hs : Small us) : ∀ (n : Nat) (o : List S65) (i : Int),0 ≤ i → i ≤ us.length → (us.length : Int) < n + i → (o.length : Int) ≤ i →
  d65_2 fuel ⟨r⟩ pol us n o i = some (o ++ (us.drop i.toNat).map (banE r.f0 pol)) := by
 intro n
 induction n with
 | zero => intro o i h0 h1 h2; omega
 | succ n ih =>
  intro o i h0 h1 h2 h3
  rw [d65_2]
  by_cases h : i < (us.length : Int)
  ·obtain ⟨x,hx,_,hm,hk⟩ := at1_cons h0 h (by omega)
   have := hs x hm
   have h4 := srvOf_size x
   have go : ∀ e : S65,e = banE r.f0 pol x → (rm 376 o [e] (d65_2 fuel ⟨r⟩ pol us n (o ++ [e]) (nx i))) = some (o ++ (us.drop i.toNat).map (banE r.f0 pol)) := fun e he => by
    rw [rm_eq (by omega) (by rw [List.length_singleton]; omega),ih _ _ (by rw [nx_eq] <;> omega) (by rw [nx_eq] <;> omega) (by rw [nx_eq] <;> omega) (by rw [nx_eq (by omega) (by omega),List.length_append,List.length_singleton]; omega),hx,List.map_cons,List.append_assoc,he]
    rfl
   rw [decide_eq_true h,cond_true,hk,e128 fuel hfu pol 2 x hp (by omega),Option.bind_some]
   cases hc : (matchS pol 2 x).2 with
   | true =>
    simp only [Bool.not_true,cond_false]
    exact go _ (by unfold banE reaS; rw [hc]; rfl)
   | false =>
    simp only [Bool.not_false,cond_true]
    rw [e123 fuel hfu x (by omega),Option.bind_some,e128 fuel hfu pol 6 _ hp (by omega),Option.bind_some]
    exact go _ (by unfold banE reaS; rw [hc]; rfl)
  ·rw [decide_eq_false h,cond_false,List.drop_eq_nil_of_le (by omega)]
   simp
def BansP (r : S30) (own : ByteArray) (pol : List S103) (b : List S65) : Prop := ∃ c us,Cands (stS r) own [1,2,3] [] c ∧ SetP (fun x => x ∈ c ∧ metS pol x = true) c.length us ∧ b = us.map (banE r.f0 pol)
include hfu in
theorem t65_0 (r : S30) (own : ByteArray) (pol : List S103) (hr : RmOK r) (hp : PolB pol) (C : List ByteArray → Prop) : ∀ (n : Nat) (o : List ByteArray) (i : Int),0 ≤ i → i ≤ 3 → 1000003 < (n : Int) + i → (o.length : Int) ≤ i * 220024 → Small o → (∀ c,Cands (stS r) own ([1,2,3].drop i.toNat) o c → C c) →
  Tot (d65_0 fuel ⟨r⟩ own pol (stS r) n o i) (fun b => ∃ c us,C c ∧ SetP (fun x => x ∈ c ∧ metS pol x = true) c.length us ∧ b = us.map (banE r.f0 pol)) := by
 intro n
 induction n with
 | zero => intro o i h0 h1 h2; omega
 | succ n ih =>
  intro o i h0 h1 h2 h4 h5 h6
  have hl := stS_len hr
  rw [d65_0]
  refine Tot.dec (fun h => ?_) fun h => ?_
  ·have h : i < 3 := h
   rw [inB_eq h0 (show i < ([(1 : Int),2,3].length : Int) from h)]
   have hlt : i.toNat < [(1 : Int),2,3].length := by show i.toNat < 3; omega
   rw [List.getElem?_eq_getElem hlt,Option.bind_some]
   refine Tot.bind (t72 fuel hfu (stS r) _ (by omega)) fun w hw => ?_
   have hwl := hw.len
   have hws := WithS_small hr hw
   rw [e65_1 fuel hfu _ _ _ _ _ w _ (by omega) hws n o 0 (by omega) (by omega) (by omega) (by omega)]
   have hf := fltS_len own w
   refine ih _ _ (by rw [nx_eq] <;> omega) (by rw [nx_eq] <;> omega) (by rw [nx_eq] <;> omega) ?_ ?_ ?_
   ·rw [nx_eq (by omega) (by omega),List.length_append]; show ((o.length + (fltS own w).length : Nat) : Int) ≤ _; omega
   ·intro x hx
    rcases List.mem_append.1 hx with hx | hx
    ·exact h5 x hx
    ·exact hws x (List.mem_filter.1 hx).1
   ·intro c hc
    refine h6 c ?_
    rw [List.drop_eq_getElem_cons hlt]
    refine .cons hw ?_
    rw [nx_eq (by omega) (by omega),show (i + 1).toNat = i.toNat + 1 by omega] at hc
    exact hc
  ·have h : ¬ i < 3 := h
   have hi : i.toNat = 3 := by omega
   rw [hi] at h6
   refine Tot.bind (t127 fuel hfu pol o hp (by omega) fun x hx => by have := h5 x hx; omega) fun us hu => ?_
   have hul := hu.len
   rw [e65_2 fuel hfu r pol us hp (by omega) (fun x hx => h5 x ((hu.mem x).1 hx).1) fuel [] 0 (by omega) (by omega) (by omega) (by simp)]
   exact Tot.ret ⟨o,us,h6 o .nil,hu,rfl⟩
end Go.Abs.RM
end
section
namespace Go.Abs.RM
open Go.Proofs
noncomputable section
end
end Go.Abs.RM
end
section
namespace Go.Abs.RM
open Go.Proofs.RMH
variable (fuel : Nat) (hfu : 18446744073709551616 ≤ fuel)
include hfu in
theorem t65 (r : S30) (own : ByteArray) (pol : List S103) (hr : RmOK r) (hp : PolB pol) : Tot (d65 fuel ⟨r⟩ own pol) (BansP r own pol) := by
 unfold d65
 rw [e73 fuel hfu r hr,Option.bind_some]
 exact t65_0 fuel hfu r own pol hr hp (fun c => Cands (stS r) own [1,2,3] [] c) fuel [] 0 (by omega) (by omega) (by omega) (by simp) (fun x hx => by cases hx) fun c hc => hc
noncomputable def denS (own : ByteArray) (old : List ByteArray) : List ByteArray → List ByteArray → List ByteArray
 | [],o => o
 | p :: l,o => bif decide (patC p = 0) && !gm p own && !memS old p && decide (o.length < 100) then denS own old l (o ++ [p]) else denS own old l o
theorem denS_len (own : ByteArray) (old : List ByteArray) : ∀ (l o : List ByteArray),(denS own old l o).length ≤ o.length + l.length
 | [],o => Nat.le_refl _
 | q :: l,o => by
  unfold denS
  cases (decide (patC q = 0) && !gm q own && !memS old q && decide (o.length < 100))
  ·have := denS_len own old l o; rw [cond_false,List.length_cons]; omega
  ·have := denS_len own old l (o ++ [q]); rw [List.length_append,List.length_singleton] at this; rw [cond_true,List.length_cons]; omega
include hfu in
theorem e66_0 (own : ByteArray) (old : List ByteArray) (ho : old.length ≤ 100) (hs : (own.size : Int) ≤ 1000) : ∀ (l o : List ByteArray),(∀ p ∈ l,p.size ≤ 100) → o.length ≤ 1000000 → l.length ≤ 1000 → d66_0 fuel own old l o = some (denS own old l o) := by
 intro l
 induction l with
 | nil => intro o _ _ _; rfl
 | cons p l ih =>
  intro o hp h1 h2
  have hpp := hp p List.mem_cons_self
  have hp' := fun q hq => hp q (List.mem_cons_of_mem _ hq)
  rw [List.length_cons] at h2
  rw [d66_0,e132 fuel hfu p (by omega),Option.bind_some,e133 fuel hfu p own (by omega) (by omega),Option.bind_some]
  obtain ⟨c,hc,hc2⟩ := t134 fuel hfu old p (by omega)
  have hc2 : c = memS old p := Bool.eq_iff_iff.2 (hc2.trans memS_iff.symm)
  unfold denS
  rw [hc,Option.bind_some,hc2,ih _ hp' h1 (by omega)]
  have hz : (patC p == 0) = decide (patC p = 0) := by rw [Bool.eq_iff_iff,beq_iff_eq,decide_eq_true_eq]
  rw [hz]
  by_cases hl : o.length < 100
  ·have hrm := rm_eq (b := 16) (l := o) (m := [p]) (by omega) (by rw [List.length_singleton]; omega) (d66_0 fuel own old l (o ++ [p]))
   unfold rm at hrm
   rw [hrm,ih _ hp' (by rw [List.length_append,List.length_singleton]; omega) (by omega),decide_eq_true hl,decide_eq_true (show (o.length : Int) < 100 by omega)]
   cases decide (patC p = 0) <;> cases gm p own <;> cases memS old p <;> rfl
  ·rw [decide_eq_false hl,decide_eq_false (show ¬ (o.length : Int) < 100 by omega)]
   cases decide (patC p = 0) <;> cases gm p own <;> cases memS old p <;> rfl
theorem lstS_ok {l : List S65} (h : ∀ e ∈ l,EB e) : (lstS l).1.length ≤ 100 ∧ (lstS l).2.length ≤ 100 ∧ (∀ x ∈ (lstS l).2,x.size ≤ 400) := by
 unfold lstS accS
 cases hf : l.find? (fun e => e.f3 == 6) with
 | none => exact ⟨by decide,by decide,fun x hx => (by cases hx)⟩
 | some e =>
  have := (h e (List.mem_of_find?_eq_some hf)).2.2.2.2.2
  exact ⟨this.2.2.1,this.2.2.2.1,this.2.2.2.2.2.2.2.1⟩
theorem denyL_size {pol : List S103} (h : PolB pol) : ∀ x ∈ denyL pol,x.size ≤ 100 := fun x hx => by
 obtain ⟨p,hp,rfl⟩ := List.mem_map.1 hx
 exact h.2 p (List.mem_filter.1 hp).1
def DensP (r : S30) (own : ByteArray) (pol : List S103) (z : S65 × Bool) : Prop := ∃ l,SetP (· ∈ denyL pol) 12 l ∧
 z = (e66 ⟨r⟩ (lstS (stS r)).1 (denS own (lstS (stS r)).2 l (lstS (stS r)).2),decide ((lstS (stS r)).2.length < (denS own (lstS (stS r)).2 l (lstS (stS r)).2).length))
theorem e130 (l : List ByteArray) (h : l.length ≤ 1000000) : d130 fuel l = some l := by
 have := rm_eq (b := 16) (l := ([] : List ByteArray)) (m := l) (by omega) (by rw [List.length_nil]; omega) (some l)
 unfold rm at this
 unfold d130
 exact this
include hfu in
theorem t66 (r : S30) (own : ByteArray) (pol : List S103) (hr : RmOK r) (hp : PolB pol) (hs : (own.size : Int) ≤ 1000) : Tot (d66 fuel ⟨r⟩ own pol) (DensP r own pol) := by
 have hl := stS_len hr
 have hk := lstS_ok (stS_eb hr)
 have dec : ∀ a b : List ByteArray,decide ((a.length : Int) > (b.length : Int)) = decide (b.length < a.length) := fun a b => decide_eq_decide.2 (by omega)
 unfold d66
 rw [e73 fuel hfu r hr,Option.bind_some,e129 fuel hfu _ (by omega),Option.bind_some]
 have fin : ∀ z,SetP (· ∈ denyL pol) 12 z → Tot (bif decide (z.length ≤ 1000000) then ((d66_0 fuel own (lstS (stS r)).2 z (lstS (stS r)).2).bind fun o => some (e66 ⟨r⟩ (lstS (stS r)).1 o,decide ((o.length : Int) > ((lstS (stS r)).2.length : Int)))) else none) (DensP r own pol) := fun z hz => by
  have := hz.len
  rw [decide_eq_true (show z.length ≤ 1000000 by omega),cond_true,e66_0 fuel hfu own _ hk.2.1 hs z _ (fun p hp' => denyL_size hp p ((hz.mem p).1 hp')) (by omega) (by omega),Option.bind_some,dec]
  exact Tot.ret ⟨z,hz,rfl⟩
 cases h2 : (accS (stS r)).2 with
 | true =>
  have e : lstS (stS r) = ((accS (stS r)).1.f5,(accS (stS r)).1.f6) := by unfold lstS; rw [h2]; rfl
  rw [e] at fin hk
  rw [cond_true,e130 fuel _ (by have := hk.1; dsimp only at this; omega),Option.bind_some,e130 fuel _ (by have := hk.2.1; dsimp only at this; omega),Option.bind_some]
  exact Tot.bind (t131 fuel hfu pol hp) fin
 | false =>
  have e : lstS (stS r) = ([(⟨#[42]⟩ : ByteArray)],[]) := by unfold lstS; rw [h2]; rfl
  rw [e] at fin
  rw [cond_false]
  exact Tot.bind (t131 fuel hfu pol hp) fin
def PlanP (r : S30) (own : ByteArray) (pol : List S103) (p : List S65) : Prop := ∃ b z,BansP r own pol b ∧ DensP r own pol z ∧ p = (bif z.2 then b ++ [z.1] else b)
include hfu in
theorem t21 (r : S30) (own : ByteArray) (pol : List S103) (hr : RmOK r) (hp : PolB pol) (hs : (own.size : Int) ≤ 1000) : Tot (d21 fuel r own pol) (PlanP r own pol) := by
 unfold d21
 refine Tot.bind (t65 fuel hfu r own pol hr hp) fun b hb => Tot.bind (t66 fuel hfu r own pol hr hp hs) fun z hz => ?_
 have hlen : b.length ≤ 1000000 := by
  obtain ⟨c,us,h1,h2,rfl⟩ := hb
  have := h1.len
  have := h2.len
  have := stS_len hr
  rw [List.length_map]
  simp only [List.length_nil,List.length_cons] at *
  omega
 cases h : z.2 with
 | true =>
  rw [cond_true,rm_eq (by omega) (by rw [List.length_singleton]; omega)]
  exact Tot.ret ⟨b,z,hb,hz,by rw [h]; rfl⟩
 | false => rw [cond_false]; exact Tot.ret ⟨b,z,hb,hz,by rw [h]; rfl⟩
end Go.Abs.RM
end
section
namespace Go.Abs.RM
variable (fuel : Nat) (hfu : 18446744073709551616 ≤ fuel)
theorem t19_0 (l : List S103) (hl : l.length ≤ 12) : ∀ (n : Nat) (i : Int),0 ≤ i → i ≤ l.length → (l.length : Int) < n + i → Tot (d19_0 fuel l n i) (fun r => r = true → ∀ p ∈ l.drop i.toNat,p.f1.size ≤ 100) := by
 intro n
 induction n with
 | zero => intro i h0 h1 h2; omega
 | succ n ih =>
  intro i h0 h1 h2
  rw [d19_0]
  refine Tot.dec (fun h => ?_) fun h => Tot.ret fun _ p hp => ?_
  ·obtain ⟨x,hx,_,_,hk⟩ := at1_cons h0 h (by omega)
   rw [hk,hk,hx]
   refine Tot.dec (fun _ => Tot.ret fun e => by cases e) fun hs => Tot.dec (fun _ => Tot.ret fun e => by cases e) fun _ => ?_
   refine Tot.mono (ih _ (by rw [nx_eq] <;> omega) (by rw [nx_eq] <;> omega) (by rw [nx_eq] <;> omega)) fun r hr e p hp => ?_
   rcases List.mem_cons.1 hp with rfl | hp
   ·omega
   ·exact hr e p hp
  ·rw [List.drop_eq_nil_of_le (by omega)] at hp; cases hp
include hfu in
theorem t19 (l : List S103) : Tot (d19 fuel l) (fun r => r = true → PolB l) := by
 unfold d19
 refine Tot.dec (fun _ => Tot.ret fun e => by cases e) fun h => ?_
 exact Tot.mono (t19_0 fuel l (by omega) fuel 0 (by omega) (by omega) (by omega)) fun r hr e => ⟨by omega,hr e⟩
def RawR (r : S30) : Prop := r.f0.size ≤ 9223372036854775807 ∧ (∀ e ∈ r.f1,EM e) ∧ (∀ e ∈ r.f3,EM e) ∧ r.f4.length ≤ 9223372036854775807 ∧ r.f5.length ≤ 9223372036854775807
end Go.Abs.RM
end
section
namespace Go.Abs.RM
open Go.Proofs.RMH
def ltB (a b : ByteArray) : Prop := Lb a < Lb b
theorem sop_lt (a b : ByteArray) : sop .lss a b = true ↔ ltB a b := by
 show Op.bytesLess a.toList b.toList = true ↔ _
 rw [Go.Proofs.bytesLess_eq,decide_eq_true_eq,ByteArray.toList_eq,ByteArray.toList_eq]
 rfl
theorem sop_t {a b : ByteArray} (h : sop .lss a b = true) : ltB a b := (sop_lt a b).1 h
theorem sop_f {a b : ByteArray} (h : sop .lss a b = false) : ¬ ltB a b := fun q => by rw [(sop_lt a b).2 q] at h; cases h
theorem ltB_irr {a : ByteArray} : ¬ ltB a a := List.lt_irrefl _
theorem ltB_trans {a b c : ByteArray} (h : ltB a b) (h' : ltB b c) : ltB a c := List.lt_trans h h'
theorem ltB_of {a b : ByteArray} (h : ¬ ltB a b) (hn : a ≠ b) : ltB b a := by
 rcases Classical.em (ltB b a) with q | q
 ·exact q
 ·exact absurd (Lb_inj (List.le_antisymm q h)) hn
def Inc (l : List ByteArray) : Prop := l.Pairwise ltB
theorem Inc.nodup {l : List ByteArray} (h : Inc l) : l.Nodup := h.imp fun h e => by subst e; exact ltB_irr h
theorem Inc.eq_sortS {l o : List ByteArray} (h : Inc l) (ho : o.Nodup) (hm : ∀ x,x ∈ l ↔ x ∈ o) : l = sortS o := by
 have p : l.Perm o := (List.perm_ext_iff_of_nodup h.nodup ho).2 hm
 have e : l.map Lb = (o.map Lb).mergeSort (fun a b => decide (a ≤ b)) := by
  refine List.Perm.eq_of_pairwise (le := fun a b => a ≤ b) (fun a b _ _ h1 h2 => List.le_antisymm h1 h2) ?_ ?_ ((p.map Lb).trans (List.mergeSort_perm ..).symm)
  ·exact List.pairwise_map.2 (h.imp fun h => List.le_of_lt h)
  ·have := List.pairwise_mergeSort (le := fun a b : List UInt8 => decide (a ≤ b)) (fun a b c h1 h2 => decide_eq_true (List.le_trans (of_decide_eq_true h1) (of_decide_eq_true h2))) (fun a b => by
    rcases List.le_total a b with q | q
    ·rw [decide_eq_true q]; rfl
    ·rw [decide_eq_true q,Bool.or_true]) (o.map Lb)
   exact this.imp fun h => of_decide_eq_true h
 unfold sortS
 rw [show (o.map fun s => s.data.toList) = o.map Lb from rfl,← e]
 exact (bytes_back l).symm
theorem sortS_inc {o : List ByteArray} (ho : o.Nodup) : Inc (sortS o) := by
 have p := sortS_perm o
 have hn : (sortS o).Nodup := p.symm.nodup ho
 have h : (sortS o).Pairwise fun a b => Lb a ≤ Lb b := by
  have := List.pairwise_mergeSort (le := fun a b : List UInt8 => decide (a ≤ b)) (fun a b c h1 h2 => decide_eq_true (List.le_trans (of_decide_eq_true h1) (of_decide_eq_true h2))) (fun a b => by
    rcases List.le_total a b with q | q
    ·rw [decide_eq_true q]; rfl
    ·rw [decide_eq_true q,Bool.or_true]) (o.map fun s => s.data.toList)
  unfold sortS
  exact List.pairwise_map.2 (this.imp fun h => of_decide_eq_true h)
 exact (h.and hn).imp fun h => ltB_of (fun q => h.2 (Lb_inj (List.le_antisymm h.1 (List.le_of_lt q)))  ) (fun e => h.2 e.symm)
theorem SetP.inc {P : ByteArray → Prop} {n : Nat} {r : List ByteArray} (h : SetP P n r) : Inc r := by
 obtain ⟨o,h1,_,_,rfl⟩ := h
 exact sortS_inc h1
theorem Inc.setP {P : ByteArray → Prop} {n : Nat} {r : List ByteArray} (h : Inc r) (hm : ∀ x,x ∈ r ↔ P x) (hn : r.length ≤ n) : SetP P n r := ⟨r,h.nodup,hm,hn,h.eq_sortS h.nodup fun _ => Iff.rfl⟩
theorem SetP.uniq {P Q : ByteArray → Prop} {n m : Nat} {r s : List ByteArray} (h : SetP P n r) (h' : SetP Q m s) (e : ∀ x,P x ↔ Q x) : r = s := by
 have h2 := h.inc.eq_sortS h'.nodup fun x => (h.mem x).trans ((e x).trans (h'.mem x).symm)
 rw [h2]
 exact (h'.inc.eq_sortS h'.nodup fun _ => Iff.rfl).symm
def PlaceP (l : List ByteArray) (k : Nat) (x : ByteArray) : Prop := ∀ y ∈ l.take k,ltB y x
theorem PlaceP.zero {l : List ByteArray} {x : ByteArray} : PlaceP l (0 : Int).toNat x := fun y hy => by cases hy
theorem PlaceP.step {l : List ByteArray} {k : Int} {x y : ByteArray} (h : PlaceP l k.toNat x) (h0 : 0 ≤ k) (hk : k < 9223372036854775806) (hy : l[k.toNat]? = some y) (hl : sop .lss y x = true) : PlaceP l (nx k).toNat x := by
 unfold PlaceP
 rw [take_nx h0 hk hy]
 intro z hz
 rcases List.mem_append.1 hz with hz | hz
 ·exact h z hz
 ·rw [List.mem_singleton.1 hz]; exact sop_t hl
def InsP (a : List ByteArray) (x : ByteArray) (r : List ByteArray) : Prop := (Inc a → Inc r) ∧ (∀ y,y ∈ r ↔ y ∈ a ∨ y = x) ∧ r.length ≤ a.length + 1
theorem ins_keep {a : List ByteArray} {x y : ByteArray} {k : Nat} (hy : a[k]? = some y) (e : y = x) : InsP a x a :=
 ⟨id,fun z => ⟨.inl,fun h => h.elim id fun h => by rw [h,← e]; exact List.mem_of_getElem? hy⟩,Nat.le_succ _⟩
theorem ins_mid {a : List ByteArray} {x : ByteArray} {k : Nat} (h : PlaceP a k x) (hc : a.length ≤ k ∨ ∃ y,a[k]? = some y ∧ ¬ ltB y x ∧ y ≠ x) : InsP a x (a.take k ++ x :: a.drop k) := by
 refine ⟨fun ha => ?_,fun y => ?_,by simp only [List.length_append,List.length_cons,List.length_take,List.length_drop]; omega⟩
 ·have hd : ∀ y ∈ a.drop k,ltB x y := by
   rcases hc with hc | ⟨y,hy,h1,h2⟩
   ·rw [List.drop_eq_nil_of_le hc]; intro y hy; cases hy
   ·have hk : k < a.length := (List.getElem?_eq_some_iff.1 hy).1
    rw [List.drop_eq_getElem_cons hk]
    rw [List.getElem?_eq_getElem hk] at hy
    cases hy
    have hxy := ltB_of h1 h2
    have hp : (a.drop k).Pairwise ltB := ha.sublist (List.drop_sublist ..)
    rw [List.drop_eq_getElem_cons hk] at hp
    intro z hz
    rcases List.mem_cons.1 hz with e | hz
    ·rw [e]; exact hxy
    ·exact ltB_trans hxy (List.rel_of_pairwise_cons hp hz)
  refine List.pairwise_append.2 ⟨ha.sublist (List.take_sublist ..),List.pairwise_cons.2 ⟨hd,ha.sublist (List.drop_sublist ..)⟩,fun y hy z hz => ?_⟩
  rcases List.mem_cons.1 hz with e | hz
  ·rw [e]; exact h y hy
  ·exact ltB_trans (h y hy) (hd z hz)
 ·have : y ∈ a ↔ y ∈ a.take k ∨ y ∈ a.drop k := by
   conv => lhs; rw [← List.take_append_drop k a]
   exact List.mem_append
  rw [List.mem_append,List.mem_cons,this]
  constructor
  ·rintro (h | h | h)
   ·exact .inl (.inl h)
   ·exact .inr h
   ·exact .inl (.inr h)
  ·rintro ((h | h) | h)
   ·exact .inl h
   ·exact .inr (.inr h)
   ·exact .inr (.inl h)
theorem ins_put {a : List ByteArray} {x : ByteArray} {k : Nat} (h : PlaceP a k x) (hc : a.length ≤ k ∨ ∃ y,a[k]? = some y ∧ ¬ ltB y x ∧ y ≠ x) : InsP a x ((([] ++ (a.drop 0).take (k - 0)) ++ [x]) ++ (a.drop k).take (a.length - k)) := by
 have e : (([] ++ (a.drop 0).take (k - 0)) ++ [x]) ++ (a.drop k).take (a.length - k) = a.take k ++ x :: a.drop k := by
  rw [List.take_of_length_le (by simp : (a.drop k).length ≤ a.length - k)]
  simp
 rw [e]
 exact ins_mid h hc
def ShiftP (p v : List ByteArray) (j : Int) : Prop := ∃ y,v = p.take j.toNat ++ y :: p.drop j.toNat
theorem ShiftP.init {p : List ByteArray} {y : ByteArray} {j : Int} (h : j.toNat = p.length) : ShiftP p (p ++ [y]) j := ⟨y,by rw [h,List.take_length,List.drop_length]⟩
theorem ShiftP.step {p v : List ByteArray} {j i : Int} {x : ByteArray} (h : ShiftP p v j) (h0 : 0 < j) (hj : j ≤ (p.length : Int)) (hi : i = j - 1) (hx : v[i.toNat]? = some x) : ShiftP p (v.set j.toNat x) i := by
 obtain ⟨y,rfl⟩ := h
 subst hi
 have hj' : (j - 1).toNat < p.length := by omega
 have e : j.toNat = (j - 1).toNat + 1 := by omega
 unfold ShiftP
 generalize (j - 1).toNat = n at *
 rw [e] at hx ⊢
 rw [List.getElem?_append_left (by rw [List.length_take]; omega),List.getElem?_take_of_lt (by omega),List.getElem?_eq_getElem hj'] at hx
 cases hx
 refine ⟨p[n],?_⟩
 rw [List.set_append_right _ _ (by rw [List.length_take]; omega),List.length_take,show n + 1 - min (n + 1) p.length = 0 by omega,List.set_cons_zero,← List.take_append_getElem hj',List.append_assoc,List.drop_eq_getElem_cons hj']
 rfl
theorem ShiftP.put {p v : List ByteArray} {j : Int} {x : ByteArray} (h : ShiftP p v j) (h0 : 0 ≤ j) (hj : j ≤ (p.length : Int)) : v.set j.toNat x = p.take j.toNat ++ x :: p.drop j.toNat := by
 obtain ⟨y,rfl⟩ := h
 rw [List.set_append_right _ _ (by rw [List.length_take]; omega),List.length_take,show j.toNat - min j.toNat p.length = 0 by omega,List.set_cons_zero]
def NamesI (l p : List ByteArray) (i : Int) : Prop := Inc p ∧ ∀ x,x ∈ p ↔ x ∈ l.take i.toNat
theorem NamesI.zero {l : List ByteArray} : NamesI l [] (0 : Int) := ⟨List.Pairwise.nil,fun x => by simp⟩
theorem NamesI.ins {l p r : List ByteArray} {i : Int} {x : ByteArray} (h : NamesI l p i) (h0 : 0 ≤ i) (hi : i < 9223372036854775806) (hx : l[i.toNat]? = some x) (hr : InsP p x r) : NamesI l r (nx i) := by
 refine ⟨hr.1 h.1,fun y => ?_⟩
 rw [take_nx h0 hi hx,List.mem_append,List.mem_singleton,hr.2.1,h.2]
theorem NamesI.new {l p v : List ByteArray} {i k : Int} {x : ByteArray} (h : NamesI l p i) (h0 : 0 ≤ i) (hi : i < 9223372036854775806) (hx : l[i.toNat]? = some x) (hk0 : 0 ≤ k) (hk : k ≤ (p.length : Int)) (hp : ∀ x,l[i.toNat]? = some x → PlaceP p k.toNat x) (hc : p.length ≤ k.toNat ∨ ∃ y,p[k.toNat]? = some y ∧ ¬ ltB y x ∧ y ≠ x) (hv : ShiftP p v k) : NamesI l (v.set k.toNat x) (nx i) := by
 rw [hv.put hk0 hk]
 exact h.ins h0 hi hx (ins_mid (hp x hx) hc)
theorem NamesI.fin {l p : List ByteArray} {i : Int} (h : NamesI l p i) (hi : ¬ i < (l.length : Int)) (hn : p.length ≤ l.length) : SetP (· ∈ l) l.length p :=
 h.1.setP (fun x => by rw [h.2,List.take_of_length_le (by omega)]) hn
def WithI (l : List S65) (m : Int) (p : List ByteArray) (i : Int) : Prop := Inc p ∧ ∀ k,k ∈ p ↔ (∃ e ∈ l.take i.toNat,memK k e = true) ∧ ofS l k = m
theorem WithI.zero {l : List S65} {m : Int} : WithI l m [] (0 : Int) := ⟨List.Pairwise.nil,fun k => by simp⟩
theorem WithI.keep {l : List S65} {m : Int} {p : List ByteArray} {i : Int} {x : S65} (h : WithI l m p i) (h0 : 0 ≤ i) (hi : i < 9223372036854775806) (hx : l[i.toNat]? = some x) (hn : x.f3 = 2 → ofS l x.f5 ≠ m) : WithI l m p (nx i) := by
 refine ⟨h.1,fun k => ?_⟩
 rw [h.2,take_nx h0 hi hx]
 constructor
 ·rintro ⟨⟨e,he,hk⟩,h2⟩
  exact ⟨⟨e,List.mem_append_left _ he,hk⟩,h2⟩
 ·rintro ⟨⟨e,he,hk⟩,h2⟩
  rcases List.mem_append.1 he with he | he
  ·exact ⟨⟨e,he,hk⟩,h2⟩
  ·rw [List.mem_singleton.1 he] at hk
   obtain ⟨h3,h4⟩ := memK_iff.1 hk
   rw [← h4] at h2
   exact absurd h2 (hn h3)
theorem WithI.ins {l : List S65} {m : Int} {p r : List ByteArray} {i : Int} {x : S65} (h : WithI l m p i) (h0 : 0 ≤ i) (hi : i < 9223372036854775806) (hx : l[i.toNat]? = some x) (h2 : x.f3 = 2) (ho : ofS l x.f5 = m) (hr : InsP p x.f5 r) : WithI l m r (nx i) := by
 refine ⟨hr.1 h.1,fun k => ?_⟩
 rw [hr.2.1,h.2,take_nx h0 hi hx]
 constructor
 ·rintro (⟨⟨e,he,hk⟩,h3⟩ | rfl)
  ·exact ⟨⟨e,List.mem_append_left _ he,hk⟩,h3⟩
  ·exact ⟨⟨x,by simp,memK_iff.2 ⟨h2,rfl⟩⟩,ho⟩
 ·rintro ⟨⟨e,he,hk⟩,h3⟩
  rcases List.mem_append.1 he with he | he
  ·exact .inl ⟨⟨e,he,hk⟩,h3⟩
  ·rw [List.mem_singleton.1 he] at hk
   exact .inr (memK_iff.1 hk).2.symm
theorem WithI.fin {l : List S65} {m : Int} {p : List ByteArray} {i : Int} (h : WithI l m p i) (hi : ¬ i < (l.length : Int)) (hn : p.length ≤ l.length) : SetP (WithS l m) l.length p :=
 h.1.setP (fun k => by rw [h.2,List.take_of_length_le (by omega)]; rfl) hn
end Go.Abs.RM
end
section
namespace Go.Abs.RM
open Go.Proofs.RMH
theorem take_all {α : Type} {l : List α} {P : α → Prop} {i : Int} {x : α} (h : ∀ y ∈ l.take i.toNat,P y) (h0 : 0 ≤ i) (hi : i < 9223372036854775806) (hx : l[i.toNat]? = some x) (hp : P x) : ∀ y ∈ l.take (nx i).toNat,P y := by
 rw [take_nx h0 hi hx]
 intro y hy
 rcases List.mem_append.1 hy with hy | hy
 ·exact h y hy
 ·rw [List.mem_singleton.1 hy]; exact hp
theorem memK_n1 {a : ByteArray} {e : S65} (h : e.f3 ≠ 2) : memK a e = false := by
 cases hc : memK a e with
 | false => rfl
 | true => exact absurd (memK_iff.1 hc).1 h
theorem memK_n2 {a : ByteArray} {e : S65} (h : e.f5 ≠ a) : memK a e = false := by
 cases hc : memK a e with
 | false => rfl
 | true => exact absurd (memK_iff.1 hc).2 h
theorem ofS_none {l : List S65} {a : ByteArray} {k : Nat} (h : ∀ e ∈ l.take k,memK a e = false) (hk : l.length ≤ k) : ofS l a = 0 := by
 rw [List.take_of_length_le hk] at h
 unfold ofS
 rw [List.find?_eq_none.2 fun x hx => by rw [h x hx]; exact Bool.noConfusion]
theorem InsP.len {a r : List ByteArray} {x : ByteArray} (h : InsP a x r) : r.length ≤ a.length + 1 := h.2.2
theorem placeAll {l p : List ByteArray} {i k : Int} {x y : ByteArray} (h0 : 0 ≤ k) (hk : k < 9223372036854775806) (hy : p[k.toNat]? = some y) (hx : l[i.toNat]? = some x) (h : ∀ x,l[i.toNat]? = some x → PlaceP p k.toNat x) (hl : sop .lss y x = true) : ∀ x,l[i.toNat]? = some x → PlaceP p (nx k).toNat x := fun z hz => by
 rw [hx] at hz
 cases hz
 exact (h x hx).step h0 hk hy hl
theorem ShiftP.at {p v : List ByteArray} {j k : Int} (h : ShiftP p v j) (e : j = k) : ShiftP p v k := e ▸ h
theorem match_skip {l : List S103} {k : Int} {s : ByteArray} {i : Int} {x : S103} {r : S103 × Bool} (h : matchS (l.drop i.toNat) k s = r) (h0 : 0 ≤ i) (hi : i < 9223372036854775807) (hx : l[i.toNat]? = some x) (hn : x.f0 ≠ k ∨ gm x.f1 s = false) : matchS (l.drop (nx i).toNat) k s = r := by
 rw [drop_cons h0 hx hi,matchS_cons] at h
 rcases hn with hn | hn
 ·rw [show (x.f0 == k) = false by simpa using hn] at h; exact h
 ·rw [hn] at h
  cases hk : x.f0 == k <;> rw [hk] at h <;> exact h
theorem match_hit {l : List S103} {k : Int} {s : ByteArray} {i : Int} {x : S103} {r : S103 × Bool} (h : matchS (l.drop i.toNat) k s = r) (h0 : 0 ≤ i) (hi : i < 9223372036854775807) (hx : l[i.toNat]? = some x) (hk : x.f0 = k) (hg : gm x.f1 s = true) : (x,true) = r := by
 rw [drop_cons h0 hx hi,matchS_cons,hg,hk] at h
 simpa using h
theorem match_end {l : List S103} {k : Int} {s : ByteArray} {i : Int} {r : S103 × Bool} (h : matchS (l.drop i.toNat) k s = r) (hi : ¬ i < (l.length : Int)) : (ze103,false) = r := by
 rw [drop_end hi] at h; exact h
theorem flt_t {α : Type} {l p : List α} {f : α → Bool} {i : Int} {x : α} (h : p = (l.take i.toNat).filter f) (h0 : 0 ≤ i) (hi : i < 9223372036854775806) (hx : l[i.toNat]? = some x) (hf : f x = true) : p ++ [x] = (l.take (nx i).toNat).filter f := by
 rw [take_nx h0 hi hx,List.filter_append,← h,List.filter_cons,hf]; rfl
theorem flt_f {α : Type} {l p : List α} {f : α → Bool} {i : Int} {x : α} (h : p = (l.take i.toNat).filter f) (h0 : 0 ≤ i) (hi : i < 9223372036854775806) (hx : l[i.toNat]? = some x) (hf : f x = false) : p = (l.take (nx i).toNat).filter f := by
 rw [take_nx h0 hi hx,List.filter_append,← h,List.filter_cons,hf]; simp
theorem met1 {l : List S103} {x : ByteArray} {z : S103 × Bool} (h : z = matchS l 2 x) (h1 : z.2 = true) : metS l x = true := by
 unfold metS; rw [← h,h1]; rfl
theorem met2 {l : List S103} {x s : ByteArray} {z z' : S103 × Bool} {b : Bool} (h : z = matchS l 2 x) (h1 : z.2 = false) (hs : s = srvOf x) (hn : (s.toList == zS.toList) = false) (h' : z' = matchS l 6 s) (h2 : z'.2 = b) : metS l x = b := by
 unfold metS
 rw [← h,h1,← hs,← h',h2,hn]
 cases b <;> rfl
theorem met3 {l : List S103} {x s : ByteArray} {z : S103 × Bool} (h : z = matchS l 2 x) (h1 : z.2 = false) (hs : s = srvOf x) (hn : (s.toList == zS.toList) = true) : metS l x = false := by
 unfold metS
 rw [← h,h1,← hs,hn]
 simp
theorem SetP.to {P Q : ByteArray → Prop} {n m : Nat} {r : List ByteArray} (h : SetP P n r) (e : ∀ x,P x ↔ Q x) (hn : n ≤ m) : SetP Q m r := by
 obtain ⟨o,h1,h2,h3,h4⟩ := h
 exact ⟨o,h1,fun x => (h2 x).trans (e x),Nat.le_trans h3 hn,h4⟩
theorem users_fin {l p r : List ByteArray} {f : ByteArray → Bool} {i : Int} (h : SetP (· ∈ p) p.length r) (hp : p = (l.take i.toNat).filter f) (hi : ¬ i < (l.length : Int)) (hn : p.length ≤ l.length) : SetP (fun x => x ∈ l ∧ f x = true) l.length r := by
 rw [List.take_of_length_le (by omega)] at hp
 exact h.to (fun x => by rw [hp,List.mem_filter]) hn
theorem deny_t {l : List S103} {p : List ByteArray} {i : Int} {x : S103} (h : p = denyL (l.take i.toNat)) (h0 : 0 ≤ i) (hi : i < 9223372036854775806) (hx : l[i.toNat]? = some x) (hf : x.f0 = 6) : p ++ [x.f1] = denyL (l.take (nx i).toNat) := by
 unfold denyL at *
 rw [take_nx h0 hi hx,List.filter_append,List.map_append,← h,List.filter_cons,show (x.f0 == 6) = true by simpa using hf]; rfl
theorem deny_f {l : List S103} {p : List ByteArray} {i : Int} {x : S103} (h : p = denyL (l.take i.toNat)) (h0 : 0 ≤ i) (hi : i < 9223372036854775806) (hx : l[i.toNat]? = some x) (hf : x.f0 ≠ 6) : p = denyL (l.take (nx i).toNat) := by
 unfold denyL at *
 rw [take_nx h0 hi hx,List.filter_append,List.map_append,← h,List.filter_cons,show (x.f0 == 6) = false by simpa using hf]; simp
theorem deny_fin {l : List S103} {p r : List ByteArray} {i : Int} (h : SetP (· ∈ p) p.length r) (hp : p = denyL (l.take i.toNat)) (hi : ¬ i < (l.length : Int)) (hn : p.length ≤ 12) : SetP (· ∈ denyL l) 12 r := by
 rw [List.take_of_length_le (by omega)] at hp
 exact h.to (fun x => by rw [hp]) hn
theorem rea1 {l : List S103} {x : ByteArray} {z : S103 × Bool} (h : z = matchS l 2 x) (h1 : z.2 = true) : z.1.f2 = reaS l x := by
 unfold reaS; rw [← h,h1]; rfl
theorem rea2 {l : List S103} {x s : ByteArray} {z z' : S103 × Bool} (h : z = matchS l 2 x) (h1 : z.2 = false) (hs : s = srvOf x) (h' : z' = matchS l 6 s) : z'.1.f2 = reaS l x := by
 unfold reaS; rw [← h,h1,← hs,← h']; rfl
theorem fltS_t {own : ByteArray} {l p : List ByteArray} {i : Int} {x s : ByteArray} (h : p = fltS own (l.take i.toNat)) (h0 : 0 ≤ i) (hi : i < 9223372036854775806) (hx : l[i.toNat]? = some x) (hs : s = srvOf x) (hf : s ≠ own) : p ++ [x] = fltS own (l.take (nx i).toNat) :=
 flt_t h h0 hi hx (by rw [← hs,tl_eq,decide_eq_false hf]; rfl)
theorem fltS_f {own : ByteArray} {l p : List ByteArray} {i : Int} {x s : ByteArray} (h : p = fltS own (l.take i.toNat)) (h0 : 0 ≤ i) (hi : i < 9223372036854775806) (hx : l[i.toNat]? = some x) (hs : s = srvOf x) (hf : s = own) : p = fltS own (l.take (nx i).toNat) :=
 flt_f h h0 hi hx (by rw [← hs,tl_eq,decide_eq_true hf]; rfl)
theorem cands_fin {l : List S65} {own : ByteArray} {w1 w2 w3 p : List ByteArray} {i : Int} (h1 : SetP (WithS l 1) l.length w1) (h2 : SetP (WithS l 2) l.length w2) (h3 : SetP (WithS l 3) l.length w3) (hp : p = fltS own (([] ++ w1 ++ w2 ++ w3).take i.toNat)) (hi : ¬ i < (([] ++ w1 ++ w2 ++ w3).length : Int)) : Cands l own [1,2,3] [] p := by
 rw [List.take_of_length_le (by omega)] at hp
 refine .cons h1 (.cons h2 (.cons h3 ?_))
 rw [hp]
 unfold fltS
 rw [List.nil_append,List.filter_append,List.filter_append,List.nil_append]
 exact .nil
theorem withs_sz {l : List S65} {m : Int} {n : Nat} {w : List ByteArray} {x : ByteArray} (g : ∀ e ∈ l,e.f5.size ≤ 1000) (h : SetP (WithS l m) n w) (hx : x ∈ w) : x.size ≤ 1000 := by
 obtain ⟨e,he,hk⟩ := ((h.mem x).1 hx).1
 have := g e he
 rw [(memK_iff.1 hk).2] at this
 exact this
theorem withs_small {l : List S65} {w1 w2 w3 : List ByteArray} {x : ByteArray} (g : ∀ e ∈ l,e.f5.size ≤ 1000) (h1 : SetP (WithS l 1) l.length w1) (h2 : SetP (WithS l 2) l.length w2) (h3 : SetP (WithS l 3) l.length w3) (hx : x ∈ [] ++ w1 ++ w2 ++ w3) : (x.size : Int) ≤ 9223372036854775806 := by
 have : x.size ≤ 1000 := by
  rw [List.nil_append] at hx
  rcases List.mem_append.1 hx with hx | hx
  ·rcases List.mem_append.1 hx with hx | hx
   ·exact withs_sz g h1 hx
   ·exact withs_sz g h2 hx
  ·exact withs_sz g h3 hx
 omega
theorem withs_len {l : List S65} {w1 w2 w3 : List ByteArray} (h1 : SetP (WithS l 1) l.length w1) (h2 : SetP (WithS l 2) l.length w2) (h3 : SetP (WithS l 3) l.length w3) : ([] ++ w1 ++ w2 ++ w3).length ≤ 3 * l.length := by
 have := h1.len; have := h2.len; have := h3.len
 simp only [List.length_append,List.length_nil]
 omega
def Slim (e : S65) : Prop := e.f8.length ≤ 1000 ∧ e.f9.length ≤ 1000 ∧ e.f10.f5.length ≤ 1000 ∧ e.f10.f6.length ≤ 1000 ∧ e.f10.f7.f0.length ≤ 1000 ∧ e.f10.f7.f1.length ≤ 1000
theorem st_len {r : S30} {z : List S65} (h : z = stS r) (g : RmOK r) : z.length ≤ 220024 := h ▸ stS_len g
theorem st_small {r : S30} {z : List S65} (h : z = stS r) (g : RmOK r) : ∀ x ∈ z,x.f5.size ≤ 1000 := fun x hx => by
 have := (stS_eb g x (h ▸ hx)).2.2.1
 omega
theorem cand_len {r : S30} {z : List S65} {own : ByteArray} {c : List ByteArray} (hc : Cands z own [1,2,3] [] c) (h : z = stS r) (g : RmOK r) : c.length ≤ 700000 := by
 have := hc.len
 have := st_len h g
 simp only [List.length_nil,List.length_cons] at *
 omega
theorem cand_small {r : S30} {z : List S65} {own : ByteArray} {c : List ByteArray} (hc : Cands z own [1,2,3] [] c) (h : z = stS r) (g : RmOK r) : ∀ x ∈ c,x.size ≤ 1000000 := fun x hx => by
 subst h
 have := hc.small g (fun y hy => by cases hy) x hx
 omega
theorem users_small {r : S30} {z : List S65} {own : ByteArray} {c us : List ByteArray} {P : ByteArray → Prop} {n : Nat} {x : ByteArray} (hc : Cands z own [1,2,3] [] c) (h : z = stS r) (g : RmOK r) (hu : SetP (fun x => x ∈ c ∧ P x) n us) (hx : x ∈ us) : (x.size : Int) ≤ 1000000 := by
 have := cand_small hc h g x ((hu.mem x).1 hx).1
 omega
theorem map_step {α β : Type} {l : List α} {p : List β} {f : α → β} {i : Int} {x : α} {y : β} (h : p = (l.take i.toNat).map f) (h0 : 0 ≤ i) (hi : i < 9223372036854775806) (hx : l[i.toNat]? = some x) (hy : y = f x) : p ++ [y] = (l.take (nx i).toNat).map f := by
 rw [take_nx h0 hi hx,List.map_append,← h,hy]; rfl
theorem lst_len {r : S30} {w : List S65} {z : List ByteArray × List ByteArray} (h : z = lstS w) (hw : w = stS r) (g : RmOK r) : z.1.length ≤ 100 ∧ z.2.length ≤ 100 := by
 subst h hw
 exact ⟨(lstS_ok (stS_eb g)).1,(lstS_ok (stS_eb g)).2.1⟩
theorem deny_small {pol : List S103} {l : List ByteArray} {n : Nat} {x : ByteArray} (h : SetP (· ∈ denyL pol) n l) (g : PolB pol) (hx : x ∈ l) : (x.size : Int) ≤ 100 := by
 have := denyL_size g x ((h.mem x).1 hx)
 omega
theorem den_t {own : ByteArray} {old l o r : List ByteArray} {i : Int} {x : ByteArray} (h : denS own old (l.drop i.toNat) o = r) (h0 : 0 ≤ i) (hi : i < 9223372036854775807) (hx : l[i.toNat]? = some x) (h1 : patC x = 0) (h2 : gm x own = false) (h3 : memS old x = false) (h4 : (o.length : Int) < 100) : denS own old (l.drop (nx i).toNat) (o ++ [x]) = r := by
 rw [drop_cons h0 hx hi,denS,decide_eq_true h1,h2,h3,decide_eq_true (show o.length < 100 by omega)] at h
 exact h
theorem den_f {own : ByteArray} {old l o r : List ByteArray} {i : Int} {x : ByteArray} (h : denS own old (l.drop i.toNat) o = r) (h0 : 0 ≤ i) (hi : i < 9223372036854775807) (hx : l[i.toNat]? = some x) (hn : patC x ≠ 0 ∨ gm x own = true ∨ memS old x = true ∨ ¬ (o.length : Int) < 100) : denS own old (l.drop (nx i).toNat) o = r := by
 rw [drop_cons h0 hx hi,denS] at h
 have e : (decide (patC x = 0) && !gm x own && !memS old x && decide (o.length < 100)) = false := by
  rcases hn with hn | hn | hn | hn
  ·rw [decide_eq_false hn]; rfl
  ·rw [hn]; simp
  ·rw [hn]; simp
  ·rw [decide_eq_false (show ¬ o.length < 100 by omega)]; simp
 rw [e] at h
 exact h
theorem plan_y {r : S30} {own : ByteArray} {pol : List S103} {z w b : List S65} {c us l al o : List ByteArray} {k : List ByteArray × List ByteArray} {i j : Int} (hc : Cands z own [1,2,3] [] c) (hz : z = stS r) (hu : SetP (fun x => x ∈ c ∧ metS pol x = true) c.length us) (hb : b = (us.take i.toNat).map (banE r.f0 pol)) (hi : ¬ i < (us.length : Int)) (hk : k = lstS w) (hw : w = stS r) (hl : SetP (· ∈ denyL pol) 12 l) (ho : denS own k.2 (l.drop j.toNat) o = denS own k.2 l k.2) (hj : ¬ j < (l.length : Int)) (hlen : (o.length : Int) > (k.2.length : Int)) (e : al = k.1) : PlanP r own pol (b ++ [e66 ⟨r⟩ al o]) := by
 subst hz hw hk e
 rw [drop_end hj,denS] at ho
 rw [List.take_of_length_le (by omega)] at hb
 subst hb ho
 refine ⟨_,_,⟨c,us,hc,hu,rfl⟩,⟨l,hl,rfl⟩,?_⟩
 rw [decide_eq_true (by omega)]; rfl
theorem plan_n {r : S30} {own : ByteArray} {pol : List S103} {z w b : List S65} {c us l o : List ByteArray} {k : List ByteArray × List ByteArray} {i j : Int} (hc : Cands z own [1,2,3] [] c) (hz : z = stS r) (hu : SetP (fun x => x ∈ c ∧ metS pol x = true) c.length us) (hb : b = (us.take i.toNat).map (banE r.f0 pol)) (hi : ¬ i < (us.length : Int)) (hk : k = lstS w) (hw : w = stS r) (hl : SetP (· ∈ denyL pol) 12 l) (ho : denS own k.2 (l.drop j.toNat) o = denS own k.2 l k.2) (hj : ¬ j < (l.length : Int)) (hlen : ¬ (o.length : Int) > (k.2.length : Int)) : PlanP r own pol b := by
 subst hz hw hk
 rw [drop_end hj,denS] at ho
 rw [List.take_of_length_le (by omega)] at hb
 subst hb ho
 refine ⟨_,_,⟨c,us,hc,hu,rfl⟩,⟨l,hl,rfl⟩,?_⟩
 rw [decide_eq_false (by omega)]; rfl
theorem Cands.uniq {l : List S65} {own : ByteArray} : ∀ {ms : List Int} {o c c' : List ByteArray},Cands l own ms o c → Cands l own ms o c' → c = c'
 | _,_,_,_,.nil,.nil => rfl
 | _,_,_,_,.cons h hs,.cons h' hs' => by
  obtain rfl := h.uniq h' fun _ => Iff.rfl
  exact hs.uniq hs'
theorem plan_uniq {r : S30} {own : ByteArray} {pol : List S103} {p q : List S65} (h : PlanP r own pol p) (h' : PlanP r own pol q) : p = q := by
 obtain ⟨b,z,⟨c,us,hc,hu,rfl⟩,⟨l,hl,rfl⟩,rfl⟩ := h
 obtain ⟨b',z',⟨c',us',hc',hu',rfl⟩,⟨l',hl',rfl⟩,rfl⟩ := h'
 obtain rfl := hc.uniq hc'
 obtain rfl := hu.uniq hu' fun _ => Iff.rfl
 obtain rfl := hl.uniq hl' fun _ => Iff.rfl
 rfl
theorem plan_slim {r : S30} {own : ByteArray} {pol : List S103} {p : List S65} (g : RmOK r) (h : PlanP r own pol p) : p.length ≤ 1000000 ∧ ∀ e ∈ p,Slim e := by
 obtain ⟨b,z,⟨c,us,hc,hu,rfl⟩,⟨l,hl,rfl⟩,rfl⟩ := h
 have h1 := cand_len hc rfl g
 have h2 := hu.len
 have h3 := hl.len
 have h4 := lst_len rfl rfl g
 have hb : ∀ e ∈ us.map (banE r.f0 pol),Slim e := fun e he => by
  obtain ⟨u,_,rfl⟩ := List.mem_map.1 he
  exact ⟨Nat.zero_le _,Nat.zero_le _,Nat.zero_le _,Nat.zero_le _,Nat.zero_le _,Nat.zero_le _⟩
 have h5 := denS_len own (lstS (stS r)).2 l (lstS (stS r)).2
 cases decide ((lstS (stS r)).2.length < (denS own (lstS (stS r)).2 l (lstS (stS r)).2).length)
 ·exact ⟨by simp only [cond_false,List.length_map]; omega,hb⟩
 ·refine ⟨by simp only [cond_true,List.length_append,List.length_map,List.length_singleton]; omega,fun e he => ?_⟩
  rcases List.mem_append.1 he with he | he
  ·exact hb e he
  ·rw [List.mem_singleton.1 he]
   exact ⟨Nat.zero_le _,Nat.zero_le _,by show (lstS (stS r)).1.length ≤ 1000; omega,by show (denS own (lstS (stS r)).2 l (lstS (stS r)).2).length ≤ 1000; omega,Nat.zero_le _,Nat.zero_le _⟩
end Go.Abs.RM
end
section
namespace Go.Abs.RM
open Go.Proofs Go.Proofs.RMH
set_option maxRecDepth 100000
theorem ofE {α : Type} {f : FuncId} {args : List WV} {en : α → WV} {x : Option α} {Q : α → Prop} (h : Tot x Q) (ok : ∀ r,x = some r → WValid P f args (fun z => z = en r)) : WQv f args en Q := fun xs hx => by
 obtain ⟨r,h1,h2⟩ := h
 obtain ⟨v,x,h3,h4,h5⟩ := ok r h1 xs hx
 exact ⟨v,x,h3,⟨r,h4,h2⟩,h5⟩
theorem ofS' {α : Type} {f : FuncId} {args : List WV} {en : α → WV} {x : Option α} {y : α} (h : x = some y) (ok : ∀ r,x = some r → WValid P f args (fun z => z = en r)) : WQv f args en (fun r => r = y) := ofE ⟨y,h,rfl⟩ ok
abbrev FU : Nat := 18446744073709551616
theorem fu : 18446744073709551616 ≤ FU := Nat.le_refl _
theorem w1028 (a0 : ByteArray) (g0 : (a0.size : Int) ≤ 9223372036854775806) : WQv 28 [.sc (.string a0)] (fun r : ByteArray => .sc (.string r)) (fun r => r = srvOf a0) := ofS' (e28 FU fu a0 g0) (d28_ok FU a0)
theorem w1030 (a0 : ByteArray) (a1 : ByteArray) (g0 : (a0.size : Int) ≤ 9223372036854775806) (g1 : (a1.size : Int) ≤ 9223372036854775000) : WQv 30 [.sc (.string a0),.sc (.string a1)] (fun r : Bool => .sc (.bool r)) (fun r => r = gm a0 a1) := ofS' (e30 FU fu a0 a1 g0 g1) (d30_ok FU a0 a1)
theorem w1071 (a0 : ByteArray) (g0 : (a0.size : Int) ≤ 9223372036854775806) : WQv 71 [.sc (.string a0)] (fun r : Int => .sc (.int .i64 r)) (fun r => r = patC a0) := ofS' (e71 FU fu a0 g0) (d71_ok FU a0)
theorem w1029 (a0 : List ByteArray) (a1 : ByteArray) (g0 : a0.length ≤ 1000000000) : WQv 29 [.lst (a0.map cStr),.sc (.string a1)] (fun r : Bool => .sc (.bool r)) (fun r => r = memS a0 a1) := ofE (Tot.mono (t29 FU fu a0 a1 g0) fun r h => Bool.eq_iff_iff.2 (h.trans memS_iff.symm)) (d29_ok FU a0 a1)
theorem w1026 (a0 : List S65) (g0 : a0.length ≤ 1000000000) : WQv 26 [.lst (a0.map S65.c)] (fun r : (List ByteArray) × (List ByteArray) => .tup [.lst (r.1.map cStr),.lst (r.2.map cStr)]) (fun r => r = lstS a0) := ofS' (e26 FU fu a0 g0) (d26_ok FU a0)
theorem w1027 (a0 : S30) (g0 : RmOK a0) : WQv 27 [.agg (S30.c a0)] (fun r : List S65 => .lst (r.map S65.c)) (fun r => r = stS a0) := ofS' (e27 FU fu a0 g0) (d27_ok FU a0)
theorem w1072 (a0 : List S65) (a1 : Int) (g0 : a0.length ≤ 1000000) : WQv 72 [.lst (a0.map S65.c),.sc (.int .i64 a1)] (fun r : List ByteArray => .lst (r.map cStr)) (fun r => SetP (WithS a0 a1) a0.length r) := ofE (t72 FU fu a0 a1 g0) (d72_ok FU a0 a1)
theorem w1073 (a0 : S112) (g0 : RmOK a0.f0) : WQv 73 [.ipt (S112.c a0)] (fun r : List S65 => .lst (r.map S65.c)) (fun r => r = stS a0.f0) := ofS' (e73 FU fu a0.f0 g0) (d73_ok FU a0)
theorem w1021 (a0 : S30) (a1 : ByteArray) (a2 : List S103) (g0 : RmOK a0) (g1 : PolB a2) (g2 : (a1.size : Int) ≤ 1000) : WQv 21 [.agg (S30.c a0),.sc (.string a1),.lst (a2.map S103.c)] (fun r : List S65 => .lst (r.map S65.c)) (fun r => PlanP a0 a1 a2 r) := ofE (t21 FU fu a0 a1 a2 g0 g1 g2) (d21_ok FU a0 a1 a2)
end Go.Abs.RM
end
