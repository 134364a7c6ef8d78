/- Policies, members: what the functions give. -/
import Derived.Test.YthbenojbjjgnaaaGreatUAp
set_option linter.unusedVariables false
set_option linter.unusedSimpArgs false
set_option linter.unusedSectionVars false
section
namespace Go.Abs.RM
open Go.Proofs.RMH
variable (fuel : Nat) (hfu : 18446744073709551616 ≤ fuel)
def Asc (s : ByteArray) : Prop := asciiB s = true ∧ s.size ≤ 64
theorem e193 {p s : ByteArray} (h : Asc p) : d193 fuel p s = some (fitsL (Lb p) (Lb s)) := by
 unfold d193
 rw [h.1,decide_eq_true (show p.size ≤ 1000000 by have := h.2; omega)]
 rfl
theorem e192 {p : ByteArray} (h : Asc p) : d192 fuel p = some (cutS (Lb p) []) := by
 unfold d192
 rw [h.1,decide_eq_true (show p.size ≤ 1000000 by have := h.2; omega)]
 rfl
theorem parts_mem : ∀ (l cur : List UInt8),∀ m ∈ partsL l cur,(∀ c ∈ m,c ∈ cur ∨ c ∈ l) ∧ m.length ≤ cur.length + l.length
 | [],cur => by
  rw [partsL_nil]
  intro m hm
  rw [List.mem_singleton.1 hm]
  exact ⟨fun c hc => .inl hc,by simp⟩
 | b :: l,cur => by
  rw [partsL_cons]
  split
  ·intro m hm
   rcases List.mem_cons.1 hm with rfl | hm
   ·exact ⟨fun c hc => .inl hc,by simp⟩
   ·have := parts_mem l [] m hm
    exact ⟨fun c hc => .inr (List.mem_cons_of_mem _ ((this.1 c hc).resolve_left (by simp))),by have := this.2; simp at this ⊢; omega⟩
  ·intro m hm
   have := parts_mem l _ m hm
   exact ⟨fun c hc => by
    rcases this.1 c hc with h | h
    ·rcases List.mem_append.1 h with h | h
     ·exact .inl h
     ·rw [List.mem_singleton.1 h]; exact .inr List.mem_cons_self
    ·exact .inr (List.mem_cons_of_mem _ h),by have := this.2; simp at this ⊢; omega⟩
theorem asc_part {p : ByteArray} (h : Asc p) : ∀ x ∈ cutS (Lb p) [],Asc x ∧ ∀ c ∈ Lb x,c ≠ 42 := by
 intro x hx
 have hm : Lb x ∈ partsL (Lb p) [] := List.mem_map.2 ⟨x,hx,rfl⟩
 have h1 := parts_mem _ _ _ hm
 refine ⟨⟨List.all_eq_true.2 fun c hc => (List.all_eq_true.1 h.1) c ((h1.1 c hc).resolve_left (by simp)),?_⟩,parts_plain _ _ (by simp) _ hm⟩
 have := h1.2
 rw [Lb_len,Lb_len] at this
 have h2 := h.2
 simp at this
 omega
theorem asc_of {p : ByteArray} (h : patC p = 0) : Asc p := by
 have hz := patC_zero h
 refine ⟨List.all_eq_true.2 fun c hc => ?_,hz.2.1⟩
 have := (List.all_eq_true.1 hz.2.2) c hc
 unfold patB at this
 simp only [Bool.and_eq_true,Bool.not_eq_true',decide_eq_false_iff_not] at this
 exact decide_eq_true (by omega)
def FindP (m s : List UInt8) (r : Int) : Prop := (r = -1 ∧ ∀ j,j + m.length ≤ s.length → fitsL m ((s.drop j).take m.length) = false) ∨ ∃ i : Nat,r = i ∧ i + m.length ≤ s.length ∧ fitsL m ((s.drop i).take m.length) = true ∧ ∀ j,j < i → fitsL m ((s.drop j).take m.length) = false
theorem t194_0 {m s : ByteArray} (hm : Asc m) (hs : (s.size : Int) ≤ 9223372036854775000) : ∀ (n : Nat) (i : Int),0 ≤ i → i + m.size ≤ s.size + 1 → (s.size : Int) + 1 < n + i → (∀ j : Nat,(j : Int) < i → fitsL (Lb m) (((Lb s).drop j).take (Lb m).length) = false) →
  Tot (d194_0 fuel m s n i) (FindP (Lb m) (Lb s)) := by
 intro n
 induction n with
 | zero => intro i h0 h1 h2; omega
 | succ n ih =>
  intro i h0 h1 h2 hl
  have h64 := hm.2
  rw [d194_0,wrap_i64 (by omega) (by omega)]
  refine Tot.dec (fun h => ?_) fun h => ?_
  ·rw [decide_eq_true h0,decide_eq_true (show i ≤ i + (m.size : Int) by omega),decide_eq_true h]
   simp only [Bool.true_and,cond_true]
   rw [e193 fuel hm,Option.bind_some,Lb_ext,show (i + (m.size : Int)).toNat - i.toNat = (Lb m).length by rw [Lb_len]; omega]
   refine Tot.bif' (fun hf => Tot.ret (.inr ⟨i.toNat,by omega,by rw [Lb_len,Lb_len]; omega,hf,fun j hj => hl j (by omega)⟩)) fun hf => ?_
   refine ih _ (by rw [nx_eq] <;> omega) (by rw [nx_eq (by omega) (by omega)]; omega) (by rw [nx_eq] <;> omega) fun j hj => ?_
   rw [nx_eq (by omega) (by omega)] at hj
   by_cases e : (j : Int) < i
   ·exact hl j e
   ·obtain rfl : j = i.toNat := by omega
    exact hf
  ·exact Tot.ret (.inl ⟨rfl,fun j hj => hl j (by rw [Lb_len,Lb_len] at hj; omega)⟩)
include hfu in
theorem t194 {m s : ByteArray} (hm : Asc m) (hs : (s.size : Int) ≤ 9223372036854775000) : Tot (d194 fuel m s) (FindP (Lb m) (Lb s)) := by
 unfold d194
 by_cases h : m.size ≤ s.size + 1
 ·exact t194_0 fuel hm hs fuel 0 (by omega) (by omega) (by omega) (fun j hj => by omega)
 ·-- too long a piece
  have h64 := hm.2
  have e : fuel = (fuel - 1) + 1 := by omega
  rw [e,d194_0,wrap_i64 (by omega) (by omega),decide_eq_false (by omega),cond_false]
  exact Tot.ret (.inl ⟨rfl,fun j hj => by rw [Lb_len,Lb_len] at hj; omega⟩)
def mids (z : List ByteArray) : List ByteArray := (z.drop 1).take (z.length - 1 - 1)
include hfu in
theorem t133_0 {z : List ByteArray} (hz : ∀ x ∈ z,Asc x) (hl : z.length ≤ 1000) (h1 : 1 ≤ z.length) : ∀ (n : Nat) (s : ByteArray) (i : Int),(s.size : Int) ≤ 9223372036854775000 → 0 ≤ i → i ≤ (mids z).length → ((mids z).length : Int) < n + i →
  Tot (d133_0 fuel z n s i) (fun r => r = true ↔ Em (((mids z).drop i.toNat).map Lb) (Lb s)) := by
 intro n
 induction n with
 | zero => intro s i hs h0 h1 h2; omega
 | succ n ih =>
  intro s i hs h0 h2 h3
  have hlen : (mids z).length ≤ 1000 := by unfold mids; rw [List.length_take,List.length_drop]; omega
  have em : (z.drop (1 : Int).toNat).take ((IntKind.wrap .i64 ((z.length : Int) - 1)).toNat - (1 : Int).toNat) = mids z := by
   rw [wrap_i64 (by omega) (by omega)]
   unfold mids
   congr 1
   rw [show ((z.length : Int) - 1).toNat = z.length - 1 by omega]; rfl
  rw [d133_0,em]
  refine Tot.dec (fun h => ?_) fun h => ?_
  ·obtain ⟨x,hx,_,hxm,hk⟩ := at1_cons h0 h (by omega)
   have hxa : Asc x := hz x (List.mem_of_mem_drop (List.mem_of_mem_take hxm))
   have h64 := hxa.2
   rw [hk,hx,List.map_cons]
   refine Tot.bind (t194 fuel hfu hxa hs) fun r hr => ?_
   rcases hr with ⟨rfl,hr⟩ | ⟨k,rfl,hk1,hk2,hk3⟩
   ·exact Tot.ret ⟨fun e => (by cases e),fun e => absurd e (Em_none hr)⟩
   ·rw [Lb_len,Lb_len] at hk1
    rw [decide_eq_false (show ¬ (k : Int) < 0 by omega),cond_false,wrap_i64 (by omega) (by omega),decide_eq_true (show (0 : Int) ≤ k + x.size by omega),decide_eq_true (show (k : Int) + x.size ≤ s.size by omega)]
    simp only [Bool.true_and,cond_true]
    refine Tot.mono (ih _ _ (by have := ext_le s ((k : Int) + x.size).toNat s.size; omega) (by rw [nx_eq] <;> omega) (by rw [nx_eq] <;> omega) (by rw [nx_eq] <;> omega)) fun r hr => hr.trans ?_
    rw [Em_least (by rw [Lb_len,Lb_len]; exact hk1) hk2 hk3,Lb_ext,show ((k : Int) + x.size).toNat = k + (Lb x).length by rw [Lb_len]; omega,List.take_of_length_le (by rw [List.length_drop,Lb_len]; omega)]
  ·rw [List.drop_eq_nil_of_le (by omega)]
   exact Tot.ret ⟨fun _ => trivial,fun _ => rfl⟩
theorem split_list {α : Type} {z : List α} (h : 2 ≤ z.length) : ∃ a b,z = a :: (((z.drop 1).take (z.length - 1 - 1)) ++ [b]) ∧ z[0]? = some a ∧ z[z.length - 1]? = some b := by
 cases z with
 | nil => cases h
 | cons a r =>
  rcases List.eq_nil_or_concat r with rfl | ⟨m,b,rfl⟩
  ·simp at h
  ·refine ⟨a,b,?_,rfl,?_⟩
   ·simp
   ·simp
include hfu in
theorem t133 (p s : ByteArray) (hp : (p.size : Int) ≤ 9223372036854775806) (hs : (s.size : Int) ≤ 9223372036854775000) : Tot (d133 fuel p s) (fun r => r = true ↔ patC p = 0 ∧ Mt (Lb p) (Lb s)) := by
 unfold d133
 rw [e132 fuel hfu p hp,Option.bind_some]
 refine Tot.neI (fun h => Tot.ret ⟨fun e => (by cases e),fun e => absurd e.1 h⟩) fun h => ?_
 have ha := asc_of h
 have hpl := asc_part ha
 rw [e192 fuel ha,Option.bind_some]
 have hj : joinS ((cutS (Lb p) []).map Lb) = Lb p := join_parts (Lb p) []
 have hne : (cutS (Lb p) []).length ≠ 0 := fun e => Go.Abs.RM.cutS_ne _ _ (List.eq_nil_of_length_eq_zero e)
 have hle : (cutS (Lb p) []).length ≤ 1000 := by
  have : ∀ (l cur : List UInt8),(cutS l cur).length ≤ l.length + 1 := by
   intro l
   induction l with
   | nil => intro cur; exact Nat.le_refl _
   | cons b l ih =>
    intro cur
    rw [cutS]
    cases b == 42
    ·have := ih (cur ++ [b]); simp only [cond_false,List.length_cons]; omega
    ·have := ih []; simp only [cond_true,List.length_cons]; omega
  have := this (Lb p) []
  rw [Lb_len] at this
  have := ha.2
  omega
 generalize hz : cutS (Lb p) [] = z at *
 rw [wrap_i64 (by omega) (by omega)]
 by_cases h1 : z.length = 1
 ·rw [show (((z.length : Int) - 1) == 0) = true by rw [h1]; rfl,cond_true]
  obtain ⟨a,rfl⟩ := List.length_eq_one_iff.1 h1
  have e : Lb a = Lb p := hj
  rw [e193 fuel ha]
  refine Tot.ret ?_
  have := (hpl a List.mem_cons_self).2
  rw [e] at this
  exact ⟨fun e => ⟨h,(fits_Mt this).2 e⟩,fun e => (fits_Mt this).1 e.2⟩
 ·have h2 : 2 ≤ z.length := by omega
  rw [show (((z.length : Int) - 1) == 0) = false by simp; omega,cond_false]
  obtain ⟨a,b,hsp,hA,hB⟩ := split_list h2
  obtain ⟨x,_,hx,hxm,hkx⟩ := at1_cons (l := z) (i := 0) (by omega) (by omega) (by omega)
  obtain ⟨y,_,hy,hym,hky⟩ := at1_cons (l := z) (i := (z.length : Int) - 1) (by omega) (by omega) (by omega)
  rw [show (0 : Int).toNat = 0 from rfl,hA] at hx
  cases hx
  rw [show ((z.length : Int) - 1).toNat = z.length - 1 by omega,hB] at hy
  cases hy
  have ax := hpl a hxm
  have ay := hpl b hym
  have a64 := ax.1.2
  have b64 := ay.1.2
  have hsz : (Lb s).length = s.size := rfl
  have ez : z.map Lb = Lb a :: ((mids z).map Lb ++ [Lb b]) := (congrArg (List.map Lb) hsp).trans (by rw [List.map_cons,List.map_append]; rfl)
  have key : Mt (Lb p) (Lb s) ↔ (Lb a).length + (Lb b).length ≤ (Lb s).length ∧ fitsL (Lb a) ((Lb s).take (Lb a).length) = true ∧ fitsL (Lb b) ((Lb s).drop ((Lb s).length - (Lb b).length)) = true ∧ Em ((mids z).map Lb) (((Lb s).take ((Lb s).length - (Lb b).length)).drop (Lb a).length) := by
   rw [← hj,ez]
   exact Mt_parts ax.2 (fun m hm => by
    obtain ⟨q,hq,rfl⟩ := List.mem_map.1 hm
    exact (hpl q (List.mem_of_mem_drop (List.mem_of_mem_take hq))).2) ay.2
  rw [hkx,hky,wrap_i64 (by omega) (by omega)]
  refine Tot.dec (fun hlt => Tot.ret ⟨fun e => (by cases e),fun e => by have := (key.1 e.2).1; rw [Lb_len,Lb_len,Lb_len] at this; omega⟩) fun hlt => ?_
  rw [decide_eq_true (show (0 : Int) ≤ a.size by omega),decide_eq_true (show (a.size : Int) ≤ s.size by omega)]
  simp only [Bool.true_and,cond_true]
  rw [e193 fuel ax.1,Option.bind_some,wrap_i64 (by omega) (by omega),Int.toNat_natCast]
  have eh : Lb (s.extract 0 a.size) = (Lb s).take (Lb a).length := by rw [Lb_ext]; rfl
  rw [eh]
  refine Tot.bifN (fun hf => Tot.ret ⟨fun e => (by cases e),fun e => by have := (key.1 e.2).2.1; rw [hf] at this; cases this⟩) fun hf => ?_
  rw [decide_eq_true (show (0 : Int) ≤ (s.size : Int) - b.size by omega),decide_eq_true (show (s.size : Int) - b.size ≤ s.size by omega)]
  simp only [Bool.true_and,cond_true]
  have et : Lb (s.extract ((s.size : Int) - b.size).toNat s.size) = (Lb s).drop ((Lb s).length - (Lb b).length) := by
   rw [Lb_ext,List.take_of_length_le (by rw [List.length_drop,Lb_len]; exact Nat.le_refl _),Lb_len,Lb_len,show ((s.size : Int) - b.size).toNat = s.size - b.size by omega]
  rw [e193 fuel ay.1,Option.bind_some,et]
  refine Tot.bifN (fun hf => Tot.ret ⟨fun e => (by cases e),fun e => by have := (key.1 e.2).2.2.1; rw [hf] at this; cases this⟩) fun hg => ?_
  rw [decide_eq_true (show (a.size : Int) ≤ (s.size : Int) - b.size by omega),decide_eq_true (show (0 : Int) ≤ 1 by omega),decide_eq_true (show (1 : Int) ≤ (z.length : Int) - 1 by omega),decide_eq_true (show (z.length : Int) - 1 ≤ z.length by omega)]
  simp only [Bool.true_and,Bool.and_true,cond_true,decide_eq_true (show (0 : Int) ≤ a.size by omega),decide_eq_true (show (s.size : Int) - b.size ≤ s.size by omega)]
  refine Tot.mono (t133_0 fuel hfu (fun x hx => (hpl x hx).1) hle (by omega) _ _ _ (by have := ext_le s a.size ((s.size : Int) - b.size).toNat; omega) (by omega) (by omega) (by unfold mids; rw [List.length_take,List.length_drop]; omega)) fun r hr => hr.trans ?_
  have em : Lb (s.extract a.size ((s.size : Int) - b.size).toNat) = ((Lb s).take ((Lb s).length - (Lb b).length)).drop (Lb a).length := by
   rw [Lb_ext,List.drop_take,Lb_len,Lb_len,Lb_len,show ((s.size : Int) - b.size).toNat = s.size - b.size by omega]
  rw [em]
  show Em ((mids z).map Lb) _ ↔ _
  exact ⟨fun e => ⟨h,key.2 ⟨by rw [Lb_len,Lb_len,Lb_len]; omega,hf,hg,e⟩⟩,fun e => (key.1 e.2).2.2.2⟩
end Go.Abs.RM
end
section
namespace Go.Abs.RM
open Go.Proofs.RMH
variable (fuel : Nat) (hfu : 18446744073709551616 ≤ fuel)
def IxP {α : Type} (l : List α) (p : α → Bool) (i : Int) (r : Int) : Prop := (r = -1 ∧ (l.drop i.toNat).find? p = none) ∨ ∃ (k : Nat) (x : α),r = k ∧ l[k]? = some x ∧ (l.drop i.toNat).find? p = some x
theorem IxP.end_ {α : Type} {l : List α} {p : α → Bool} {i : Int} (h : ¬ i < (l.length : Int)) : IxP l p i (-1) := .inl ⟨rfl,by rw [List.drop_eq_nil_of_le (by omega)]; rfl⟩
theorem IxP.hit {α : Type} {l : List α} {p : α → Bool} {i : Int} {x : α} {r : List α} (h0 : 0 ≤ i) (hx : l.drop i.toNat = x :: r) (hg : l[i.toNat]? = some x) (hp : p x = true) : IxP l p i i :=
 .inr ⟨i.toNat,x,by omega,hg,by rw [hx,List.find?_cons,hp]⟩
theorem IxP.miss {α : Type} {l : List α} {p : α → Bool} {i r : Int} {x : α} (hx : l.drop i.toNat = x :: l.drop (nx i).toNat) (hp : p x = false) (h : IxP l p (nx i) r) : IxP l p i r := by
 unfold IxP
 rw [hx,List.find?_cons,hp]
 exact h
theorem t59f_0 (l : List S65) (id : Int) (hl : l.length ≤ 1000000000) : ∀ (n : Nat) (i : Int),0 ≤ i → i ≤ l.length → (l.length : Int) < n + i → Tot (d59_0 fuel l id n i) (IxP l (fun e => e.f0 == id) i) := by
 intro n
 induction n with
 | zero => intro i h0 h1 h2; omega
 | succ n ih =>
  intro i h0 h1 h2
  rw [d59_0]
  refine Tot.dec (fun h => ?_) fun h => Tot.ret (.end_ h)
  obtain ⟨x,hx,hg,_,hk⟩ := at1_cons h0 h (by omega)
  rw [hk]
  refine Tot.bif' (fun hp => Tot.ret (.hit h0 hx hg hp)) fun hp => ?_
  exact Tot.mono (ih _ (by rw [nx_eq] <;> omega) (by rw [nx_eq] <;> omega) (by rw [nx_eq] <;> omega)) fun r hr => .miss hx hp hr
theorem t164_0 (l : List S65) (f : S65 → Option Bool) (p : S65 → Bool) (hf : ∀ x,f x = some (p x)) (hl : l.length ≤ 1000000000) : ∀ (n : Nat) (i : Int),0 ≤ i → i ≤ l.length → (l.length : Int) < n + i → Tot (d164_0 fuel l f n i) (IxP l p i) := by
 intro n
 induction n with
 | zero => intro i h0 h1 h2; omega
 | succ n ih =>
  intro i h0 h1 h2
  rw [d164_0]
  refine Tot.dec (fun h => ?_) fun h => Tot.ret (.end_ h)
  obtain ⟨x,hx,hg,_,hk⟩ := at1_cons h0 h (by omega)
  rw [hk,hf,Option.bind_some]
  refine Tot.bif' (fun hp => Tot.ret (.hit h0 hx hg hp)) fun hp => ?_
  exact Tot.mono (ih _ (by rw [nx_eq] <;> omega) (by rw [nx_eq] <;> omega) (by rw [nx_eq] <;> omega)) fun r hr => .miss hx hp hr
def fstE (l : List S65) (id : Int) : Option S65 := l.find? fun e => e.f0 == id
def getS (l : List S65) (id : Int) : S65 × Bool := match fstE l id with | some e => (e,true) | none => (ze65,false)
theorem got_of {l : List S65} {id r : Int} (hl : l.length ≤ 1000000000) (h : IxP l (fun e => e.f0 == id) 0 r) : (bif decide (r < (0 : Int)) then some (ze65,false) else (at1 l r fun x2 => some (x2,true))) = some (getS l id) := by
 unfold getS fstE
 rcases h with ⟨rfl,h⟩ | ⟨k,x,rfl,hk,h⟩
 ·rw [show List.drop (0 : Int).toNat l = l from rfl] at h
  rw [h]; rfl
 ·rw [show List.drop (0 : Int).toNat l = l from rfl] at h
  have hlt : k < l.length := (List.getElem?_eq_some_iff.1 hk).1
  obtain ⟨y,_,hy,_,hky⟩ := at1_cons (l := l) (i := (k : Int)) (by omega) (by omega) (by omega)
  rw [Int.toNat_natCast,hk] at hy
  cases hy
  rw [decide_eq_false (by omega),cond_false,hky,h]
include hfu in
theorem e56 (l : List S65) (id : Int) (hl : l.length ≤ 1000000000) : d56 fuel l id = some (getS l id) := by
 unfold d56 d59
 obtain ⟨r,h1,h2⟩ := t59f_0 fuel l id hl fuel 0 (by omega) (by omega) (by omega)
 rw [h1,Option.bind_some]
 exact got_of hl h2
include hfu in
theorem e50 (l : List S65) (id : Int) (hl : l.length ≤ 1000000000) : d50 fuel l id = some (getS l id) := by
 unfold d50 d98 d164
 obtain ⟨r,h1,h2⟩ := t164_0 fuel l (fun x0_ => d165 fuel x0_ id) (fun e => e.f0 == id) (fun x => by unfold d165; rfl) hl fuel 0 (by omega) (by omega) (by omega)
 rw [h1,Option.bind_some,Option.bind_some]
 exact got_of hl h2
theorem rm_eq {α β γ : Type} {b : Nat} {l : List α} {m : List γ} (hb : b ≤ 376) (h : l.length + m.length ≤ 10000000000) (x : Option β) : rm b l m x = x := by
 unfold rm roomB
 have h1 : (2 * (l.length + m.length) + 192) * b ≤ 2 ^ 48 := Nat.le_trans (Nat.mul_le_mul_left _ hb) (by omega)
 rw [decide_eq_true h1,decide_eq_true (show l.length + m.length ≤ 2 ^ 60 by omega)]
 rfl
def evsS (l : List S65) (st : List S71) : List S65 := st.filterMap fun s => fstE l s.f2
theorem evsS_cons (l : List S65) (s : S71) (st : List S71) : evsS l (s :: st) = (match fstE l s.f2 with | some e => [e] | none => []) ++ evsS l st := by
 unfold evsS
 rw [List.filterMap_cons]
 cases fstE l s.f2 <;> rfl
theorem evsS_len (l : List S65) (st : List S71) : (evsS l st).length ≤ st.length := List.length_filterMap_le ..
theorem evsS_mem {l : List S65} {st : List S71} {e : S65} (h : e ∈ evsS l st) : e ∈ l := by
 obtain ⟨s,_,hs⟩ := List.mem_filterMap.1 h
 exact List.mem_of_find?_eq_some hs
include hfu in
theorem e76_0 (l : List S65) (st : List S71) (hl : l.length ≤ 1000000000) (hs : st.length ≤ 1000000) : ∀ (n : Nat) (o : List S65) (i : Int),0 ≤ i → i ≤ st.length → (st.length : Int) < n + i → (o.length : Int) ≤ i → d76_0 fuel l st n o i = some (o ++ evsS l (st.drop i.toNat)) := by
 intro n
 induction n with
 | zero => intro o i h0 h1 h2; omega
 | succ n ih =>
  intro o i h0 h1 h2 h3
  rw [d76_0]
  by_cases h : i < (st.length : Int)
  ·obtain ⟨x,hx,_,_,hk⟩ := at1_cons h0 h (by omega)
   rw [decide_eq_true h,cond_true,hk,e56 fuel hfu l _ hl,Option.bind_some,hx,evsS_cons]
   unfold getS
   cases fstE l x.f2 with
   | none =>
    dsimp only
    rw [cond_false,ih _ _ (by rw [nx_eq] <;> omega) (by rw [nx_eq] <;> omega) (by rw [nx_eq] <;> omega) (by rw [nx_eq] <;> omega)]
    rfl
   | some e =>
    dsimp only
    rw [cond_true,rm_eq (by omega) (by simp; omega),ih _ _ (by rw [nx_eq] <;> omega) (by rw [nx_eq] <;> omega) (by rw [nx_eq] <;> omega) (by rw [nx_eq (by omega) (by omega),List.length_append,List.length_singleton]; omega),List.append_assoc]
  ·rw [decide_eq_false h,cond_false,List.drop_eq_nil_of_le (by omega)]
   simp [evsS]
include hfu in
theorem e76 (l : List S65) (st : List S71) (hl : l.length ≤ 1000000000) (hs : st.length ≤ 1000000) : d76 fuel l st = some (evsS l st) := by
 unfold d76
 rw [e76_0 fuel hfu l st hl hs fuel [] 0 (by omega) (by omega) (by omega) (by simp)]
 rfl
include hfu in
theorem e138_0 (l : List S65) (hl : l.length ≤ 1000000000) : ∀ (st : List S71) (o : List S65),o.length + st.length ≤ 1000000 → d138_0 fuel l st o = some (o ++ evsS l st) := by
 intro st
 induction st with
 | nil => intro o _; rw [d138_0]; simp [evsS]
 | cons s st ih =>
  intro o h
  rw [List.length_cons] at h
  rw [d138_0,e50 fuel hfu l _ hl,Option.bind_some,evsS_cons]
  unfold getS
  cases fstE l s.f2 with
  | none => dsimp only; rw [cond_false,ih _ (by omega)]; rfl
  | some e =>
   dsimp only
   have := rm_eq (b := 376) (l := o) (m := [e]) (by omega) (by rw [List.length_singleton]; omega) (d138_0 fuel l st (o ++ [e]))
   unfold rm at this
   rw [cond_true,this,ih _ (by rw [List.length_append,List.length_singleton]; omega),List.append_assoc]
include hfu in
theorem e138 (l : List S65) (st : List S71) (hl : l.length ≤ 1000000000) (hs : st.length ≤ 1000000) : d138 fuel l st = some (evsS l st) := by
 unfold d138
 rw [decide_eq_true hs,cond_true,e138_0 fuel hfu l hl st [] (by simpa using hs)]
 rfl
def accS (l : List S65) : S61 × Bool := match l.find? (fun e => e.f3 == 6) with | some e => (e.f10,true) | none => (ze61,false)
theorem e129_0 (l : List S65) (hl : l.length ≤ 1000000000) : ∀ (n : Nat) (o : S61) (i : Int),0 ≤ i → i ≤ l.length → (l.length : Int) < n + i → d129_0 fuel l n o i = some (accS (l.drop i.toNat)) := by
 intro n
 induction n with
 | zero => intro o i h0 h1 h2; omega
 | succ n ih =>
  intro o i h0 h1 h2
  rw [d129_0]
  by_cases h : i < (l.length : Int)
  ·obtain ⟨x,hx,_,_,hk⟩ := at1_cons h0 h (by omega)
   rw [decide_eq_true h,cond_true,hk,hx]
   unfold accS
   rw [List.find?_cons]
   cases hp : x.f3 == 6 with
   | true => rfl
   | false => rw [cond_false,ih _ _ (by rw [nx_eq] <;> omega) (by rw [nx_eq] <;> omega) (by rw [nx_eq] <;> omega)]; rfl
  ·rw [decide_eq_false h,cond_false,List.drop_eq_nil_of_le (by omega)]; rfl
include hfu in
theorem e129 (l : List S65) (hl : l.length ≤ 1000000000) : d129 fuel l = some (accS l) := by
 unfold d129
 rw [e129_0 fuel l hl fuel _ 0 (by omega) (by omega) (by omega)]; rfl
theorem e75_0 (l : List S65) (hl : l.length ≤ 1000000000) : ∀ (n : Nat) (o : S61) (i : Int),0 ≤ i → i ≤ l.length → (l.length : Int) < n + i → d75_0 fuel l n o i = some (accS (l.drop i.toNat)) := by
 intro n
 induction n with
 | zero => intro o i h0 h1 h2; omega
 | succ n ih =>
  intro o i h0 h1 h2
  rw [d75_0]
  by_cases h : i < (l.length : Int)
  ·obtain ⟨x,hx,_,_,hk⟩ := at1_cons h0 h (by omega)
   rw [decide_eq_true h,cond_true,hk,hx]
   unfold accS
   rw [List.find?_cons]
   cases hp : x.f3 == 6 with
   | true => rw [cond_true,hk]
   | false => rw [cond_false,ih _ _ (by rw [nx_eq] <;> omega) (by rw [nx_eq] <;> omega) (by rw [nx_eq] <;> omega)]; rfl
  ·rw [decide_eq_false h,cond_false,List.drop_eq_nil_of_le (by omega)]; rfl
include hfu in
theorem e75 (l : List S65) (hl : l.length ≤ 1000000000) : d75 fuel l = some (accS l) := by
 unfold d75
 rw [e75_0 fuel l hl fuel _ 0 (by omega) (by omega) (by omega)]; rfl
def lstS (l : List S65) : List ByteArray × List ByteArray := bif (accS l).2 then ((accS l).1.f5,(accS l).1.f6) else ([(⟨#[42]⟩ : ByteArray)],[])
include hfu in
theorem e26 (l : List S65) (hl : l.length ≤ 1000000000) : d26 fuel l = some (lstS l) := by
 unfold d26 lstS
 rw [e75 fuel hfu l hl,Option.bind_some]
 cases (accS l).2 <;> rfl
theorem tl_eq (a b : ByteArray) : (a.toList == b.toList) = decide (a = b) := by
 rw [Bool.eq_iff_iff,beq_iff_eq,decide_eq_true_eq]
 exact ⟨str_inj,fun e => by rw [e]⟩
theorem t29_0 (l : List ByteArray) (x : ByteArray) (hl : l.length ≤ 1000000000) : ∀ (n : Nat) (i : Int),0 ≤ i → i ≤ l.length → (l.length : Int) < n + i → Tot (d29_0 fuel l x n i) (fun r => r = true ↔ x ∈ l.drop i.toNat) := by
 intro n
 induction n with
 | zero => intro i h0 h1 h2; omega
 | succ n ih =>
  intro i h0 h1 h2
  rw [d29_0]
  refine Tot.dec (fun h => ?_) fun h => Tot.ret ?_
  ·obtain ⟨y,hy,_,_,hk⟩ := at1_cons h0 h (by omega)
   rw [hk,hy]
   refine Tot.eqS (fun e => Tot.ret ⟨fun _ => by rw [e]; exact List.mem_cons_self,fun _ => rfl⟩) fun e => ?_
   exact Tot.mono (ih _ (by rw [nx_eq] <;> omega) (by rw [nx_eq] <;> omega) (by rw [nx_eq] <;> omega)) fun r hr => ⟨fun q => List.mem_cons_of_mem _ (hr.1 q),fun q => hr.2 ((List.mem_cons.1 q).resolve_left fun q => e q.symm)⟩
  ·rw [List.drop_eq_nil_of_le (by omega)]; exact ⟨fun e => (by cases e),fun e => (by cases e)⟩
include hfu in
theorem t29 (l : List ByteArray) (x : ByteArray) (hl : l.length ≤ 1000000000) : Tot (d29 fuel l x) (fun r => r = true ↔ x ∈ l) := by
 unfold d29
 exact t29_0 fuel l x hl fuel 0 (by omega) (by omega) (by omega)
theorem t195_0 (l : List ByteArray) (x : ByteArray) (hl : l.length ≤ 1000000000) : ∀ (n : Nat) (i : Int),0 ≤ i → i ≤ l.length → (l.length : Int) < n + i → Tot (d195_0 fuel l x n i) (fun r => 0 ≤ r ↔ x ∈ l.drop i.toNat) := by
 intro n
 induction n with
 | zero => intro i h0 h1 h2; omega
 | succ n ih =>
  intro i h0 h1 h2
  rw [d195_0]
  refine Tot.dec (fun h => ?_) fun h => Tot.ret ?_
  ·obtain ⟨y,hy,_,_,hk⟩ := at1_cons h0 h (by omega)
   rw [hk,hy]
   refine Tot.eqS (fun e => Tot.ret ⟨fun _ => by rw [e]; exact List.mem_cons_self,fun _ => h0⟩) fun e => ?_
   exact Tot.mono (ih _ (by rw [nx_eq] <;> omega) (by rw [nx_eq] <;> omega) (by rw [nx_eq] <;> omega)) fun r hr => ⟨fun q => List.mem_cons_of_mem _ (hr.1 q),fun q => hr.2 ((List.mem_cons.1 q).resolve_left fun q => e q)⟩
  ·rw [List.drop_eq_nil_of_le (by omega)]; exact ⟨fun e => (by cases e),fun e => (by cases e)⟩
include hfu in
theorem t134 (l : List ByteArray) (x : ByteArray) (hl : l.length ≤ 1000000000) : Tot (d134 fuel l x) (fun r => r = true ↔ x ∈ l) := by
 unfold d134 d195
 refine Tot.bind (t195_0 fuel l x hl fuel 0 (by omega) (by omega) (by omega)) fun r hr => Tot.ret ?_
 rw [decide_eq_true_eq]
 exact hr
def OnceP (l r : List ByteArray) : Prop := r.Nodup ∧ (∀ x,x ∈ r ↔ x ∈ l) ∧ r.length ≤ l.length
include hfu in
theorem t190_0 (l : List ByteArray) (hl : l.length ≤ 1000000000) : ∀ (n : Nat) (o : List ByteArray) (i : Int),0 ≤ i → i ≤ l.length → (l.length : Int) < n + i → (o.length : Int) ≤ i → o.Nodup → (∀ x,x ∈ o ↔ x ∈ l.take i.toNat) → Tot (d190_0 fuel l n o i) (OnceP l) := by
 intro n
 induction n with
 | zero => intro o i h0 h1 h2; omega
 | succ n ih =>
  intro o i h0 h1 h2 h3 h4 h5
  rw [d190_0]
  refine Tot.dec (fun h => ?_) fun h => Tot.ret ?_
  ·obtain ⟨y,hy,hg,_,hk⟩ := at1_cons h0 h (by omega)
   have htk : l.take (nx i).toNat = l.take i.toNat ++ [y] := by
    rw [nx_eq (by omega) (by omega),show (i + 1).toNat = i.toNat + 1 by omega,List.take_add_one,hg]; rfl
   rw [hk]
   refine Tot.bind (t134 fuel hfu o y (by omega)) fun c hc => Tot.bifN (fun e => ?_) fun e => ?_
   ·have hn : y ∉ o := fun q => by have := hc.2 q; rw [e] at this; cases this
    rw [rm_eq (by omega) (by rw [List.length_singleton]; omega)]
    refine ih _ _ (by rw [nx_eq] <;> omega) (by rw [nx_eq] <;> omega) (by rw [nx_eq] <;> omega) (by rw [nx_eq (by omega) (by omega),List.length_append,List.length_singleton]; omega) ?_ fun x => ?_
    ·refine List.nodup_append.2 ⟨h4,by simp,fun a ha b hb => ?_⟩
     rw [List.mem_singleton.1 hb]
     exact fun e => hn (e ▸ ha)
    ·rw [htk,List.mem_append,List.mem_append,h5]
   ·have hm : y ∈ o := hc.1 e
    refine ih _ _ (by rw [nx_eq] <;> omega) (by rw [nx_eq] <;> omega) (by rw [nx_eq] <;> omega) (by rw [nx_eq] <;> omega) h4 fun x => ?_
    rw [htk,List.mem_append,← h5]
    exact ⟨Or.inl,fun q => q.elim id fun q => by rw [List.mem_singleton.1 q]; exact hm⟩
  ·rw [List.take_of_length_le (by omega)] at h5
   exact ⟨h4,h5,by omega⟩
theorem mkB_16 {n : Nat} (h : n ≤ 1000000000) : mkB 16 (n : Int) = true := by
 unfold mkB
 rw [decide_eq_true (by omega),decide_eq_true (by omega),decide_eq_true (by omega)]; rfl
include hfu in
theorem t190 (l : List ByteArray) (hl : l.length ≤ 1000000000) : Tot (d190 fuel l) (OnceP l) := by
 unfold d190
 rw [mkB_16 hl,cond_true]
 exact t190_0 fuel hfu l hl fuel [] 0 (by omega) (by omega) (by omega) (by simp) List.nodup_nil (fun x => by simp)
theorem e191 (l : List ByteArray) (hl : l.length ≤ 1000000) : d191 fuel l = some (sortS l) := by
 unfold d191
 rw [decide_eq_true hl]; rfl
theorem sortS_perm (l : List ByteArray) : (sortS l).Perm l := by
 unfold sortS
 have := (List.mergeSort_perm (l.map fun s => s.data.toList) fun a b => decide (a ≤ b)).map (fun l => (⟨l.toArray⟩ : ByteArray))
 rwa [bytes_back] at this
end Go.Abs.RM
end
section
namespace Go.Abs.RM
open Go.Proofs.RMH
variable (fuel : Nat) (hfu : 18446744073709551616 ≤ fuel)
noncomputable def gm (p s : ByteArray) : Bool := @decide (patC p = 0 ∧ Mt (Lb p) (Lb s)) (Classical.propDecidable _)
theorem gm_iff {p s : ByteArray} : gm p s = true ↔ patC p = 0 ∧ Mt (Lb p) (Lb s) := @decide_eq_true_iff _ (Classical.propDecidable _)
theorem of_tot {x : Option Bool} {b : Bool} (h : Tot x fun r => r = true ↔ b = true) : x = some b := by
 obtain ⟨r,h1,h2⟩ := h
 rw [h1]
 congr 1
 exact Bool.eq_iff_iff.2 h2
include hfu in
theorem e133 (p s : ByteArray) (hp : (p.size : Int) ≤ 9223372036854775806) (hs : (s.size : Int) ≤ 9223372036854775000) : d133 fuel p s = some (gm p s) :=
 of_tot (Tot.mono (t133 fuel hfu p s hp hs) fun r hr => hr.trans gm_iff.symm)
include hfu in
theorem e30 (p s : ByteArray) (hp : (p.size : Int) ≤ 9223372036854775806) (hs : (s.size : Int) ≤ 9223372036854775000) : d30 fuel p s = some (gm p s) :=
 of_tot (Tot.mono (t30 fuel hfu p s hp (by omega)) fun r hr => hr.trans gm_iff.symm)
def PolB (l : List S103) : Prop := l.length ≤ 12 ∧ ∀ p ∈ l,p.f1.size ≤ 100
noncomputable def matchS (l : List S103) (k : Int) (s : ByteArray) : S103 × Bool := match l.find? (fun p => p.f0 == k && gm p.f1 s) with | some p => (p,true) | none => (ze103,false)
theorem matchS_cons (x : S103) (l : List S103) (k : Int) (s : ByteArray) : matchS (x :: l) k s = bif x.f0 == k then (bif gm x.f1 s then (x,true) else matchS l k s) else matchS l k s := by
 unfold matchS
 rw [List.find?_cons]
 cases x.f0 == k <;> cases gm x.f1 s <;> rfl
include hfu in
theorem e128_0 (l : List S103) (k : Int) (s : ByteArray) (hl : PolB l) (hs : (s.size : Int) ≤ 9223372036854775000) : ∀ (n : Nat) (o : S103) (i : Int),0 ≤ i → i ≤ l.length → (l.length : Int) < n + i → d128_0 fuel l k s n o i = some (matchS (l.drop i.toNat) k s) := by
 intro n
 induction n with
 | zero => intro o i h0 h1 h2; omega
 | succ n ih =>
  intro o i h0 h1 h2
  have h12 := hl.1
  rw [d128_0]
  by_cases h : i < (l.length : Int)
  ·obtain ⟨x,hx,_,hm,hk⟩ := at1_cons h0 h (by omega)
   have := hl.2 x hm
   rw [decide_eq_true h,cond_true,hk,hx,matchS_cons,e133 fuel hfu _ _ (by omega) hs,Option.bind_some,ih _ _ (by rw [nx_eq] <;> omega) (by rw [nx_eq] <;> omega) (by rw [nx_eq] <;> omega)]
   cases x.f0 == k <;> cases gm x.f1 s <;> rfl
  ·rw [decide_eq_false h,cond_false,List.drop_eq_nil_of_le (by omega)]; rfl
include hfu in
theorem e128 (l : List S103) (k : Int) (s : ByteArray) (hl : PolB l) (hs : (s.size : Int) ≤ 9223372036854775000) : d128 fuel l k s = some (matchS l k s) := by
 have h12 := hl.1
 unfold d128
 rw [e128_0 fuel hfu l k s hl hs fuel _ 0 (by omega) (by omega) (by omega)]; rfl
theorem srvOf_size (u : ByteArray) : (srvOf u).size ≤ u.size := by
 unfold srvOf
 cases markedB u 64 || markedB u 33
 ·exact Nat.zero_le _
 ·exact ext_le ..
noncomputable def metS (l : List S103) (u : ByteArray) : Bool := (matchS l 2 u).2 || ((matchS l 6 (srvOf u)).2 && !((srvOf u).toList == zS.toList))
include hfu in
theorem e189 (l : List S103) (u : ByteArray) (hl : PolB l) (hs : (u.size : Int) ≤ 9223372036854775000) : d189 fuel l u = some (metS l u) := by
 have := srvOf_size u
 unfold d189 metS
 rw [e128 fuel hfu l 2 u hl hs,Option.bind_some,e123 fuel hfu u (by omega),Option.bind_some,e128 fuel hfu l 6 _ hl (by omega),Option.bind_some]
 cases (matchS l 2 u).2 <;> cases (matchS l 6 (srvOf u)).2 <;> rfl
def SetP (P : ByteArray → Prop) (n : Nat) (r : List ByteArray) : Prop := ∃ o : List ByteArray,o.Nodup ∧ (∀ x,x ∈ o ↔ P x) ∧ o.length ≤ n ∧ r = sortS o
theorem SetP.mem {P : ByteArray → Prop} {n : Nat} {r : List ByteArray} (h : SetP P n r) (x : ByteArray) : x ∈ r ↔ P x := by
 obtain ⟨o,_,h2,_,rfl⟩ := h
 exact (sortS_perm o).mem_iff.trans (h2 x)
theorem SetP.nodup {P : ByteArray → Prop} {n : Nat} {r : List ByteArray} (h : SetP P n r) : r.Nodup := by
 obtain ⟨o,h1,_,_,rfl⟩ := h
 exact (sortS_perm o).nodup_iff.2 h1
theorem SetP.len {P : ByteArray → Prop} {n : Nat} {r : List ByteArray} (h : SetP P n r) : r.length ≤ n := by
 obtain ⟨o,_,_,h3,rfl⟩ := h
 rw [sortS_length]; exact h3
theorem SetP.of {P : ByteArray → Prop} {n : Nat} {l o : List ByteArray} (h : OnceP l o) (hP : ∀ x,x ∈ l ↔ P x) (hn : l.length ≤ n) : SetP P n (sortS o) :=
 ⟨o,h.1,fun x => (h.2.1 x).trans (hP x),Nat.le_trans h.2.2 hn,rfl⟩
theorem ba_beq (a b : ByteArray) : (a == b) = true ↔ a = b := by
 cases a with | mk a => cases b with | mk b =>
 rw [show (ByteArray.mk a == ByteArray.mk b) = (a == b) from rfl]
 simp
theorem memS_iff {l : List ByteArray} {x : ByteArray} : memS l x = true ↔ x ∈ l := by
 unfold memS
 rw [List.any_eq_true]
 constructor
 ·rintro ⟨y,hy,e⟩
  rw [(ba_beq _ _).1 e]; exact hy
 ·intro h; exact ⟨x,h,(ba_beq _ _).2 rfl⟩
theorem insS_iff {l : List ByteArray} {x y : ByteArray} : y ∈ insS l x ↔ y ∈ l ∨ y = x := by
 unfold insS
 cases h : memS l x with
 | true => rw [cond_true]; exact ⟨.inl,fun q => q.elim id fun q => by rw [q]; exact memS_iff.1 h⟩
 | false => rw [cond_false,List.mem_append,List.mem_singleton]
theorem snoc_nodup {o : List ByteArray} {x : ByteArray} (h : o.Nodup) (hx : x ∉ o) : (o ++ [x]).Nodup :=
 List.nodup_append.2 ⟨h,by simp,fun a ha b hb => by rw [List.mem_singleton.1 hb]; exact fun e => hx (e ▸ ha)⟩
theorem take_nx {α : Type} {l : List α} {i : Int} {y : α} (h0 : 0 ≤ i) (h : i < 9223372036854775806) (hg : l[i.toNat]? = some y) : l.take (nx i).toNat = l.take i.toNat ++ [y] := by
 rw [nx_eq (by omega) (by omega),show (i + 1).toNat = i.toNat + 1 by omega,List.take_add_one,hg]; rfl
theorem t137_0 (l : List ByteArray) (hl : l.length ≤ 1000000) : ∀ (n : Nat) (s o : List ByteArray) (i : Int),0 ≤ i → i ≤ l.length → (l.length : Int) < n + i → (o.length : Int) ≤ i → (∀ x,x ∈ s ↔ x ∈ o) → o.Nodup → (∀ x,x ∈ o ↔ x ∈ l.take i.toNat) → Tot (d137_0 fuel l n s o i) (SetP (· ∈ l) l.length) := by
 intro n
 induction n with
 | zero => intro s o i h0 h1 h2; omega
 | succ n ih =>
  intro s o i h0 h1 h2 h3 h4 h5 h6
  rw [d137_0]
  refine Tot.dec (fun h => ?_) fun h => ?_
  ·obtain ⟨y,hy,hg,_,hk⟩ := at1_cons h0 h (by omega)
   have htk := take_nx h0 (by omega) hg
   rw [hk]
   refine Tot.bif' (fun e => ?_) fun e => ?_
   ·refine ih _ _ _ (by rw [nx_eq] <;> omega) (by rw [nx_eq] <;> omega) (by rw [nx_eq] <;> omega) (by rw [nx_eq] <;> omega) h4 h5 fun x => ?_
    rw [htk,List.mem_append,← h6]
    exact ⟨.inl,fun q => q.elim id fun q => by rw [List.mem_singleton.1 q,← h4]; exact memS_iff.1 e⟩
   ·have hn : y ∉ o := fun q => by have := memS_iff.2 ((h4 y).2 q); rw [e] at this; cases this
    rw [rm_eq (by omega) (by rw [List.length_singleton]; omega)]
    refine ih _ _ _ (by rw [nx_eq] <;> omega) (by rw [nx_eq] <;> omega) (by rw [nx_eq] <;> omega) (by rw [nx_eq (by omega) (by omega),List.length_append,List.length_singleton]; omega) (fun x => ?_) (snoc_nodup h5 hn) fun x => ?_
    ·rw [insS_iff,List.mem_append,List.mem_singleton,h4]
    ·rw [htk,List.mem_append,List.mem_append,h6]
  ·rw [List.take_of_length_le (by omega)] at h6
   rw [e191 _ _ (by omega),Option.bind_some]
   exact Tot.ret ⟨o,h5,h6,by omega,rfl⟩
include hfu in
theorem t137 (l : List ByteArray) (hl : l.length ≤ 1000000) : Tot (d137 fuel l) (SetP (· ∈ l) l.length) := by
 unfold d137
 rw [mkB_16 (by omega),cond_true]
 exact t137_0 fuel l hl fuel [] [] 0 (by omega) (by omega) (by omega) (by simp) (fun x => Iff.rfl) List.nodup_nil (fun x => by simp)
def memK (k : ByteArray) (e : S65) : Bool := (e.f3 == 2) && (e.f5.toList == k.toList)
theorem memK_iff {k : ByteArray} {e : S65} : memK k e = true ↔ e.f3 = 2 ∧ e.f5 = k := by
 unfold memK
 rw [tl_eq,Bool.and_eq_true,beq_iff_eq,decide_eq_true_eq]
def ofS (l : List S65) (k : ByteArray) : Int := match l.find? (memK k) with | some e => e.f10.f1 | none => 0
def WithS (l : List S65) (m : Int) (k : ByteArray) : Prop := (∃ e ∈ l,memK k e = true) ∧ ofS l k = m
theorem ofS_first {l : List S65} {i : Nat} {e : S65} {k : ByteArray} (hg : l[i]? = some e) (he : memK k e = true) (hn : ∀ x ∈ l.take i,memK k x = false) : ofS l k = e.f10.f1 := by
 have hlt : i < l.length := (List.getElem?_eq_some_iff.1 hg).1
 have : l.find? (memK k) = some e := by
  rw [← List.take_append_drop i l,List.find?_append,List.find?_eq_none.2 (fun x hx => by rw [hn x hx]; exact Bool.noConfusion),Option.none_or,List.drop_eq_getElem_cons hlt,List.find?_cons]
  rw [List.getElem?_eq_getElem hlt] at hg
  cases hg
  rw [he]
 unfold ofS
 rw [this]
include hfu in
theorem t72_0 (l : List S65) (m : Int) (hl : l.length ≤ 1000000) : ∀ (n : Nat) (s o : List ByteArray) (i : Int),0 ≤ i → i ≤ l.length → (l.length : Int) < n + i → (o.length : Int) ≤ i → (∀ k,k ∈ s ↔ ∃ e ∈ l.take i.toNat,memK k e = true) → o.Nodup → (∀ k,k ∈ o ↔ (∃ e ∈ l.take i.toNat,memK k e = true) ∧ ofS l k = m) → Tot (d72_0 fuel l m n s o i) (SetP (WithS l m) l.length) := by
 intro n
 induction n with
 | zero => intro s o i h0 h1 h2; omega
 | succ n ih =>
  intro s o i h0 h1 h2 h3 h4 h5 h6
  rw [d72_0]
  refine Tot.dec (fun h => ?_) fun h => ?_
  ·obtain ⟨y,hy,hg,_,hk⟩ := at1_cons h0 h (by omega)
   have htk := take_nx h0 (by omega) hg
   have ex : ∀ k,(∃ e ∈ l.take (nx i).toNat,memK k e = true) ↔ (∃ e ∈ l.take i.toNat,memK k e = true) ∨ memK k y = true := fun k => by
    rw [htk]
    constructor
    ·rintro ⟨e,he,hk⟩
     rcases List.mem_append.1 he with he | he
     ·exact .inl ⟨e,he,hk⟩
     ·rw [← List.mem_singleton.1 he]; exact .inr hk
    ·rintro (⟨e,he,hk⟩ | hk)
     ·exact ⟨e,List.mem_append_left _ he,hk⟩
     ·exact ⟨y,by simp,hk⟩
   rw [hk]
   refine Tot.neI (fun e => ?_) fun e => ?_
   ·have hno : ∀ k,memK k y = true → False := fun k q => e (memK_iff.1 q).1
    exact ih _ _ _ (by rw [nx_eq] <;> omega) (by rw [nx_eq] <;> omega) (by rw [nx_eq] <;> omega) (by rw [nx_eq] <;> omega) (fun k => (h4 k).trans ((ex k).trans (or_iff_left (hno k))).symm) h5 fun k => (h6 k).trans (and_congr_left fun _ => ((ex k).trans (or_iff_left (hno k))).symm)
   ·have hyk : ∀ k,memK k y = true ↔ k = y.f5 := fun k => memK_iff.trans ⟨fun q => q.2.symm,fun q => ⟨e,q.symm⟩⟩
    refine Tot.bif' (fun c => ?_) fun c => ?_
    ·have hs := (h4 _).1 (memS_iff.1 c)
     have hsame : ∀ k,(∃ e ∈ l.take (nx i).toNat,memK k e = true) ↔ (∃ e ∈ l.take i.toNat,memK k e = true) := fun k => (ex k).trans ⟨fun q => q.elim id fun q => by rw [(hyk k).1 q]; exact hs,.inl⟩
     exact ih _ _ _ (by rw [nx_eq] <;> omega) (by rw [nx_eq] <;> omega) (by rw [nx_eq] <;> omega) (by rw [nx_eq] <;> omega) (fun k => (h4 k).trans (hsame k).symm) h5 fun k => (h6 k).trans (and_congr_left fun _ => (hsame k).symm)
    ·have hns : y.f5 ∉ s := fun q => by have := memS_iff.2 q; rw [c] at this; cases this
     have hnt : ∀ x ∈ l.take i.toNat,memK y.f5 x = false := fun x hx => by
      cases q : memK y.f5 x with
      | false => rfl
      | true => exact absurd ((h4 _).2 ⟨x,hx,q⟩) hns
     have hof := ofS_first hg ((hyk _).2 rfl) hnt
     have hno : y.f5 ∉ o := fun q => hns ((h4 _).2 ((h6 _).1 q).1)
     have hi4 : ∀ k,k ∈ insS s y.f5 ↔ ∃ e ∈ l.take (nx i).toNat,memK k e = true := fun k => by rw [insS_iff,h4,ex,hyk]
     refine Tot.eqI (fun d => ?_) fun d => ?_
     ·rw [rm_eq (by omega) (by rw [List.length_singleton]; omega)]
      refine ih _ _ _ (by rw [nx_eq] <;> omega) (by rw [nx_eq] <;> omega) (by rw [nx_eq] <;> omega) (by rw [nx_eq (by omega) (by omega),List.length_append,List.length_singleton]; omega) hi4 (snoc_nodup h5 hno) fun k => ?_
      rw [List.mem_append,List.mem_singleton,h6,ex,hyk,or_and_right]
      exact or_congr_right ⟨fun q => ⟨q,by rw [q,hof]; exact d⟩,fun q => q.1⟩
     ·refine ih _ _ _ (by rw [nx_eq] <;> omega) (by rw [nx_eq] <;> omega) (by rw [nx_eq] <;> omega) (by rw [nx_eq] <;> omega) hi4 h5 fun k => ?_
      rw [h6,ex,hyk,or_and_right]
      exact ⟨.inl,fun q => q.elim id fun q => absurd (by rw [← hof,← q.1]; exact q.2) d⟩
  ·rw [List.take_of_length_le (by omega)] at h6
   refine Tot.bind (t137 fuel hfu o (by omega)) fun r hr => Tot.ret ?_
   obtain ⟨o',a,b,c,rfl⟩ := hr
   exact ⟨o',a,fun x => (b x).trans (h6 x),by omega,rfl⟩
include hfu in
theorem t72 (l : List S65) (m : Int) (hl : l.length ≤ 1000000) : Tot (d72 fuel l m) (SetP (WithS l m) l.length) := by
 unfold d72
 exact t72_0 fuel hfu l m hl fuel [] [] 0 (by omega) (by omega) (by omega) (by simp) (fun k => by simp) List.nodup_nil (fun k => by simp)
include hfu in
theorem t127_0 (l : List S103) (u : List ByteArray) (hl : PolB l) (hu : u.length ≤ 1000000) (hb : ∀ x ∈ u,x.size ≤ 1000000) : ∀ (n : Nat) (o : List ByteArray) (i : Int),0 ≤ i → i ≤ u.length → (u.length : Int) < n + i → (o.length : Int) ≤ i → o = (u.take i.toNat).filter (metS l) → Tot (d127_0 fuel l u n o i) (SetP (fun x => x ∈ u ∧ metS l x = true) u.length) := by
 intro n
 induction n with
 | zero => intro o i h0 h1 h2; omega
 | succ n ih =>
  intro o i h0 h1 h2 h3 h4
  rw [d127_0]
  refine Tot.dec (fun h => ?_) fun h => ?_
  ·obtain ⟨y,hy,hg,hm,hk⟩ := at1_cons h0 h (by omega)
   have htk := take_nx h0 (by omega) hg
   have := hb y hm
   rw [hk,e189 fuel hfu l y hl (by omega),Option.bind_some]
   refine Tot.bif' (fun e => ?_) fun e => ?_
   ·rw [rm_eq (by omega) (by rw [List.length_singleton]; omega)]
    refine ih _ _ (by rw [nx_eq] <;> omega) (by rw [nx_eq] <;> omega) (by rw [nx_eq] <;> omega) (by rw [nx_eq (by omega) (by omega),List.length_append,List.length_singleton]; omega) ?_
    rw [htk,List.filter_append,← h4,List.filter_cons,e]; rfl
   ·refine ih _ _ (by rw [nx_eq] <;> omega) (by rw [nx_eq] <;> omega) (by rw [nx_eq] <;> omega) (by rw [nx_eq] <;> omega) ?_
    rw [htk,List.filter_append,← h4,List.filter_cons,e]; simp
  ·rw [List.take_of_length_le (by omega)] at h4
   refine Tot.bind (t190 fuel hfu o (by omega)) fun r hr => ?_
   have h5 := hr.2.2
   rw [e191 _ _ (by omega),Option.bind_some]
   refine Tot.ret (SetP.of hr (fun x => ?_) (by omega))
   rw [h4,List.mem_filter]
include hfu in
theorem t127 (l : List S103) (u : List ByteArray) (hl : PolB l) (hu : u.length ≤ 1000000) (hb : ∀ x ∈ u,x.size ≤ 1000000) : Tot (d127 fuel l u) (SetP (fun x => x ∈ u ∧ metS l x = true) u.length) := by
 unfold d127
 exact t127_0 fuel hfu l u hl hu hb fuel [] 0 (by omega) (by omega) (by omega) (by simp) (by simp)
def denyL (l : List S103) : List ByteArray := (l.filter fun p => p.f0 == 6).map (·.f1)
include hfu in
theorem t131_0 (l : List S103) (hl : PolB l) : ∀ (n : Nat) (o : List ByteArray) (i : Int),0 ≤ i → i ≤ l.length → (l.length : Int) < n + i → (o.length : Int) ≤ i → o = denyL (l.take i.toNat) → Tot (d131_0 fuel l n o i) (SetP (· ∈ denyL l) 12) := by
 intro n
 induction n with
 | zero => intro o i h0 h1 h2; omega
 | succ n ih =>
  intro o i h0 h1 h2 h3 h4
  have h12 := hl.1
  rw [d131_0]
  refine Tot.dec (fun h => ?_) fun h => ?_
  ·obtain ⟨y,hy,hg,hm,hk⟩ := at1_cons h0 h (by omega)
   have htk := take_nx h0 (by omega) hg
   rw [hk]
   refine Tot.bif' (fun e => ?_) fun e => ?_
   ·rw [rm_eq (by omega) (by rw [List.length_singleton]; omega)]
    refine ih _ _ (by rw [nx_eq] <;> omega) (by rw [nx_eq] <;> omega) (by rw [nx_eq] <;> omega) (by rw [nx_eq (by omega) (by omega),List.length_append,List.length_singleton]; omega) ?_
    unfold denyL at h4 ⊢
    rw [htk,List.filter_append,List.map_append,← h4,List.filter_cons,e]; rfl
   ·refine ih _ _ (by rw [nx_eq] <;> omega) (by rw [nx_eq] <;> omega) (by rw [nx_eq] <;> omega) (by rw [nx_eq] <;> omega) ?_
    unfold denyL at h4 ⊢
    rw [htk,List.filter_append,List.map_append,← h4,List.filter_cons,e]; simp
  ·rw [List.take_of_length_le (by omega)] at h4
   refine Tot.bind (t190 fuel hfu o (by omega)) fun r hr => ?_
   have h5 := hr.2.2
   rw [e191 _ _ (by omega),Option.bind_some]
   exact Tot.ret (SetP.of hr (fun x => by rw [h4]) (by omega))
include hfu in
theorem t131 (l : List S103) (hl : PolB l) : Tot (d131 fuel l) (SetP (· ∈ denyL l) 12) := by
 unfold d131
 have h12 := hl.1
 exact t131_0 fuel hfu l hl fuel [] 0 (by omega) (by omega) (by omega) (by simp) (by simp [denyL])
end Go.Abs.RM
end
